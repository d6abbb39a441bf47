/- PipeOrder: what comes out, in whatever pieces, is the beginning of what went in; without a cut all comes out at last. No condition. -/
import Derived.Test.YtjbakaplcjkniaaPiC
namespace Go.Proofs.Ytjbakaplcjkniaa.Pi
open Go.RowKit Go.Proofs.YtjbakaplcjkniaaW.PrintWords Go.Proofs.YtjbakaplcjkniaaW.PrintLast Go.Proofs.YtjbakaplcjkniaaW.PrintMore
set_option linter.unusedVariables false
set_option linter.unusedSimpArgs false
attribute [local go_sem] max2_M min2_M max_two min_two
def order.T17 : Bool × List (List Nat × List Nat) := (true, [([], []), ([0], [0]), ([], []), ([2], [2]), ([1, 3], [1, 3]), ([4], [4]), ([5], [5]), ([6, 5], [5, 6]), ([5], [5]), ([5], [5]), ([9, 5], [5, 9]), ([8, 10, 5], [5, 8, 10]), ([11, 5], [5, 11]), ([7, 12, 5], [5, 7, 12]), ([5, 13], [5, 13])])
def order.B17 : List Nat := [0, 1, 0, 4, 15, 31, 63, 127, 63, 63, 575, 1855, 3903, 8191, 16383]
theorem order.tab17 : rtab .any (opsOf Try.f3 17) = order.T17 := by kernel_rfl
theorem order.bits17 : waitsOk order.T17.2 order.B17 = true := by kernel_rfl
/-- The rows of bytes that a law holds beside its pipe. -/
def XO (vi vo : Value) (k : Nat) : Prop := vi.ownBlock = some k ∨ vo.ownBlock = some k
abbrev rowU (w : World) (base : Nat) (v : Value) (B : List Int) : Prop := (Kd.int .u8).R 5 w base (fun _ => True) v B
theorem rowU_other {w w1 : World} {base : Nat} {v : Value} {B : List Int} (h : rowU w base v B) {row : Option Nat} (hg : w.grownBy w1 row) (hne : v.ownBlock = none ∨ v.ownBlock ≠ row) : rowU w1 base v B :=
  Kd.R_of_own (own_other (Kd.own_of_R h) hg hne) (fun _ _ => trivial)
structure OM (w wr : World) (g : Nat) (L : Pcs) (vi : Value) (IN : List Int) (vo : Value) (OUT : List Int) : Prop where
  ps : PS (XO vi vo) w wr g (max 0 100000) L false
  ri : rowU wr w.heap.size vi IN
  ro : rowU wr w.heap.size vo OUT
  ap : ∀ k, vi.ownBlock = some k → vo.ownBlock ≠ some k
structure OE (now : Int) (L : Pcs) (IN OUT : List Int) (i : Nat) : Prop where
  eqn : OUT ++ bytes L = IN
  dues : ∀ x ∈ L, x.2 ≤ now + 99
  clock : 0 ≤ now ∧ now ≤ 99 * i
  len : IN.length ≤ 1000 * i
section
variable {w wr w1 : World} {g : Nat} {L : Pcs} {vi vo : Value} {IN OUT : List Int}
theorem OM.below (h : OM w wr g L vi IN vo OUT) (hb : Below wr.heap.size wr w1) : OM w w1 g L vi IN vo OUT := ⟨h.ps.below hb, Kd.R_below h.ri hb, Kd.R_below h.ro hb, h.ap⟩
theorem OM.only {L1 : Pcs} (h : OM w wr g L vi IN vo OUT) (hp : PS (XO vi vo) w w1 g (max 0 100000) L1 false) (hO : Only (PT wr) wr w1) : OM w w1 g L1 vi IN vo OUT :=
  ⟨hp, R_only h.ri hO (by decide), R_only h.ro hO (by decide), h.ap⟩
theorem OM.hX (h : OM w wr g L vi IN vo OUT) : ∀ k, XO vi vo k → k < wr.heap.size := fun k hk => by
  rcases hk with hk | hk
  · exact Kd.R_lt h.ri k hk
  · exact Kd.R_lt h.ro k hk
theorem OM.put_in {v1 : Value} {B1 : List Int} (h : OM w wr g L vi IN vo OUT) (hr : rowU w1 w.heap.size v1 B1) (hg : wr.grownBy w1 vi.ownBlock) (hat : v1.ownBlock = vi.ownBlock ∨ ∃ b, v1.ownBlock = some b ∧ wr.heap.size ≤ b) : OM w w1 g L v1 B1 vo OUT := by
  refine ⟨h.ps.grown hg (fun k hk => ⟨.inl hk, Kd.R_base h.ri k hk, Kd.R_typed h.ri k hk⟩) (fun k hk => ?_), hr, rowU_other h.ro hg ?_, fun k hk => ?_⟩
  · rcases hk with hk | hk
    · rcases hat with e | ⟨b, e, hb⟩
      · exact .inl (.inl (e ▸ hk))
      · rw [e] at hk; injection hk with hk; exact .inr (by omega)
    · exact .inl (.inr hk)
  · cases e : vo.ownBlock with
    | none => exact .inl rfl
    | some k => exact .inr (fun e2 => h.ap k e2.symm e)
  · rcases hat with e | ⟨b, e, hb⟩
    · exact h.ap k (e ▸ hk)
    · rw [e] at hk
      injection hk with hk
      intro e2
      have := Kd.R_lt h.ro k e2
      omega
theorem OM.put_out {v1 : Value} {B1 : List Int} (h : OM w wr g L vi IN vo OUT) (hr : rowU w1 w.heap.size v1 B1) (hg : wr.grownBy w1 vo.ownBlock) (hat : v1.ownBlock = vo.ownBlock ∨ ∃ b, v1.ownBlock = some b ∧ wr.heap.size ≤ b) : OM w w1 g L vi IN v1 B1 := by
  refine ⟨h.ps.grown hg (fun k hk => ⟨.inr hk, Kd.R_base h.ro k hk, Kd.R_typed h.ro k hk⟩) (fun k hk => ?_), rowU_other h.ri hg ?_, hr, fun k hk => ?_⟩
  · rcases hk with hk | hk
    · exact .inl (.inl hk)
    · rcases hat with e | ⟨b, e, hb⟩
      · exact .inl (.inr (e ▸ hk))
      · rw [e] at hk; injection hk with hk; exact .inr (by omega)
  · cases e : vi.ownBlock with
    | none => exact .inl rfl
    | some k => exact .inr (fun e2 => h.ap k e e2.symm)
  · rcases hat with e | ⟨b, e, hb⟩
    · rw [e]; exact h.ap k hk
    · rw [e]
      intro e2
      injection e2 with e2
      have := Kd.R_lt h.ri k hk
      omega
end
section
variable {now : Int} {L : Pcs} {IN OUT : List Int} {i : Nat}
theorem OE.total_le (h : OE now L IN OUT i) : total L ≤ 1000 * i := by
  have := h.len
  rw [← h.eqn, List.length_append] at this
  unfold total
  omega
theorem OE.clock_on (h : OE now L IN OUT i) (ah : Int) (h0 : 0 ≤ ah) (h1 : ah ≤ 99) : OE (now + ah) L IN OUT (i + 1) :=
  ⟨h.eqn, fun x hx => by have := h.dues x hx; omega, by have := h.clock; omega, by have := h.len; omega⟩
theorem OE.put {B : List Int} {n : Nat} {L2 : Pcs} (h : OE now L IN OUT (i + 1)) (hl : IN.length ≤ 1000 * i) (hb : B.length ≤ 1000) (d : Int) (hd : d ≤ 99) (hn : putN false (max 0 100000) L B.length = n) (hL : putL false (max 0 100000) L B (now + d) = L2) : OE now L2 (IN ++ B.take n) OUT (i + 1) := by
  refine ⟨?_, ?_, h.clock, ?_⟩
  · rw [← hL, putL_bytes, hn, ← List.append_assoc, h.eqn]
  · intro x hx
    rw [← hL] at hx
    unfold putL at hx
    split at hx
    · exact h.dues x hx
    · rcases List.mem_append.1 hx with hx | hx
      · exact h.dues x hx
      · rw [List.mem_singleton] at hx
        subst hx
        show (match L.getLast? with | some x => max (now + d) x.2 | none => now + d) ≤ now + 99
        cases e : L.getLast? with
        | none => dsimp only; omega
        | some y => have := h.dues y (List.mem_of_getLast? e); dsimp only; omega
  · rw [List.length_append, List.length_take]; omega
theorem takeP_dues (m : Int) (b : Int) : ∀ (L : Pcs) (n : Nat), (∀ x ∈ L, x.2 ≤ b) → ∀ x ∈ (takeP m n L).2, x.2 ≤ b
  | [], n, h => h
  | (c, d) :: L, n, h => by
    rw [takeP]
    split
    · exact h
    · split
      · intro x hx
        rcases List.mem_cons.1 hx with rfl | hx
        · exact h (c, d) List.mem_cons_self
        · exact h x (List.mem_cons_of_mem _ hx)
      · exact takeP_dues m b L _ (fun y hy => h y (List.mem_cons_of_mem _ hy))
theorem OE.take (h : OE now L IN OUT i) (hf : Full L) (n : Nat) : OE now (takeP now n L).2 IN (OUT ++ (takeP now n L).1) i := by
  obtain ⟨h1, h2, _⟩ := take_bytes now L n hf
  refine ⟨?_, takeP_dues now _ L n h.dues, h.clock, h.len⟩
  rw [h1, h2, List.append_assoc, List.take_append_drop, h.eqn]
theorem takeWhile_all {α : Type} (p : α → Bool) (l : List α) : (∀ x ∈ l, p x = true) → l.takeWhile p = l := by
  induction l with
  | nil => intro _; rfl
  | cons x l ih =>
    intro h
    rw [List.takeWhile_cons, h x List.mem_cons_self, if_pos rfl, ih (fun y hy => h y (List.mem_cons_of_mem _ hy))]
theorem OE.all (h : OE now L IN OUT i) (hf : Full L) (hi : i ≤ 60) : OUT ++ (takeP (now + 100) (Int.toNat 200000) L).1 = IN ∧ total (takeP (now + 100) (Int.toNat 200000) L).2 = 0 := by
  obtain ⟨h1, h2, _⟩ := take_bytes (now + 100) L (Int.toNat 200000) hf
  have hd : dueN (now + 100) (ats L) = (bytes L).length := by
    rw [← ats_len]
    unfold dueN
    rw [takeWhile_all _ _ ?_]
    intro x hx
    unfold ats at hx
    obtain ⟨y, hy, hx⟩ := List.mem_flatMap.1 hx
    have := List.eq_of_mem_replicate hx
    have := h.dues y hy
    exact decide_eq_true (by omega)
  have ht := h.total_le
  have hm : min (Int.toNat 200000) (dueN (now + 100) (ats L)) = (bytes L).length := by rw [hd]; unfold total at ht; show min 200000 _ = _; omega
  rw [hm, List.take_length] at h1
  rw [hm] at h2
  exact ⟨by rw [h1, h.eqn], by unfold total; rw [h2, List.length_drop]; omega⟩
theorem OE.pre (h : OE now L IN OUT i) : OUT.length ≤ IN.length ∧ IN.take OUT.length = OUT := by
  rw [← h.eqn]
  exact ⟨by rw [List.length_append]; omega, List.take_left' rfl⟩
end
set_option maxHeartbeats 8000000 in
set_option maxRecDepth 100000 in
theorem pipeOrder_walk (A : Option Addr) (c : Nat) (l : List OpT) (w : World) (hc : l.length ≤ c) (hC : Kd.C kop w A l.length l) (hok : okOps l) :
    Calls Try.prog 3 #[.slice A l.length c] w fun e w' => e = .returned (.bool true) ∧ Below w.heap.size w w' := by
  have hu := Try.underlying29
  have HC := Aside0.mk hC
  have HOK := Aside0.mk hok
  clear hC hok
  go_enter Try.func3, Try.ntmps3
  go_wp2_with (first | (go_at_call 13; (with_reducible refine (alive_calls _).mono ?_); rintro e w1 ⟨rfl, hb⟩; have HB1 := Aside0.mk hb; clear hb) | (go_at_call 14; (with_reducible refine (PS.new (X := XO (.slice none 0 0) (.slice none 0 0)) HB1.out 100000 (by decide)).mono ?_); rintro e w2 ⟨g, rfl, hP⟩; have HP0 := Aside0.mk hP; clear hP))
  have M0 := Aside0.mk (show OM w w2 g [] (.slice none 0 0) [] (.slice none 0 0) [] from ⟨HP0.out, Kd.R_nil _ _ _ _ _, Kd.R_nil _ _ _ _ _, fun k hk => by simp [Value.ownBlock] at hk⟩)
  have E0 := Aside0.mk (show OE 0 [] [] [] 0 from ⟨rfl, fun x hx => by simp at hx, by decide, by simp⟩)
  clear HP0
  go_loopg [4, 5, 6, 7, 8, 9] 60 (fun gk v4 v5 v6 v7 v8 v9 wr => ∃ (i : Nat) (L : Pcs) (now : Int) (IN OUT : List Int), v7 = .int .i64 i ∧ v6 = .int .u32 now ∧ Aside0 (i ≤ l.length ∧ i ≤ 60 ∧ 60 - i ≤ gk) ∧ Aside0 (OM w wr g L v4 IN v5 OUT) ∧ Aside0 (OE now L IN OUT i))
  case atStart => exact ⟨0, [], 0, [], [], rfl, rfl, ⟨by omega, by omega, by omega⟩, M0, E0⟩
  case round =>
    obtain ⟨i, L, now, IN, OUT, rfl, rfl, HI, HM, HE⟩ := hrel
    have HB := Aside0.mk HM.out.ps.at0
    by_cases hi : i < l.length
    · have q1 : decide ((i : Int) < (l.length : Int)) = true := decide_eq_true (by omega)
      have q1' : (i : Int) < (l.length : Int) := by omega
      by_cases h60 : i < 60
      · have q2 : decide ((i : Int) < 60) = true := decide_eq_true (by omega)
        have q2' : decide (i < 60) = true := decide_eq_true h60
        obtain ⟨ad, X, cx, x, rfl, hx, hO⟩ := op_at HC.out hi
        have HXO := Aside0.mk (HOK.out.2 x (List.mem_of_getElem? hx))
        have HX := Aside0.mk hO
        have y0 := (hO.below HB.out).y0
        have y1 := (hO.below HB.out).y1
        have y2 := (hO.below HB.out).y2
        have y3 := (hO.below HB.out).y3
        have y4 := (hO.below HB.out).y4
        have HI60 := Aside0.mk h60
        have HIL := Aside0.mk hi
        have hin : wrap64 ((i : Int) + 1) = ((i + 1 : Nat) : Int) := by unfold wrap64; omega
        clear hx hO hi h60
        by_cases hb : x.2.1.length ≤ 1000
        · have q4 : decide ((1000 : Int) < (x.2.1.length : Int)) = false := decide_eq_false (by omega)
          have q4' : decide (1000 < x.2.1.length) = false := decide_eq_false (by omega)
          have hwa := wf_u32 HXO.out.2.2.2.2
          have hwd := wf_u32 HXO.out.2.2.2.1
          obtain ⟨ah, hah⟩ : ∃ z, x.2.2.2.2.tmod 100 = z := ⟨_, rfl⟩
          obtain ⟨dl, hdl⟩ : ∃ z, x.2.2.2.1.tmod 100 = z := ⟨_, rfl⟩
          have ha2 : 0 ≤ ah ∧ ah ≤ 99 := by rw [Int.tmod_eq_emod_of_nonneg hwa.1] at hah; omega
          have hd2 : 0 ≤ dl ∧ dl ≤ 99 := by rw [Int.tmod_eq_emod_of_nonneg hwd.1] at hdl; omega
          obtain ⟨now2, hn2⟩ : ∃ z, now + ah = z := ⟨_, rfl⟩
          have HE1 := HE.out.clock_on ah ha2.1 ha2.2
          rw [hn2] at HE1
          have hcl : now2 = now2 % 4294967296 := by have h1 := HE1.clock; have h2 := HI60.out; rw [Int.emod_eq_of_lt h1.1 (by omega)]
          have hmod : (now + ah) % 4294967296 = now2 := by rw [hn2]; exact hcl.symm
          have HEN := Aside0.mk HE1
          have HD2 := Aside0.mk (show 0 ≤ dl ∧ dl ≤ 4294967295 ∧ dl ≤ 99 by omega)
          have HN2 := Aside0.mk (show 0 ≤ now2 ∧ now2 ≤ 4294967295 by have h1 := HE1.clock; have h2 := HI60.out; omega)
          have HBL := Aside0.mk hb
          have HTL := Aside0.mk (show total L ≤ 60000 by have h1 := HE1.total_le; have h2 := HI60.out; omega)
          have HIN := Aside0.mk HE.out.len
          have HFL := Aside0.mk HM.out.ps.full
          have HM1 := Aside0.mk (HM.out.below (below_alloc (Below.refl _ _) (.cells #[.int .u8 x.1, .slice X x.2.1.length cx, .int .i64 x.2.2.1, .int .u32 x.2.2.2.1, .int .u32 x.2.2.2.2] 29)))
          have HBX := Aside0.mk (heap_alloc_new wr (.cells #[.int .u8 x.1, .slice X x.2.1.length cx, .int .i64 x.2.2.1, .int .u32 x.2.2.2.1, .int .u32 x.2.2.2.2] 29))
          obtain ⟨ai0, ci0, rfl⟩ := Kd.R_slice HM.out.ri
          obtain ⟨ao0, co0, rfl⟩ := Kd.R_slice HM.out.ro
          clear hwa hwd ha2 hd2 HE1 hcl hb hn2
          cases hk : (x.1.tmod 2 == 0) with
          | true =>
            obtain ⟨n, hn⟩ : ∃ n, putN false (max 0 100000) L x.2.1.length = n := ⟨_, rfl⟩
            obtain ⟨L2, hL2⟩ : ∃ L2, putL false (max 0 100000) L x.2.1 (now2 + dl) = L2 := ⟨_, rfl⟩
            have HEZ0 := Aside0.mk (HEN.out.put HIN.out HBL.out dl HD2.out.2.2 hn hL2)
            have hnle : n ≤ x.2.1.length := by rw [← hn]; exact putN_le _ _ _ _
            have HBT := Aside0.mk (show (x.2.1.take n).length = n by rw [List.length_take]; omega)
            have HCT := Aside0.mk (fun w' (hb : Below w.heap.size w w') => Kd.C_take (Kd.C_below HX.out.reads hb) hnle)
            have s1 : (n : Int) ≤ (cx : Int) := by have := HX.out.fit; omega
            have s2 : n ≤ cx := by omega
            have HNL := Aside0.mk hnle
            have HN := Aside0.mk hn
            have HL2 := Aside0.mk hL2
            obtain ⟨BT, hBT⟩ : ∃ x', x.2.1.take n = x' := ⟨_, rfl⟩
            rw [hBT] at HEZ0 HBT HCT
            rw [HBT.out] at HCT
            have HBTN := Aside0.mk (show n ≤ 1000 by have := HBL.out; omega)
            clear hn hL2 hnle hBT
            go_wp2_with (first | (go_at_call 15; (with_reducible refine (PS.put HM1.out.ps X cx x.2.1 now2 dl (by have := HTL.out; omega) (by have := HBL.out; omega) (Kd.C_below HX.out.reads HM1.out.ps.at0) HX.out.fit HN2.out ⟨HD2.out.1, HD2.out.2.1⟩ HM1.out.hX).mono ?_); rintro e w4 ⟨rfl, hP, hO⟩; rw [HN.out]; rw [HL2.out] at hP; have HM2 := Aside0.mk (HM1.out.only hP hO); have hbx := blk_only HBX.out hO (by decide); have b1 : w4.cell? ⟨wr.heap.size, 1, none⟩ = some (.slice X x.2.1.length cx) := (blk_cell hbx 1).trans rfl; have HCW := Aside0.mk (HCT.out w4 hP.at0); clear hP hO hbx y0 y1 y2 y3 y4) | (at_builtin; go_must (refine Kd.R_append_rows (Kd.int .u8) (w0 := w4) w.heap.size rfl (.tmp 48) (.tmp 52) 26 5 (.int .u8 0) 1 rfl Try.underlying26 (by kernel_rfl) (by rfl) (by decide) (by decide) _ IN BT X n cx (fun _ => True) (fun _ => False) rfl rfl HM2.out.ri HCW.out (fun _ _ h => h) (fun k hk => hk.elim) (fun _ _ => trivial) (Below.refl _ _) HM2.out.ps.at0.size (by have := HIN.out; have := HI60.out; have := HBTN.out; omega) ?_); intro v1 w5 h1 hb hg hat; obtain ⟨INZ, hz⟩ : ∃ z, IN ++ BT = z := ⟨_, rfl⟩; rw [hz] at h1; have HZQ := Aside0.mk hz; clear hz; have HMZ := Aside0.mk (HM2.out.put_in h1 hg hat); have HEZ := HEZ0; obtain ⟨ai, ci, rfl⟩ := Kd.R_slice h1; clear h1 hb hg hat))
            have hez := HEZ.out
            have hmz := HMZ.out
            rw [HZQ.out] at hez
            have hpre := hez.pre
            obtain ⟨-, hci, hCI⟩ := Kd.R_reads' hmz.ri
            obtain ⟨-, hco, hCO⟩ := Kd.R_reads' hmz.ro
            have hCI2 := Kd.C_take hCI hpre.1
            rw [hpre.2] at hCI2
            have HCI := Aside0.mk (Kd.C_drew hCI2)
            have HCO := Aside0.mk (Kd.C_drew hCO)
            have HMY := Aside0.mk (hmz.below (below_drew (Below.refl _ _)))
            have HEY := Aside0.mk hez
            have t1 : decide ((INZ.length : Int) < (OUT.length : Int)) = false := decide_eq_false (by have := hpre.1; omega)
            have t1' : decide (INZ.length < OUT.length) = false := decide_eq_false (by have := hpre.1; omega)
            have t2 : (OUT.length : Int) ≤ (ci : Int) := by have := hpre.1; omega
            have t2' : OUT.length ≤ ci := by have := hpre.1; omega
            clear hez hmz HEZ HMZ hpre hci hCI hco hCO hCI2
            refine start_ (n := 15) (S := fun w' => (convert 26 9 (.slice ao0 OUT.length co0)).run Try.prog w' = .ok (.string (strOfNums OUT)) w' ∧ (convert 26 9 (.slice ai OUT.length ci)).run Try.prog w' = .ok (.string (strOfNums OUT)) w') (ds := []) #[false, false, false, false, false, false, false, false, false, false, false, false, false, false, false] (by kernel_rfl) rfl rfl ⟨(Kd.C_string Try.underlying26 Try.underlying5 Try.underlying9 HCO.out), (Kd.C_string Try.underlying26 Try.underlying5 Try.underlying9 HCI.out)⟩ (fun hHeld => ?_)
            refine with_tabW order.tab17 order.bits17 (fun HT_ HW_ => ?_)
            generalize w5.drew = wd at HCI HCO HMY hHeld ⊢
            refine pure_ (i := 0) (N := some 61) (v := ?_) (a' := ?_) #[true, false, false, false, false, false, false, false, false, false, false, false, false, false, false] rfl rfl (any_of HT_.out (by kernel_rfl)) (fun _ _ _ h => h) (Or.inl ⟨by rfl, ?_⟩) ?_ ?_
            rotate_left
            · intro w'
              go_simp
              with_reducible rfl
            rotate_left
            · simp only [Act.put, List.setIfInBounds_toArray, List.set_cons_zero, List.set_cons_succ, i64_w, i32_w]
              rfl
            refine pure_ (i := 1) (N := some 62) (v := ?_) (a' := ?_) #[true, true, false, false, false, false, false, false, false, false, false, false, false, false, false] rfl rfl (any_of HT_.out (by kernel_rfl)) (fun _ _ _ h => h) (Or.inl ⟨by rfl, ?_⟩) ?_ ?_
            rotate_left
            · intro w'
              go_simp
              with_reducible rfl
            rotate_left
            · simp only [Act.put, List.setIfInBounds_toArray, List.set_cons_zero, List.set_cons_succ, i64_w, i32_w]
              rfl
            refine pure_ (i := 2) (N := some 63) (v := ?_) (a' := ?_) #[true, true, true, false, false, false, false, false, false, false, false, false, false, false, false] rfl rfl (any_of HT_.out (by kernel_rfl)) (fun _ _ _ h => h) (Or.inl ⟨by rfl, ?_⟩) ?_ ?_
            rotate_left
            · intro w'
              go_simp
              with_reducible rfl
            rotate_left
            · simp only [Act.put, List.setIfInBounds_toArray, List.set_cons_zero, List.set_cons_succ, i64_w, i32_w]
              rfl
            refine pure_ (i := 3) (N := some 64) (v := ?_) (a' := ?_) #[true, true, true, true, false, false, false, false, false, false, false, false, false, false, false] rfl rfl (any_of HT_.out (by kernel_rfl)) (fun _ _ _ h => h) (Or.inl ⟨by rfl, ?_⟩) ?_ ?_
            rotate_left
            · intro w'
              go_simp
              with_reducible rfl
            rotate_left
            · simp only [Act.put, List.setIfInBounds_toArray, List.set_cons_zero, List.set_cons_succ, i64_w, i32_w]
              rfl
            refine pure_ (i := 4) (N := some 65) (v := ?_) (a' := ?_) #[true, true, true, true, true, false, false, false, false, false, false, false, false, false, false] rfl rfl (any_of HT_.out (by kernel_rfl)) (fun _ _ _ h => h) (Or.inl ⟨by rfl, ?_⟩) ?_ ?_
            rotate_left
            · intro w'
              go_simp
              with_reducible rfl
            rotate_left
            · simp only [Act.put, List.setIfInBounds_toArray, List.set_cons_zero, List.set_cons_succ, i64_w, i32_w]
              rfl
            refine pure_ (i := 5) (N := some 66) (v := ?_) (a' := ?_) #[true, true, true, true, true, true, false, false, false, false, false, false, false, false, false] rfl rfl (any_of HT_.out (by kernel_rfl)) (fun _ _ _ h => h) (Or.inl ⟨by rfl, ?_⟩) ?_ ?_
            rotate_left
            · intro w'
              go_simp
              with_reducible rfl
            rotate_left
            · simp only [Act.put, List.setIfInBounds_toArray, List.set_cons_zero, List.set_cons_succ, i64_w, i32_w]
              rfl
            refine pure_ (i := 6) (N := some 67) (v := ?_) (a' := ?_) #[true, true, true, true, true, true, true, false, false, false, false, false, false, false, false] rfl rfl (any_of HT_.out (by kernel_rfl)) (fun _ _ _ h => h) (Or.inl ⟨by rfl, ?_⟩) ?_ ?_
            rotate_left
            · intro w'
              go_simp
              with_reducible rfl
            rotate_left
            · simp only [Act.put, List.setIfInBounds_toArray, List.set_cons_zero, List.set_cons_succ, i64_w, i32_w]
              rfl
            refine pure_ (i := 8) (N := some 69) (v := ?_) (a' := ?_) #[true, true, true, true, true, true, true, false, true, false, false, false, false, false, false] rfl rfl (any_of HT_.out (by kernel_rfl)) (fun _ _ _ h => h) (Or.inl ⟨by rfl, ?_⟩) ?_ ?_
            rotate_left
            · intro w'
              go_simp
              with_reducible rfl
            rotate_left
            · simp only [Act.put, List.setIfInBounds_toArray, List.set_cons_zero, List.set_cons_succ, i64_w, i32_w]
              rfl
            refine pure_ (i := 9) (N := some 70) (v := ?_) (a' := ?_) #[true, true, true, true, true, true, true, false, true, true, false, false, false, false, false] rfl rfl (any_of HT_.out (by kernel_rfl)) (fun _ _ _ h => h) (Or.inl ⟨by rfl, ?_⟩) ?_ ?_
            rotate_left
            · intro w'
              go_simp
              with_reducible rfl
            rotate_left
            · simp only [Act.put, List.setIfInBounds_toArray, List.set_cons_zero, List.set_cons_succ, i64_w, i32_w]
              rfl
            refine pure_ (i := 10) (N := some 71) (v := ?_) (a' := ?_) #[true, true, true, true, true, true, true, false, true, true, true, false, false, false, false] rfl rfl (any_of HT_.out (by kernel_rfl)) (fun _ _ _ h => h) (Or.inl ⟨by rfl, ?_⟩) ?_ ?_
            rotate_left
            · intro w'
              go_simp
              with_reducible rfl
            rotate_left
            · simp only [Act.put, List.setIfInBounds_toArray, List.set_cons_zero, List.set_cons_succ, i64_w, i32_w]
              rfl
            refine pure_ (i := 11) (N := some 72) (v := ?_) (a' := ?_) #[true, true, true, true, true, true, true, false, true, true, true, true, false, false, false] rfl rfl (any_of HT_.out (by kernel_rfl)) (fun _ _ _ h => h) (Or.inl ⟨by rfl, ?_⟩) ?_ ?_
            rotate_left
            · intro w'
              go_simp
              with_reducible rfl
            rotate_left
            · simp only [Act.put, List.setIfInBounds_toArray, List.set_cons_zero, List.set_cons_succ, i64_w, i32_w]
              rfl
            refine take_ (i := 7) (N := some 68) (v := ?_) (a' := ?_) #[true, true, true, true, true, true, true, true, true, true, true, true, false, false, false] rfl rfl (take_ofW HT_.out HW_.out (by kernel_rfl)) (fun _ _ _ h => h) (Or.inl ⟨by rfl, ?_⟩) hHeld ?_ ?_
            rotate_left
            · rintro w' ⟨s0, s1⟩
              go_simp
              with_reducible rfl
            rotate_left
            · simp only [Act.put, List.setIfInBounds_toArray, List.set_cons_zero, List.set_cons_succ, i64_w, i32_w]
              rfl
            refine take_ (i := 12) (N := some 73) (v := ?_) (a' := ?_) #[true, true, true, true, true, true, true, true, true, true, true, true, true, false, false] rfl rfl (take_ofW HT_.out HW_.out (by kernel_rfl)) (fun _ _ _ h => h) (Or.inl ⟨by rfl, ?_⟩) hHeld ?_ ?_
            rotate_left
            · rintro w' ⟨s0, s1⟩
              go_simp
              with_reducible rfl
            rotate_left
            · simp only [Act.put, List.setIfInBounds_toArray, List.set_cons_zero, List.set_cons_succ, i64_w, i32_w]
              rfl
            refine pure_ (i := 13) (N := some 74) (v := ?_) (a' := ?_) #[true, true, true, true, true, true, true, true, true, true, true, true, true, true, false] rfl rfl (any_of HT_.out (by kernel_rfl)) (fun _ _ _ h => h) (Or.inl ⟨by rfl, ?_⟩) ?_ ?_
            rotate_left
            · intro w'
              go_simp
              with_reducible rfl
            rotate_left
            · simp only [Act.put, List.setIfInBounds_toArray, List.set_cons_zero, List.set_cons_succ, i64_w, i32_w]
              rfl
            refine pure_ (i := 14) (N := some 75) (v := ?_) (a' := ?_) #[true, true, true, true, true, true, true, true, true, true, true, true, true, true, true] rfl rfl (any_of HT_.out (by kernel_rfl)) (fun _ _ _ h => h) (Or.inl ⟨by rfl, ?_⟩) ?_ ?_
            rotate_left
            · intro w'
              go_simp
              with_reducible rfl
            rotate_left
            · simp only [Act.put, List.setIfInBounds_toArray, List.set_cons_zero, List.set_cons_succ, i64_w, i32_w]
              rfl
            refine done_ (done_of HT_.out (by kernel_rfl)) ?_
            go_wp2
            obtain ⟨gk, rfl⟩ : ∃ m, gk = m + 1 := ⟨gk - 1, by have := HI.out; have := HI60.out; omega⟩
            go_roundg gk
            case measure => omega
            case rel => exact ⟨i + 1, L2, now2, INZ, OUT, congrArg (Value.int .i64) hin, rfl, ⟨by have := HI.out; have := HI60.out; have := HIL.out; omega⟩, HMY, HEY⟩
          | false =>
            obtain ⟨TT, hTT⟩ : ∃ z, (takeP now2 x.2.2.1.toNat L).1 = z := ⟨_, rfl⟩
            obtain ⟨L2, hL2⟩ : ∃ z, (takeP now2 x.2.2.1.toNat L).2 = z := ⟨_, rfl⟩
            have HEZ0 := HEN.out.take HFL.out x.2.2.1.toNat
            rw [hTT, hL2] at HEZ0
            have HNI := Aside0.mk (wf_i64 HXO.out.2.2.1)
            have HTT := Aside0.mk hTT
            have HL2 := Aside0.mk hL2
            have HOL := Aside0.mk (show OUT.length + TT.length ≤ 60000 by have h1 := HEZ0.len; rw [← HEZ0.eqn, List.length_append, List.length_append] at h1; have := HI60.out; omega)
            replace HEZ0 := Aside0.mk HEZ0
            clear hTT hL2
            go_wp2_with (first | (go_at_call 16; (with_reducible refine (PS.take HM1.out.ps x.2.2.1 now2 (by have := HTL.out; omega) HN2.out HNI.out).mono ?_); rintro e w4 ⟨⟨o4, rfl, hr⟩, hP, hO⟩; rw [HL2.out] at hP; rw [HTT.out] at hr; have HM2 := Aside0.mk (HM1.out.only hP hO); obtain ⟨a4, c4, rfl, _, hr⟩ := Kd.R_reads hr; have HCW := Aside0.mk hr; clear hP hO hr y0 y1 y2 y3 y4) | (at_builtin; go_must (refine Kd.R_append_rows (Kd.int .u8) (w0 := w4) w.heap.size rfl (.tmp 54) (.tmp 59) 26 5 (.int .u8 0) 1 rfl Try.underlying26 (by kernel_rfl) (by rfl) (by decide) (by decide) _ OUT TT a4 TT.length c4 (fun _ => True) (fun _ => False) rfl rfl HM2.out.ro HCW.out (fun _ _ h => h) (fun k hk => hk.elim) (fun _ _ => trivial) (Below.refl _ _) HM2.out.ps.at0.size (by have := HOL.out; omega) ?_); intro v1 w5 h1 hb hg hat; obtain ⟨OUZ, hz⟩ : ∃ z, OUT ++ TT = z := ⟨_, rfl⟩; rw [hz] at h1; have HZQ := Aside0.mk hz; clear hz; have HMZ := Aside0.mk (HM2.out.put_out h1 hg hat); have HEZ := HEZ0; obtain ⟨ao, co, rfl⟩ := Kd.R_slice h1; clear h1 hb hg hat))
            have hez := HEZ.out
            have hmz := HMZ.out
            rw [HZQ.out] at hez
            have hpre := hez.pre
            obtain ⟨-, hci, hCI⟩ := Kd.R_reads' hmz.ri
            obtain ⟨-, hco, hCO⟩ := Kd.R_reads' hmz.ro
            have hCI2 := Kd.C_take hCI hpre.1
            rw [hpre.2] at hCI2
            have HCI := Aside0.mk (Kd.C_drew hCI2)
            have HCO := Aside0.mk (Kd.C_drew hCO)
            have HMY := Aside0.mk (hmz.below (below_drew (Below.refl _ _)))
            have HEY := Aside0.mk hez
            have t1 : decide ((IN.length : Int) < (OUZ.length : Int)) = false := decide_eq_false (by have := hpre.1; omega)
            have t1' : decide (IN.length < OUZ.length) = false := decide_eq_false (by have := hpre.1; omega)
            have t2 : (OUZ.length : Int) ≤ (ci0 : Int) := by have := hpre.1; omega
            have t2' : OUZ.length ≤ ci0 := by have := hpre.1; omega
            clear hez hmz HEZ HMZ hpre hci hCI hco hCO hCI2
            refine start_ (n := 15) (S := fun w' => (convert 26 9 (.slice ao OUZ.length co)).run Try.prog w' = .ok (.string (strOfNums OUZ)) w' ∧ (convert 26 9 (.slice ai0 OUZ.length ci0)).run Try.prog w' = .ok (.string (strOfNums OUZ)) w') (ds := []) #[false, false, false, false, false, false, false, false, false, false, false, false, false, false, false] (by kernel_rfl) rfl rfl ⟨(Kd.C_string Try.underlying26 Try.underlying5 Try.underlying9 HCO.out), (Kd.C_string Try.underlying26 Try.underlying5 Try.underlying9 HCI.out)⟩ (fun hHeld => ?_)
            refine with_tabW order.tab17 order.bits17 (fun HT_ HW_ => ?_)
            generalize w5.drew = wd at HCI HCO HMY hHeld ⊢
            refine pure_ (i := 0) (N := some 61) (v := ?_) (a' := ?_) #[true, false, false, false, false, false, false, false, false, false, false, false, false, false, false] rfl rfl (any_of HT_.out (by kernel_rfl)) (fun _ _ _ h => h) (Or.inl ⟨by rfl, ?_⟩) ?_ ?_
            rotate_left
            · intro w'
              go_simp
              with_reducible rfl
            rotate_left
            · simp only [Act.put, List.setIfInBounds_toArray, List.set_cons_zero, List.set_cons_succ, i64_w, i32_w]
              rfl
            refine pure_ (i := 1) (N := some 62) (v := ?_) (a' := ?_) #[true, true, false, false, false, false, false, false, false, false, false, false, false, false, false] rfl rfl (any_of HT_.out (by kernel_rfl)) (fun _ _ _ h => h) (Or.inl ⟨by rfl, ?_⟩) ?_ ?_
            rotate_left
            · intro w'
              go_simp
              with_reducible rfl
            rotate_left
            · simp only [Act.put, List.setIfInBounds_toArray, List.set_cons_zero, List.set_cons_succ, i64_w, i32_w]
              rfl
            refine pure_ (i := 2) (N := some 63) (v := ?_) (a' := ?_) #[true, true, true, false, false, false, false, false, false, false, false, false, false, false, false] rfl rfl (any_of HT_.out (by kernel_rfl)) (fun _ _ _ h => h) (Or.inl ⟨by rfl, ?_⟩) ?_ ?_
            rotate_left
            · intro w'
              go_simp
              with_reducible rfl
            rotate_left
            · simp only [Act.put, List.setIfInBounds_toArray, List.set_cons_zero, List.set_cons_succ, i64_w, i32_w]
              rfl
            refine pure_ (i := 3) (N := some 64) (v := ?_) (a' := ?_) #[true, true, true, true, false, false, false, false, false, false, false, false, false, false, false] rfl rfl (any_of HT_.out (by kernel_rfl)) (fun _ _ _ h => h) (Or.inl ⟨by rfl, ?_⟩) ?_ ?_
            rotate_left
            · intro w'
              go_simp
              with_reducible rfl
            rotate_left
            · simp only [Act.put, List.setIfInBounds_toArray, List.set_cons_zero, List.set_cons_succ, i64_w, i32_w]
              rfl
            refine pure_ (i := 4) (N := some 65) (v := ?_) (a' := ?_) #[true, true, true, true, true, false, false, false, false, false, false, false, false, false, false] rfl rfl (any_of HT_.out (by kernel_rfl)) (fun _ _ _ h => h) (Or.inl ⟨by rfl, ?_⟩) ?_ ?_
            rotate_left
            · intro w'
              go_simp
              with_reducible rfl
            rotate_left
            · simp only [Act.put, List.setIfInBounds_toArray, List.set_cons_zero, List.set_cons_succ, i64_w, i32_w]
              rfl
            refine pure_ (i := 5) (N := some 66) (v := ?_) (a' := ?_) #[true, true, true, true, true, true, false, false, false, false, false, false, false, false, false] rfl rfl (any_of HT_.out (by kernel_rfl)) (fun _ _ _ h => h) (Or.inl ⟨by rfl, ?_⟩) ?_ ?_
            rotate_left
            · intro w'
              go_simp
              with_reducible rfl
            rotate_left
            · simp only [Act.put, List.setIfInBounds_toArray, List.set_cons_zero, List.set_cons_succ, i64_w, i32_w]
              rfl
            refine pure_ (i := 6) (N := some 67) (v := ?_) (a' := ?_) #[true, true, true, true, true, true, true, false, false, false, false, false, false, false, false] rfl rfl (any_of HT_.out (by kernel_rfl)) (fun _ _ _ h => h) (Or.inl ⟨by rfl, ?_⟩) ?_ ?_
            rotate_left
            · intro w'
              go_simp
              with_reducible rfl
            rotate_left
            · simp only [Act.put, List.setIfInBounds_toArray, List.set_cons_zero, List.set_cons_succ, i64_w, i32_w]
              rfl
            refine pure_ (i := 8) (N := some 69) (v := ?_) (a' := ?_) #[true, true, true, true, true, true, true, false, true, false, false, false, false, false, false] rfl rfl (any_of HT_.out (by kernel_rfl)) (fun _ _ _ h => h) (Or.inl ⟨by rfl, ?_⟩) ?_ ?_
            rotate_left
            · intro w'
              go_simp
              with_reducible rfl
            rotate_left
            · simp only [Act.put, List.setIfInBounds_toArray, List.set_cons_zero, List.set_cons_succ, i64_w, i32_w]
              rfl
            refine pure_ (i := 9) (N := some 70) (v := ?_) (a' := ?_) #[true, true, true, true, true, true, true, false, true, true, false, false, false, false, false] rfl rfl (any_of HT_.out (by kernel_rfl)) (fun _ _ _ h => h) (Or.inl ⟨by rfl, ?_⟩) ?_ ?_
            rotate_left
            · intro w'
              go_simp
              with_reducible rfl
            rotate_left
            · simp only [Act.put, List.setIfInBounds_toArray, List.set_cons_zero, List.set_cons_succ, i64_w, i32_w]
              rfl
            refine pure_ (i := 10) (N := some 71) (v := ?_) (a' := ?_) #[true, true, true, true, true, true, true, false, true, true, true, false, false, false, false] rfl rfl (any_of HT_.out (by kernel_rfl)) (fun _ _ _ h => h) (Or.inl ⟨by rfl, ?_⟩) ?_ ?_
            rotate_left
            · intro w'
              go_simp
              with_reducible rfl
            rotate_left
            · simp only [Act.put, List.setIfInBounds_toArray, List.set_cons_zero, List.set_cons_succ, i64_w, i32_w]
              rfl
            refine pure_ (i := 11) (N := some 72) (v := ?_) (a' := ?_) #[true, true, true, true, true, true, true, false, true, true, true, true, false, false, false] rfl rfl (any_of HT_.out (by kernel_rfl)) (fun _ _ _ h => h) (Or.inl ⟨by rfl, ?_⟩) ?_ ?_
            rotate_left
            · intro w'
              go_simp
              with_reducible rfl
            rotate_left
            · simp only [Act.put, List.setIfInBounds_toArray, List.set_cons_zero, List.set_cons_succ, i64_w, i32_w]
              rfl
            refine take_ (i := 7) (N := some 68) (v := ?_) (a' := ?_) #[true, true, true, true, true, true, true, true, true, true, true, true, false, false, false] rfl rfl (take_ofW HT_.out HW_.out (by kernel_rfl)) (fun _ _ _ h => h) (Or.inl ⟨by rfl, ?_⟩) hHeld ?_ ?_
            rotate_left
            · rintro w' ⟨s0, s1⟩
              go_simp
              with_reducible rfl
            rotate_left
            · simp only [Act.put, List.setIfInBounds_toArray, List.set_cons_zero, List.set_cons_succ, i64_w, i32_w]
              rfl
            refine take_ (i := 12) (N := some 73) (v := ?_) (a' := ?_) #[true, true, true, true, true, true, true, true, true, true, true, true, true, false, false] rfl rfl (take_ofW HT_.out HW_.out (by kernel_rfl)) (fun _ _ _ h => h) (Or.inl ⟨by rfl, ?_⟩) hHeld ?_ ?_
            rotate_left
            · rintro w' ⟨s0, s1⟩
              go_simp
              with_reducible rfl
            rotate_left
            · simp only [Act.put, List.setIfInBounds_toArray, List.set_cons_zero, List.set_cons_succ, i64_w, i32_w]
              rfl
            refine pure_ (i := 13) (N := some 74) (v := ?_) (a' := ?_) #[true, true, true, true, true, true, true, true, true, true, true, true, true, true, false] rfl rfl (any_of HT_.out (by kernel_rfl)) (fun _ _ _ h => h) (Or.inl ⟨by rfl, ?_⟩) ?_ ?_
            rotate_left
            · intro w'
              go_simp
              with_reducible rfl
            rotate_left
            · simp only [Act.put, List.setIfInBounds_toArray, List.set_cons_zero, List.set_cons_succ, i64_w, i32_w]
              rfl
            refine pure_ (i := 14) (N := some 75) (v := ?_) (a' := ?_) #[true, true, true, true, true, true, true, true, true, true, true, true, true, true, true] rfl rfl (any_of HT_.out (by kernel_rfl)) (fun _ _ _ h => h) (Or.inl ⟨by rfl, ?_⟩) ?_ ?_
            rotate_left
            · intro w'
              go_simp
              with_reducible rfl
            rotate_left
            · simp only [Act.put, List.setIfInBounds_toArray, List.set_cons_zero, List.set_cons_succ, i64_w, i32_w]
              rfl
            refine done_ (done_of HT_.out (by kernel_rfl)) ?_
            go_wp2
            obtain ⟨gk, rfl⟩ : ∃ m, gk = m + 1 := ⟨gk - 1, by have := HI.out; have := HI60.out; omega⟩
            go_roundg gk
            case measure => omega
            case rel => exact ⟨i + 1, L2, now2, IN, OUZ, congrArg (Value.int .i64) hin, rfl, ⟨by have := HI.out; have := HI60.out; have := HIL.out; omega⟩, HMY, HEY⟩
        · have q4 : decide ((1000 : Int) < (x.2.1.length : Int)) = true := decide_eq_true (by omega)
          have q4' : decide (1000 < x.2.1.length) = true := decide_eq_true (by omega)
          go_wp2
          go_ret
          exact ⟨rfl, bel_alloc HB.out _⟩
      · have q2 : decide ((i : Int) < 60) = false := decide_eq_false (by omega)
        have q2' : decide (i < 60) = false := decide_eq_false h60
        obtain ⟨hall, hzero⟩ := HE.out.all HM.out.ps.full HI.out.2.1
        obtain ⟨nz, hnz⟩ : ∃ z, now + 100 = z := ⟨_, rfl⟩
        rw [hnz] at hall hzero
        obtain ⟨TT, hTT⟩ : ∃ z, (takeP nz (Int.toNat 200000) L).1 = z := ⟨_, rfl⟩
        obtain ⟨LZ, hLZ⟩ : ∃ z, (takeP nz (Int.toNat 200000) L).2 = z := ⟨_, rfl⟩
        rw [hTT] at hall
        rw [hLZ] at hzero
        have hck : 0 ≤ nz ∧ nz ≤ 10000 := by have h1 := HE.out.clock; have h2 := HI.out.2.1; omega
        have hmod : (now + 100) % 4294967296 = nz := by rw [hnz]; exact Int.emod_eq_of_lt hck.1 (by omega)
        have HTT := Aside0.mk hTT
        have HLZ := Aside0.mk hLZ
        have HALL := Aside0.mk hall
        have HZERO := Aside0.mk hzero
        have HCK := Aside0.mk (show 0 ≤ nz ∧ nz ≤ 4294967295 by omega)
        have HTL := Aside0.mk (show total L ≤ 60000 by have h1 := HE.out.total_le; have h2 := HI.out.2.1; omega)
        have HIN := Aside0.mk (show IN.length ≤ 60000 by have h1 := HE.out.len; have h2 := HI.out.2.1; omega)
        have HSUM := Aside0.mk (show OUT.length + TT.length ≤ 60000 by have h1 := congrArg List.length hall; rw [List.length_append] at h1; have := HIN.out; omega)
        obtain ⟨ai0, ci0, rfl⟩ := Kd.R_slice HM.out.ri
        obtain ⟨ao0, co0, rfl⟩ := Kd.R_slice HM.out.ro
        clear hall hzero hnz hTT hLZ hck
        go_wp2_with (first | (go_at_call 16; (with_reducible refine (PS.take HM.out.ps 200000 nz (by have := HTL.out; omega) HCK.out (by decide)).mono ?_); rintro e w4 ⟨⟨o4, rfl, hr⟩, hP, hO⟩; rw [HLZ.out] at hP; rw [HTT.out] at hr; have HM2 := Aside0.mk (HM.out.only hP hO); obtain ⟨a4, c4, rfl, _, hr⟩ := Kd.R_reads hr; have HCW := Aside0.mk hr; clear hP hO hr) | (at_builtin; go_must (refine Kd.R_append_rows (Kd.int .u8) (w0 := w4) w.heap.size rfl (.tmp 76) (.tmp 80) 26 5 (.int .u8 0) 1 rfl Try.underlying26 (by kernel_rfl) (by rfl) (by decide) (by decide) _ OUT TT a4 TT.length c4 (fun _ => True) (fun _ => False) rfl rfl HM2.out.ro HCW.out (fun _ _ h => h) (fun k hk => hk.elim) (fun _ _ => trivial) (Below.refl _ _) HM2.out.ps.at0.size (by have := HSUM.out; omega) ?_); intro v1 w5 h1 hb hg hat; rw [HALL.out] at h1; have HMZ := Aside0.mk (HM2.out.put_out h1 hg hat); obtain ⟨ao, co, rfl⟩ := Kd.R_slice h1; have cv1 := Kd.C_string (c := co) Try.underlying26 Try.underlying5 Try.underlying9 (Kd.R_reads' h1).2.2; have cv2 := Kd.C_string (c := ci0) Try.underlying26 Try.underlying5 Try.underlying9 (Kd.R_reads' HMZ.out.ri).2.2; clear h1 hb hg hat) | (go_at_call 17; (with_reducible refine (PS.len HMZ.out.ps (by rw [HZERO.out]; decide)).mono ?_); rintro e w6 ⟨rfl, hP, hb⟩; rw [HZERO.out]; have HFIN := Aside0.mk hP.at0; clear hP hb))
        go_ret
        exact ⟨rfl, HFIN.out⟩
    · have q1 : decide ((i : Int) < (l.length : Int)) = false := decide_eq_false (by omega)
      have q1' : (i < l.length) = False := eq_false hi
      have q1'' : decide (i < l.length) = false := decide_eq_false hi
      clear hi
      obtain ⟨hall, hzero⟩ := HE.out.all HM.out.ps.full HI.out.2.1
      obtain ⟨nz, hnz⟩ : ∃ z, now + 100 = z := ⟨_, rfl⟩
      rw [hnz] at hall hzero
      obtain ⟨TT, hTT⟩ : ∃ z, (takeP nz (Int.toNat 200000) L).1 = z := ⟨_, rfl⟩
      obtain ⟨LZ, hLZ⟩ : ∃ z, (takeP nz (Int.toNat 200000) L).2 = z := ⟨_, rfl⟩
      rw [hTT] at hall
      rw [hLZ] at hzero
      have hck : 0 ≤ nz ∧ nz ≤ 10000 := by have h1 := HE.out.clock; have h2 := HI.out.2.1; omega
      have hmod : (now + 100) % 4294967296 = nz := by rw [hnz]; exact Int.emod_eq_of_lt hck.1 (by omega)
      have HTT := Aside0.mk hTT
      have HLZ := Aside0.mk hLZ
      have HALL := Aside0.mk hall
      have HZERO := Aside0.mk hzero
      have HCK := Aside0.mk (show 0 ≤ nz ∧ nz ≤ 4294967295 by omega)
      have HTL := Aside0.mk (show total L ≤ 60000 by have h1 := HE.out.total_le; have h2 := HI.out.2.1; omega)
      have HIN := Aside0.mk (show IN.length ≤ 60000 by have h1 := HE.out.len; have h2 := HI.out.2.1; omega)
      have HSUM := Aside0.mk (show OUT.length + TT.length ≤ 60000 by have h1 := congrArg List.length hall; rw [List.length_append] at h1; have := HIN.out; omega)
      obtain ⟨ai0, ci0, rfl⟩ := Kd.R_slice HM.out.ri
      obtain ⟨ao0, co0, rfl⟩ := Kd.R_slice HM.out.ro
      clear hall hzero hnz hTT hLZ hck
      go_wp2_with (first | (go_at_call 16; (with_reducible refine (PS.take HM.out.ps 200000 nz (by have := HTL.out; omega) HCK.out (by decide)).mono ?_); rintro e w4 ⟨⟨o4, rfl, hr⟩, hP, hO⟩; rw [HLZ.out] at hP; rw [HTT.out] at hr; have HM2 := Aside0.mk (HM.out.only hP hO); obtain ⟨a4, c4, rfl, _, hr⟩ := Kd.R_reads hr; have HCW := Aside0.mk hr; clear hP hO hr) | (at_builtin; go_must (refine Kd.R_append_rows (Kd.int .u8) (w0 := w4) w.heap.size rfl (.tmp 76) (.tmp 80) 26 5 (.int .u8 0) 1 rfl Try.underlying26 (by kernel_rfl) (by rfl) (by decide) (by decide) _ OUT TT a4 TT.length c4 (fun _ => True) (fun _ => False) rfl rfl HM2.out.ro HCW.out (fun _ _ h => h) (fun k hk => hk.elim) (fun _ _ => trivial) (Below.refl _ _) HM2.out.ps.at0.size (by have := HSUM.out; omega) ?_); intro v1 w5 h1 hb hg hat; rw [HALL.out] at h1; have HMZ := Aside0.mk (HM2.out.put_out h1 hg hat); obtain ⟨ao, co, rfl⟩ := Kd.R_slice h1; have cv1 := Kd.C_string (c := co) Try.underlying26 Try.underlying5 Try.underlying9 (Kd.R_reads' h1).2.2; have cv2 := Kd.C_string (c := ci0) Try.underlying26 Try.underlying5 Try.underlying9 (Kd.R_reads' HMZ.out.ri).2.2; clear h1 hb hg hat) | (go_at_call 17; (with_reducible refine (PS.len HMZ.out.ps (by rw [HZERO.out]; decide)).mono ?_); rintro e w6 ⟨rfl, hP, hb⟩; rw [HZERO.out]; have HFIN := Aside0.mk hP.at0; clear hP hb))
      go_ret
      exact ⟨rfl, HFIN.out⟩
theorem order_row (v : Value) (s : v = .slice none 0 0 ∨ ∃ a n c, v = .slice (some a) n c) (x : List OpT) {W : World} (K : (Kd.slice 29 kop).K W x v.cells.toList) (o : okOps x) (_ : World) :
    Calls Try.prog 3 #[v] W fun e w' => e = .returned (.bool true) ∧ Below W.heap.size W w' := by
  obtain ⟨A, c, rfl, h1, h2⟩ := slice_of s K
  exact pipeOrder_walk A c x W h1 h2 o
end Go.Proofs.Ytjbakaplcjkniaa.Pi
