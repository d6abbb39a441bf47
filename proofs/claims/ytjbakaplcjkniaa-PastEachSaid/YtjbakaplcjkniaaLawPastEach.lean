/- PastEach: all that is there at a version is what is there of each id, by rising ids. No condition. -/
import Derived.Test.YtjbakaplcjkniaaPaG
import Derived.Deep.RegionHeld3
import Derived.Deep.AppendLies
namespace Go.Proofs.Ytjbakaplcjkniaa.Pa
open Go.RowKit Go.Maps Go.Proofs.YtjbakaplcjkniaaW.PrintWords Go.Proofs.YtjbakaplcjkniaaW.PrintLast Go.Proofs.YtjbakaplcjkniaaW.PrintMore Go.Proofs.Ytjbakaplcjkniaa.Pi Go.Proofs.Ytjbakaplcjkniaa.Q
set_option linter.unusedVariables false
set_option linter.unusedSimpArgs false
def each.T11 : Bool × List (List Nat × List Nat) := (true, [([], []), ([0], [0]), ([], []), ([2], [2]), ([1, 3, 1], [1, 3]), ([4, 4, 0, 1, 2, 3, 4], [4])])
def each.B11 : List Nat := [0, 1, 0, 4, 15, 31]
theorem each.tab11 : rtab .any (opsOf Try.f10 11) = each.T11 := by kernel_rfl
theorem each.bits11 : waitsOk each.T11.2 each.B11 = true := by kernel_rfl
theorem OpAt.z3 {w : World} {ad : Addr} {x : OpT} {i : Nat} {A1 : Option Addr} {c1 : Nat} {A2 : Option Addr} {c2 : Nat} {A3 : Option Addr} {c3 : Nat} (h : OpAt w ad x i A1 c1 A2 c2 A3 c3) : w.cell? ⟨(ad.add (i * 6)).block, (ad.add (i * 6)).off + 3, none⟩ = some (.slice A1 x.2.2.1.2.1.length c1) := h.y3
theorem OpAt.z4 {w : World} {ad : Addr} {x : OpT} {i : Nat} {A1 : Option Addr} {c1 : Nat} {A2 : Option Addr} {c2 : Nat} {A3 : Option Addr} {c3 : Nat} (h : OpAt w ad x i A1 c1 A2 c2 A3 c3) : w.cell? ⟨(ad.add (i * 6)).block, (ad.add (i * 6)).off + 4, none⟩ = some (.slice A2 x.2.2.1.2.2.length c2) := h.y4
theorem parts_id {w : World} {ad : Addr} {x : OpT} {i : Nat} {A1 : Option Addr} {c1 : Nat} {A2 : Option Addr} {c2 : Nat} {A3 : Option Addr} {c3 : Nat} {v id : Int} {gn : Bool} (h : OpAt w ad x i A1 c1 A2 c2 A3 c3) (hl : x.2.2.1.2.1.length ≤ 100000 ∧ x.2.2.1.2.2.length ≤ 100000) : Parts w ⟨v, gn, id, x.2.2.1.2.1, x.2.2.1.2.2⟩ A1 c1 A2 c2 := ⟨h.fit1, h.vec, h.fit2, h.tags, hl⟩
theorem set_bel {w W : World} {b : Nat} (h : Below w.heap.size w W) (hb : w.heap.size ≤ b) (j : Nat) (u : Value) : Below w.heap.size w (W.setCell ⟨b, j, none⟩ u) :=
  ((Only.refl (fun i => i = b) W).set ⟨b, j, none⟩ u rfl).below_of h (fun i hi => by omega)
def Low (s : St) : Prop := ∀ x ∈ s.L, 0 ≤ x.id ∧ x.id < 10
theorem Low.lay {s : St} (h : Low s) {r : Row} (hr : 0 ≤ r.id ∧ r.id < 10) : Low (s.lay r).2 := by
  rcases lay_cases s r with e | e <;> rw [e]
  · exact h
  · intro x hx
    rcases List.mem_append.1 hx with hx | hx
    · exact h x hx
    · rw [List.mem_singleton] at hx; subst hx; exact hr
theorem Low.cut {s : St} (h : Low s) {v id : Int} (hr : 0 ≤ id ∧ id < 10) : Low (s.cut v id).2 := by
  rcases cut_cases s v id with e | e <;> rw [e]
  · exact h
  · exact h.lay hr
theorem Low.sweep {s : St} (h : Low s) (keep : List Int) : Low (s.sweep keep).2 := fun x hx => h x (stays_mem hx)
theorem Ok.sweep {s : St} {m : Int} (h : Ok s m) (keep : List Int) : Ok (s.sweep keep).2 m := ⟨St.sweep_small h.small, St.sweep_fit h.fit, h.low, h.high⟩
theorem tmod10 {id : Int} (h : (Lit.int .u32 id).wf = true) : (0 ≤ id.tmod 10 ∧ id.tmod 10 < 10) ∧ (Lit.int .u32 (id.tmod 10)).wf = true := by
  have h0 : 0 ≤ id ∧ id ≤ 4294967295 := by simp [Lit.wf, IntKind.min, IntKind.max, IntKind.bits, IntKind.signed] at h; omega
  have e : id.tmod 10 = id % 10 := Int.tmod_eq_emod_of_nonneg h0.1
  rw [e]
  refine ⟨by omega, ?_⟩
  simp [Lit.wf, IntKind.min, IntKind.max, IntKind.bits, IntKind.signed]
  omega
/-- What is there of each id, one behind the other. -/
def wantR (s : St) (v : Int) (k : Nat) : List Row := (List.range k).filterMap fun (id : Nat) => (s.get id v).2
theorem wantR_succ (s : St) (v : Int) (k : Nat) : wantR s v (k + 1) = wantR s v k ++ (match (s.get k v).2 with | none => [] | some x => [x]) := by
  unfold wantR
  rw [List.range_succ, List.filterMap_append]
  congr 1
  cases e : (s.get (k : Int) v).2 <;> simp [e]
theorem get_some {s : St} {id v : Int} {x : Row} : (s.get id v).2 = some x ↔ s.known v = true ∧ ∃ i, s.L[i]? = some x ∧ atP s.L id v = some i ∧ x.gone = false := by
  unfold St.get
  by_cases hk : s.known v = false
  · rw [if_pos hk, hk]
    simp
  · have hk2 : s.known v = true := by simpa using hk
    rw [if_neg hk, hk2]
    cases e : atP s.L id v with
    | none => simp
    | some i =>
      obtain ⟨y, hy, _⟩ := atP_some e
      dsimp only
      rw [hy]
      dsimp only
      cases hg : y.gone with
      | true =>
        rw [if_pos rfl]
        constructor
        · intro h; cases h
        · rintro ⟨_, j, h1, h2, h3⟩
          injection h2 with h2
          subst h2
          rw [hy] at h1
          cases h1
          rw [hg] at h3
          cases h3
      | false =>
        rw [if_neg (by simp)]
        constructor
        · intro h
          injection h with h
          subst h
          exact ⟨rfl, i, hy, rfl, hg⟩
        · rintro ⟨_, j, h1, h2, h3⟩
          injection h2 with h2
          subst h2
          rw [hy] at h1
          exact h1
theorem wantR_is {s : St} {v : Int} (hk : s.known v = true) (hl : Low s) : AllIs s.L v (wantR s v 10) := by
  have hid : ∀ {id : Int} {x : Row}, (s.get id v).2 = some x → x.id = id := fun {id x} h => by
    obtain ⟨_, i, h1, h2, _⟩ := get_some.1 h
    obtain ⟨y, hy, hi, _⟩ := atP_some h2
    rw [h1] at hy
    cases hy
    exact hi
  refine ⟨?_, fun x => ?_⟩
  · unfold wantR
    rw [List.pairwise_filterMap]
    refine List.pairwise_lt_range.imp (fun {a b} hab x hx y hy => ?_)
    rw [hid hx, hid hy]
    omega
  · unfold wantR
    rw [List.mem_filterMap]
    constructor
    · rintro ⟨id, _, h⟩
      have e := hid h
      obtain ⟨_, i, h1, h2, h3⟩ := get_some.1 h
      exact ⟨i, h1, by rw [e]; exact h2, h3⟩
    · rintro ⟨i, h1, h2, h3⟩
      have h4 := hl x (List.mem_of_getElem? h1)
      refine ⟨x.id.toNat, by rw [List.mem_range]; omega, ?_⟩
      rw [show ((x.id.toNat : Nat) : Int) = x.id by omega]
      exact get_some.2 ⟨hk, i, h1, h2, h3⟩
theorem sub_len : ∀ {l l' : List Int}, l.Nodup → (∀ x ∈ l, x ∈ l') → l.length ≤ l'.length
  | [], l', _, _ => Nat.zero_le _
  | a :: l, l', hn, hs => by
    obtain ⟨h1, h2⟩ := List.nodup_cons.1 hn
    have ha := hs a List.mem_cons_self
    have := sub_len (l := l) (l' := l'.erase a) h2 (fun x hx => (List.mem_erase_of_ne (fun e => h1 (by subst e; exact hx))).2 (hs x (List.mem_cons_of_mem _ hx)))
    rw [List.length_erase_of_mem ha] at this
    have hp := List.length_pos_of_mem ha
    rw [List.length_cons]
    omega
theorem told_rows {s : St} {v : Int} {d : List Elt} (h : AllIs s.L v (d.map Elt.r)) (hs : s.Small) (hl : s.L.length ≤ 1024) : d.length ≤ 100000 ∧ ∀ e ∈ d, e.r.vec.length ≤ 100000 ∧ e.r.tags.length ≤ 100000 := by
  have hsub : ∀ x ∈ d.map Elt.r, x ∈ s.L := fun x hx => by
    obtain ⟨i, h1, _⟩ := (h.mem x).1 hx
    exact List.mem_of_getElem? h1
  have hnd : ((d.map Elt.r).map Row.id).Nodup := by
    rw [List.Nodup, List.pairwise_map]
    exact h.rise.imp (fun {a b} hab => by omega)
  have hle := sub_len (l' := s.L.map Row.id) hnd (fun x hx => by
    obtain ⟨r, hr, rfl⟩ := List.mem_map.1 hx
    exact List.mem_map.2 ⟨r, hsub r hr, rfl⟩)
  rw [List.length_map, List.length_map, List.length_map] at hle
  exact ⟨by omega, fun e he => hs _ (hsub _ (List.mem_map.2 ⟨e, he, rfl⟩))⟩
theorem PX.other {Z : Nat → Prop} {w0 w W : World} {g : Nat} {s : St} (h : PX Z w0 w g s) {S : Nat → Prop} (hO : Only S w W) (hS : ∀ k, S k → (∃ c, w.heap[k]? = some (.cells c 54 (0, 0))) ∧ w0.heap.size ≤ k) : PX Z w0 W g s := by
  obtain ⟨vL, vK, h1, h2, h3, h4, h5⟩ := h
  have hne : ∀ {k t : Nat} {c : Array Value}, w.heap[k]? = some (.cells c t (0, 0)) → t ≠ 54 → ¬ S k := fun {k t c} hk ht hs => by
    obtain ⟨⟨c2, hc2⟩, _⟩ := hS k hs
    exact ht (blk_type hk hc2)
  refine ⟨vL, vK, ⟨(hO.block g h1.lt (hne h1.box (by decide))).trans h1.box, h1.row.move (fun k hk => hO.block k (h1.row.lt k hk) (fun hs => ?_)) ⟨hO.size, fun k hk ht _ => hO.block k hk (fun hs => ?_)⟩, R_other h1.kept hO (fun k hk => (hS k hk).1) (by decide), h1.gb⟩, hO.below_of h2 (fun i hi => (hS i hi).2), h3, h4, h5⟩
  · obtain ⟨c, hc⟩ := h1.row.typed k hk
    exact hne hc (by decide) hs
  · obtain ⟨c, hc⟩ := ht
    rcases hc with hc | hc
    · exact hne hc (by decide) hs
    · exact hne hc (by decide) hs
theorem Told.app {w W : World} {base : Nat} {v : Value} {d : List Elt} (h : Told w base v d) {S : Nat → Prop} (hO : Only S w W) (hS : ∀ k, S k → ∃ c, w.heap[k]? = some (.cells c 54 (0, 0))) (hn : ∀ k, v.ownBlock = some k → ¬ S k) : Told W base v d :=
  ⟨h.1.move (fun k hk => hO.block k (h.1.lt k hk) (hn k hk)), fun x hx => (h.2 x hx).app hO hS⟩
theorem get_known {s : St} {id v : Int} (hk : s.known v = true) : s.get id v = (2, none) ∨ ∃ x, s.get id v = (0, some x) := by
  unfold St.get
  rw [if_neg (by rw [hk]; simp)]
  cases atP s.L id v with
  | none => exact .inl rfl
  | some i =>
    dsimp only
    cases s.L[i]? with
    | none => exact .inl rfl
    | some x =>
      dsimp only
      cases x.gone with
      | true => exact .inl rfl
      | false => exact .inr ⟨x, rfl⟩
theorem u32_w {x : Int} (h1 : 0 ≤ x) (h2 : x ≤ 4000000000) : IntKind.u32.wrap x = x := by
  unfold IntKind.wrap
  simp only [IntKind.bits, IntKind.signed, Bool.false_and, Bool.false_eq_true, if_false]
  omega
set_option maxHeartbeats 32000000 in
set_option maxRecDepth 100000 in
theorem pastEach_walk (A : Option Addr) (c : Nat) (l : List OpT) (v : Int) (w : World) (hC : Kd.C kop w A l.length l) (hok : okOps l) :
    Calls Try.prog 10 #[.slice A l.length c, .int .u64 v] w fun e w' => e = .returned (.bool true) ∧ Below w.heap.size w w' := by
  have hu := Try.underlying70
  have hu4 := Try.underlying54
  have HC := Aside0.mk hC
  have HOPS := Aside0.mk hok
  clear hC hok
  go_enter Try.func10, Try.ntmps10
  go_wp2_with (first | (go_at_call 23; (with_reducible refine (alive_calls _).mono ?_); rintro e w1 ⟨rfl, hb⟩; have HB1 := Aside0.mk hb; clear hb) | (go_at_call 24; (with_reducible refine (PX.new (Z := fun _ => False) HB1.out (fun k hk => hk.elim)).mono ?_); rintro e w2 ⟨g, rfl, hP, -⟩; have HP0 := Aside0.mk hP; clear hP))
  go_loopg [6] 60 (fun gk v6 wr => ∃ (i : Nat) (s : St), v6 = .int .i64 i ∧ Aside0 (i ≤ 60 ∧ 60 - i ≤ gk) ∧ Aside0 (PX (fun _ => False) w wr g s) ∧ Aside0 (Ok s (i * 127)) ∧ Aside0 (Low s))
  case atStart => exact ⟨0, .new, rfl, ⟨by omega, by omega⟩, HP0, ⟨Ok.new.mono (by omega)⟩, ⟨fun x hx => by simp [St.new] at hx⟩⟩
  case round =>
    clear HP0
    obtain ⟨i, s, rfl, HI, HP0, HOM, HLW⟩ := hrel
    have HB0 := Aside0.mk HP0.out.at0
    by_cases hi : i < l.length
    · have q1 : decide ((i : Int) < (l.length : Int)) = true := decide_eq_true (by omega)
      have q1' : (i : Int) < (l.length : Int) := by omega
      by_cases h60 : i < 60
      · have q2 : decide ((i : Int) < 60) = true := decide_eq_true (by omega)
        have q2' : decide (i < 60) = true := decide_eq_true h60
        obtain ⟨ad, x, A1, c1, A2, c2, A3, c3, rfl, hx, hO⟩ := op_at HC.out hi
        have HXO := Aside0.mk (HOPS.out.2 x (List.mem_of_getElem? hx))
        have HO := Aside0.mk hO
        have y0 := (hO.below HB0.out).y0
        have y1 := (hO.below HB0.out).y1
        have y2 := (hO.below HB0.out).y2
        have y3 := (hO.below HB0.out).z3
        have y4 := (hO.below HB0.out).z4
        have y5 := (hO.below HB0.out).y5
        have HI60 := Aside0.mk h60
        have HIN := Aside0.mk (show wrap64 ((i : Int) + 1) = ((i + 1 : Nat) : Int) by unfold wrap64; omega)
        have HV1 := Aside0.mk (show 0 ≤ s.last ∧ s.last ≤ 1000000000000 by have h1 := HOM.out.low; have h2 := HOM.out.high; omega)
        have HV2 := Aside0.mk (wf_i8' HXO.out.2.1)
        have HVL := Aside0.mk (show 0 ≤ verOf s.last x.2.1 ∧ verOf s.last x.2.1 ≤ ((i + 1 : Nat) : Int) * 127 by have h1 := verOf_le HV1.out.1 HV2.out; have h2 := HOM.out.high; omega)
        have HUP := Aside0.mk (show (i : Int) * 127 ≤ ((i + 1 : Nat) : Int) * 127 by omega)
        have HT10 := Aside0.mk (tmod10 HXO.out.2.2.1.1)
        obtain ⟨gk, rfl⟩ : ∃ m, gk = m + 1 := ⟨gk - 1, by have := HI.out; omega⟩
        have HBX0 := Aside0.mk (heap_alloc_new wr (.cells #[.int .u8 x.1, .int .i8 x.2.1, .int .u32 x.2.2.1.1, .slice A1 x.2.2.1.2.1.length c1, .slice A2 x.2.2.1.2.2.length c2, .slice A3 x.2.2.2.length c3] 70))
        have HBA0 := Aside0.mk (below_alloc (Below.refl wr.heap.size wr) (.cells #[.int .u8 x.1, .int .i8 x.2.1, .int .u32 x.2.2.1.1, .slice A1 x.2.2.1.2.1.length c1, .slice A2 x.2.2.1.2.2.length c2, .slice A3 x.2.2.2.length c3] 70))
        clear hx hO hi h60
        by_cases hk : x.2.2.2.length ≤ 50
        · have q4 : decide ((50 : Int) < (x.2.2.2.length : Int)) = false := decide_eq_false (by omega)
          have q4' : decide (50 < x.2.2.2.length) = false := decide_eq_false (by omega)
          have HKL := Aside0.mk hk
          clear hk
          go_wp2_with (go_at_call 30; (with_reducible refine (small_calls x.2.2.1.1 x.2.2.1.2.1 x.2.2.1.2.2 A1 c1 A2 c2 _ HO.out.fit1 (HO.out.below (bel_trans HB0.out HBA0.out)).vec HO.out.fit2 (HO.out.below (bel_trans HB0.out HBA0.out)).tags).mono ?_); rintro e w3 ⟨⟨r, rfl, hr⟩, hb⟩; have hbb := bel_trans HBA0.out hb; have HP3 := Aside0.mk (HP0.out.below hbb); have HBW3 := Aside0.mk hbb; have HB3 := Aside0.mk (bel_trans HB0.out hbb); have HX3 := Aside0.mk (blk_below HBX0.out hb); have b0 := (blk_cell HX3.out 0).trans rfl; have b1 := (blk_cell HX3.out 1).trans rfl; have b2 := (blk_cell HX3.out 2).trans rfl; have b3 := (blk_cell HX3.out 3).trans rfl; have b4 := (blk_cell HX3.out 4).trans rfl; have b5 := (blk_cell HX3.out 5).trans rfl; have fz : ∀ j, w3.frozen? ⟨wr.heap.size, j, none⟩ = false := (fun j => blk_frozen HX3.out j); clear hb hbb; rcases r with _ | _; clear hr; rotate_left; (have HSM := Aside0.mk (hr rfl)); clear hr; rotate_right)
          · go_ret
            exact ⟨rfl, HB3.out⟩
          · have HP4 := Aside0.mk (HP0.out.below (set_bel HBW3.out (Nat.le_refl _) 2 (.int .u32 (x.2.2.1.1.tmod 10))))
            have HB4 := Aside0.mk (bel_trans HB0.out (set_bel HBW3.out (Nat.le_refl _) 2 (.int .u32 (x.2.2.1.1.tmod 10))))
            have HX4 := Aside0.mk (show (w3.setCell ⟨wr.heap.size, 2, none⟩ (.int .u32 (x.2.2.1.1.tmod 10))).heap[wr.heap.size]? = some (.cells #[.int .u8 x.1, .int .i8 x.2.1, .int .u32 (x.2.2.1.1.tmod 10), .slice A1 x.2.2.1.2.1.length c1, .slice A2 x.2.2.1.2.2.length c2, .slice A3 x.2.2.2.length c3] 70) from blk_put HX3.out 2 (.int .u32 (x.2.2.1.1.tmod 10)) rfl)
            obtain ⟨bx, hbx⟩ : ∃ z, wr.heap.size = z := ⟨_, rfl⟩
            rw [hbx] at HP4 HB4 HX4 ⊢
            clear hbx HBX0 HBA0 HX3 HP3 HB3 HBW3 b0 b1 b2 b3 b4 b5 fz y0 y1 y2 y3 y4 y5
            have HP := Aside0.mk (HP4.out.below (below_drew (Below.refl _ _)))
            have HB := Aside0.mk (bel_trans HB4.out (below_drew (Below.refl _ _)))
            have HX := Aside0.mk (blk_below HX4.out (below_drew (Below.refl _ _)))
            obtain ⟨wz, hwz⟩ : ∃ z, w3.setCell ⟨bx, 2, none⟩ (.int .u32 (x.2.2.1.1.tmod 10)) = z := ⟨_, rfl⟩
            rw [hwz] at HP HB HX ⊢
            clear HP4 HB4 HX4 hwz
            refine start_ (n := 6) (S := fun w' => w'.cell? ⟨bx, 1, none⟩ = some (.int .i8 x.2.1)) (ds := []) #[false, false, false, false, false, false] (by kernel_rfl) rfl rfl (((blk_cell HX.out 1).trans rfl)) (fun hHeld => ?_)
            refine with_tabW each.tab11 each.bits11 (fun HT_ HW_ => ?_)
            generalize wz.drew = wd at HP HB HX hHeld ⊢
            refine pure_ (i := 0) (N := some 48) (v := ?_) (a' := ?_) #[true, false, false, false, false, false] rfl rfl (any_of HT_.out (by kernel_rfl)) (fun _ _ _ h => h) (Or.inl ⟨by rfl, ?_⟩) ?_ ?_
            rotate_left
            · intro w'
              go_simp
              with_reducible rfl
            rotate_left
            · simp only [Act.put, List.setIfInBounds_toArray, List.set_cons_zero, List.set_cons_succ, i64_w, i32_w]
              rfl
            refine pure_ (i := 2) (N := some 50) (v := ?_) (a' := ?_) #[true, false, true, false, false, false] rfl rfl (any_of HT_.out (by kernel_rfl)) (fun _ _ _ h => h) (Or.inl ⟨by rfl, ?_⟩) ?_ ?_
            rotate_left
            · intro w'
              go_simp
              with_reducible rfl
            rotate_left
            · simp only [Act.put, List.setIfInBounds_toArray, List.set_cons_zero, List.set_cons_succ, i64_w, i32_w]
              rfl
            refine take_ (i := 3) (N := some 51) (v := ?_) (a' := ?_) #[true, false, true, true, false, false] rfl rfl (take_ofW HT_.out HW_.out (by kernel_rfl)) (fun _ _ _ h => h) (Or.inl ⟨by rfl, ?_⟩) hHeld ?_ ?_
            rotate_left
            · intro w' s0
              go_simp
              with_reducible rfl
            rotate_left
            · simp only [Act.put, List.setIfInBounds_toArray, List.set_cons_zero, List.set_cons_succ, i64_w, i32_w]
              rfl
            refine one_ (i := 1) (N := some 49) #[true, true, true, true, false, false] rfl rfl (one_of HT_.out (by kernel_rfl)) (by decide) (fun K hK => ?_)
            refine goes_ Try.func27 (by kernel_rfl) rfl #[.pointer (some ⟨g, 0, none⟩)] (by rfl) rfl rfl (by simp only [List.map_toArray, List.map_cons, List.map_nil]; rfl) ?_
            with_reducible refine (PX.last HP.out).mono ?_
            rintro e w5 ⟨rfl, hP, hb⟩
            refine ⟨_, rfl, ?_⟩
            have HP5 := Aside0.mk hP
            have HB5 := Aside0.mk (bel_trans HB.out hb)
            have HX5 := Aside0.mk (blk_below HX.out hb)
            clear hP hb HP HB HX
            refine hK.out _ _ (((blk_cell HX5.out 1).trans rfl)) (fun hHeld => ?_)
            clear hK K
            refine norm_ (a' := ?_) ?_ ?_
            rotate_left
            · show Act.put _ (some 49) _ = _
              simp only [Act.put, List.setIfInBounds_toArray, List.set_cons_zero, List.set_cons_succ, i64_w, i32_w]
              rfl
            refine one_ (i := 4) (N := some 52) #[true, true, true, true, true, false] rfl rfl (one_of HT_.out (by kernel_rfl)) (by decide) (fun K hK => ?_)
            refine goes_ Try.func34 (by kernel_rfl) rfl #[.int .u64 s.last, .int .i8 x.2.1] (by rfl) rfl rfl (by simp only [List.map_toArray, List.map_cons, List.map_nil]; rfl) ?_
            with_reducible refine (ver_calls s.last x.2.1 _ HV1.out HV2.out).mono ?_
            rintro e w6 ⟨rfl, hb⟩
            refine ⟨_, rfl, ?_⟩
            have HP6 := Aside0.mk (HP5.out.below hb)
            have HB6 := Aside0.mk (bel_trans HB5.out hb)
            have HX6 := Aside0.mk (blk_below HX5.out hb)
            clear hb HP5 HB5 HX5
            refine hK.out _ _ (((blk_cell HX6.out 1).trans rfl)) (fun hHeld => ?_)
            clear hK K
            refine norm_ (a' := ?_) ?_ ?_
            rotate_left
            · show Act.put _ (some 52) _ = _
              simp only [Act.put, List.setIfInBounds_toArray, List.set_cons_zero, List.set_cons_succ, i64_w, i32_w]
              rfl
            refine pure_ (i := 5) (N := some 8) (v := ?_) (a' := ?_) #[true, true, true, true, true, true] rfl rfl (any_of HT_.out (by kernel_rfl)) (fun _ _ _ h => h) (Or.inl ⟨by rfl, ?_⟩) ?_ ?_
            rotate_left
            · intro w'
              go_simp
              with_reducible rfl
            rotate_left
            · simp only [Act.put, List.setIfInBounds_toArray, List.set_cons_zero, List.set_cons_succ, i64_w, i32_w]
              rfl
            refine done_ (done_of HT_.out (by kernel_rfl)) ?_
            have b0 := (blk_cell HX6.out 0).trans rfl
            have b2 := (blk_cell HX6.out 2).trans rfl
            have b3 := (blk_cell HX6.out 3).trans rfl
            have b4 := (blk_cell HX6.out 4).trans rfl
            have b5 := (blk_cell HX6.out 5).trans rfl
            cases k0 : (x.1.tmod 4 == 0) with
            | true =>
              go_wp2_with (go_at_call 25; (with_reducible refine (PX.put HP6.out ⟨verOf s.last x.2.1, false, x.2.2.1.1.tmod 10, x.2.2.1.2.1, x.2.2.1.2.2⟩ A1 c1 A2 c2 rfl (parts_id (HO.out.below HB6.out) HSM.out) HVL.out.1 (fun k hk => hk.elim)).mono ?_); rintro e w7 ⟨rfl, hP, -⟩; have HP7 := Aside0.mk hP; clear hP)
              go_roundg gk
              case measure => omega
              case rel => exact ⟨i + 1, _, congrArg (Value.int .i64) HIN.out, ⟨by have := HI60.out; omega, by have := HI.out; have := HI60.out; omega⟩, HP7, ⟨HOM.out.lay HUP.out HSM.out HT10.out.2 HVL.out.1 HVL.out.2⟩, ⟨HLW.out.lay HT10.out.1⟩⟩
            | false =>
              cases k1 : (x.1.tmod 4 == 1) with
              | true =>
                go_wp2_with (go_at_call 25; (with_reducible refine (PX.put HP6.out ⟨verOf s.last x.2.1, false, x.2.2.1.1.tmod 10, x.2.2.1.2.1, x.2.2.1.2.2⟩ A1 c1 A2 c2 rfl (parts_id (HO.out.below HB6.out) HSM.out) HVL.out.1 (fun k hk => hk.elim)).mono ?_); rintro e w7 ⟨rfl, hP, -⟩; have HP7 := Aside0.mk hP; clear hP)
                go_roundg gk
                case measure => omega
                case rel => exact ⟨i + 1, _, congrArg (Value.int .i64) HIN.out, ⟨by have := HI60.out; omega, by have := HI.out; have := HI60.out; omega⟩, HP7, ⟨HOM.out.lay HUP.out HSM.out HT10.out.2 HVL.out.1 HVL.out.2⟩, ⟨HLW.out.lay HT10.out.1⟩⟩
              | false =>
                cases k2 : (x.1.tmod 4 == 2) with
                | true =>
                  go_wp2_with (go_at_call 26; (with_reducible refine (PX.cut HP6.out (verOf s.last x.2.1) (x.2.2.1.1.tmod 10)).mono ?_); rintro e w7 ⟨rfl, hP, -⟩; have HP7 := Aside0.mk hP; clear hP)
                  go_roundg gk
                  case measure => omega
                  case rel => exact ⟨i + 1, _, congrArg (Value.int .i64) HIN.out, ⟨by have := HI60.out; omega, by have := HI.out; have := HI60.out; omega⟩, HP7, ⟨HOM.out.cut HUP.out HT10.out.2 HVL.out.1 HVL.out.2⟩, ⟨HLW.out.cut HT10.out.1⟩⟩
                | false =>
                  go_wp2_with (go_at_call 28; (with_reducible refine (PX.sweep HP6.out HOM.out.fit A3 c3 x.2.2.2 (HO.out.below HB6.out).keep (by have := HKL.out; omega)).mono ?_); rintro e w7 ⟨rfl, hP, -⟩; have HP7 := Aside0.mk hP; clear hP)
                  go_roundg gk
                  case measure => omega
                  case rel => exact ⟨i + 1, _, congrArg (Value.int .i64) HIN.out, ⟨by have := HI60.out; omega, by have := HI.out; have := HI60.out; omega⟩, HP7, ⟨(HOM.out.sweep _).mono HUP.out⟩, ⟨HLW.out.sweep _⟩⟩
        · have q4 : decide ((50 : Int) < (x.2.2.2.length : Int)) = true := decide_eq_true (by omega)
          have q4' : decide (50 < x.2.2.2.length) = true := decide_eq_true (by omega)
          clear hk
          go_wp2_with (go_at_call 30; (with_reducible refine (small_calls x.2.2.1.1 x.2.2.1.2.1 x.2.2.1.2.2 A1 c1 A2 c2 _ HO.out.fit1 (HO.out.below (bel_trans HB0.out HBA0.out)).vec HO.out.fit2 (HO.out.below (bel_trans HB0.out HBA0.out)).tags).mono ?_); rintro e w3 ⟨⟨r, rfl, hr⟩, hb⟩; have hbb := bel_trans HBA0.out hb; have HP3 := Aside0.mk (HP0.out.below hbb); have HBW3 := Aside0.mk hbb; have HB3 := Aside0.mk (bel_trans HB0.out hbb); have HX3 := Aside0.mk (blk_below HBX0.out hb); have b0 := (blk_cell HX3.out 0).trans rfl; have b1 := (blk_cell HX3.out 1).trans rfl; have b2 := (blk_cell HX3.out 2).trans rfl; have b3 := (blk_cell HX3.out 3).trans rfl; have b4 := (blk_cell HX3.out 4).trans rfl; have b5 := (blk_cell HX3.out 5).trans rfl; have fz : ∀ j, w3.frozen? ⟨wr.heap.size, j, none⟩ = false := (fun j => blk_frozen HX3.out j); clear hb hbb; rcases r with _ | _; clear hr; rotate_left; (have HSM := Aside0.mk (hr rfl)); clear hr; rotate_right)
          all_goals
            go_ret
            exact ⟨rfl, HB3.out⟩
      · have q2 : decide ((i : Int) < 60) = false := decide_eq_false (by omega)
        have q2' : decide (i < 60) = false := decide_eq_false h60
        clear hi h60 HI
        cases hk : s.known v with
        | false =>
          have HK := Aside0.mk hk
          have HG := Aside0.mk (show s.get 0 v = (80, none) by unfold St.get; rw [if_pos hk])
          clear hk
          go_wp2_with (go_at_call 32; (with_reducible refine (PX.all_gone HP0.out v HK.out).mono ?_); rintro e w4 ⟨rfl, hP, hb⟩; have HP4 := Aside0.mk hP; clear hP hb)
          go_loopg [11, 12] 1 (fun gk v11 v12 wr => v12 = .int .u32 0 ∧ Aside0 (PX (fun _ => False) w wr g s))
          case atStart => exact ⟨rfl, HP4⟩
          case round =>
            clear HP4
            obtain ⟨rfl, HP5⟩ := hrel
            go_wp2_with (go_at_call 31; (with_reducible refine (PX.get HP5.out HOM.out.small 0 v).mono ?_); rintro e w6 ⟨hA, hP, hb⟩; rw [HG.out] at hA; obtain ⟨a6, rfl, rfl⟩ := hA; have HB6 := Aside0.mk (bel_alloc (bel_trans HP5.out.at0 hb) (.cells #[.int .u32 0, .slice none 0 0, .slice none 0 0] 54)); clear hP hb)
            go_ret
            exact ⟨rfl, HB6.out⟩
        | true =>
          have HK := Aside0.mk hk
          clear hk
          go_wp2_with (go_at_call 32; (with_reducible refine (PX.all_known HP0.out HOM.out.small HOM.out.fit v HK.out).mono ?_); rintro e w4 ⟨⟨a1, d1, rfl, ho, he, hal⟩, hP, hb⟩; have HT1 := Aside0.mk (show Told w4 wr.heap.size a1 d1 from ⟨ho, he⟩); have HAL := Aside0.mk hal; have HP4 := Aside0.mk hP; have HSZ := Aside0.mk hb.size; clear ho he hal hP hb)
          have HLT := Aside0.mk (fun k (hk : a1.ownBlock = some k) => HT1.out.1.lt k hk)
          obtain ⟨nB, hnB⟩ : ∃ z, wr.heap.size = z := ⟨_, rfl⟩
          obtain ⟨nW, hnW⟩ : ∃ z, w4.heap.size = z := ⟨_, rfl⟩
          rw [hnB] at HT1 HSZ
          rw [hnW] at HLT HSZ
          have HN0 := Aside0.mk (show w.heap.size ≤ nW by rw [← hnW]; exact HP4.out.at0.size)
          have HNW := Aside0.mk (Nat.le_of_eq hnW.symm)
          have HDR := Aside0.mk (told_rows HAL.out HOM.out.small HP0.out.rows)
          clear hnB hnW
          go_loopg [11, 12] 10 (fun gk v11 v12 wr => ∃ (j : Nat) (d : List Elt) (A : Option Addr) (c : Nat), v12 = .int .u32 (j : Int) ∧ v11 = .slice A d.length c ∧ Aside0 (j ≤ 10 ∧ 10 - j ≤ gk ∧ d.length ≤ j) ∧ Aside0 (PX (fun _ => False) w wr g s) ∧ Aside0 (Told wr nB a1 d1) ∧ Aside0 (Told wr nW (.slice A d.length c) d) ∧ Aside0 (nW ≤ wr.heap.size) ∧ Aside0 (d.map Elt.r = wantR s v j))
          case atStart => exact ⟨0, [], none, 0, rfl, rfl, ⟨by omega, by omega, Nat.le_refl _⟩, HP4, HT1, ⟨OwnE.nil _ _, fun x hx => by simp at hx⟩, HNW, ⟨rfl⟩⟩
          case round =>
            clear HP4 HT1 HNW HSZ
            obtain ⟨j, d, A', c', rfl, rfl, HJ, HP5, HT5, HD5, HS5, HW5⟩ := hrel
            by_cases hj : j < 10
            · have q5 : decide ((j : Int) < 10) = true := decide_eq_true (by omega)
              have q5' : decide (j < 10) = true := decide_eq_true hj
              have HJJ := Aside0.mk hj
              have HINJ := Aside0.mk (show IntKind.u32.wrap ((j : Int) + 1) = ((j + 1 : Nat) : Int) by rw [u32_w (by omega) (by omega)]; omega)
              obtain ⟨gk, rfl⟩ : ∃ m, gk = m + 1 := ⟨gk - 1, by have := HJ.out; omega⟩
              clear hj
              rcases get_known (id := (j : Int)) HK.out with hgx | ⟨x, hgx⟩
              · have HGX := Aside0.mk hgx
                clear hgx
                go_wp2_with (go_at_call 31; (with_reducible refine (PX.get HP5.out HOM.out.small (j : Int) v).mono ?_); rintro e w6 ⟨hA, hP, hb⟩; rw [HGX.out] at hA; obtain ⟨a6, rfl, rfl⟩ := hA; have hbb := bel_alloc hb (.cells #[.int .u32 0, .slice none 0 0, .slice none 0 0] 54); have HP6 := Aside0.mk (HP5.out.below hbb); have HT6 := Aside0.mk (HT5.out.below hbb); have HD6 := Aside0.mk (HD5.out.below hbb); have HS6 := Aside0.mk (Nat.le_trans HS5.out hbb.size); clear hP hb hbb)
                go_roundg gk
                case measure => omega
                case rel => exact ⟨j + 1, d, A', c', congrArg (Value.int .u32) HINJ.out, rfl, ⟨by have := HJJ.out; omega, by have := HJ.out; have := HJJ.out; omega, by have := HJ.out; omega⟩, HP6, HT6, HD6, HS6, ⟨by rw [wantR_succ, HGX.out, List.append_nil]; exact HW5.out⟩⟩
              · have HGX := Aside0.mk hgx
                clear hgx
                go_wp2_with (first | (go_at_call 31; (with_reducible refine (PX.get HP5.out HOM.out.small (j : Int) v).mono ?_); rintro e w6 ⟨hA, hP, hb⟩; rw [HGX.out] at hA; obtain ⟨a6, rfl, v1, v2, rfl, r1, r2⟩ := hA; obtain ⟨p1, n1, rfl⟩ := Kd.R_slice r1; obtain ⟨p2, n2, rfl⟩ := Kd.R_slice r2; have hbb := bel_alloc hb (.cells #[.int .u32 x.id, .slice p1 x.vec.length n1, .slice p2 x.tags.length n2] 54); have HE6 := Aside0.mk ((show EltOk w6 nW ⟨x, p1, n1, p2, n2⟩ from ⟨Kd.R_lower r1 HS5.out, Kd.R_lower r2 HS5.out⟩).below (below_alloc (Below.refl _ _) (.cells #[.int .u32 x.id, .slice p1 x.vec.length n1, .slice p2 x.tags.length n2] 54))); have HP6 := Aside0.mk (HP5.out.below hbb); have HT6 := Aside0.mk (HT5.out.below hbb); have HD6 := Aside0.mk (HD5.out.below hbb); have HS6 := Aside0.mk (Nat.le_trans HS5.out hbb.size); clear hP hb hbb r1 r2) | (at_builtin; refine app_E rfl (.tmp 104) (.tmp 106) rfl nW _ d ⟨x, p1, n1, p2, n2⟩ [.int .u32 x.id, .slice p1 x.vec.length n1, .slice p2 x.tags.length n2] rfl rfl (by rw [World.size_alloc]; rfl) HD6.out.1 (by have := HJ.out; omega) HS6.out ?_; intro v8 w8 ho hO; have hba := below_alloc (Below.refl (w6.alloc (.cells #[.int .u32 x.id, .slice p1 x.vec.length n1, .slice p2 x.tags.length n2] 54)).heap.size (w6.alloc (.cells #[.int .u32 x.id, .slice p1 x.vec.length n1, .slice p2 x.tags.length n2] 54))) (.cells #[.int .u32 x.id, .slice p1 x.vec.length n1, .slice p2 x.tags.length n2] 54); have hD7 := HD6.out.below hba; have hty := hD7.1.typed; obtain ⟨D8, hD8⟩ : ∃ z, d ++ [⟨x, p1, n1, p2, n2⟩] = z := ⟨_, rfl⟩; have HP8 := Aside0.mk ((HP6.out.below hba).other hO (fun k hk => ⟨hty k hk, Nat.le_trans HN0.out (hD7.1.base k hk)⟩)); have HT8 := Aside0.mk ((HT6.out.below hba).app hO hty (fun k hk hs => by have h1 := HLT.out k hk; have h2 := hD7.1.base k hs; omega)); have HE8 := Aside0.mk (show ∀ e ∈ D8, EltOk w8 nW e by rw [← hD8]; intro e he; rcases List.mem_append.1 he with he | he; exact (hD7.2 e he).app hO hty; rw [List.mem_singleton] at he; subst he; exact (HE6.out.below hba).app hO hty); rw [hD8] at ho; obtain ⟨A8, c8, rfl, -⟩ := ho.slice; have HO8 := Aside0.mk ho; have HD8 := Aside0.mk hD8; have HS8 := Aside0.mk (Nat.le_trans HS6.out (Nat.le_trans hba.size hO.size)); clear ho hO hba hD7 hty hD8))
                go_roundg gk
                case measure => omega
                case rel => exact ⟨j + 1, D8, A8, c8, congrArg (Value.int .u32) HINJ.out, rfl, ⟨by have := HJJ.out; omega, by have := HJ.out; have := HJJ.out; omega, by have h1 := HJ.out; have h3 : D8.length = d.length + 1 := (by rw [← HD8.out, List.length_append]; rfl); omega⟩, HP8, HT8, ⟨HO8.out, HE8.out⟩, HS8, ⟨by rw [wantR_succ, HGX.out, ← HD8.out, List.map_append, HW5.out]; rfl⟩⟩
            · have q5 : decide ((j : Int) < 10) = false := decide_eq_false (by omega)
              have q5' : decide (j < 10) = false := decide_eq_false hj
              have hje : j = 10 := by have := HJ.out; omega
              subst hje
              have HEQ := Aside0.mk (show d1.map Elt.r = d.map Elt.r by rw [HW5.out]; exact HAL.out.eq (wantR_is HK.out HLW.out) (fun x => Iff.rfl))
              clear hj HJ
              go_wp2_with (go_at_call 35; (with_reducible refine (same_calls HT5.out HD5.out HEQ.out HDR.out.1 HDR.out.2).mono ?_); rintro e w9 ⟨rfl, hb⟩; have HB9 := Aside0.mk (bel_trans HP5.out.at0 hb); clear hb)
              go_ret
              exact ⟨rfl, HB9.out⟩
    · have q1 : decide ((i : Int) < (l.length : Int)) = false := decide_eq_false (by omega)
      have q1' : (i < l.length) = False := eq_false hi
      have q1'' : decide (i < l.length) = false := decide_eq_false hi
      clear hi HI
      cases hk : s.known v with
      | false =>
        have HK := Aside0.mk hk
        have HG := Aside0.mk (show s.get 0 v = (80, none) by unfold St.get; rw [if_pos hk])
        clear hk
        go_wp2_with (go_at_call 32; (with_reducible refine (PX.all_gone HP0.out v HK.out).mono ?_); rintro e w4 ⟨rfl, hP, hb⟩; have HP4 := Aside0.mk hP; clear hP hb)
        go_loopg [11, 12] 1 (fun gk v11 v12 wr => v12 = .int .u32 0 ∧ Aside0 (PX (fun _ => False) w wr g s))
        case atStart => exact ⟨rfl, HP4⟩
        case round =>
          clear HP4
          obtain ⟨rfl, HP5⟩ := hrel
          go_wp2_with (go_at_call 31; (with_reducible refine (PX.get HP5.out HOM.out.small 0 v).mono ?_); rintro e w6 ⟨hA, hP, hb⟩; rw [HG.out] at hA; obtain ⟨a6, rfl, rfl⟩ := hA; have HB6 := Aside0.mk (bel_alloc (bel_trans HP5.out.at0 hb) (.cells #[.int .u32 0, .slice none 0 0, .slice none 0 0] 54)); clear hP hb)
          go_ret
          exact ⟨rfl, HB6.out⟩
      | true =>
        have HK := Aside0.mk hk
        clear hk
        go_wp2_with (go_at_call 32; (with_reducible refine (PX.all_known HP0.out HOM.out.small HOM.out.fit v HK.out).mono ?_); rintro e w4 ⟨⟨a1, d1, rfl, ho, he, hal⟩, hP, hb⟩; have HT1 := Aside0.mk (show Told w4 wr.heap.size a1 d1 from ⟨ho, he⟩); have HAL := Aside0.mk hal; have HP4 := Aside0.mk hP; have HSZ := Aside0.mk hb.size; clear ho he hal hP hb)
        have HLT := Aside0.mk (fun k (hk : a1.ownBlock = some k) => HT1.out.1.lt k hk)
        obtain ⟨nB, hnB⟩ : ∃ z, wr.heap.size = z := ⟨_, rfl⟩
        obtain ⟨nW, hnW⟩ : ∃ z, w4.heap.size = z := ⟨_, rfl⟩
        rw [hnB] at HT1 HSZ
        rw [hnW] at HLT HSZ
        have HN0 := Aside0.mk (show w.heap.size ≤ nW by rw [← hnW]; exact HP4.out.at0.size)
        have HNW := Aside0.mk (Nat.le_of_eq hnW.symm)
        have HDR := Aside0.mk (told_rows HAL.out HOM.out.small HP0.out.rows)
        clear hnB hnW
        go_loopg [11, 12] 10 (fun gk v11 v12 wr => ∃ (j : Nat) (d : List Elt) (A : Option Addr) (c : Nat), v12 = .int .u32 (j : Int) ∧ v11 = .slice A d.length c ∧ Aside0 (j ≤ 10 ∧ 10 - j ≤ gk ∧ d.length ≤ j) ∧ Aside0 (PX (fun _ => False) w wr g s) ∧ Aside0 (Told wr nB a1 d1) ∧ Aside0 (Told wr nW (.slice A d.length c) d) ∧ Aside0 (nW ≤ wr.heap.size) ∧ Aside0 (d.map Elt.r = wantR s v j))
        case atStart => exact ⟨0, [], none, 0, rfl, rfl, ⟨by omega, by omega, Nat.le_refl _⟩, HP4, HT1, ⟨OwnE.nil _ _, fun x hx => by simp at hx⟩, HNW, ⟨rfl⟩⟩
        case round =>
          clear HP4 HT1 HNW HSZ
          obtain ⟨j, d, A', c', rfl, rfl, HJ, HP5, HT5, HD5, HS5, HW5⟩ := hrel
          by_cases hj : j < 10
          · have q5 : decide ((j : Int) < 10) = true := decide_eq_true (by omega)
            have q5' : decide (j < 10) = true := decide_eq_true hj
            have HJJ := Aside0.mk hj
            have HINJ := Aside0.mk (show IntKind.u32.wrap ((j : Int) + 1) = ((j + 1 : Nat) : Int) by rw [u32_w (by omega) (by omega)]; omega)
            obtain ⟨gk, rfl⟩ : ∃ m, gk = m + 1 := ⟨gk - 1, by have := HJ.out; omega⟩
            clear hj
            rcases get_known (id := (j : Int)) HK.out with hgx | ⟨x, hgx⟩
            · have HGX := Aside0.mk hgx
              clear hgx
              go_wp2_with (go_at_call 31; (with_reducible refine (PX.get HP5.out HOM.out.small (j : Int) v).mono ?_); rintro e w6 ⟨hA, hP, hb⟩; rw [HGX.out] at hA; obtain ⟨a6, rfl, rfl⟩ := hA; have hbb := bel_alloc hb (.cells #[.int .u32 0, .slice none 0 0, .slice none 0 0] 54); have HP6 := Aside0.mk (HP5.out.below hbb); have HT6 := Aside0.mk (HT5.out.below hbb); have HD6 := Aside0.mk (HD5.out.below hbb); have HS6 := Aside0.mk (Nat.le_trans HS5.out hbb.size); clear hP hb hbb)
              go_roundg gk
              case measure => omega
              case rel => exact ⟨j + 1, d, A', c', congrArg (Value.int .u32) HINJ.out, rfl, ⟨by have := HJJ.out; omega, by have := HJ.out; have := HJJ.out; omega, by have := HJ.out; omega⟩, HP6, HT6, HD6, HS6, ⟨by rw [wantR_succ, HGX.out, List.append_nil]; exact HW5.out⟩⟩
            · have HGX := Aside0.mk hgx
              clear hgx
              go_wp2_with (first | (go_at_call 31; (with_reducible refine (PX.get HP5.out HOM.out.small (j : Int) v).mono ?_); rintro e w6 ⟨hA, hP, hb⟩; rw [HGX.out] at hA; obtain ⟨a6, rfl, v1, v2, rfl, r1, r2⟩ := hA; obtain ⟨p1, n1, rfl⟩ := Kd.R_slice r1; obtain ⟨p2, n2, rfl⟩ := Kd.R_slice r2; have hbb := bel_alloc hb (.cells #[.int .u32 x.id, .slice p1 x.vec.length n1, .slice p2 x.tags.length n2] 54); have HE6 := Aside0.mk ((show EltOk w6 nW ⟨x, p1, n1, p2, n2⟩ from ⟨Kd.R_lower r1 HS5.out, Kd.R_lower r2 HS5.out⟩).below (below_alloc (Below.refl _ _) (.cells #[.int .u32 x.id, .slice p1 x.vec.length n1, .slice p2 x.tags.length n2] 54))); have HP6 := Aside0.mk (HP5.out.below hbb); have HT6 := Aside0.mk (HT5.out.below hbb); have HD6 := Aside0.mk (HD5.out.below hbb); have HS6 := Aside0.mk (Nat.le_trans HS5.out hbb.size); clear hP hb hbb r1 r2) | (at_builtin; refine app_E rfl (.tmp 104) (.tmp 106) rfl nW _ d ⟨x, p1, n1, p2, n2⟩ [.int .u32 x.id, .slice p1 x.vec.length n1, .slice p2 x.tags.length n2] rfl rfl (by rw [World.size_alloc]; rfl) HD6.out.1 (by have := HJ.out; omega) HS6.out ?_; intro v8 w8 ho hO; have hba := below_alloc (Below.refl (w6.alloc (.cells #[.int .u32 x.id, .slice p1 x.vec.length n1, .slice p2 x.tags.length n2] 54)).heap.size (w6.alloc (.cells #[.int .u32 x.id, .slice p1 x.vec.length n1, .slice p2 x.tags.length n2] 54))) (.cells #[.int .u32 x.id, .slice p1 x.vec.length n1, .slice p2 x.tags.length n2] 54); have hD7 := HD6.out.below hba; have hty := hD7.1.typed; obtain ⟨D8, hD8⟩ : ∃ z, d ++ [⟨x, p1, n1, p2, n2⟩] = z := ⟨_, rfl⟩; have HP8 := Aside0.mk ((HP6.out.below hba).other hO (fun k hk => ⟨hty k hk, Nat.le_trans HN0.out (hD7.1.base k hk)⟩)); have HT8 := Aside0.mk ((HT6.out.below hba).app hO hty (fun k hk hs => by have h1 := HLT.out k hk; have h2 := hD7.1.base k hs; omega)); have HE8 := Aside0.mk (show ∀ e ∈ D8, EltOk w8 nW e by rw [← hD8]; intro e he; rcases List.mem_append.1 he with he | he; exact (hD7.2 e he).app hO hty; rw [List.mem_singleton] at he; subst he; exact (HE6.out.below hba).app hO hty); rw [hD8] at ho; obtain ⟨A8, c8, rfl, -⟩ := ho.slice; have HO8 := Aside0.mk ho; have HD8 := Aside0.mk hD8; have HS8 := Aside0.mk (Nat.le_trans HS6.out (Nat.le_trans hba.size hO.size)); clear ho hO hba hD7 hty hD8))
              go_roundg gk
              case measure => omega
              case rel => exact ⟨j + 1, D8, A8, c8, congrArg (Value.int .u32) HINJ.out, rfl, ⟨by have := HJJ.out; omega, by have := HJ.out; have := HJJ.out; omega, by have h1 := HJ.out; have h3 : D8.length = d.length + 1 := (by rw [← HD8.out, List.length_append]; rfl); omega⟩, HP8, HT8, ⟨HO8.out, HE8.out⟩, HS8, ⟨by rw [wantR_succ, HGX.out, ← HD8.out, List.map_append, HW5.out]; rfl⟩⟩
          · have q5 : decide ((j : Int) < 10) = false := decide_eq_false (by omega)
            have q5' : decide (j < 10) = false := decide_eq_false hj
            have hje : j = 10 := by have := HJ.out; omega
            subst hje
            have HEQ := Aside0.mk (show d1.map Elt.r = d.map Elt.r by rw [HW5.out]; exact HAL.out.eq (wantR_is HK.out HLW.out) (fun x => Iff.rfl))
            clear hj HJ
            go_wp2_with (go_at_call 35; (with_reducible refine (same_calls HT5.out HD5.out HEQ.out HDR.out.1 HDR.out.2).mono ?_); rintro e w9 ⟨rfl, hb⟩; have HB9 := Aside0.mk (bel_trans HP5.out.at0 hb); clear hb)
            go_ret
            exact ⟨rfl, HB9.out⟩
theorem each_row (v1 : Value) (s1 : v1 = .slice none 0 0 ∨ ∃ a n c, v1 = .slice (some a) n c) (x1 : List OpT) {W : World} (K1 : (Kd.slice 70 kop).K W x1 v1.cells.toList) (o1 : okOps x1) (v : Int) (h2 : (Lit.int .u64 v).wf = true) (_ : World) :
    Calls Try.prog 10 #[v1, .int .u64 v] W fun e w' => e = .returned (.bool true) ∧ Below W.heap.size W w' := by
  obtain ⟨A, ca, rfl, g1, g2⟩ := slice_of s1 K1
  exact pastEach_walk A ca x1 v W g2 o1
end Go.Proofs.Ytjbakaplcjkniaa.Pa
