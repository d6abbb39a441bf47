/- PastPlays: whatever is put, cut, swept and asked, each answer is the document's. No condition. -/
import Derived.Test.YtjbakaplcjkniaaPbAll
import Derived.Deep.RegionHeld3
import Derived.Deep.AppendLies
namespace Go.Proofs.Ytjbakaplcjkniaa.Pb
open Go.RowKit Go.Maps Go.Proofs.YtjbakaplcjkniaaW.PrintWords Go.Proofs.YtjbakaplcjkniaaW.PrintLast Go.Proofs.YtjbakaplcjkniaaW.PrintMore Go.Proofs.Ytjbakaplcjkniaa.Pi Go.Proofs.Ytjbakaplcjkniaa.Pa Go.Proofs.Ytjbakaplcjkniaa.Q
set_option linter.unusedVariables false
set_option linter.unusedSimpArgs false
def pl.T11 : Bool × List (List Nat × List Nat) := (true, [([], []), ([0], [0]), ([1], [1]), ([2], [2]), ([], []), ([4], [4]), ([3, 5], [3, 5]), ([6, 6, 0, 1, 2, 3, 4, 5, 6], [6])])
def pl.B11 : List Nat := [0, 1, 3, 7, 0, 16, 63, 127]
theorem pl.tab11 : rtab .any (opsOf Try.f12 11) = pl.T11 := by kernel_rfl
theorem pl.bits11 : waitsOk pl.T11.2 pl.B11 = true := by kernel_rfl
def pl.T19 : Bool × List (List Nat × List Nat) := (true, [([], []), ([], []), ([], []), ([2], [2]), ([0, 1, 3], [0, 1, 3]), ([], []), ([], []), ([], []), ([7], [7]), ([6, 8], [6, 8]), ([5, 9, 4], [5, 9]), ([4, 10], [4, 10])])
def pl.B19 : List Nat := [0, 0, 0, 4, 15, 0, 0, 0, 128, 448, 1023, 2047]
theorem pl.tab19 : rtab .any (opsOf Try.f12 19) = pl.T19 := by kernel_rfl
theorem pl.bits19 : waitsOk pl.T19.2 pl.B19 = true := by kernel_rfl
def pl.T22 : Bool × List (List Nat × List Nat) := (true, [([], []), ([], []), ([], []), ([2], [2]), ([3], [3]), ([0, 1, 4], [0, 1, 4]), ([], []), ([], []), ([], []), ([8], [8]), ([9], [9]), ([10], [10]), ([7, 11], [7, 11]), ([6, 12, 5], [6, 12]), ([5, 13], [5, 13])])
def pl.B22 : List Nat := [0, 0, 0, 4, 12, 31, 0, 0, 0, 256, 768, 1792, 3968, 8191, 16383]
theorem pl.tab22 : rtab .any (opsOf Try.f12 22) = pl.T22 := by kernel_rfl
theorem pl.bits22 : waitsOk pl.T22.2 pl.B22 = true := by kernel_rfl
def pl.T25 : Bool × List (List Nat × List Nat) := (true, [([], []), ([], []), ([1], [1]), ([0, 2], [0, 2]), ([], []), ([], []), ([5], [5]), ([4, 6, 3], [4, 6]), ([3, 7], [3, 7])])
def pl.B25 : List Nat := [0, 0, 2, 7, 0, 0, 32, 127, 255]
theorem pl.tab25 : rtab .any (opsOf Try.f12 25) = pl.T25 := by kernel_rfl
theorem pl.bits25 : waitsOk pl.T25.2 pl.B25 = true := by kernel_rfl
def pl.T32 : Bool × List (List Nat × List Nat) := (true, [([], []), ([0], [0]), ([], []), ([2], [2]), ([3], [3]), ([4], [4]), ([1, 5], [1, 5]), ([6, 1], [6]), ([7], [7]), ([8, 7, 7], [7, 8]), ([7], [7]), ([10, 7], [7, 10]), ([11, 7], [7, 11]), ([12, 7], [7, 12]), ([13, 7], [7, 13]), ([9, 14, 7], [7, 9, 14]), ([7, 15], [7, 15])])
def pl.B32 : List Nat := [0, 1, 0, 4, 12, 28, 63, 127, 255, 511, 255, 1279, 3327, 7423, 15615, 32767, 65535]
theorem pl.tab32 : rtab .any (opsOf Try.f12 32) = pl.T32 := by kernel_rfl
theorem pl.bits32 : waitsOk pl.T32.2 pl.B32 = true := by kernel_rfl
end Go.Proofs.Ytjbakaplcjkniaa.Pb
namespace Go.Proofs.Ytjbakaplcjkniaa.Pa
open Go.RowKit Go.Maps Go.Proofs.YtjbakaplcjkniaaW.PrintWords Go.Proofs.YtjbakaplcjkniaaW.PrintLast Go.Proofs.YtjbakaplcjkniaaW.PrintMore Go.Proofs.Ytjbakaplcjkniaa.Pi
set_option linter.unusedVariables false
set_option linter.unusedSimpArgs false
theorem OpAt.z3 {w : World} {ad : Addr} {x : OpT} {i : Nat} {A1 : Option Addr} {c1 : Nat} {A2 : Option Addr} {c2 : Nat} {A3 : Option Addr} {c3 : Nat} (h : OpAt w ad x i A1 c1 A2 c2 A3 c3) : w.cell? ⟨(ad.add (i * 6)).block, (ad.add (i * 6)).off + 3, none⟩ = some (.slice A1 x.2.2.1.2.1.length c1) := h.y3
theorem OpAt.z4 {w : World} {ad : Addr} {x : OpT} {i : Nat} {A1 : Option Addr} {c1 : Nat} {A2 : Option Addr} {c2 : Nat} {A3 : Option Addr} {c3 : Nat} (h : OpAt w ad x i A1 c1 A2 c2 A3 c3) : w.cell? ⟨(ad.add (i * 6)).block, (ad.add (i * 6)).off + 4, none⟩ = some (.slice A2 x.2.2.1.2.2.length c2) := h.y4
theorem Ok.sweep {s : St} {m : Int} (h : Ok s m) (keep : List Int) : Ok (s.sweep keep).2 m := ⟨St.sweep_small h.small, St.sweep_fit h.fit, h.low, h.high⟩
end Go.Proofs.Ytjbakaplcjkniaa.Pa
namespace Go.Proofs.Ytjbakaplcjkniaa.Pb
open Go.RowKit Go.Maps Go.Proofs.YtjbakaplcjkniaaW.PrintWords Go.Proofs.YtjbakaplcjkniaaW.PrintLast Go.Proofs.YtjbakaplcjkniaaW.PrintMore Go.Proofs.Ytjbakaplcjkniaa.Pi Go.Proofs.Ytjbakaplcjkniaa.Pa Go.Proofs.Ytjbakaplcjkniaa.Q
set_option linter.unusedVariables false
set_option linter.unusedSimpArgs false
theorem blk_tt {w w' : World} {k t : Nat} {c : Array Value} (h : w.heap[k]? = some (.cells c t (0, 0))) (hO : Only (TT w) w w') (h1 : t ≠ 102) (h2 : t ≠ 98) : w'.heap[k]? = some (.cells c t (0, 0)) :=
 (hO.block k (blk_lt h) (fun hp => by obtain ⟨c2, hp⟩ := hp; rcases hp with hp | hp; exact h1 (blk_type h hp); exact h2 (blk_type h hp))).trans h
theorem blk_tr {w w' : World} {k t : Nat} {c : Array Value} (h : w.heap[k]? = some (.cells c t (0, 0))) (hO : Only (TR w) w w') (h1 : t ≠ 82) (h2 : t ≠ 79) : w'.heap[k]? = some (.cells c t (0, 0)) :=
 (hO.block k (blk_lt h) (fun hp => by obtain ⟨c2, hp⟩ := hp; rcases hp with hp | hp; exact h1 (blk_type h hp); exact h2 (blk_type h hp))).trans h
/-- Both pasts, of one state. -/
structure Both (w0 w : World) (g gr : Nat) (s : St) : Prop where
 p : PX (fun _ => False) w0 w g s
 r : RX w0 w gr s
section
variable {w0 w w' : World} {g gr : Nat} {s s' : St}
theorem Both.below (h : Both w0 w g gr s) (hb : Below w.heap.size w w') : Both w0 w' g gr s := ⟨h.p.below hb, h.r.below hb⟩
theorem new_doc (h : PX (fun _ => False) w0 w g .new) : Both w0 (w.alloc (.cells #[.slice none 0 0, .int .u64 0, .int .u64 0, .slice none 0 0] 79)) g w.heap.size .new :=
 ⟨h.below (below_alloc (Below.refl _ _) _), ⟨.slice none 0 0, .slice none 0 0, heap_alloc_new w _, OwnR.nil _ _, Kd.R_nil _ _ _ _ _, h.at0.size, bel_alloc h.at0 _, by simp [St.new], by simp [St.new]⟩⟩
end
theorem fr_op {w : World} {ad : Addr} {x : OpT} {i : Nat} {A1 : Option Addr} {c1 : Nat} {A2 : Option Addr} {c2 : Nat} {A3 : Option Addr} {c3 : Nat} (h : OpAt w ad x i A1 c1 A2 c2 A3 c3) (v : Int) : FrI w ⟨v, false, x.2.2.1.1, x.2.2.1.2.1, x.2.2.1.2.2⟩ [.int .u64 v, .bool false, .int .u32 x.2.2.1.1, .slice A1 x.2.2.1.2.1.length c1, .slice A2 x.2.2.1.2.2.length c2] := fun W hW =>
 ⟨A1, c1, A2, c2, rfl, h.fit1, Kd.C_below h.vec hW, h.fit2, Kd.C_below h.tags hW⟩
theorem fr_cut (w : World) (v id : Int) : FrI w ⟨v, true, id, [], []⟩ [.int .u64 v, .bool true, .int .u32 id, .slice none 0 0, .slice none 0 0] := fun W hW =>
 ⟨none, 0, none, 0, rfl, Nat.le_refl _, Kd.C_nil _ _, Nat.le_refl _, Kd.C_nil _ _⟩
theorem parts_op {w : World} {ad : Addr} {x : OpT} {i : Nat} {A1 : Option Addr} {c1 : Nat} {A2 : Option Addr} {c2 : Nat} {A3 : Option Addr} {c3 : Nat} {v : Int} {gn : Bool} (h : OpAt w ad x i A1 c1 A2 c2 A3 c3) (hl : x.2.2.1.2.1.length ≤ 100000 ∧ x.2.2.1.2.2.length ≤ 100000) : Parts w ⟨v, gn, x.2.2.1.1, x.2.2.1.2.1, x.2.2.1.2.2⟩ A1 c1 A2 c2 := ⟨h.fit1, h.vec, h.fit2, h.tags, hl⟩
theorem lay_cut {w0 w : World} {g : Nat} {s : St} (h : RX w0 w g s) (v id : Int) :
  Calls Try.prog 36 #[.pointer (some ⟨g, 0, none⟩), .agg #[.int .u64 v, .bool true, .int .u32 id, .slice none 0 0, .slice none 0 0]] w fun e w' => e = .returned (.int .i64 (layD s ⟨v, true, id, [], []⟩).1) ∧ RX w0 w' g (layD s ⟨v, true, id, [], []⟩).2 ∧ Only (TR w) w w' :=
 h.lay ⟨v, true, id, [], []⟩ none 0 none 0 true rfl (fr_cut _ _ _)
theorem get_cases (s : St) (id v : Int) : (∃ code, s.get id v = (code, none)) ∨ ∃ x, s.get id v = (0, some x) ∧ x ∈ s.L := by
 unfold St.get
 by_cases hk : s.known v = false
 ·
  rw [if_pos hk]; exact .inl ⟨_, rfl⟩
 ·
  rw [if_neg hk]
  cases atP s.L id v with
  | none => exact .inl ⟨_, rfl⟩
  | some i =>
   dsimp only
   cases hx : s.L[i]? with
   | none => exact .inl ⟨_, rfl⟩
   | some x =>
    dsimp only
    cases hg : x.gone with
    | true => exact .inl ⟨_, rfl⟩
    | false => exact .inr ⟨x, rfl, List.mem_of_getElem? hx⟩
theorem sub_len : ∀ {l l' : List Int}, l.Nodup → (∀ x ∈ l, x ∈ l') → l.length ≤ l'.length
 | [], l', _, _ => Nat.zero_le _
 | a :: l, l', hn, hs => by
  obtain ⟨h1, h2⟩ := List.nodup_cons.1 hn
  have ha := hs a List.mem_cons_self
  have := sub_len (l := l) (l' := l'.erase a) h2 (fun x hx => (List.mem_erase_of_ne (fun e => h1 (by subst e; exact hx))).2 (hs x (List.mem_cons_of_mem _ hx)))
  rw [List.length_erase_of_mem ha] at this
  have hp := List.length_pos_of_mem ha
  rw [List.length_cons]
  omega
theorem told_rows {s : St} {v : Int} {d : List Elt} (h : AllIs s.L v (d.map Elt.r)) (hs : s.Small) (hl : s.L.length ≤ 1024) : d.length ≤ 100000 ∧ ∀ e ∈ d, e.r.vec.length ≤ 100000 ∧ e.r.tags.length ≤ 100000 := by
 have hsub : ∀ x ∈ d.map Elt.r, x ∈ s.L := fun x hx => by
  obtain ⟨i, h1, _⟩ := (h.mem x).1 hx
  exact List.mem_of_getElem? h1
 have hnd : ((d.map Elt.r).map Row.id).Nodup := by
  rw [List.Nodup, List.pairwise_map]
  exact h.rise.imp (fun {a b} hab => by omega)
 have hle := sub_len (l' := s.L.map Row.id) hnd (fun x hx => by
  obtain ⟨r, hr, rfl⟩ := List.mem_map.1 hx
  exact List.mem_map.2 ⟨r, hsub r hr, rfl⟩)
 rw [List.length_map, List.length_map, List.length_map] at hle
 exact ⟨by omega, fun e he => hs _ (hsub _ (List.mem_map.2 ⟨e, he, rfl⟩))⟩
/-- The document's list, read. -/
theorem toldI_reads {w0 w : World} {base : Nat} {v : Value} {d : List Elt} (ho : OwnE w base v d) (he : ∀ e ∈ d, EltI w0 e) (hB : Below w0.heap.size w0 w) : ∃ A c, v = .slice A (d.map (fun e => itOf e.r)).length c ∧ (d.map (fun e => itOf e.r)).length ≤ c ∧ Kd.C k54 w A (d.map (fun e => itOf e.r)).length (d.map (fun e => itOf e.r)) := by
 rcases ho.2 with ⟨rfl, h0⟩ | ⟨r, cap, cur, rfl, hb, hh, hc1, hc2, hc3, hc4⟩
 ·
  have hd : d = [] := List.length_eq_zero_iff.1 h0
  subst hd
  exact ⟨none, 0, rfl, Nat.le_refl _, Kd.C_nil _ _⟩
 ·
  refine ⟨_, cap, by rw [List.length_map], by rw [List.length_map]; exact hc1, rfl, by rw [List.length_map]; unfold maxLen at hc2; omega, fun _ => ⟨_, rfl, fun j p hj => ?_⟩⟩
  rw [List.getElem?_map] at hj
  obtain ⟨e, hje, rfl⟩ := Option.map_eq_some_iff.1 hj
  obtain ⟨_, _, l1, g1, l2, g2⟩ := FrI.reads (he e (List.mem_of_getElem? hje)) hB
  refine ⟨e.cs, rfl, k54_mk w (itOf e.r) l1 g1 l2 g2, fun i u hu => ?_⟩
  have hi : i < 3 := by
   have := (List.getElem?_eq_some_iff.1 hu).1
   rw [Elt.len] at this
   exact this
  have hjl := (List.getElem?_eq_some_iff.1 hje).1
  have h0 := cellsE_get d j e hje i hi
  rw [← hc4, List.getElem?_take, if_pos (by omega), Array.getElem?_toList] at h0
  have hs : j * (k54 : Kd It).sz + i = j * 3 + i := rfl
  rw [hs, add_plain, blk_cell hh, h0]
  exact hu
theorem same_both {w0 w : World} {b1 b2 : Nat} {v1 v2 : Value} {d1 d2 : List Elt} (h1 : Pa.Told w b1 v1 d1) (ho : OwnE w b2 v2 d2) (hi : ∀ e ∈ d2, EltI w0 e) (hB : Below w0.heap.size w0 w) (he : d1.map Elt.r = d2.map Elt.r) (hl : d1.length ≤ 100000) (hx : ∀ e ∈ d1, e.r.vec.length ≤ 100000 ∧ e.r.tags.length ≤ 100000) :
  Calls Try.prog 35 #[v1, v2] w fun e w' => e = .returned (.bool true) ∧ Below w.heap.size w w' := by
 obtain ⟨A1, c1, rfl, l1, g1⟩ := h1.reads
 obtain ⟨A2, c2, rfl, l2, g2⟩ := toldI_reads ho hi hB
 have e2 : d2.map (fun e => itOf e.r) = d1.map (fun e => itOf e.r) := by
  have : (d2.map Elt.r).map itOf = (d1.map Elt.r).map itOf := by rw [he]
  simpa [List.map_map, Function.comp_def] using this
 rw [e2] at l2 g2 ⊢
 refine lodestarref06_SameItems.calls _ A1 c1 _ A2 c2 _ true w g1 l1 g2 l2 (items_f _ (by rw [List.length_map]; omega) ?_)
 intro x hxx
 obtain ⟨e, hee, rfl⟩ := List.mem_map.1 hxx
 exact hx e hee
theorem same_none {w0 w : World} (hB : Below w0.heap.size w0 w) : Calls Try.prog 35 #[.slice none 0 0, .slice none 0 0] w fun e w' => e = .returned (.bool true) ∧ Below w.heap.size w w' :=
 same_both (w0 := w0) (b1 := 0) (b2 := 0) (d1 := []) (d2 := []) ⟨OwnE.nil _ _, fun x hx => by simp at hx⟩ (OwnE.nil _ _) (fun x hx => by simp at hx) hB rfl (by simp) (fun x hx => by simp at hx)
theorem item_none (w : World) : Calls Try.prog 33 #[.agg #[.int .u32 0, .slice none 0 0, .slice none 0 0], .agg #[.int .u32 0, .slice none 0 0, .slice none 0 0]] w fun e w' => e = .returned (.bool true) ∧ Below w.heap.size w w' :=
 lodestarref06_SameItem.calls 200000 0 none 0 [] none 0 [] 0 none 0 [] none 0 [] true _ (Kd.C_nil _ _) (Nat.le_refl _) (Kd.C_nil _ _) (Nat.le_refl _) (Kd.C_nil _ _) (Nat.le_refl _) (Kd.C_nil _ _) (Nat.le_refl _) (item_f ⟨0, [], []⟩ (by decide) (by decide) (by decide))
set_option maxHeartbeats 64000000 in
set_option maxRecDepth 100000 in
theorem pastPlays_walk (A : Option Addr) (c : Nat) (l : List OpT) (w : World) (hC : Kd.C kop w A l.length l) (hok : okOps l) :
  Calls Try.prog 12 #[.slice A l.length c] w fun e w' => e = .returned (.bool true) ∧ Below w.heap.size w w' := by
 have hu := Try.underlying70
 have hu4 := Try.underlying54
 have HC := Aside0.mk hC
 have HOPS := Aside0.mk hok
 clear hC hok
 go_enter Try.func12, Try.ntmps12
 go_wp2_with (first | (go_at_call 23; (with_reducible refine (alive_calls _).mono ?_); rintro e w1 ⟨rfl, hb⟩; have HB1 := Aside0.mk hb; clear hb) | (go_at_call 24; (with_reducible refine (PX.new (Z := fun _ => False) HB1.out (fun k hk => hk.elim)).mono ?_); rintro e w2 ⟨g, rfl, hP, -⟩; have HP0 := Aside0.mk (new_doc hP); clear hP))
 obtain ⟨gr, hgr⟩ : ∃ z, w2.heap.size = z := ⟨_, rfl⟩
 rw [hgr] at HP0 ⊢
 clear hgr
 go_loopg [5] 120 (fun gk v5 wr => ∃ (i : Nat) (s : St), v5 = .int .i64 i ∧ Aside0 (i ≤ 120 ∧ 120 - i ≤ gk) ∧ Aside0 (Both w wr g gr s) ∧ Aside0 (Ok s (i * 127)))
 case atStart => exact ⟨0, .new, rfl, ⟨by omega, by omega⟩, HP0, ⟨Ok.new.mono (by omega)⟩⟩
 case round =>
  clear HP0
  obtain ⟨i, s, rfl, HI, HP0, HOM⟩ := hrel
  have HB0 := Aside0.mk HP0.out.p.at0
  by_cases hi : i < l.length
  ·
   have q1 : decide ((i : Int) < (l.length : Int)) = true := decide_eq_true (by omega)
   have q1' : (i : Int) < (l.length : Int) := by omega
   by_cases h60 : i < 120
   ·
    have q2 : decide ((i : Int) < 120) = true := decide_eq_true (by omega)
    have q2' : decide (i < 120) = true := decide_eq_true h60
    obtain ⟨ad, x, A1, c1, A2, c2, A3, c3, rfl, hx, hO⟩ := op_at HC.out hi
    have HXO := Aside0.mk (HOPS.out.2 x (List.mem_of_getElem? hx))
    have HO := Aside0.mk hO
    have y0 := (hO.below HB0.out).y0
    have y1 := (hO.below HB0.out).y1
    have y2 := (hO.below HB0.out).y2
    have y3 := (hO.below HB0.out).z3
    have y4 := (hO.below HB0.out).z4
    have y5 := (hO.below HB0.out).y5
    have HI60 := Aside0.mk h60
    have HIN := Aside0.mk (show wrap64 ((i : Int) + 1) = ((i + 1 : Nat) : Int) by unfold wrap64; omega)
    have HV1 := Aside0.mk (show 0 ≤ s.last ∧ s.last ≤ 1000000000000 by have h1 := HOM.out.low; have h2 := HOM.out.high; omega)
    have HV2 := Aside0.mk (wf_i8' HXO.out.2.1)
    have HVL := Aside0.mk (show 0 ≤ verOf s.last x.2.1 ∧ verOf s.last x.2.1 ≤ ((i + 1 : Nat) : Int) * 127 by have h1 := verOf_le HV1.out.1 HV2.out; have h2 := HOM.out.high; omega)
    have HUP := Aside0.mk (show (i : Int) * 127 ≤ ((i + 1 : Nat) : Int) * 127 by omega)
    obtain ⟨gk, rfl⟩ : ∃ m, gk = m + 1 := ⟨gk - 1, by have := HI.out; omega⟩
    have HBX0 := Aside0.mk (heap_alloc_new wr (.cells #[.int .u8 x.1, .int .i8 x.2.1, .int .u32 x.2.2.1.1, .slice A1 x.2.2.1.2.1.length c1, .slice A2 x.2.2.1.2.2.length c2, .slice A3 x.2.2.2.length c3] 70))
    have HBA0 := Aside0.mk (below_alloc (Below.refl wr.heap.size wr) (.cells #[.int .u8 x.1, .int .i8 x.2.1, .int .u32 x.2.2.1.1, .slice A1 x.2.2.1.2.1.length c1, .slice A2 x.2.2.1.2.2.length c2, .slice A3 x.2.2.2.length c3] 70))
    clear hx hO hi h60
    by_cases hk : x.2.2.2.length ≤ 100
    ·
     have q4 : decide ((100 : Int) < (x.2.2.2.length : Int)) = false := decide_eq_false (by omega)
     have q4' : decide (100 < x.2.2.2.length) = false := decide_eq_false (by omega)
     have HKL := Aside0.mk hk
     clear hk
     go_wp2_with (go_at_call 30; (with_reducible refine (small_calls x.2.2.1.1 x.2.2.1.2.1 x.2.2.1.2.2 A1 c1 A2 c2 _ HO.out.fit1 (HO.out.below (bel_trans HB0.out HBA0.out)).vec HO.out.fit2 (HO.out.below (bel_trans HB0.out HBA0.out)).tags).mono ?_); rintro e w3 ⟨⟨r, rfl, hr⟩, hb⟩; have hbb := bel_trans HBA0.out hb; have HP3 := Aside0.mk (HP0.out.below hbb); have HBW3 := Aside0.mk hbb; have HB3 := Aside0.mk (bel_trans HB0.out hbb); have HX3 := Aside0.mk (blk_below HBX0.out hb); have b0 := (blk_cell HX3.out 0).trans rfl; have b1 := (blk_cell HX3.out 1).trans rfl; have b2 := (blk_cell HX3.out 2).trans rfl; have b3 := (blk_cell HX3.out 3).trans rfl; have b4 := (blk_cell HX3.out 4).trans rfl; have b5 := (blk_cell HX3.out 5).trans rfl; have fz : ∀ j, w3.frozen? ⟨wr.heap.size, j, none⟩ = false := (fun j => blk_frozen HX3.out j); clear hb hbb; rcases r with _ | _; clear hr; rotate_left; (have HSM := Aside0.mk (hr rfl)); clear hr; rotate_right)
     ·
      go_ret
      exact ⟨rfl, HB3.out⟩
     ·
      obtain ⟨bx, hbx⟩ : ∃ z, wr.heap.size = z := ⟨_, rfl⟩
      rw [hbx] at HX3 ⊢
      clear hbx HBX0 HBA0 HBW3 b0 b1 b2 b3 b4 b5 fz y0 y1 y2 y3 y4 y5
      have HPD := Aside0.mk (HP3.out.below (below_drew (Below.refl _ _)))
      have HB := Aside0.mk (bel_trans HB3.out (below_drew (Below.refl _ _)))
      have HX := Aside0.mk (blk_below HX3.out (below_drew (Below.refl _ _)))
      clear HP3 HB3 HX3
      refine start_ (n := 8) (S := fun w' => w'.cell? ⟨bx, 1, none⟩ = some (.int .i8 x.2.1) ∧ w'.cell? ⟨gr, 1, none⟩ = some (.int .u64 s.last)) (ds := []) #[false, false, false, false, false, false, false, false] (by kernel_rfl) rfl rfl ⟨((blk_cell HX.out 1).trans rfl), HPD.out.r.y1⟩ (fun hHeld => ?_)
      refine with_tabW pl.tab11 pl.bits11 (fun HT_ HW_ => ?_)
      generalize w3.drew = wd at HPD HB HX hHeld ⊢
      refine pure_ (i := 0) (N := some 45) (v := ?_) (a' := ?_) #[true, false, false, false, false, false, false, false] rfl rfl (any_of HT_.out (by kernel_rfl)) (fun _ _ _ h => h) (Or.inl ⟨by rfl, ?_⟩) ?_ ?_
      rotate_left
      ·
       intro w'
       go_simp
       with_reducible rfl
      rotate_left
      ·
       simp only [Act.put, List.setIfInBounds_toArray, List.set_cons_zero, List.set_cons_succ, i64_w, i32_w]
       rfl
      refine pure_ (i := 1) (N := some 46) (v := ?_) (a' := ?_) #[true, true, false, false, false, false, false, false] rfl rfl (any_of HT_.out (by kernel_rfl)) (fun _ _ _ h => h) (Or.inl ⟨by rfl, ?_⟩) ?_ ?_
      rotate_left
      ·
       intro w'
       go_simp
       with_reducible rfl
      rotate_left
      ·
       simp only [Act.put, List.setIfInBounds_toArray, List.set_cons_zero, List.set_cons_succ, i64_w, i32_w]
       rfl
      refine pure_ (i := 2) (N := some 47) (v := ?_) (a' := ?_) #[true, true, true, false, false, false, false, false] rfl rfl (any_of HT_.out (by kernel_rfl)) (fun _ _ _ h => h) (Or.inl ⟨by rfl, ?_⟩) ?_ ?_
      rotate_left
      ·
       intro w'
       go_simp
       with_reducible rfl
      rotate_left
      ·
       simp only [Act.put, List.setIfInBounds_toArray, List.set_cons_zero, List.set_cons_succ, i64_w, i32_w]
       rfl
      refine pure_ (i := 4) (N := some 49) (v := ?_) (a' := ?_) #[true, true, true, false, true, false, false, false] rfl rfl (any_of HT_.out (by kernel_rfl)) (fun _ _ _ h => h) (Or.inl ⟨by rfl, ?_⟩) ?_ ?_
      rotate_left
      ·
       intro w'
       go_simp
       with_reducible rfl
      rotate_left
      ·
       simp only [Act.put, List.setIfInBounds_toArray, List.set_cons_zero, List.set_cons_succ, i64_w, i32_w]
       rfl
      refine take_ (i := 3) (N := some 48) (v := ?_) (a' := ?_) #[true, true, true, true, true, false, false, false] rfl rfl (take_ofW HT_.out HW_.out (by kernel_rfl)) (fun _ _ _ h => h) (Or.inl ⟨by rfl, ?_⟩) hHeld ?_ ?_
      rotate_left
      ·
       rintro w' ⟨s0, s1⟩
       go_simp
       with_reducible rfl
      rotate_left
      ·
       simp only [Act.put, List.setIfInBounds_toArray, List.set_cons_zero, List.set_cons_succ, i64_w, i32_w]
       rfl
      refine take_ (i := 5) (N := some 50) (v := ?_) (a' := ?_) #[true, true, true, true, true, true, false, false] rfl rfl (take_ofW HT_.out HW_.out (by kernel_rfl)) (fun _ _ _ h => h) (Or.inl ⟨by rfl, ?_⟩) hHeld ?_ ?_
      rotate_left
      ·
       rintro w' ⟨s0, s1⟩
       go_simp
       with_reducible rfl
      rotate_left
      ·
       simp only [Act.put, List.setIfInBounds_toArray, List.set_cons_zero, List.set_cons_succ, i64_w, i32_w]
       rfl
      refine one_ (i := 6) (N := some 51) #[true, true, true, true, true, true, true, false] rfl rfl (one_of HT_.out (by kernel_rfl)) (by decide) (fun K hK => ?_)
      refine goes_ Try.func34 (by kernel_rfl) rfl #[.int .u64 s.last, .int .i8 x.2.1] (by rfl) rfl rfl (by simp only [List.map_toArray, List.map_cons, List.map_nil]; rfl) ?_
      with_reducible refine (ver_calls s.last x.2.1 _ HV1.out HV2.out).mono ?_
      rintro e w6 ⟨rfl, hb⟩
      refine ⟨_, rfl, ?_⟩
      have HP6 := Aside0.mk (HPD.out.below hb)
      have HB6 := Aside0.mk (bel_trans HB.out hb)
      have HX6 := Aside0.mk (blk_below HX.out hb)
      clear hb HPD HB HX
      refine hK.out _ _ ⟨((blk_cell HX6.out 1).trans rfl), HP6.out.r.y1⟩ (fun hHeld => ?_)
      clear hK K
      refine norm_ (a' := ?_) ?_ ?_
      rotate_left
      ·
       show Act.put _ (some 51) _ = _
       simp only [Act.put, List.setIfInBounds_toArray, List.set_cons_zero, List.set_cons_succ, i64_w, i32_w]
       rfl
      refine pure_ (i := 7) (N := some 7) (v := ?_) (a' := ?_) #[true, true, true, true, true, true, true, true] rfl rfl (any_of HT_.out (by kernel_rfl)) (fun _ _ _ h => h) (Or.inl ⟨by rfl, ?_⟩) ?_ ?_
      rotate_left
      ·
       intro w'
       go_simp
       with_reducible rfl
      rotate_left
      ·
       simp only [Act.put, List.setIfInBounds_toArray, List.set_cons_zero, List.set_cons_succ, i64_w, i32_w]
       rfl
      refine done_ (done_of HT_.out (by kernel_rfl)) ?_
      clear hHeld
      have b0 := (blk_cell HX6.out 0).trans rfl
      have b2 := (blk_cell HX6.out 2).trans rfl
      have b3 := (blk_cell HX6.out 3).trans rfl
      have b4 := (blk_cell HX6.out 4).trans rfl
      have b5 := (blk_cell HX6.out 5).trans rfl
      cases k0 : (x.1.tmod 6 == 0) with
      | true =>
       obtain ⟨e1, he1⟩ : ∃ z, (s.lay ⟨verOf s.last x.2.1, false, x.2.2.1.1, x.2.2.1.2.1, x.2.2.1.2.2⟩).1 = z := ⟨_, rfl⟩
       obtain ⟨s2, hs2⟩ : ∃ z, (s.lay ⟨verOf s.last x.2.1, false, x.2.2.1.1, x.2.2.1.2.1, x.2.2.1.2.2⟩).2 = z := ⟨_, rfl⟩
       have HE1 := Aside0.mk he1
       have HS2 := Aside0.mk hs2
       clear he1 hs2
       have HD1 := Aside0.mk (show (layD s ⟨verOf s.last x.2.1, false, x.2.2.1.1, x.2.2.1.2.1, x.2.2.1.2.2⟩).1 = e1 by rw [layD_lay s rfl]; exact HE1.out)
       have HD2 := Aside0.mk (show (layD s ⟨verOf s.last x.2.1, false, x.2.2.1.1, x.2.2.1.2.1, x.2.2.1.2.2⟩).2 = s2 by rw [layD_lay s rfl]; exact HS2.out)
       go_wp2
       have HPD := Aside0.mk (HP6.out.below (below_drew (Below.refl _ _)))
       have HB := Aside0.mk (bel_trans HB6.out (below_drew (Below.refl _ _)))
       have HX := Aside0.mk (blk_below HX6.out (below_drew (Below.refl _ _)))
       clear HP6 HB6 HX6
       clear b0 b2 b3 b4 b5
       refine start_ (n := 12) (S := fun w' => w'.cell? ⟨bx, 2, none⟩ = some (.int .u32 x.2.2.1.1) ∧ w'.cell? ⟨bx, 3, none⟩ = some (.slice A1 x.2.2.1.2.1.length c1) ∧ w'.cell? ⟨bx, 4, none⟩ = some (.slice A2 x.2.2.1.2.2.length c2)) (ds := []) #[false, false, false, false, false, false, false, false, false, false, false, false] (by kernel_rfl) rfl rfl ⟨((blk_cell HX.out 2).trans rfl), ((blk_cell HX.out 3).trans rfl), ((blk_cell HX.out 4).trans rfl)⟩ (fun hHeld => ?_)
       refine with_tabW pl.tab19 pl.bits19 (fun HT_ HW_ => ?_)
       generalize w6.drew = wd at HPD HB HX hHeld ⊢
       refine pure_ (i := 0) (N := some 79) (v := ?_) (a' := ?_) #[true, false, false, false, false, false, false, false, false, false, false, false] rfl rfl (any_of HT_.out (by kernel_rfl)) (fun _ _ _ h => h) (Or.inl ⟨by rfl, ?_⟩) ?_ ?_
       rotate_left
       ·
        intro w'
        go_simp
        with_reducible rfl
       rotate_left
       ·
        simp only [Act.put, List.setIfInBounds_toArray, List.set_cons_zero, List.set_cons_succ, i64_w, i32_w]
        rfl
       refine pure_ (i := 1) (N := some 80) (v := ?_) (a' := ?_) #[true, true, false, false, false, false, false, false, false, false, false, false] rfl rfl (any_of HT_.out (by kernel_rfl)) (fun _ _ _ h => h) (Or.inl ⟨by rfl, ?_⟩) ?_ ?_
       rotate_left
       ·
        intro w'
        go_simp
        with_reducible rfl
       rotate_left
       ·
        simp only [Act.put, List.setIfInBounds_toArray, List.set_cons_zero, List.set_cons_succ, i64_w, i32_w]
        rfl
       refine pure_ (i := 2) (N := some 81) (v := ?_) (a' := ?_) #[true, true, true, false, false, false, false, false, false, false, false, false] rfl rfl (any_of HT_.out (by kernel_rfl)) (fun _ _ _ h => h) (Or.inl ⟨by rfl, ?_⟩) ?_ ?_
       rotate_left
       ·
        intro w'
        go_simp
        with_reducible rfl
       rotate_left
       ·
        simp only [Act.put, List.setIfInBounds_toArray, List.set_cons_zero, List.set_cons_succ, i64_w, i32_w]
        rfl
       refine pure_ (i := 5) (N := some 84) (v := ?_) (a' := ?_) #[true, true, true, false, false, true, false, false, false, false, false, false] rfl rfl (any_of HT_.out (by kernel_rfl)) (fun _ _ _ h => h) (Or.inl ⟨by rfl, ?_⟩) ?_ ?_
       rotate_left
       ·
        intro w'
        go_simp
        with_reducible rfl
       rotate_left
       ·
        simp only [Act.put, List.setIfInBounds_toArray, List.set_cons_zero, List.set_cons_succ, i64_w, i32_w]
        rfl
       refine pure_ (i := 6) (N := some 85) (v := ?_) (a' := ?_) #[true, true, true, false, false, true, true, false, false, false, false, false] rfl rfl (any_of HT_.out (by kernel_rfl)) (fun _ _ _ h => h) (Or.inl ⟨by rfl, ?_⟩) ?_ ?_
       rotate_left
       ·
        intro w'
        go_simp
        with_reducible rfl
       rotate_left
       ·
        simp only [Act.put, List.setIfInBounds_toArray, List.set_cons_zero, List.set_cons_succ, i64_w, i32_w]
        rfl
       refine pure_ (i := 7) (N := some 86) (v := ?_) (a' := ?_) #[true, true, true, false, false, true, true, true, false, false, false, false] rfl rfl (any_of HT_.out (by kernel_rfl)) (fun _ _ _ h => h) (Or.inl ⟨by rfl, ?_⟩) ?_ ?_
       rotate_left
       ·
        intro w'
        go_simp
        with_reducible rfl
       rotate_left
       ·
        simp only [Act.put, List.setIfInBounds_toArray, List.set_cons_zero, List.set_cons_succ, i64_w, i32_w]
        rfl
       refine take_ (i := 3) (N := some 82) (v := ?_) (a' := ?_) #[true, true, true, true, false, true, true, true, false, false, false, false] rfl rfl (take_ofW HT_.out HW_.out (by kernel_rfl)) (fun _ _ _ h => h) (Or.inl ⟨by rfl, ?_⟩) hHeld ?_ ?_
       rotate_left
       ·
        rintro w' ⟨s0, s1, s2⟩
        go_simp
        with_reducible rfl
       rotate_left
       ·
        simp only [Act.put, List.setIfInBounds_toArray, List.set_cons_zero, List.set_cons_succ, i64_w, i32_w]
        rfl
       refine take_ (i := 8) (N := some 87) (v := ?_) (a' := ?_) #[true, true, true, true, false, true, true, true, true, false, false, false] rfl rfl (take_ofW HT_.out HW_.out (by kernel_rfl)) (fun _ _ _ h => h) (Or.inl ⟨by rfl, ?_⟩) hHeld ?_ ?_
       rotate_left
       ·
        rintro w' ⟨s0, s1, s2⟩
        go_simp
        with_reducible rfl
       rotate_left
       ·
        simp only [Act.put, List.setIfInBounds_toArray, List.set_cons_zero, List.set_cons_succ, i64_w, i32_w]
        rfl
       refine pure_ (i := 9) (N := some 88) (v := ?_) (a' := ?_) #[true, true, true, true, false, true, true, true, true, true, false, false] rfl rfl (any_of HT_.out (by kernel_rfl)) (fun _ _ _ h => h) (Or.inl ⟨by rfl, ?_⟩) ?_ ?_
       rotate_left
       ·
        intro w'
        go_simp
        with_reducible rfl
       rotate_left
       ·
        simp only [Act.put, List.setIfInBounds_toArray, List.set_cons_zero, List.set_cons_succ, i64_w, i32_w]
        rfl
       refine one_ (i := 4) (N := some 83) #[true, true, true, true, true, true, true, true, true, true, false, false] rfl rfl (one_of HT_.out (by kernel_rfl)) (by decide) (fun K hK => ?_)
       refine goes_ Try.func25 (by kernel_rfl) rfl #[.pointer (some ⟨g, 0, none⟩), .int .u64 (verOf s.last x.2.1), .agg #[.int .u32 x.2.2.1.1, .slice A1 x.2.2.1.2.1.length c1, .slice A2 x.2.2.1.2.2.length c2]] (by rfl) rfl rfl (by simp only [List.map_toArray, List.map_cons, List.map_nil]; rfl) ?_
       with_reducible refine (PX.put HPD.out.p ⟨verOf s.last x.2.1, false, x.2.2.1.1, x.2.2.1.2.1, x.2.2.1.2.2⟩ A1 c1 A2 c2 rfl (parts_op (HO.out.below HB.out) HSM.out) HVL.out.1 (fun k hk => hk.elim)).mono ?_
       rintro e w7 ⟨rfl, hP, hO⟩
       refine ⟨_, rfl, ?_⟩
       rw [HE1.out]
       rw [HS2.out] at hP
       have HPp := Aside0.mk hP
       have HBp := Aside0.mk hP.at0
       have HRp := Aside0.mk (HPD.out.r.tt hO hP.at0)
       have HXp := Aside0.mk (blk_tt HX.out hO (by decide) (by decide))
       clear hP hO HPD HB HX
       refine hK.out _ _ ⟨((blk_cell HXp.out 2).trans rfl), ((blk_cell HXp.out 3).trans rfl), ((blk_cell HXp.out 4).trans rfl)⟩ (fun hHeld => ?_)
       clear hK K
       refine norm_ (a' := ?_) ?_ ?_
       rotate_left
       ·
        show Act.put _ (some 83) _ = _
        simp only [Act.put, List.setIfInBounds_toArray, List.set_cons_zero, List.set_cons_succ, i64_w, i32_w]
        rfl
       refine one_ (i := 10) (N := some 89) #[true, true, true, true, true, true, true, true, true, true, true, false] rfl rfl (one_of HT_.out (by kernel_rfl)) (by decide) (fun K hK => ?_)
       refine goes_ Try.func36 (by kernel_rfl) rfl #[.pointer (some ⟨gr, 0, none⟩), .agg #[.int .u64 (verOf s.last x.2.1), .bool false, .int .u32 x.2.2.1.1, .slice A1 x.2.2.1.2.1.length c1, .slice A2 x.2.2.1.2.2.length c2]] (by rfl) rfl rfl (by simp only [List.map_toArray, List.map_cons, List.map_nil]; rfl) ?_
       with_reducible refine (RX.lay HRp.out ⟨verOf s.last x.2.1, false, x.2.2.1.1, x.2.2.1.2.1, x.2.2.1.2.2⟩ A1 c1 A2 c2 false rfl (fr_op HO.out _)).mono ?_
       rintro e w8 ⟨rfl, hR, hO⟩
       refine ⟨_, rfl, ?_⟩
       rw [HD1.out]
       rw [HD2.out] at hR
       have HP8 := Aside0.mk (Both.mk (PX.tr HPp.out hO hR.at0) hR)
       have HB8 := Aside0.mk hR.at0
       have HX8 := Aside0.mk (blk_tr HXp.out hO (by decide) (by decide))
       clear hR hO HPp HBp HRp HXp
       refine hK.out _ _ ⟨((blk_cell HX8.out 2).trans rfl), ((blk_cell HX8.out 3).trans rfl), ((blk_cell HX8.out 4).trans rfl)⟩ (fun hHeld => ?_)
       clear hK K
       refine norm_ (a' := ?_) ?_ ?_
       rotate_left
       ·
        show Act.put _ (some 89) _ = _
        simp only [Act.put, List.setIfInBounds_toArray, List.set_cons_zero, List.set_cons_succ, i64_w, i32_w]
        rfl
       refine pure_ (i := 11) (N := some 90) (v := ?_) (a' := ?_) #[true, true, true, true, true, true, true, true, true, true, true, true] rfl rfl (any_of HT_.out (by kernel_rfl)) (fun _ _ _ h => h) (Or.inl ⟨by rfl, ?_⟩) ?_ ?_
       rotate_left
       ·
        intro w'
        go_simp
        with_reducible rfl
       rotate_left
       ·
        simp only [Act.put, List.setIfInBounds_toArray, List.set_cons_zero, List.set_cons_succ, i64_w, i32_w]
        rfl
       refine done_ (done_of HT_.out (by kernel_rfl)) ?_
       clear hHeld
       have qe : (e1 != e1) = false := by simp
       go_wp2
       have HP9 := Aside0.mk (HP8.out.below (below_drew (Below.refl _ _)))
       have HB9 := Aside0.mk (bel_trans HB8.out (below_drew (Below.refl _ _)))
       clear HP8 HB8
       obtain ⟨ar, cr, yr0, -⟩ := HP9.out.r.cells
       have HYR := Aside0.mk yr0
       clear yr0
       have ql : (s2.last != s2.last) = false := by simp
       have ql2 : ((s2.L.length : Int) != (s2.L.length : Int)) = false := by simp
       refine start_ (n := 17) (S := fun w' => w'.cell? ⟨gr, 1, none⟩ = some (.int .u64 s2.last) ∧ w'.cell? ⟨gr, 0, none⟩ = some (.slice ar s2.L.length cr)) (ds := []) #[false, false, false, false, false, false, false, false, false, false, false, false, false, false, false, false, false] (by kernel_rfl) rfl rfl ⟨HP9.out.r.y1, HYR.out⟩ (fun hHeld => ?_)
       refine with_tabW pl.tab32 pl.bits32 (fun HT_ HW_ => ?_)
       generalize w8.drew = we at HP9 HB9 HYR hHeld ⊢
       refine pure_ (i := 0) (N := some 148) (v := ?_) (a' := ?_) #[true, false, false, false, false, false, false, false, false, false, false, false, false, false, false, false, false] rfl rfl (any_of HT_.out (by kernel_rfl)) (fun _ _ _ h => h) (Or.inl ⟨by rfl, ?_⟩) ?_ ?_
       rotate_left
       ·
        intro w'
        go_simp
        with_reducible rfl
       rotate_left
       ·
        simp only [Act.put, List.setIfInBounds_toArray, List.set_cons_zero, List.set_cons_succ, i64_w, i32_w]
        rfl
       refine pure_ (i := 2) (N := some 150) (v := ?_) (a' := ?_) #[true, false, true, false, false, false, false, false, false, false, false, false, false, false, false, false, false] rfl rfl (any_of HT_.out (by kernel_rfl)) (fun _ _ _ h => h) (Or.inl ⟨by rfl, ?_⟩) ?_ ?_
       rotate_left
       ·
        intro w'
        go_simp
        with_reducible rfl
       rotate_left
       ·
        simp only [Act.put, List.setIfInBounds_toArray, List.set_cons_zero, List.set_cons_succ, i64_w, i32_w]
        rfl
       refine pure_ (i := 3) (N := some 151) (v := ?_) (a' := ?_) #[true, false, true, true, false, false, false, false, false, false, false, false, false, false, false, false, false] rfl rfl (any_of HT_.out (by kernel_rfl)) (fun _ _ _ h => h) (Or.inl ⟨by rfl, ?_⟩) ?_ ?_
       rotate_left
       ·
        intro w'
        go_simp
        with_reducible rfl
       rotate_left
       ·
        simp only [Act.put, List.setIfInBounds_toArray, List.set_cons_zero, List.set_cons_succ, i64_w, i32_w]
        rfl
       refine pure_ (i := 4) (N := some 152) (v := ?_) (a' := ?_) #[true, false, true, true, true, false, false, false, false, false, false, false, false, false, false, false, false] rfl rfl (any_of HT_.out (by kernel_rfl)) (fun _ _ _ h => h) (Or.inl ⟨by rfl, ?_⟩) ?_ ?_
       rotate_left
       ·
        intro w'
        go_simp
        with_reducible rfl
       rotate_left
       ·
        simp only [Act.put, List.setIfInBounds_toArray, List.set_cons_zero, List.set_cons_succ, i64_w, i32_w]
        rfl
       refine take_ (i := 5) (N := some 153) (v := ?_) (a' := ?_) #[true, false, true, true, true, true, false, false, false, false, false, false, false, false, false, false, false] rfl rfl (take_ofW HT_.out HW_.out (by kernel_rfl)) (fun _ _ _ h => h) (Or.inl ⟨by rfl, ?_⟩) hHeld ?_ ?_
       rotate_left
       ·
        rintro w' ⟨s0, s1⟩
        go_simp
        with_reducible rfl
       rotate_left
       ·
        simp only [Act.put, List.setIfInBounds_toArray, List.set_cons_zero, List.set_cons_succ, i64_w, i32_w]
        rfl
       refine one_ (i := 1) (N := some 149) #[true, true, true, true, true, true, false, false, false, false, false, false, false, false, false, false, false] rfl rfl (one_of HT_.out (by kernel_rfl)) (by decide) (fun K hK => ?_)
       refine goes_ Try.func27 (by kernel_rfl) rfl #[.pointer (some ⟨g, 0, none⟩)] (by rfl) rfl rfl (by simp only [List.map_toArray, List.map_cons, List.map_nil]; rfl) ?_
       with_reducible refine (PX.last HP9.out.p).mono ?_
       rintro e wa ⟨rfl, -, hb⟩
       refine ⟨_, rfl, ?_⟩
       have HPa := Aside0.mk (HP9.out.below hb)
       have HBa := Aside0.mk (bel_trans HB9.out hb)
       have HYRa := Aside0.mk (pw_cell_below hb HYR.out)
       clear hb HP9 HB9 HYR
       refine hK.out _ _ ⟨HPa.out.r.y1, HYRa.out⟩ (fun hHeld => ?_)
       clear hK K
       refine norm_ (a' := ?_) ?_ ?_
       rotate_left
       ·
        show Act.put _ (some 149) _ = _
        simp only [Act.put, List.setIfInBounds_toArray, List.set_cons_zero, List.set_cons_succ, i64_w, i32_w]
        rfl
       refine pure_ (i := 6) (N := some 154) (v := ?_) (a' := ?_) #[true, true, true, true, true, true, true, false, false, false, false, false, false, false, false, false, false] rfl rfl (any_of HT_.out (by kernel_rfl)) (fun _ _ _ h => h) (Or.inl ⟨by rfl, ?_⟩) ?_ ?_
       rotate_left
       ·
        intro w'
        go_simp
        with_reducible rfl
       rotate_left
       ·
        simp only [Act.put, List.setIfInBounds_toArray, List.set_cons_zero, List.set_cons_succ, i64_w, i32_w]
        rfl
       refine pure_ (i := 7) (N := some 155) (v := ?_) (a' := ?_) #[true, true, true, true, true, true, true, true, false, false, false, false, false, false, false, false, false] rfl rfl (any_of HT_.out (by kernel_rfl)) (fun _ _ _ h => h) (Or.inl ⟨by rfl, ?_⟩) ?_ ?_
       rotate_left
       ·
        intro w'
        go_simp
        with_reducible rfl
       rotate_left
       ·
        simp only [Act.put, List.setIfInBounds_toArray, List.set_cons_zero, List.set_cons_succ, i64_w, i32_w]
        rfl
       refine pure_ (i := 8) (N := some 156) (v := ?_) (a' := ?_) #[true, true, true, true, true, true, true, true, true, false, false, false, false, false, false, false, false] rfl rfl (any_of HT_.out (by kernel_rfl)) (fun _ _ _ h => h) (Or.inl ⟨by rfl, ?_⟩) ?_ ?_
       rotate_left
       ·
        intro w'
        go_simp
        with_reducible rfl
       rotate_left
       ·
        simp only [Act.put, List.setIfInBounds_toArray, List.set_cons_zero, List.set_cons_succ, i64_w, i32_w]
        rfl
       refine pure_ (i := 10) (N := some 158) (v := ?_) (a' := ?_) #[true, true, true, true, true, true, true, true, true, false, true, false, false, false, false, false, false] rfl rfl (any_of HT_.out (by kernel_rfl)) (fun _ _ _ h => h) (Or.inl ⟨by rfl, ?_⟩) ?_ ?_
       rotate_left
       ·
        intro w'
        go_simp
        with_reducible rfl
       rotate_left
       ·
        simp only [Act.put, List.setIfInBounds_toArray, List.set_cons_zero, List.set_cons_succ, i64_w, i32_w]
        rfl
       refine pure_ (i := 11) (N := some 159) (v := ?_) (a' := ?_) #[true, true, true, true, true, true, true, true, true, false, true, true, false, false, false, false, false] rfl rfl (any_of HT_.out (by kernel_rfl)) (fun _ _ _ h => h) (Or.inl ⟨by rfl, ?_⟩) ?_ ?_
       rotate_left
       ·
        intro w'
        go_simp
        with_reducible rfl
       rotate_left
       ·
        simp only [Act.put, List.setIfInBounds_toArray, List.set_cons_zero, List.set_cons_succ, i64_w, i32_w]
        rfl
       refine pure_ (i := 12) (N := some 160) (v := ?_) (a' := ?_) #[true, true, true, true, true, true, true, true, true, false, true, true, true, false, false, false, false] rfl rfl (any_of HT_.out (by kernel_rfl)) (fun _ _ _ h => h) (Or.inl ⟨by rfl, ?_⟩) ?_ ?_
       rotate_left
       ·
        intro w'
        go_simp
        with_reducible rfl
       rotate_left
       ·
        simp only [Act.put, List.setIfInBounds_toArray, List.set_cons_zero, List.set_cons_succ, i64_w, i32_w]
        rfl
       refine take_ (i := 13) (N := some 161) (v := ?_) (a' := ?_) #[true, true, true, true, true, true, true, true, true, false, true, true, true, true, false, false, false] rfl rfl (take_ofW HT_.out HW_.out (by kernel_rfl)) (fun _ _ _ h => h) (Or.inl ⟨by rfl, ?_⟩) hHeld ?_ ?_
       rotate_left
       ·
        rintro w' ⟨s0, s1⟩
        go_simp
        with_reducible rfl
       rotate_left
       ·
        simp only [Act.put, List.setIfInBounds_toArray, List.set_cons_zero, List.set_cons_succ, i64_w, i32_w]
        rfl
       refine pure_ (i := 14) (N := some 162) (v := ?_) (a' := ?_) #[true, true, true, true, true, true, true, true, true, false, true, true, true, true, true, false, false] rfl rfl (any_of HT_.out (by kernel_rfl)) (fun _ _ _ h => h) (Or.inl ⟨by rfl, ?_⟩) ?_ ?_
       rotate_left
       ·
        intro w'
        go_simp
        with_reducible rfl
       rotate_left
       ·
        simp only [Act.put, List.setIfInBounds_toArray, List.set_cons_zero, List.set_cons_succ, i64_w, i32_w]
        rfl
       refine one_ (i := 9) (N := some 157) #[true, true, true, true, true, true, true, true, true, true, true, true, true, true, true, false, false] rfl rfl (one_of HT_.out (by kernel_rfl)) (by decide) (fun K hK => ?_)
       refine goes_ Try.func29 (by kernel_rfl) rfl #[.pointer (some ⟨g, 0, none⟩)] (by rfl) rfl rfl (by simp only [List.map_toArray, List.map_cons, List.map_nil]; rfl) ?_
       with_reducible refine (PX.rows_ HPa.out.p).mono ?_
       rintro e wb ⟨rfl, -, hb⟩
       refine ⟨_, rfl, ?_⟩
       have HPb := Aside0.mk (HPa.out.below hb)
       have HBb := Aside0.mk (bel_trans HBa.out hb)
       have HYRb := Aside0.mk (pw_cell_below hb HYRa.out)
       clear hb HPa HBa HYRa
       refine hK.out _ _ ⟨HPb.out.r.y1, HYRb.out⟩ (fun hHeld => ?_)
       clear hK K
       refine norm_ (a' := ?_) ?_ ?_
       rotate_left
       ·
        show Act.put _ (some 157) _ = _
        simp only [Act.put, List.setIfInBounds_toArray, List.set_cons_zero, List.set_cons_succ, i64_w, i32_w]
        rfl
       refine pure_ (i := 15) (N := some 163) (v := ?_) (a' := ?_) #[true, true, true, true, true, true, true, true, true, true, true, true, true, true, true, true, false] rfl rfl (any_of HT_.out (by kernel_rfl)) (fun _ _ _ h => h) (Or.inl ⟨by rfl, ?_⟩) ?_ ?_
       rotate_left
       ·
        intro w'
        go_simp
        with_reducible rfl
       rotate_left
       ·
        simp only [Act.put, List.setIfInBounds_toArray, List.set_cons_zero, List.set_cons_succ, i64_w, i32_w]
        rfl
       refine pure_ (i := 16) (N := some 164) (v := ?_) (a' := ?_) #[true, true, true, true, true, true, true, true, true, true, true, true, true, true, true, true, true] rfl rfl (any_of HT_.out (by kernel_rfl)) (fun _ _ _ h => h) (Or.inl ⟨by rfl, ?_⟩) ?_ ?_
       rotate_left
       ·
        intro w'
        go_simp
        with_reducible rfl
       rotate_left
       ·
        simp only [Act.put, List.setIfInBounds_toArray, List.set_cons_zero, List.set_cons_succ, i64_w, i32_w]
        rfl
       refine done_ (done_of HT_.out (by kernel_rfl)) ?_
       clear hHeld
       go_wp2
       go_roundg gk
       case measure => omega
       case rel => exact ⟨i + 1, s2, congrArg (Value.int .i64) HIN.out, ⟨by have := HI60.out; omega, by have := HI.out; have := HI60.out; omega⟩, HPb, ⟨by rw [← HS2.out]; exact HOM.out.lay HUP.out HSM.out HXO.out.2.2.1.1 HVL.out.1 HVL.out.2⟩⟩
      | false =>
       cases k1 : (x.1.tmod 6 == 1) with
       | true =>
        obtain ⟨e1, he1⟩ : ∃ z, (s.lay ⟨verOf s.last x.2.1, false, x.2.2.1.1, x.2.2.1.2.1, x.2.2.1.2.2⟩).1 = z := ⟨_, rfl⟩
        obtain ⟨s2, hs2⟩ : ∃ z, (s.lay ⟨verOf s.last x.2.1, false, x.2.2.1.1, x.2.2.1.2.1, x.2.2.1.2.2⟩).2 = z := ⟨_, rfl⟩
        have HE1 := Aside0.mk he1
        have HS2 := Aside0.mk hs2
        clear he1 hs2
        have HD1 := Aside0.mk (show (layD s ⟨verOf s.last x.2.1, false, x.2.2.1.1, x.2.2.1.2.1, x.2.2.1.2.2⟩).1 = e1 by rw [layD_lay s rfl]; exact HE1.out)
        have HD2 := Aside0.mk (show (layD s ⟨verOf s.last x.2.1, false, x.2.2.1.1, x.2.2.1.2.1, x.2.2.1.2.2⟩).2 = s2 by rw [layD_lay s rfl]; exact HS2.out)
        go_wp2
        have HPD := Aside0.mk (HP6.out.below (below_drew (Below.refl _ _)))
        have HB := Aside0.mk (bel_trans HB6.out (below_drew (Below.refl _ _)))
        have HX := Aside0.mk (blk_below HX6.out (below_drew (Below.refl _ _)))
        clear HP6 HB6 HX6
        clear b0 b2 b3 b4 b5
        refine start_ (n := 12) (S := fun w' => w'.cell? ⟨bx, 2, none⟩ = some (.int .u32 x.2.2.1.1) ∧ w'.cell? ⟨bx, 3, none⟩ = some (.slice A1 x.2.2.1.2.1.length c1) ∧ w'.cell? ⟨bx, 4, none⟩ = some (.slice A2 x.2.2.1.2.2.length c2)) (ds := []) #[false, false, false, false, false, false, false, false, false, false, false, false] (by kernel_rfl) rfl rfl ⟨((blk_cell HX.out 2).trans rfl), ((blk_cell HX.out 3).trans rfl), ((blk_cell HX.out 4).trans rfl)⟩ (fun hHeld => ?_)
        refine with_tabW pl.tab19 pl.bits19 (fun HT_ HW_ => ?_)
        generalize w6.drew = wd at HPD HB HX hHeld ⊢
        refine pure_ (i := 0) (N := some 79) (v := ?_) (a' := ?_) #[true, false, false, false, false, false, false, false, false, false, false, false] rfl rfl (any_of HT_.out (by kernel_rfl)) (fun _ _ _ h => h) (Or.inl ⟨by rfl, ?_⟩) ?_ ?_
        rotate_left
        ·
         intro w'
         go_simp
         with_reducible rfl
        rotate_left
        ·
         simp only [Act.put, List.setIfInBounds_toArray, List.set_cons_zero, List.set_cons_succ, i64_w, i32_w]
         rfl
        refine pure_ (i := 1) (N := some 80) (v := ?_) (a' := ?_) #[true, true, false, false, false, false, false, false, false, false, false, false] rfl rfl (any_of HT_.out (by kernel_rfl)) (fun _ _ _ h => h) (Or.inl ⟨by rfl, ?_⟩) ?_ ?_
        rotate_left
        ·
         intro w'
         go_simp
         with_reducible rfl
        rotate_left
        ·
         simp only [Act.put, List.setIfInBounds_toArray, List.set_cons_zero, List.set_cons_succ, i64_w, i32_w]
         rfl
        refine pure_ (i := 2) (N := some 81) (v := ?_) (a' := ?_) #[true, true, true, false, false, false, false, false, false, false, false, false] rfl rfl (any_of HT_.out (by kernel_rfl)) (fun _ _ _ h => h) (Or.inl ⟨by rfl, ?_⟩) ?_ ?_
        rotate_left
        ·
         intro w'
         go_simp
         with_reducible rfl
        rotate_left
        ·
         simp only [Act.put, List.setIfInBounds_toArray, List.set_cons_zero, List.set_cons_succ, i64_w, i32_w]
         rfl
        refine pure_ (i := 5) (N := some 84) (v := ?_) (a' := ?_) #[true, true, true, false, false, true, false, false, false, false, false, false] rfl rfl (any_of HT_.out (by kernel_rfl)) (fun _ _ _ h => h) (Or.inl ⟨by rfl, ?_⟩) ?_ ?_
        rotate_left
        ·
         intro w'
         go_simp
         with_reducible rfl
        rotate_left
        ·
         simp only [Act.put, List.setIfInBounds_toArray, List.set_cons_zero, List.set_cons_succ, i64_w, i32_w]
         rfl
        refine pure_ (i := 6) (N := some 85) (v := ?_) (a' := ?_) #[true, true, true, false, false, true, true, false, false, false, false, false] rfl rfl (any_of HT_.out (by kernel_rfl)) (fun _ _ _ h => h) (Or.inl ⟨by rfl, ?_⟩) ?_ ?_
        rotate_left
        ·
         intro w'
         go_simp
         with_reducible rfl
        rotate_left
        ·
         simp only [Act.put, List.setIfInBounds_toArray, List.set_cons_zero, List.set_cons_succ, i64_w, i32_w]
         rfl
        refine pure_ (i := 7) (N := some 86) (v := ?_) (a' := ?_) #[true, true, true, false, false, true, true, true, false, false, false, false] rfl rfl (any_of HT_.out (by kernel_rfl)) (fun _ _ _ h => h) (Or.inl ⟨by rfl, ?_⟩) ?_ ?_
        rotate_left
        ·
         intro w'
         go_simp
         with_reducible rfl
        rotate_left
        ·
         simp only [Act.put, List.setIfInBounds_toArray, List.set_cons_zero, List.set_cons_succ, i64_w, i32_w]
         rfl
        refine take_ (i := 3) (N := some 82) (v := ?_) (a' := ?_) #[true, true, true, true, false, true, true, true, false, false, false, false] rfl rfl (take_ofW HT_.out HW_.out (by kernel_rfl)) (fun _ _ _ h => h) (Or.inl ⟨by rfl, ?_⟩) hHeld ?_ ?_
        rotate_left
        ·
         rintro w' ⟨s0, s1, s2⟩
         go_simp
         with_reducible rfl
        rotate_left
        ·
         simp only [Act.put, List.setIfInBounds_toArray, List.set_cons_zero, List.set_cons_succ, i64_w, i32_w]
         rfl
        refine take_ (i := 8) (N := some 87) (v := ?_) (a' := ?_) #[true, true, true, true, false, true, true, true, true, false, false, false] rfl rfl (take_ofW HT_.out HW_.out (by kernel_rfl)) (fun _ _ _ h => h) (Or.inl ⟨by rfl, ?_⟩) hHeld ?_ ?_
        rotate_left
        ·
         rintro w' ⟨s0, s1, s2⟩
         go_simp
         with_reducible rfl
        rotate_left
        ·
         simp only [Act.put, List.setIfInBounds_toArray, List.set_cons_zero, List.set_cons_succ, i64_w, i32_w]
         rfl
        refine pure_ (i := 9) (N := some 88) (v := ?_) (a' := ?_) #[true, true, true, true, false, true, true, true, true, true, false, false] rfl rfl (any_of HT_.out (by kernel_rfl)) (fun _ _ _ h => h) (Or.inl ⟨by rfl, ?_⟩) ?_ ?_
        rotate_left
        ·
         intro w'
         go_simp
         with_reducible rfl
        rotate_left
        ·
         simp only [Act.put, List.setIfInBounds_toArray, List.set_cons_zero, List.set_cons_succ, i64_w, i32_w]
         rfl
        refine one_ (i := 4) (N := some 83) #[true, true, true, true, true, true, true, true, true, true, false, false] rfl rfl (one_of HT_.out (by kernel_rfl)) (by decide) (fun K hK => ?_)
        refine goes_ Try.func25 (by kernel_rfl) rfl #[.pointer (some ⟨g, 0, none⟩), .int .u64 (verOf s.last x.2.1), .agg #[.int .u32 x.2.2.1.1, .slice A1 x.2.2.1.2.1.length c1, .slice A2 x.2.2.1.2.2.length c2]] (by rfl) rfl rfl (by simp only [List.map_toArray, List.map_cons, List.map_nil]; rfl) ?_
        with_reducible refine (PX.put HPD.out.p ⟨verOf s.last x.2.1, false, x.2.2.1.1, x.2.2.1.2.1, x.2.2.1.2.2⟩ A1 c1 A2 c2 rfl (parts_op (HO.out.below HB.out) HSM.out) HVL.out.1 (fun k hk => hk.elim)).mono ?_
        rintro e w7 ⟨rfl, hP, hO⟩
        refine ⟨_, rfl, ?_⟩
        rw [HE1.out]
        rw [HS2.out] at hP
        have HPp := Aside0.mk hP
        have HBp := Aside0.mk hP.at0
        have HRp := Aside0.mk (HPD.out.r.tt hO hP.at0)
        have HXp := Aside0.mk (blk_tt HX.out hO (by decide) (by decide))
        clear hP hO HPD HB HX
        refine hK.out _ _ ⟨((blk_cell HXp.out 2).trans rfl), ((blk_cell HXp.out 3).trans rfl), ((blk_cell HXp.out 4).trans rfl)⟩ (fun hHeld => ?_)
        clear hK K
        refine norm_ (a' := ?_) ?_ ?_
        rotate_left
        ·
         show Act.put _ (some 83) _ = _
         simp only [Act.put, List.setIfInBounds_toArray, List.set_cons_zero, List.set_cons_succ, i64_w, i32_w]
         rfl
        refine one_ (i := 10) (N := some 89) #[true, true, true, true, true, true, true, true, true, true, true, false] rfl rfl (one_of HT_.out (by kernel_rfl)) (by decide) (fun K hK => ?_)
        refine goes_ Try.func36 (by kernel_rfl) rfl #[.pointer (some ⟨gr, 0, none⟩), .agg #[.int .u64 (verOf s.last x.2.1), .bool false, .int .u32 x.2.2.1.1, .slice A1 x.2.2.1.2.1.length c1, .slice A2 x.2.2.1.2.2.length c2]] (by rfl) rfl rfl (by simp only [List.map_toArray, List.map_cons, List.map_nil]; rfl) ?_
        with_reducible refine (RX.lay HRp.out ⟨verOf s.last x.2.1, false, x.2.2.1.1, x.2.2.1.2.1, x.2.2.1.2.2⟩ A1 c1 A2 c2 false rfl (fr_op HO.out _)).mono ?_
        rintro e w8 ⟨rfl, hR, hO⟩
        refine ⟨_, rfl, ?_⟩
        rw [HD1.out]
        rw [HD2.out] at hR
        have HP8 := Aside0.mk (Both.mk (PX.tr HPp.out hO hR.at0) hR)
        have HB8 := Aside0.mk hR.at0
        have HX8 := Aside0.mk (blk_tr HXp.out hO (by decide) (by decide))
        clear hR hO HPp HBp HRp HXp
        refine hK.out _ _ ⟨((blk_cell HX8.out 2).trans rfl), ((blk_cell HX8.out 3).trans rfl), ((blk_cell HX8.out 4).trans rfl)⟩ (fun hHeld => ?_)
        clear hK K
        refine norm_ (a' := ?_) ?_ ?_
        rotate_left
        ·
         show Act.put _ (some 89) _ = _
         simp only [Act.put, List.setIfInBounds_toArray, List.set_cons_zero, List.set_cons_succ, i64_w, i32_w]
         rfl
        refine pure_ (i := 11) (N := some 90) (v := ?_) (a' := ?_) #[true, true, true, true, true, true, true, true, true, true, true, true] rfl rfl (any_of HT_.out (by kernel_rfl)) (fun _ _ _ h => h) (Or.inl ⟨by rfl, ?_⟩) ?_ ?_
        rotate_left
        ·
         intro w'
         go_simp
         with_reducible rfl
        rotate_left
        ·
         simp only [Act.put, List.setIfInBounds_toArray, List.set_cons_zero, List.set_cons_succ, i64_w, i32_w]
         rfl
        refine done_ (done_of HT_.out (by kernel_rfl)) ?_
        clear hHeld
        have qe : (e1 != e1) = false := by simp
        go_wp2
        have HP9 := Aside0.mk (HP8.out.below (below_drew (Below.refl _ _)))
        have HB9 := Aside0.mk (bel_trans HB8.out (below_drew (Below.refl _ _)))
        clear HP8 HB8
        obtain ⟨ar, cr, yr0, -⟩ := HP9.out.r.cells
        have HYR := Aside0.mk yr0
        clear yr0
        have ql : (s2.last != s2.last) = false := by simp
        have ql2 : ((s2.L.length : Int) != (s2.L.length : Int)) = false := by simp
        refine start_ (n := 17) (S := fun w' => w'.cell? ⟨gr, 1, none⟩ = some (.int .u64 s2.last) ∧ w'.cell? ⟨gr, 0, none⟩ = some (.slice ar s2.L.length cr)) (ds := []) #[false, false, false, false, false, false, false, false, false, false, false, false, false, false, false, false, false] (by kernel_rfl) rfl rfl ⟨HP9.out.r.y1, HYR.out⟩ (fun hHeld => ?_)
        refine with_tabW pl.tab32 pl.bits32 (fun HT_ HW_ => ?_)
        generalize w8.drew = we at HP9 HB9 HYR hHeld ⊢
        refine pure_ (i := 0) (N := some 148) (v := ?_) (a' := ?_) #[true, false, false, false, false, false, false, false, false, false, false, false, false, false, false, false, false] rfl rfl (any_of HT_.out (by kernel_rfl)) (fun _ _ _ h => h) (Or.inl ⟨by rfl, ?_⟩) ?_ ?_
        rotate_left
        ·
         intro w'
         go_simp
         with_reducible rfl
        rotate_left
        ·
         simp only [Act.put, List.setIfInBounds_toArray, List.set_cons_zero, List.set_cons_succ, i64_w, i32_w]
         rfl
        refine pure_ (i := 2) (N := some 150) (v := ?_) (a' := ?_) #[true, false, true, false, false, false, false, false, false, false, false, false, false, false, false, false, false] rfl rfl (any_of HT_.out (by kernel_rfl)) (fun _ _ _ h => h) (Or.inl ⟨by rfl, ?_⟩) ?_ ?_
        rotate_left
        ·
         intro w'
         go_simp
         with_reducible rfl
        rotate_left
        ·
         simp only [Act.put, List.setIfInBounds_toArray, List.set_cons_zero, List.set_cons_succ, i64_w, i32_w]
         rfl
        refine pure_ (i := 3) (N := some 151) (v := ?_) (a' := ?_) #[true, false, true, true, false, false, false, false, false, false, false, false, false, false, false, false, false] rfl rfl (any_of HT_.out (by kernel_rfl)) (fun _ _ _ h => h) (Or.inl ⟨by rfl, ?_⟩) ?_ ?_
        rotate_left
        ·
         intro w'
         go_simp
         with_reducible rfl
        rotate_left
        ·
         simp only [Act.put, List.setIfInBounds_toArray, List.set_cons_zero, List.set_cons_succ, i64_w, i32_w]
         rfl
        refine pure_ (i := 4) (N := some 152) (v := ?_) (a' := ?_) #[true, false, true, true, true, false, false, false, false, false, false, false, false, false, false, false, false] rfl rfl (any_of HT_.out (by kernel_rfl)) (fun _ _ _ h => h) (Or.inl ⟨by rfl, ?_⟩) ?_ ?_
        rotate_left
        ·
         intro w'
         go_simp
         with_reducible rfl
        rotate_left
        ·
         simp only [Act.put, List.setIfInBounds_toArray, List.set_cons_zero, List.set_cons_succ, i64_w, i32_w]
         rfl
        refine take_ (i := 5) (N := some 153) (v := ?_) (a' := ?_) #[true, false, true, true, true, true, false, false, false, false, false, false, false, false, false, false, false] rfl rfl (take_ofW HT_.out HW_.out (by kernel_rfl)) (fun _ _ _ h => h) (Or.inl ⟨by rfl, ?_⟩) hHeld ?_ ?_
        rotate_left
        ·
         rintro w' ⟨s0, s1⟩
         go_simp
         with_reducible rfl
        rotate_left
        ·
         simp only [Act.put, List.setIfInBounds_toArray, List.set_cons_zero, List.set_cons_succ, i64_w, i32_w]
         rfl
        refine one_ (i := 1) (N := some 149) #[true, true, true, true, true, true, false, false, false, false, false, false, false, false, false, false, false] rfl rfl (one_of HT_.out (by kernel_rfl)) (by decide) (fun K hK => ?_)
        refine goes_ Try.func27 (by kernel_rfl) rfl #[.pointer (some ⟨g, 0, none⟩)] (by rfl) rfl rfl (by simp only [List.map_toArray, List.map_cons, List.map_nil]; rfl) ?_
        with_reducible refine (PX.last HP9.out.p).mono ?_
        rintro e wa ⟨rfl, -, hb⟩
        refine ⟨_, rfl, ?_⟩
        have HPa := Aside0.mk (HP9.out.below hb)
        have HBa := Aside0.mk (bel_trans HB9.out hb)
        have HYRa := Aside0.mk (pw_cell_below hb HYR.out)
        clear hb HP9 HB9 HYR
        refine hK.out _ _ ⟨HPa.out.r.y1, HYRa.out⟩ (fun hHeld => ?_)
        clear hK K
        refine norm_ (a' := ?_) ?_ ?_
        rotate_left
        ·
         show Act.put _ (some 149) _ = _
         simp only [Act.put, List.setIfInBounds_toArray, List.set_cons_zero, List.set_cons_succ, i64_w, i32_w]
         rfl
        refine pure_ (i := 6) (N := some 154) (v := ?_) (a' := ?_) #[true, true, true, true, true, true, true, false, false, false, false, false, false, false, false, false, false] rfl rfl (any_of HT_.out (by kernel_rfl)) (fun _ _ _ h => h) (Or.inl ⟨by rfl, ?_⟩) ?_ ?_
        rotate_left
        ·
         intro w'
         go_simp
         with_reducible rfl
        rotate_left
        ·
         simp only [Act.put, List.setIfInBounds_toArray, List.set_cons_zero, List.set_cons_succ, i64_w, i32_w]
         rfl
        refine pure_ (i := 7) (N := some 155) (v := ?_) (a' := ?_) #[true, true, true, true, true, true, true, true, false, false, false, false, false, false, false, false, false] rfl rfl (any_of HT_.out (by kernel_rfl)) (fun _ _ _ h => h) (Or.inl ⟨by rfl, ?_⟩) ?_ ?_
        rotate_left
        ·
         intro w'
         go_simp
         with_reducible rfl
        rotate_left
        ·
         simp only [Act.put, List.setIfInBounds_toArray, List.set_cons_zero, List.set_cons_succ, i64_w, i32_w]
         rfl
        refine pure_ (i := 8) (N := some 156) (v := ?_) (a' := ?_) #[true, true, true, true, true, true, true, true, true, false, false, false, false, false, false, false, false] rfl rfl (any_of HT_.out (by kernel_rfl)) (fun _ _ _ h => h) (Or.inl ⟨by rfl, ?_⟩) ?_ ?_
        rotate_left
        ·
         intro w'
         go_simp
         with_reducible rfl
        rotate_left
        ·
         simp only [Act.put, List.setIfInBounds_toArray, List.set_cons_zero, List.set_cons_succ, i64_w, i32_w]
         rfl
        refine pure_ (i := 10) (N := some 158) (v := ?_) (a' := ?_) #[true, true, true, true, true, true, true, true, true, false, true, false, false, false, false, false, false] rfl rfl (any_of HT_.out (by kernel_rfl)) (fun _ _ _ h => h) (Or.inl ⟨by rfl, ?_⟩) ?_ ?_
        rotate_left
        ·
         intro w'
         go_simp
         with_reducible rfl
        rotate_left
        ·
         simp only [Act.put, List.setIfInBounds_toArray, List.set_cons_zero, List.set_cons_succ, i64_w, i32_w]
         rfl
        refine pure_ (i := 11) (N := some 159) (v := ?_) (a' := ?_) #[true, true, true, true, true, true, true, true, true, false, true, true, false, false, false, false, false] rfl rfl (any_of HT_.out (by kernel_rfl)) (fun _ _ _ h => h) (Or.inl ⟨by rfl, ?_⟩) ?_ ?_
        rotate_left
        ·
         intro w'
         go_simp
         with_reducible rfl
        rotate_left
        ·
         simp only [Act.put, List.setIfInBounds_toArray, List.set_cons_zero, List.set_cons_succ, i64_w, i32_w]
         rfl
        refine pure_ (i := 12) (N := some 160) (v := ?_) (a' := ?_) #[true, true, true, true, true, true, true, true, true, false, true, true, true, false, false, false, false] rfl rfl (any_of HT_.out (by kernel_rfl)) (fun _ _ _ h => h) (Or.inl ⟨by rfl, ?_⟩) ?_ ?_
        rotate_left
        ·
         intro w'
         go_simp
         with_reducible rfl
        rotate_left
        ·
         simp only [Act.put, List.setIfInBounds_toArray, List.set_cons_zero, List.set_cons_succ, i64_w, i32_w]
         rfl
        refine take_ (i := 13) (N := some 161) (v := ?_) (a' := ?_) #[true, true, true, true, true, true, true, true, true, false, true, true, true, true, false, false, false] rfl rfl (take_ofW HT_.out HW_.out (by kernel_rfl)) (fun _ _ _ h => h) (Or.inl ⟨by rfl, ?_⟩) hHeld ?_ ?_
        rotate_left
        ·
         rintro w' ⟨s0, s1⟩
         go_simp
         with_reducible rfl
        rotate_left
        ·
         simp only [Act.put, List.setIfInBounds_toArray, List.set_cons_zero, List.set_cons_succ, i64_w, i32_w]
         rfl
        refine pure_ (i := 14) (N := some 162) (v := ?_) (a' := ?_) #[true, true, true, true, true, true, true, true, true, false, true, true, true, true, true, false, false] rfl rfl (any_of HT_.out (by kernel_rfl)) (fun _ _ _ h => h) (Or.inl ⟨by rfl, ?_⟩) ?_ ?_
        rotate_left
        ·
         intro w'
         go_simp
         with_reducible rfl
        rotate_left
        ·
         simp only [Act.put, List.setIfInBounds_toArray, List.set_cons_zero, List.set_cons_succ, i64_w, i32_w]
         rfl
        refine one_ (i := 9) (N := some 157) #[true, true, true, true, true, true, true, true, true, true, true, true, true, true, true, false, false] rfl rfl (one_of HT_.out (by kernel_rfl)) (by decide) (fun K hK => ?_)
        refine goes_ Try.func29 (by kernel_rfl) rfl #[.pointer (some ⟨g, 0, none⟩)] (by rfl) rfl rfl (by simp only [List.map_toArray, List.map_cons, List.map_nil]; rfl) ?_
        with_reducible refine (PX.rows_ HPa.out.p).mono ?_
        rintro e wb ⟨rfl, -, hb⟩
        refine ⟨_, rfl, ?_⟩
        have HPb := Aside0.mk (HPa.out.below hb)
        have HBb := Aside0.mk (bel_trans HBa.out hb)
        have HYRb := Aside0.mk (pw_cell_below hb HYRa.out)
        clear hb HPa HBa HYRa
        refine hK.out _ _ ⟨HPb.out.r.y1, HYRb.out⟩ (fun hHeld => ?_)
        clear hK K
        refine norm_ (a' := ?_) ?_ ?_
        rotate_left
        ·
         show Act.put _ (some 157) _ = _
         simp only [Act.put, List.setIfInBounds_toArray, List.set_cons_zero, List.set_cons_succ, i64_w, i32_w]
         rfl
        refine pure_ (i := 15) (N := some 163) (v := ?_) (a' := ?_) #[true, true, true, true, true, true, true, true, true, true, true, true, true, true, true, true, false] rfl rfl (any_of HT_.out (by kernel_rfl)) (fun _ _ _ h => h) (Or.inl ⟨by rfl, ?_⟩) ?_ ?_
        rotate_left
        ·
         intro w'
         go_simp
         with_reducible rfl
        rotate_left
        ·
         simp only [Act.put, List.setIfInBounds_toArray, List.set_cons_zero, List.set_cons_succ, i64_w, i32_w]
         rfl
        refine pure_ (i := 16) (N := some 164) (v := ?_) (a' := ?_) #[true, true, true, true, true, true, true, true, true, true, true, true, true, true, true, true, true] rfl rfl (any_of HT_.out (by kernel_rfl)) (fun _ _ _ h => h) (Or.inl ⟨by rfl, ?_⟩) ?_ ?_
        rotate_left
        ·
         intro w'
         go_simp
         with_reducible rfl
        rotate_left
        ·
         simp only [Act.put, List.setIfInBounds_toArray, List.set_cons_zero, List.set_cons_succ, i64_w, i32_w]
         rfl
        refine done_ (done_of HT_.out (by kernel_rfl)) ?_
        clear hHeld
        go_wp2
        go_roundg gk
        case measure => omega
        case rel => exact ⟨i + 1, s2, congrArg (Value.int .i64) HIN.out, ⟨by have := HI60.out; omega, by have := HI.out; have := HI60.out; omega⟩, HPb, ⟨by rw [← HS2.out]; exact HOM.out.lay HUP.out HSM.out HXO.out.2.2.1.1 HVL.out.1 HVL.out.2⟩⟩
       | false =>
        cases k2 : (x.1.tmod 6 == 2) with
        | true =>
         obtain ⟨e1, he1⟩ : ∃ z, (s.cut (verOf s.last x.2.1) x.2.2.1.1).1 = z := ⟨_, rfl⟩
         obtain ⟨s2, hs2⟩ : ∃ z, (s.cut (verOf s.last x.2.1) x.2.2.1.1).2 = z := ⟨_, rfl⟩
         have HE1 := Aside0.mk he1
         have HS2 := Aside0.mk hs2
         clear he1 hs2
         have HD1 := Aside0.mk (show (layD s ⟨verOf s.last x.2.1, true, x.2.2.1.1, [], []⟩).1 = e1 by rw [layD_cut]; exact HE1.out)
         have HD2 := Aside0.mk (show (layD s ⟨verOf s.last x.2.1, true, x.2.2.1.1, [], []⟩).2 = s2 by rw [layD_cut]; exact HS2.out)
         go_wp2
         have HPD := Aside0.mk (HP6.out.below (below_drew (Below.refl _ _)))
         have HB := Aside0.mk (bel_trans HB6.out (below_drew (Below.refl _ _)))
         have HX := Aside0.mk (blk_below HX6.out (below_drew (Below.refl _ _)))
         clear HP6 HB6 HX6
         clear b0 b2 b3 b4 b5
         refine start_ (n := 15) (S := fun w' => w'.cell? ⟨bx, 2, none⟩ = some (.int .u32 x.2.2.1.1)) (ds := []) #[false, false, false, false, false, false, false, false, false, false, false, false, false, false, false] (by kernel_rfl) rfl rfl (((blk_cell HX.out 2).trans rfl)) (fun hHeld => ?_)
         refine with_tabW pl.tab22 pl.bits22 (fun HT_ HW_ => ?_)
         generalize w6.drew = wd at HPD HB HX hHeld ⊢
         refine pure_ (i := 0) (N := some 93) (v := ?_) (a' := ?_) #[true, false, false, false, false, false, false, false, false, false, false, false, false, false, false] rfl rfl (any_of HT_.out (by kernel_rfl)) (fun _ _ _ h => h) (Or.inl ⟨by rfl, ?_⟩) ?_ ?_
         rotate_left
         ·
          intro w'
          go_simp
          with_reducible rfl
         rotate_left
         ·
          simp only [Act.put, List.setIfInBounds_toArray, List.set_cons_zero, List.set_cons_succ, i64_w, i32_w]
          rfl
         refine pure_ (i := 1) (N := some 94) (v := ?_) (a' := ?_) #[true, true, false, false, false, false, false, false, false, false, false, false, false, false, false] rfl rfl (any_of HT_.out (by kernel_rfl)) (fun _ _ _ h => h) (Or.inl ⟨by rfl, ?_⟩) ?_ ?_
         rotate_left
         ·
          intro w'
          go_simp
          with_reducible rfl
         rotate_left
         ·
          simp only [Act.put, List.setIfInBounds_toArray, List.set_cons_zero, List.set_cons_succ, i64_w, i32_w]
          rfl
         refine pure_ (i := 2) (N := some 95) (v := ?_) (a' := ?_) #[true, true, true, false, false, false, false, false, false, false, false, false, false, false, false] rfl rfl (any_of HT_.out (by kernel_rfl)) (fun _ _ _ h => h) (Or.inl ⟨by rfl, ?_⟩) ?_ ?_
         rotate_left
         ·
          intro w'
          go_simp
          with_reducible rfl
         rotate_left
         ·
          simp only [Act.put, List.setIfInBounds_toArray, List.set_cons_zero, List.set_cons_succ, i64_w, i32_w]
          rfl
         refine pure_ (i := 3) (N := some 96) (v := ?_) (a' := ?_) #[true, true, true, true, false, false, false, false, false, false, false, false, false, false, false] rfl rfl (any_of HT_.out (by kernel_rfl)) (fun _ _ _ h => h) (Or.inl ⟨by rfl, ?_⟩) ?_ ?_
         rotate_left
         ·
          intro w'
          go_simp
          with_reducible rfl
         rotate_left
         ·
          simp only [Act.put, List.setIfInBounds_toArray, List.set_cons_zero, List.set_cons_succ, i64_w, i32_w]
          rfl
         refine pure_ (i := 6) (N := some 99) (v := ?_) (a' := ?_) #[true, true, true, true, false, false, true, false, false, false, false, false, false, false, false] rfl rfl (any_of HT_.out (by kernel_rfl)) (fun _ _ _ h => h) (Or.inl ⟨by rfl, ?_⟩) ?_ ?_
         rotate_left
         ·
          intro w'
          go_simp
          with_reducible rfl
         rotate_left
         ·
          simp only [Act.put, List.setIfInBounds_toArray, List.set_cons_zero, List.set_cons_succ, i64_w, i32_w]
          rfl
         refine pure_ (i := 7) (N := some 100) (v := ?_) (a' := ?_) #[true, true, true, true, false, false, true, true, false, false, false, false, false, false, false] rfl rfl (any_of HT_.out (by kernel_rfl)) (fun _ _ _ h => h) (Or.inl ⟨by rfl, ?_⟩) ?_ ?_
         rotate_left
         ·
          intro w'
          go_simp
          with_reducible rfl
         rotate_left
         ·
          simp only [Act.put, List.setIfInBounds_toArray, List.set_cons_zero, List.set_cons_succ, i64_w, i32_w]
          rfl
         refine pure_ (i := 8) (N := some 101) (v := ?_) (a' := ?_) #[true, true, true, true, false, false, true, true, true, false, false, false, false, false, false] rfl rfl (any_of HT_.out (by kernel_rfl)) (fun _ _ _ h => h) (Or.inl ⟨by rfl, ?_⟩) ?_ ?_
         rotate_left
         ·
          intro w'
          go_simp
          with_reducible rfl
         rotate_left
         ·
          simp only [Act.put, List.setIfInBounds_toArray, List.set_cons_zero, List.set_cons_succ, i64_w, i32_w]
          rfl
         refine pure_ (i := 9) (N := some 102) (v := ?_) (a' := ?_) #[true, true, true, true, false, false, true, true, true, true, false, false, false, false, false] rfl rfl (any_of HT_.out (by kernel_rfl)) (fun _ _ _ h => h) (Or.inl ⟨by rfl, ?_⟩) ?_ ?_
         rotate_left
         ·
          intro w'
          go_simp
          with_reducible rfl
         rotate_left
         ·
          simp only [Act.put, List.setIfInBounds_toArray, List.set_cons_zero, List.set_cons_succ, i64_w, i32_w]
          rfl
         refine take_ (i := 4) (N := some 97) (v := ?_) (a' := ?_) #[true, true, true, true, true, false, true, true, true, true, false, false, false, false, false] rfl rfl (take_ofW HT_.out HW_.out (by kernel_rfl)) (fun _ _ _ h => h) (Or.inl ⟨by rfl, ?_⟩) hHeld ?_ ?_
         rotate_left
         ·
          intro w' s0
          go_simp
          with_reducible rfl
         rotate_left
         ·
          simp only [Act.put, List.setIfInBounds_toArray, List.set_cons_zero, List.set_cons_succ, i64_w, i32_w]
          rfl
         refine take_ (i := 10) (N := some 103) (v := ?_) (a' := ?_) #[true, true, true, true, true, false, true, true, true, true, true, false, false, false, false] rfl rfl (take_ofW HT_.out HW_.out (by kernel_rfl)) (fun _ _ _ h => h) (Or.inl ⟨by rfl, ?_⟩) hHeld ?_ ?_
         rotate_left
         ·
          intro w' s0
          go_simp
          with_reducible rfl
         rotate_left
         ·
          simp only [Act.put, List.setIfInBounds_toArray, List.set_cons_zero, List.set_cons_succ, i64_w, i32_w]
          rfl
         refine pure_ (i := 11) (N := some 104) (v := ?_) (a' := ?_) #[true, true, true, true, true, false, true, true, true, true, true, true, false, false, false] rfl rfl (any_of HT_.out (by kernel_rfl)) (fun _ _ _ h => h) (Or.inl ⟨by rfl, ?_⟩) ?_ ?_
         rotate_left
         ·
          intro w'
          go_simp
          with_reducible rfl
         rotate_left
         ·
          simp only [Act.put, List.setIfInBounds_toArray, List.set_cons_zero, List.set_cons_succ, i64_w, i32_w]
          rfl
         refine pure_ (i := 12) (N := some 105) (v := ?_) (a' := ?_) #[true, true, true, true, true, false, true, true, true, true, true, true, true, false, false] rfl rfl (any_of HT_.out (by kernel_rfl)) (fun _ _ _ h => h) (Or.inl ⟨by rfl, ?_⟩) ?_ ?_
         rotate_left
         ·
          intro w'
          go_simp
          with_reducible rfl
         rotate_left
         ·
          simp only [Act.put, List.setIfInBounds_toArray, List.set_cons_zero, List.set_cons_succ, i64_w, i32_w]
          rfl
         refine one_ (i := 5) (N := some 98) #[true, true, true, true, true, true, true, true, true, true, true, true, true, false, false] rfl rfl (one_of HT_.out (by kernel_rfl)) (by decide) (fun K hK => ?_)
         refine goes_ Try.func26 (by kernel_rfl) rfl #[.pointer (some ⟨g, 0, none⟩), .int .u64 (verOf s.last x.2.1), .int .u32 x.2.2.1.1] (by rfl) rfl rfl (by simp only [List.map_toArray, List.map_cons, List.map_nil]; rfl) ?_
         with_reducible refine (PX.cut HPD.out.p (verOf s.last x.2.1) x.2.2.1.1).mono ?_
         rintro e w7 ⟨rfl, hP, hO⟩
         refine ⟨_, rfl, ?_⟩
         rw [HE1.out]
         rw [HS2.out] at hP
         have HPp := Aside0.mk hP
         have HBp := Aside0.mk hP.at0
         have HRp := Aside0.mk (HPD.out.r.tt hO hP.at0)
         have HXp := Aside0.mk (blk_tt HX.out hO (by decide) (by decide))
         clear hP hO HPD HB HX
         refine hK.out _ _ (((blk_cell HXp.out 2).trans rfl)) (fun hHeld => ?_)
         clear hK K
         refine norm_ (a' := ?_) ?_ ?_
         rotate_left
         ·
          show Act.put _ (some 98) _ = _
          simp only [Act.put, List.setIfInBounds_toArray, List.set_cons_zero, List.set_cons_succ, i64_w, i32_w]
          rfl
         refine one_ (i := 13) (N := some 106) #[true, true, true, true, true, true, true, true, true, true, true, true, true, true, false] rfl rfl (one_of HT_.out (by kernel_rfl)) (by decide) (fun K hK => ?_)
         refine goes_ Try.func36 (by kernel_rfl) rfl #[.pointer (some ⟨gr, 0, none⟩), .agg #[.int .u64 (verOf s.last x.2.1), .bool true, .int .u32 x.2.2.1.1, .slice none 0 0, .slice none 0 0]] (by rfl) rfl rfl (by simp only [List.map_toArray, List.map_cons, List.map_nil]; rfl) ?_
         with_reducible refine (lay_cut HRp.out (verOf s.last x.2.1) x.2.2.1.1).mono ?_
         rintro e w8 ⟨rfl, hR, hO⟩
         refine ⟨_, rfl, ?_⟩
         rw [HD1.out]
         rw [HD2.out] at hR
         have HP8 := Aside0.mk (Both.mk (PX.tr HPp.out hO hR.at0) hR)
         have HB8 := Aside0.mk hR.at0
         have HX8 := Aside0.mk (blk_tr HXp.out hO (by decide) (by decide))
         clear hR hO HPp HBp HRp HXp
         refine hK.out _ _ (((blk_cell HX8.out 2).trans rfl)) (fun hHeld => ?_)
         clear hK K
         refine norm_ (a' := ?_) ?_ ?_
         rotate_left
         ·
          show Act.put _ (some 106) _ = _
          simp only [Act.put, List.setIfInBounds_toArray, List.set_cons_zero, List.set_cons_succ, i64_w, i32_w]
          rfl
         refine pure_ (i := 14) (N := some 107) (v := ?_) (a' := ?_) #[true, true, true, true, true, true, true, true, true, true, true, true, true, true, true] rfl rfl (any_of HT_.out (by kernel_rfl)) (fun _ _ _ h => h) (Or.inl ⟨by rfl, ?_⟩) ?_ ?_
         rotate_left
         ·
          intro w'
          go_simp
          with_reducible rfl
         rotate_left
         ·
          simp only [Act.put, List.setIfInBounds_toArray, List.set_cons_zero, List.set_cons_succ, i64_w, i32_w]
          rfl
         refine done_ (done_of HT_.out (by kernel_rfl)) ?_
         clear hHeld
         have qe : (e1 != e1) = false := by simp
         go_wp2
         have HP9 := Aside0.mk (HP8.out.below (below_drew (Below.refl _ _)))
         have HB9 := Aside0.mk (bel_trans HB8.out (below_drew (Below.refl _ _)))
         clear HP8 HB8
         obtain ⟨ar, cr, yr0, -⟩ := HP9.out.r.cells
         have HYR := Aside0.mk yr0
         clear yr0
         have ql : (s2.last != s2.last) = false := by simp
         have ql2 : ((s2.L.length : Int) != (s2.L.length : Int)) = false := by simp
         refine start_ (n := 17) (S := fun w' => w'.cell? ⟨gr, 1, none⟩ = some (.int .u64 s2.last) ∧ w'.cell? ⟨gr, 0, none⟩ = some (.slice ar s2.L.length cr)) (ds := []) #[false, false, false, false, false, false, false, false, false, false, false, false, false, false, false, false, false] (by kernel_rfl) rfl rfl ⟨HP9.out.r.y1, HYR.out⟩ (fun hHeld => ?_)
         refine with_tabW pl.tab32 pl.bits32 (fun HT_ HW_ => ?_)
         generalize w8.drew = we at HP9 HB9 HYR hHeld ⊢
         refine pure_ (i := 0) (N := some 148) (v := ?_) (a' := ?_) #[true, false, false, false, false, false, false, false, false, false, false, false, false, false, false, false, false] rfl rfl (any_of HT_.out (by kernel_rfl)) (fun _ _ _ h => h) (Or.inl ⟨by rfl, ?_⟩) ?_ ?_
         rotate_left
         ·
          intro w'
          go_simp
          with_reducible rfl
         rotate_left
         ·
          simp only [Act.put, List.setIfInBounds_toArray, List.set_cons_zero, List.set_cons_succ, i64_w, i32_w]
          rfl
         refine pure_ (i := 2) (N := some 150) (v := ?_) (a' := ?_) #[true, false, true, false, false, false, false, false, false, false, false, false, false, false, false, false, false] rfl rfl (any_of HT_.out (by kernel_rfl)) (fun _ _ _ h => h) (Or.inl ⟨by rfl, ?_⟩) ?_ ?_
         rotate_left
         ·
          intro w'
          go_simp
          with_reducible rfl
         rotate_left
         ·
          simp only [Act.put, List.setIfInBounds_toArray, List.set_cons_zero, List.set_cons_succ, i64_w, i32_w]
          rfl
         refine pure_ (i := 3) (N := some 151) (v := ?_) (a' := ?_) #[true, false, true, true, false, false, false, false, false, false, false, false, false, false, false, false, false] rfl rfl (any_of HT_.out (by kernel_rfl)) (fun _ _ _ h => h) (Or.inl ⟨by rfl, ?_⟩) ?_ ?_
         rotate_left
         ·
          intro w'
          go_simp
          with_reducible rfl
         rotate_left
         ·
          simp only [Act.put, List.setIfInBounds_toArray, List.set_cons_zero, List.set_cons_succ, i64_w, i32_w]
          rfl
         refine pure_ (i := 4) (N := some 152) (v := ?_) (a' := ?_) #[true, false, true, true, true, false, false, false, false, false, false, false, false, false, false, false, false] rfl rfl (any_of HT_.out (by kernel_rfl)) (fun _ _ _ h => h) (Or.inl ⟨by rfl, ?_⟩) ?_ ?_
         rotate_left
         ·
          intro w'
          go_simp
          with_reducible rfl
         rotate_left
         ·
          simp only [Act.put, List.setIfInBounds_toArray, List.set_cons_zero, List.set_cons_succ, i64_w, i32_w]
          rfl
         refine take_ (i := 5) (N := some 153) (v := ?_) (a' := ?_) #[true, false, true, true, true, true, false, false, false, false, false, false, false, false, false, false, false] rfl rfl (take_ofW HT_.out HW_.out (by kernel_rfl)) (fun _ _ _ h => h) (Or.inl ⟨by rfl, ?_⟩) hHeld ?_ ?_
         rotate_left
         ·
          rintro w' ⟨s0, s1⟩
          go_simp
          with_reducible rfl
         rotate_left
         ·
          simp only [Act.put, List.setIfInBounds_toArray, List.set_cons_zero, List.set_cons_succ, i64_w, i32_w]
          rfl
         refine one_ (i := 1) (N := some 149) #[true, true, true, true, true, true, false, false, false, false, false, false, false, false, false, false, false] rfl rfl (one_of HT_.out (by kernel_rfl)) (by decide) (fun K hK => ?_)
         refine goes_ Try.func27 (by kernel_rfl) rfl #[.pointer (some ⟨g, 0, none⟩)] (by rfl) rfl rfl (by simp only [List.map_toArray, List.map_cons, List.map_nil]; rfl) ?_
         with_reducible refine (PX.last HP9.out.p).mono ?_
         rintro e wa ⟨rfl, -, hb⟩
         refine ⟨_, rfl, ?_⟩
         have HPa := Aside0.mk (HP9.out.below hb)
         have HBa := Aside0.mk (bel_trans HB9.out hb)
         have HYRa := Aside0.mk (pw_cell_below hb HYR.out)
         clear hb HP9 HB9 HYR
         refine hK.out _ _ ⟨HPa.out.r.y1, HYRa.out⟩ (fun hHeld => ?_)
         clear hK K
         refine norm_ (a' := ?_) ?_ ?_
         rotate_left
         ·
          show Act.put _ (some 149) _ = _
          simp only [Act.put, List.setIfInBounds_toArray, List.set_cons_zero, List.set_cons_succ, i64_w, i32_w]
          rfl
         refine pure_ (i := 6) (N := some 154) (v := ?_) (a' := ?_) #[true, true, true, true, true, true, true, false, false, false, false, false, false, false, false, false, false] rfl rfl (any_of HT_.out (by kernel_rfl)) (fun _ _ _ h => h) (Or.inl ⟨by rfl, ?_⟩) ?_ ?_
         rotate_left
         ·
          intro w'
          go_simp
          with_reducible rfl
         rotate_left
         ·
          simp only [Act.put, List.setIfInBounds_toArray, List.set_cons_zero, List.set_cons_succ, i64_w, i32_w]
          rfl
         refine pure_ (i := 7) (N := some 155) (v := ?_) (a' := ?_) #[true, true, true, true, true, true, true, true, false, false, false, false, false, false, false, false, false] rfl rfl (any_of HT_.out (by kernel_rfl)) (fun _ _ _ h => h) (Or.inl ⟨by rfl, ?_⟩) ?_ ?_
         rotate_left
         ·
          intro w'
          go_simp
          with_reducible rfl
         rotate_left
         ·
          simp only [Act.put, List.setIfInBounds_toArray, List.set_cons_zero, List.set_cons_succ, i64_w, i32_w]
          rfl
         refine pure_ (i := 8) (N := some 156) (v := ?_) (a' := ?_) #[true, true, true, true, true, true, true, true, true, false, false, false, false, false, false, false, false] rfl rfl (any_of HT_.out (by kernel_rfl)) (fun _ _ _ h => h) (Or.inl ⟨by rfl, ?_⟩) ?_ ?_
         rotate_left
         ·
          intro w'
          go_simp
          with_reducible rfl
         rotate_left
         ·
          simp only [Act.put, List.setIfInBounds_toArray, List.set_cons_zero, List.set_cons_succ, i64_w, i32_w]
          rfl
         refine pure_ (i := 10) (N := some 158) (v := ?_) (a' := ?_) #[true, true, true, true, true, true, true, true, true, false, true, false, false, false, false, false, false] rfl rfl (any_of HT_.out (by kernel_rfl)) (fun _ _ _ h => h) (Or.inl ⟨by rfl, ?_⟩) ?_ ?_
         rotate_left
         ·
          intro w'
          go_simp
          with_reducible rfl
         rotate_left
         ·
          simp only [Act.put, List.setIfInBounds_toArray, List.set_cons_zero, List.set_cons_succ, i64_w, i32_w]
          rfl
         refine pure_ (i := 11) (N := some 159) (v := ?_) (a' := ?_) #[true, true, true, true, true, true, true, true, true, false, true, true, false, false, false, false, false] rfl rfl (any_of HT_.out (by kernel_rfl)) (fun _ _ _ h => h) (Or.inl ⟨by rfl, ?_⟩) ?_ ?_
         rotate_left
         ·
          intro w'
          go_simp
          with_reducible rfl
         rotate_left
         ·
          simp only [Act.put, List.setIfInBounds_toArray, List.set_cons_zero, List.set_cons_succ, i64_w, i32_w]
          rfl
         refine pure_ (i := 12) (N := some 160) (v := ?_) (a' := ?_) #[true, true, true, true, true, true, true, true, true, false, true, true, true, false, false, false, false] rfl rfl (any_of HT_.out (by kernel_rfl)) (fun _ _ _ h => h) (Or.inl ⟨by rfl, ?_⟩) ?_ ?_
         rotate_left
         ·
          intro w'
          go_simp
          with_reducible rfl
         rotate_left
         ·
          simp only [Act.put, List.setIfInBounds_toArray, List.set_cons_zero, List.set_cons_succ, i64_w, i32_w]
          rfl
         refine take_ (i := 13) (N := some 161) (v := ?_) (a' := ?_) #[true, true, true, true, true, true, true, true, true, false, true, true, true, true, false, false, false] rfl rfl (take_ofW HT_.out HW_.out (by kernel_rfl)) (fun _ _ _ h => h) (Or.inl ⟨by rfl, ?_⟩) hHeld ?_ ?_
         rotate_left
         ·
          rintro w' ⟨s0, s1⟩
          go_simp
          with_reducible rfl
         rotate_left
         ·
          simp only [Act.put, List.setIfInBounds_toArray, List.set_cons_zero, List.set_cons_succ, i64_w, i32_w]
          rfl
         refine pure_ (i := 14) (N := some 162) (v := ?_) (a' := ?_) #[true, true, true, true, true, true, true, true, true, false, true, true, true, true, true, false, false] rfl rfl (any_of HT_.out (by kernel_rfl)) (fun _ _ _ h => h) (Or.inl ⟨by rfl, ?_⟩) ?_ ?_
         rotate_left
         ·
          intro w'
          go_simp
          with_reducible rfl
         rotate_left
         ·
          simp only [Act.put, List.setIfInBounds_toArray, List.set_cons_zero, List.set_cons_succ, i64_w, i32_w]
          rfl
         refine one_ (i := 9) (N := some 157) #[true, true, true, true, true, true, true, true, true, true, true, true, true, true, true, false, false] rfl rfl (one_of HT_.out (by kernel_rfl)) (by decide) (fun K hK => ?_)
         refine goes_ Try.func29 (by kernel_rfl) rfl #[.pointer (some ⟨g, 0, none⟩)] (by rfl) rfl rfl (by simp only [List.map_toArray, List.map_cons, List.map_nil]; rfl) ?_
         with_reducible refine (PX.rows_ HPa.out.p).mono ?_
         rintro e wb ⟨rfl, -, hb⟩
         refine ⟨_, rfl, ?_⟩
         have HPb := Aside0.mk (HPa.out.below hb)
         have HBb := Aside0.mk (bel_trans HBa.out hb)
         have HYRb := Aside0.mk (pw_cell_below hb HYRa.out)
         clear hb HPa HBa HYRa
         refine hK.out _ _ ⟨HPb.out.r.y1, HYRb.out⟩ (fun hHeld => ?_)
         clear hK K
         refine norm_ (a' := ?_) ?_ ?_
         rotate_left
         ·
          show Act.put _ (some 157) _ = _
          simp only [Act.put, List.setIfInBounds_toArray, List.set_cons_zero, List.set_cons_succ, i64_w, i32_w]
          rfl
         refine pure_ (i := 15) (N := some 163) (v := ?_) (a' := ?_) #[true, true, true, true, true, true, true, true, true, true, true, true, true, true, true, true, false] rfl rfl (any_of HT_.out (by kernel_rfl)) (fun _ _ _ h => h) (Or.inl ⟨by rfl, ?_⟩) ?_ ?_
         rotate_left
         ·
          intro w'
          go_simp
          with_reducible rfl
         rotate_left
         ·
          simp only [Act.put, List.setIfInBounds_toArray, List.set_cons_zero, List.set_cons_succ, i64_w, i32_w]
          rfl
         refine pure_ (i := 16) (N := some 164) (v := ?_) (a' := ?_) #[true, true, true, true, true, true, true, true, true, true, true, true, true, true, true, true, true] rfl rfl (any_of HT_.out (by kernel_rfl)) (fun _ _ _ h => h) (Or.inl ⟨by rfl, ?_⟩) ?_ ?_
         rotate_left
         ·
          intro w'
          go_simp
          with_reducible rfl
         rotate_left
         ·
          simp only [Act.put, List.setIfInBounds_toArray, List.set_cons_zero, List.set_cons_succ, i64_w, i32_w]
          rfl
         refine done_ (done_of HT_.out (by kernel_rfl)) ?_
         clear hHeld
         go_wp2
         go_roundg gk
         case measure => omega
         case rel => exact ⟨i + 1, s2, congrArg (Value.int .i64) HIN.out, ⟨by have := HI60.out; omega, by have := HI.out; have := HI60.out; omega⟩, HPb, ⟨by rw [← HS2.out]; exact HOM.out.cut HUP.out HXO.out.2.2.1.1 HVL.out.1 HVL.out.2⟩⟩
        | false =>
         cases k3 : (x.1.tmod 6 == 3) with
         | true =>
          obtain ⟨e1, he1⟩ : ∃ z, (s.sweep x.2.2.2).1 = z := ⟨_, rfl⟩
          obtain ⟨s2, hs2⟩ : ∃ z, (s.sweep x.2.2.2).2 = z := ⟨_, rfl⟩
          have HE1 := Aside0.mk he1
          have HS2 := Aside0.mk hs2
          clear he1 hs2
          go_wp2
          have HPD := Aside0.mk (HP6.out.below (below_drew (Below.refl _ _)))
          have HB := Aside0.mk (bel_trans HB6.out (below_drew (Below.refl _ _)))
          have HX := Aside0.mk (blk_below HX6.out (below_drew (Below.refl _ _)))
          clear HP6 HB6 HX6
          clear b0 b2 b3 b4 b5
          refine start_ (n := 9) (S := fun w' => w'.cell? ⟨bx, 5, none⟩ = some (.slice A3 x.2.2.2.length c3)) (ds := []) #[false, false, false, false, false, false, false, false, false] (by kernel_rfl) rfl rfl (((blk_cell HX.out 5).trans rfl)) (fun hHeld => ?_)
          refine with_tabW pl.tab25 pl.bits25 (fun HT_ HW_ => ?_)
          generalize w6.drew = wd at HPD HB HX hHeld ⊢
          refine pure_ (i := 0) (N := some 110) (v := ?_) (a' := ?_) #[true, false, false, false, false, false, false, false, false] rfl rfl (any_of HT_.out (by kernel_rfl)) (fun _ _ _ h => h) (Or.inl ⟨by rfl, ?_⟩) ?_ ?_
          rotate_left
          ·
           intro w'
           go_simp
           with_reducible rfl
          rotate_left
          ·
           simp only [Act.put, List.setIfInBounds_toArray, List.set_cons_zero, List.set_cons_succ, i64_w, i32_w]
           rfl
          refine pure_ (i := 1) (N := some 111) (v := ?_) (a' := ?_) #[true, true, false, false, false, false, false, false, false] rfl rfl (any_of HT_.out (by kernel_rfl)) (fun _ _ _ h => h) (Or.inl ⟨by rfl, ?_⟩) ?_ ?_
          rotate_left
          ·
           intro w'
           go_simp
           with_reducible rfl
          rotate_left
          ·
           simp only [Act.put, List.setIfInBounds_toArray, List.set_cons_zero, List.set_cons_succ, i64_w, i32_w]
           rfl
          refine pure_ (i := 4) (N := some 114) (v := ?_) (a' := ?_) #[true, true, false, false, true, false, false, false, false] rfl rfl (any_of HT_.out (by kernel_rfl)) (fun _ _ _ h => h) (Or.inl ⟨by rfl, ?_⟩) ?_ ?_
          rotate_left
          ·
           intro w'
           go_simp
           with_reducible rfl
          rotate_left
          ·
           simp only [Act.put, List.setIfInBounds_toArray, List.set_cons_zero, List.set_cons_succ, i64_w, i32_w]
           rfl
          refine pure_ (i := 5) (N := some 115) (v := ?_) (a' := ?_) #[true, true, false, false, true, true, false, false, false] rfl rfl (any_of HT_.out (by kernel_rfl)) (fun _ _ _ h => h) (Or.inl ⟨by rfl, ?_⟩) ?_ ?_
          rotate_left
          ·
           intro w'
           go_simp
           with_reducible rfl
          rotate_left
          ·
           simp only [Act.put, List.setIfInBounds_toArray, List.set_cons_zero, List.set_cons_succ, i64_w, i32_w]
           rfl
          refine take_ (i := 2) (N := some 112) (v := ?_) (a' := ?_) #[true, true, true, false, true, true, false, false, false] rfl rfl (take_ofW HT_.out HW_.out (by kernel_rfl)) (fun _ _ _ h => h) (Or.inl ⟨by rfl, ?_⟩) hHeld ?_ ?_
          rotate_left
          ·
           intro w' s0
           go_simp
           with_reducible rfl
          rotate_left
          ·
           simp only [Act.put, List.setIfInBounds_toArray, List.set_cons_zero, List.set_cons_succ, i64_w, i32_w]
           rfl
          refine take_ (i := 6) (N := some 116) (v := ?_) (a' := ?_) #[true, true, true, false, true, true, true, false, false] rfl rfl (take_ofW HT_.out HW_.out (by kernel_rfl)) (fun _ _ _ h => h) (Or.inl ⟨by rfl, ?_⟩) hHeld ?_ ?_
          rotate_left
          ·
           intro w' s0
           go_simp
           with_reducible rfl
          rotate_left
          ·
           simp only [Act.put, List.setIfInBounds_toArray, List.set_cons_zero, List.set_cons_succ, i64_w, i32_w]
           rfl
          refine one_ (i := 3) (N := some 113) #[true, true, true, true, true, true, true, false, false] rfl rfl (one_of HT_.out (by kernel_rfl)) (by decide) (fun K hK => ?_)
          refine goes_ Try.func28 (by kernel_rfl) rfl #[.pointer (some ⟨g, 0, none⟩), .slice A3 x.2.2.2.length c3] (by rfl) rfl rfl (by simp only [List.map_toArray, List.map_cons, List.map_nil]; rfl) ?_
          with_reducible refine (PX.sweep HPD.out.p HOM.out.fit A3 c3 x.2.2.2 (HO.out.below HB.out).keep (by have := HKL.out; omega)).mono ?_
          rintro e w7 ⟨rfl, hP, hO⟩
          refine ⟨_, rfl, ?_⟩
          rw [HE1.out]
          rw [HS2.out] at hP
          have HPp := Aside0.mk hP
          have HBp := Aside0.mk hP.at0
          have HRp := Aside0.mk (HPD.out.r.tt hO hP.at0)
          have HXp := Aside0.mk (blk_tt HX.out hO (by decide) (by decide))
          clear hP hO HPD HB HX
          refine hK.out _ _ (((blk_cell HXp.out 5).trans rfl)) (fun hHeld => ?_)
          clear hK K
          refine norm_ (a' := ?_) ?_ ?_
          rotate_left
          ·
           show Act.put _ (some 113) _ = _
           simp only [Act.put, List.setIfInBounds_toArray, List.set_cons_zero, List.set_cons_succ, i64_w, i32_w]
           rfl
          refine one_ (i := 7) (N := some 117) #[true, true, true, true, true, true, true, true, false] rfl rfl (one_of HT_.out (by kernel_rfl)) (by decide) (fun K hK => ?_)
          refine goes_ Try.func37 (by kernel_rfl) rfl #[.pointer (some ⟨gr, 0, none⟩), .slice A3 x.2.2.2.length c3] (by rfl) rfl rfl (by simp only [List.map_toArray, List.map_cons, List.map_nil]; rfl) ?_
          with_reducible refine (RX.sweep HRp.out A3 c3 x.2.2.2 (HO.out.below HBp.out).keep (by have := HKL.out; omega)).mono ?_
          rintro e w8 ⟨rfl, hR, hO⟩
          refine ⟨_, rfl, ?_⟩
          rw [HE1.out]
          rw [HS2.out] at hR
          have HP8 := Aside0.mk (Both.mk (PX.tr HPp.out hO hR.at0) hR)
          have HB8 := Aside0.mk hR.at0
          have HX8 := Aside0.mk (blk_tr HXp.out hO (by decide) (by decide))
          clear hR hO HPp HBp HRp HXp
          refine hK.out _ _ (((blk_cell HX8.out 5).trans rfl)) (fun hHeld => ?_)
          clear hK K
          refine norm_ (a' := ?_) ?_ ?_
          rotate_left
          ·
           show Act.put _ (some 117) _ = _
           simp only [Act.put, List.setIfInBounds_toArray, List.set_cons_zero, List.set_cons_succ, i64_w, i32_w]
           rfl
          refine pure_ (i := 8) (N := some 118) (v := ?_) (a' := ?_) #[true, true, true, true, true, true, true, true, true] rfl rfl (any_of HT_.out (by kernel_rfl)) (fun _ _ _ h => h) (Or.inl ⟨by rfl, ?_⟩) ?_ ?_
          rotate_left
          ·
           intro w'
           go_simp
           with_reducible rfl
          rotate_left
          ·
           simp only [Act.put, List.setIfInBounds_toArray, List.set_cons_zero, List.set_cons_succ, i64_w, i32_w]
           rfl
          refine done_ (done_of HT_.out (by kernel_rfl)) ?_
          clear hHeld
          have qe : (e1 != e1) = false := by simp
          go_wp2
          have HP9 := Aside0.mk (HP8.out.below (below_drew (Below.refl _ _)))
          have HB9 := Aside0.mk (bel_trans HB8.out (below_drew (Below.refl _ _)))
          clear HP8 HB8
          obtain ⟨ar, cr, yr0, -⟩ := HP9.out.r.cells
          have HYR := Aside0.mk yr0
          clear yr0
          have ql : (s2.last != s2.last) = false := by simp
          have ql2 : ((s2.L.length : Int) != (s2.L.length : Int)) = false := by simp
          refine start_ (n := 17) (S := fun w' => w'.cell? ⟨gr, 1, none⟩ = some (.int .u64 s2.last) ∧ w'.cell? ⟨gr, 0, none⟩ = some (.slice ar s2.L.length cr)) (ds := []) #[false, false, false, false, false, false, false, false, false, false, false, false, false, false, false, false, false] (by kernel_rfl) rfl rfl ⟨HP9.out.r.y1, HYR.out⟩ (fun hHeld => ?_)
          refine with_tabW pl.tab32 pl.bits32 (fun HT_ HW_ => ?_)
          generalize w8.drew = we at HP9 HB9 HYR hHeld ⊢
          refine pure_ (i := 0) (N := some 148) (v := ?_) (a' := ?_) #[true, false, false, false, false, false, false, false, false, false, false, false, false, false, false, false, false] rfl rfl (any_of HT_.out (by kernel_rfl)) (fun _ _ _ h => h) (Or.inl ⟨by rfl, ?_⟩) ?_ ?_
          rotate_left
          ·
           intro w'
           go_simp
           with_reducible rfl
          rotate_left
          ·
           simp only [Act.put, List.setIfInBounds_toArray, List.set_cons_zero, List.set_cons_succ, i64_w, i32_w]
           rfl
          refine pure_ (i := 2) (N := some 150) (v := ?_) (a' := ?_) #[true, false, true, false, false, false, false, false, false, false, false, false, false, false, false, false, false] rfl rfl (any_of HT_.out (by kernel_rfl)) (fun _ _ _ h => h) (Or.inl ⟨by rfl, ?_⟩) ?_ ?_
          rotate_left
          ·
           intro w'
           go_simp
           with_reducible rfl
          rotate_left
          ·
           simp only [Act.put, List.setIfInBounds_toArray, List.set_cons_zero, List.set_cons_succ, i64_w, i32_w]
           rfl
          refine pure_ (i := 3) (N := some 151) (v := ?_) (a' := ?_) #[true, false, true, true, false, false, false, false, false, false, false, false, false, false, false, false, false] rfl rfl (any_of HT_.out (by kernel_rfl)) (fun _ _ _ h => h) (Or.inl ⟨by rfl, ?_⟩) ?_ ?_
          rotate_left
          ·
           intro w'
           go_simp
           with_reducible rfl
          rotate_left
          ·
           simp only [Act.put, List.setIfInBounds_toArray, List.set_cons_zero, List.set_cons_succ, i64_w, i32_w]
           rfl
          refine pure_ (i := 4) (N := some 152) (v := ?_) (a' := ?_) #[true, false, true, true, true, false, false, false, false, false, false, false, false, false, false, false, false] rfl rfl (any_of HT_.out (by kernel_rfl)) (fun _ _ _ h => h) (Or.inl ⟨by rfl, ?_⟩) ?_ ?_
          rotate_left
          ·
           intro w'
           go_simp
           with_reducible rfl
          rotate_left
          ·
           simp only [Act.put, List.setIfInBounds_toArray, List.set_cons_zero, List.set_cons_succ, i64_w, i32_w]
           rfl
          refine take_ (i := 5) (N := some 153) (v := ?_) (a' := ?_) #[true, false, true, true, true, true, false, false, false, false, false, false, false, false, false, false, false] rfl rfl (take_ofW HT_.out HW_.out (by kernel_rfl)) (fun _ _ _ h => h) (Or.inl ⟨by rfl, ?_⟩) hHeld ?_ ?_
          rotate_left
          ·
           rintro w' ⟨s0, s1⟩
           go_simp
           with_reducible rfl
          rotate_left
          ·
           simp only [Act.put, List.setIfInBounds_toArray, List.set_cons_zero, List.set_cons_succ, i64_w, i32_w]
           rfl
          refine one_ (i := 1) (N := some 149) #[true, true, true, true, true, true, false, false, false, false, false, false, false, false, false, false, false] rfl rfl (one_of HT_.out (by kernel_rfl)) (by decide) (fun K hK => ?_)
          refine goes_ Try.func27 (by kernel_rfl) rfl #[.pointer (some ⟨g, 0, none⟩)] (by rfl) rfl rfl (by simp only [List.map_toArray, List.map_cons, List.map_nil]; rfl) ?_
          with_reducible refine (PX.last HP9.out.p).mono ?_
          rintro e wa ⟨rfl, -, hb⟩
          refine ⟨_, rfl, ?_⟩
          have HPa := Aside0.mk (HP9.out.below hb)
          have HBa := Aside0.mk (bel_trans HB9.out hb)
          have HYRa := Aside0.mk (pw_cell_below hb HYR.out)
          clear hb HP9 HB9 HYR
          refine hK.out _ _ ⟨HPa.out.r.y1, HYRa.out⟩ (fun hHeld => ?_)
          clear hK K
          refine norm_ (a' := ?_) ?_ ?_
          rotate_left
          ·
           show Act.put _ (some 149) _ = _
           simp only [Act.put, List.setIfInBounds_toArray, List.set_cons_zero, List.set_cons_succ, i64_w, i32_w]
           rfl
          refine pure_ (i := 6) (N := some 154) (v := ?_) (a' := ?_) #[true, true, true, true, true, true, true, false, false, false, false, false, false, false, false, false, false] rfl rfl (any_of HT_.out (by kernel_rfl)) (fun _ _ _ h => h) (Or.inl ⟨by rfl, ?_⟩) ?_ ?_
          rotate_left
          ·
           intro w'
           go_simp
           with_reducible rfl
          rotate_left
          ·
           simp only [Act.put, List.setIfInBounds_toArray, List.set_cons_zero, List.set_cons_succ, i64_w, i32_w]
           rfl
          refine pure_ (i := 7) (N := some 155) (v := ?_) (a' := ?_) #[true, true, true, true, true, true, true, true, false, false, false, false, false, false, false, false, false] rfl rfl (any_of HT_.out (by kernel_rfl)) (fun _ _ _ h => h) (Or.inl ⟨by rfl, ?_⟩) ?_ ?_
          rotate_left
          ·
           intro w'
           go_simp
           with_reducible rfl
          rotate_left
          ·
           simp only [Act.put, List.setIfInBounds_toArray, List.set_cons_zero, List.set_cons_succ, i64_w, i32_w]
           rfl
          refine pure_ (i := 8) (N := some 156) (v := ?_) (a' := ?_) #[true, true, true, true, true, true, true, true, true, false, false, false, false, false, false, false, false] rfl rfl (any_of HT_.out (by kernel_rfl)) (fun _ _ _ h => h) (Or.inl ⟨by rfl, ?_⟩) ?_ ?_
          rotate_left
          ·
           intro w'
           go_simp
           with_reducible rfl
          rotate_left
          ·
           simp only [Act.put, List.setIfInBounds_toArray, List.set_cons_zero, List.set_cons_succ, i64_w, i32_w]
           rfl
          refine pure_ (i := 10) (N := some 158) (v := ?_) (a' := ?_) #[true, true, true, true, true, true, true, true, true, false, true, false, false, false, false, false, false] rfl rfl (any_of HT_.out (by kernel_rfl)) (fun _ _ _ h => h) (Or.inl ⟨by rfl, ?_⟩) ?_ ?_
          rotate_left
          ·
           intro w'
           go_simp
           with_reducible rfl
          rotate_left
          ·
           simp only [Act.put, List.setIfInBounds_toArray, List.set_cons_zero, List.set_cons_succ, i64_w, i32_w]
           rfl
          refine pure_ (i := 11) (N := some 159) (v := ?_) (a' := ?_) #[true, true, true, true, true, true, true, true, true, false, true, true, false, false, false, false, false] rfl rfl (any_of HT_.out (by kernel_rfl)) (fun _ _ _ h => h) (Or.inl ⟨by rfl, ?_⟩) ?_ ?_
          rotate_left
          ·
           intro w'
           go_simp
           with_reducible rfl
          rotate_left
          ·
           simp only [Act.put, List.setIfInBounds_toArray, List.set_cons_zero, List.set_cons_succ, i64_w, i32_w]
           rfl
          refine pure_ (i := 12) (N := some 160) (v := ?_) (a' := ?_) #[true, true, true, true, true, true, true, true, true, false, true, true, true, false, false, false, false] rfl rfl (any_of HT_.out (by kernel_rfl)) (fun _ _ _ h => h) (Or.inl ⟨by rfl, ?_⟩) ?_ ?_
          rotate_left
          ·
           intro w'
           go_simp
           with_reducible rfl
          rotate_left
          ·
           simp only [Act.put, List.setIfInBounds_toArray, List.set_cons_zero, List.set_cons_succ, i64_w, i32_w]
           rfl
          refine take_ (i := 13) (N := some 161) (v := ?_) (a' := ?_) #[true, true, true, true, true, true, true, true, true, false, true, true, true, true, false, false, false] rfl rfl (take_ofW HT_.out HW_.out (by kernel_rfl)) (fun _ _ _ h => h) (Or.inl ⟨by rfl, ?_⟩) hHeld ?_ ?_
          rotate_left
          ·
           rintro w' ⟨s0, s1⟩
           go_simp
           with_reducible rfl
          rotate_left
          ·
           simp only [Act.put, List.setIfInBounds_toArray, List.set_cons_zero, List.set_cons_succ, i64_w, i32_w]
           rfl
          refine pure_ (i := 14) (N := some 162) (v := ?_) (a' := ?_) #[true, true, true, true, true, true, true, true, true, false, true, true, true, true, true, false, false] rfl rfl (any_of HT_.out (by kernel_rfl)) (fun _ _ _ h => h) (Or.inl ⟨by rfl, ?_⟩) ?_ ?_
          rotate_left
          ·
           intro w'
           go_simp
           with_reducible rfl
          rotate_left
          ·
           simp only [Act.put, List.setIfInBounds_toArray, List.set_cons_zero, List.set_cons_succ, i64_w, i32_w]
           rfl
          refine one_ (i := 9) (N := some 157) #[true, true, true, true, true, true, true, true, true, true, true, true, true, true, true, false, false] rfl rfl (one_of HT_.out (by kernel_rfl)) (by decide) (fun K hK => ?_)
          refine goes_ Try.func29 (by kernel_rfl) rfl #[.pointer (some ⟨g, 0, none⟩)] (by rfl) rfl rfl (by simp only [List.map_toArray, List.map_cons, List.map_nil]; rfl) ?_
          with_reducible refine (PX.rows_ HPa.out.p).mono ?_
          rintro e wb ⟨rfl, -, hb⟩
          refine ⟨_, rfl, ?_⟩
          have HPb := Aside0.mk (HPa.out.below hb)
          have HBb := Aside0.mk (bel_trans HBa.out hb)
          have HYRb := Aside0.mk (pw_cell_below hb HYRa.out)
          clear hb HPa HBa HYRa
          refine hK.out _ _ ⟨HPb.out.r.y1, HYRb.out⟩ (fun hHeld => ?_)
          clear hK K
          refine norm_ (a' := ?_) ?_ ?_
          rotate_left
          ·
           show Act.put _ (some 157) _ = _
           simp only [Act.put, List.setIfInBounds_toArray, List.set_cons_zero, List.set_cons_succ, i64_w, i32_w]
           rfl
          refine pure_ (i := 15) (N := some 163) (v := ?_) (a' := ?_) #[true, true, true, true, true, true, true, true, true, true, true, true, true, true, true, true, false] rfl rfl (any_of HT_.out (by kernel_rfl)) (fun _ _ _ h => h) (Or.inl ⟨by rfl, ?_⟩) ?_ ?_
          rotate_left
          ·
           intro w'
           go_simp
           with_reducible rfl
          rotate_left
          ·
           simp only [Act.put, List.setIfInBounds_toArray, List.set_cons_zero, List.set_cons_succ, i64_w, i32_w]
           rfl
          refine pure_ (i := 16) (N := some 164) (v := ?_) (a' := ?_) #[true, true, true, true, true, true, true, true, true, true, true, true, true, true, true, true, true] rfl rfl (any_of HT_.out (by kernel_rfl)) (fun _ _ _ h => h) (Or.inl ⟨by rfl, ?_⟩) ?_ ?_
          rotate_left
          ·
           intro w'
           go_simp
           with_reducible rfl
          rotate_left
          ·
           simp only [Act.put, List.setIfInBounds_toArray, List.set_cons_zero, List.set_cons_succ, i64_w, i32_w]
           rfl
          refine done_ (done_of HT_.out (by kernel_rfl)) ?_
          clear hHeld
          go_wp2
          go_roundg gk
          case measure => omega
          case rel => exact ⟨i + 1, s2, congrArg (Value.int .i64) HIN.out, ⟨by have := HI60.out; omega, by have := HI.out; have := HI60.out; omega⟩, HPb, ⟨by rw [← HS2.out]; exact (HOM.out.sweep _).mono HUP.out⟩⟩
         | false =>
          cases k4 : (x.1.tmod 6 == 4) with
          | true =>
           obtain ⟨s2, hs2⟩ : ∃ z, s = z := ⟨_, rfl⟩
           have HOM2 := Aside0.mk (show Ok s2 (((i + 1 : Nat) : Int) * 127) by rw [← hs2]; exact HOM.out.mono HUP.out)
           have HS2 := Aside0.mk hs2
           clear hs2
           rcases get_cases s x.2.2.1.1 (verOf s.last x.2.1) with ⟨code, hgc⟩ | ⟨xx, hgx, hmem⟩
           ·
            have HG := Aside0.mk hgc
            have qc : (code != code) = false := by simp
            clear hgc
            go_wp2_with (first | (go_at_call 31; (with_reducible refine (PX.get HP6.out.p HOM.out.small x.2.2.1.1 (verOf s.last x.2.1)).mono ?_); rintro e w7 ⟨hA, -, hb⟩; rw [HG.out] at hA; obtain ⟨a7, rfl, rfl⟩ := hA; have hbb := bel_alloc hb (.cells #[.int .u32 0, .slice none 0 0, .slice none 0 0] 54); have HP7 := Aside0.mk (HP6.out.below hbb); have HX7 := Aside0.mk (blk_below HX6.out hbb); have HB7 := Aside0.mk (bel_trans HB6.out hbb); have HY7 := Aside0.mk (heap_alloc_new w7 (.cells #[.int .u32 0, .slice none 0 0, .slice none 0 0] 54)); have HZ7 := Aside0.mk (blk_lt HY7.out); have b2 := (blk_cell HX7.out 2).trans rfl; clear hb hbb) | (go_at_call 38; (with_reducible refine (RX.get HP7.out.r x.2.2.1.1 (verOf s.last x.2.1)).mono ?_); rintro e w8 ⟨hA, hb⟩; rw [HG.out] at hA; obtain ⟨a8, rfl, rfl⟩ := hA; have hbb := bel_alloc hb (.cells #[.int .u32 0, .slice none 0 0, .slice none 0 0] 54); have HP8 := Aside0.mk (HP7.out.below hbb); have HB8 := Aside0.mk (bel_trans HB7.out hbb); have HY8 := Aside0.mk (blk_below HY7.out hbb); have HW8 := Aside0.mk (heap_alloc_new w8 (.cells #[.int .u32 0, .slice none 0 0, .slice none 0 0] 54)); have t70 := (blk_cell HY8.out 0).trans rfl; have t71 := (blk_cell HY8.out 1).trans rfl; have t72 := (blk_cell HY8.out 2).trans rfl; have t80 := (blk_cell HW8.out 0).trans rfl; have t81 := (blk_cell HW8.out 1).trans rfl; have t82 := (blk_cell HW8.out 2).trans rfl; clear hb hbb) | (go_at_call 33; (with_reducible refine (item_none _).mono ?_); rintro e w9 ⟨rfl, hb⟩; have HPc := Aside0.mk (HP8.out.below hb); have HBc := Aside0.mk (bel_trans HB8.out hb); clear hb))
            rw [HS2.out] at HPc
            have HP8 := HPc
            have HB8 := HBc
            obtain ⟨w8, hw8⟩ : ∃ z, w9 = z := ⟨_, rfl⟩
            rw [hw8] at HP8 HB8 ⊢
            clear hw8 HPc HBc
            go_wp2
            have HP9 := Aside0.mk (HP8.out.below (below_drew (Below.refl _ _)))
            have HB9 := Aside0.mk (bel_trans HB8.out (below_drew (Below.refl _ _)))
            clear HP8 HB8
            obtain ⟨ar, cr, yr0, -⟩ := HP9.out.r.cells
            have HYR := Aside0.mk yr0
            clear yr0
            have ql : (s2.last != s2.last) = false := by simp
            have ql2 : ((s2.L.length : Int) != (s2.L.length : Int)) = false := by simp
            refine start_ (n := 17) (S := fun w' => w'.cell? ⟨gr, 1, none⟩ = some (.int .u64 s2.last) ∧ w'.cell? ⟨gr, 0, none⟩ = some (.slice ar s2.L.length cr)) (ds := []) #[false, false, false, false, false, false, false, false, false, false, false, false, false, false, false, false, false] (by kernel_rfl) rfl rfl ⟨HP9.out.r.y1, HYR.out⟩ (fun hHeld => ?_)
            refine with_tabW pl.tab32 pl.bits32 (fun HT_ HW_ => ?_)
            generalize w8.drew = we at HP9 HB9 HYR hHeld ⊢
            refine pure_ (i := 0) (N := some 148) (v := ?_) (a' := ?_) #[true, false, false, false, false, false, false, false, false, false, false, false, false, false, false, false, false] rfl rfl (any_of HT_.out (by kernel_rfl)) (fun _ _ _ h => h) (Or.inl ⟨by rfl, ?_⟩) ?_ ?_
            rotate_left
            ·
             intro w'
             go_simp
             with_reducible rfl
            rotate_left
            ·
             simp only [Act.put, List.setIfInBounds_toArray, List.set_cons_zero, List.set_cons_succ, i64_w, i32_w]
             rfl
            refine pure_ (i := 2) (N := some 150) (v := ?_) (a' := ?_) #[true, false, true, false, false, false, false, false, false, false, false, false, false, false, false, false, false] rfl rfl (any_of HT_.out (by kernel_rfl)) (fun _ _ _ h => h) (Or.inl ⟨by rfl, ?_⟩) ?_ ?_
            rotate_left
            ·
             intro w'
             go_simp
             with_reducible rfl
            rotate_left
            ·
             simp only [Act.put, List.setIfInBounds_toArray, List.set_cons_zero, List.set_cons_succ, i64_w, i32_w]
             rfl
            refine pure_ (i := 3) (N := some 151) (v := ?_) (a' := ?_) #[true, false, true, true, false, false, false, false, false, false, false, false, false, false, false, false, false] rfl rfl (any_of HT_.out (by kernel_rfl)) (fun _ _ _ h => h) (Or.inl ⟨by rfl, ?_⟩) ?_ ?_
            rotate_left
            ·
             intro w'
             go_simp
             with_reducible rfl
            rotate_left
            ·
             simp only [Act.put, List.setIfInBounds_toArray, List.set_cons_zero, List.set_cons_succ, i64_w, i32_w]
             rfl
            refine pure_ (i := 4) (N := some 152) (v := ?_) (a' := ?_) #[true, false, true, true, true, false, false, false, false, false, false, false, false, false, false, false, false] rfl rfl (any_of HT_.out (by kernel_rfl)) (fun _ _ _ h => h) (Or.inl ⟨by rfl, ?_⟩) ?_ ?_
            rotate_left
            ·
             intro w'
             go_simp
             with_reducible rfl
            rotate_left
            ·
             simp only [Act.put, List.setIfInBounds_toArray, List.set_cons_zero, List.set_cons_succ, i64_w, i32_w]
             rfl
            refine take_ (i := 5) (N := some 153) (v := ?_) (a' := ?_) #[true, false, true, true, true, true, false, false, false, false, false, false, false, false, false, false, false] rfl rfl (take_ofW HT_.out HW_.out (by kernel_rfl)) (fun _ _ _ h => h) (Or.inl ⟨by rfl, ?_⟩) hHeld ?_ ?_
            rotate_left
            ·
             rintro w' ⟨s0, s1⟩
             go_simp
             with_reducible rfl
            rotate_left
            ·
             simp only [Act.put, List.setIfInBounds_toArray, List.set_cons_zero, List.set_cons_succ, i64_w, i32_w]
             rfl
            refine one_ (i := 1) (N := some 149) #[true, true, true, true, true, true, false, false, false, false, false, false, false, false, false, false, false] rfl rfl (one_of HT_.out (by kernel_rfl)) (by decide) (fun K hK => ?_)
            refine goes_ Try.func27 (by kernel_rfl) rfl #[.pointer (some ⟨g, 0, none⟩)] (by rfl) rfl rfl (by simp only [List.map_toArray, List.map_cons, List.map_nil]; rfl) ?_
            with_reducible refine (PX.last HP9.out.p).mono ?_
            rintro e wa ⟨rfl, -, hb⟩
            refine ⟨_, rfl, ?_⟩
            have HPa := Aside0.mk (HP9.out.below hb)
            have HBa := Aside0.mk (bel_trans HB9.out hb)
            have HYRa := Aside0.mk (pw_cell_below hb HYR.out)
            clear hb HP9 HB9 HYR
            refine hK.out _ _ ⟨HPa.out.r.y1, HYRa.out⟩ (fun hHeld => ?_)
            clear hK K
            refine norm_ (a' := ?_) ?_ ?_
            rotate_left
            ·
             show Act.put _ (some 149) _ = _
             simp only [Act.put, List.setIfInBounds_toArray, List.set_cons_zero, List.set_cons_succ, i64_w, i32_w]
             rfl
            refine pure_ (i := 6) (N := some 154) (v := ?_) (a' := ?_) #[true, true, true, true, true, true, true, false, false, false, false, false, false, false, false, false, false] rfl rfl (any_of HT_.out (by kernel_rfl)) (fun _ _ _ h => h) (Or.inl ⟨by rfl, ?_⟩) ?_ ?_
            rotate_left
            ·
             intro w'
             go_simp
             with_reducible rfl
            rotate_left
            ·
             simp only [Act.put, List.setIfInBounds_toArray, List.set_cons_zero, List.set_cons_succ, i64_w, i32_w]
             rfl
            refine pure_ (i := 7) (N := some 155) (v := ?_) (a' := ?_) #[true, true, true, true, true, true, true, true, false, false, false, false, false, false, false, false, false] rfl rfl (any_of HT_.out (by kernel_rfl)) (fun _ _ _ h => h) (Or.inl ⟨by rfl, ?_⟩) ?_ ?_
            rotate_left
            ·
             intro w'
             go_simp
             with_reducible rfl
            rotate_left
            ·
             simp only [Act.put, List.setIfInBounds_toArray, List.set_cons_zero, List.set_cons_succ, i64_w, i32_w]
             rfl
            refine pure_ (i := 8) (N := some 156) (v := ?_) (a' := ?_) #[true, true, true, true, true, true, true, true, true, false, false, false, false, false, false, false, false] rfl rfl (any_of HT_.out (by kernel_rfl)) (fun _ _ _ h => h) (Or.inl ⟨by rfl, ?_⟩) ?_ ?_
            rotate_left
            ·
             intro w'
             go_simp
             with_reducible rfl
            rotate_left
            ·
             simp only [Act.put, List.setIfInBounds_toArray, List.set_cons_zero, List.set_cons_succ, i64_w, i32_w]
             rfl
            refine pure_ (i := 10) (N := some 158) (v := ?_) (a' := ?_) #[true, true, true, true, true, true, true, true, true, false, true, false, false, false, false, false, false] rfl rfl (any_of HT_.out (by kernel_rfl)) (fun _ _ _ h => h) (Or.inl ⟨by rfl, ?_⟩) ?_ ?_
            rotate_left
            ·
             intro w'
             go_simp
             with_reducible rfl
            rotate_left
            ·
             simp only [Act.put, List.setIfInBounds_toArray, List.set_cons_zero, List.set_cons_succ, i64_w, i32_w]
             rfl
            refine pure_ (i := 11) (N := some 159) (v := ?_) (a' := ?_) #[true, true, true, true, true, true, true, true, true, false, true, true, false, false, false, false, false] rfl rfl (any_of HT_.out (by kernel_rfl)) (fun _ _ _ h => h) (Or.inl ⟨by rfl, ?_⟩) ?_ ?_
            rotate_left
            ·
             intro w'
             go_simp
             with_reducible rfl
            rotate_left
            ·
             simp only [Act.put, List.setIfInBounds_toArray, List.set_cons_zero, List.set_cons_succ, i64_w, i32_w]
             rfl
            refine pure_ (i := 12) (N := some 160) (v := ?_) (a' := ?_) #[true, true, true, true, true, true, true, true, true, false, true, true, true, false, false, false, false] rfl rfl (any_of HT_.out (by kernel_rfl)) (fun _ _ _ h => h) (Or.inl ⟨by rfl, ?_⟩) ?_ ?_
            rotate_left
            ·
             intro w'
             go_simp
             with_reducible rfl
            rotate_left
            ·
             simp only [Act.put, List.setIfInBounds_toArray, List.set_cons_zero, List.set_cons_succ, i64_w, i32_w]
             rfl
            refine take_ (i := 13) (N := some 161) (v := ?_) (a' := ?_) #[true, true, true, true, true, true, true, true, true, false, true, true, true, true, false, false, false] rfl rfl (take_ofW HT_.out HW_.out (by kernel_rfl)) (fun _ _ _ h => h) (Or.inl ⟨by rfl, ?_⟩) hHeld ?_ ?_
            rotate_left
            ·
             rintro w' ⟨s0, s1⟩
             go_simp
             with_reducible rfl
            rotate_left
            ·
             simp only [Act.put, List.setIfInBounds_toArray, List.set_cons_zero, List.set_cons_succ, i64_w, i32_w]
             rfl
            refine pure_ (i := 14) (N := some 162) (v := ?_) (a' := ?_) #[true, true, true, true, true, true, true, true, true, false, true, true, true, true, true, false, false] rfl rfl (any_of HT_.out (by kernel_rfl)) (fun _ _ _ h => h) (Or.inl ⟨by rfl, ?_⟩) ?_ ?_
            rotate_left
            ·
             intro w'
             go_simp
             with_reducible rfl
            rotate_left
            ·
             simp only [Act.put, List.setIfInBounds_toArray, List.set_cons_zero, List.set_cons_succ, i64_w, i32_w]
             rfl
            refine one_ (i := 9) (N := some 157) #[true, true, true, true, true, true, true, true, true, true, true, true, true, true, true, false, false] rfl rfl (one_of HT_.out (by kernel_rfl)) (by decide) (fun K hK => ?_)
            refine goes_ Try.func29 (by kernel_rfl) rfl #[.pointer (some ⟨g, 0, none⟩)] (by rfl) rfl rfl (by simp only [List.map_toArray, List.map_cons, List.map_nil]; rfl) ?_
            with_reducible refine (PX.rows_ HPa.out.p).mono ?_
            rintro e wb ⟨rfl, -, hb⟩
            refine ⟨_, rfl, ?_⟩
            have HPb := Aside0.mk (HPa.out.below hb)
            have HBb := Aside0.mk (bel_trans HBa.out hb)
            have HYRb := Aside0.mk (pw_cell_below hb HYRa.out)
            clear hb HPa HBa HYRa
            refine hK.out _ _ ⟨HPb.out.r.y1, HYRb.out⟩ (fun hHeld => ?_)
            clear hK K
            refine norm_ (a' := ?_) ?_ ?_
            rotate_left
            ·
             show Act.put _ (some 157) _ = _
             simp only [Act.put, List.setIfInBounds_toArray, List.set_cons_zero, List.set_cons_succ, i64_w, i32_w]
             rfl
            refine pure_ (i := 15) (N := some 163) (v := ?_) (a' := ?_) #[true, true, true, true, true, true, true, true, true, true, true, true, true, true, true, true, false] rfl rfl (any_of HT_.out (by kernel_rfl)) (fun _ _ _ h => h) (Or.inl ⟨by rfl, ?_⟩) ?_ ?_
            rotate_left
            ·
             intro w'
             go_simp
             with_reducible rfl
            rotate_left
            ·
             simp only [Act.put, List.setIfInBounds_toArray, List.set_cons_zero, List.set_cons_succ, i64_w, i32_w]
             rfl
            refine pure_ (i := 16) (N := some 164) (v := ?_) (a' := ?_) #[true, true, true, true, true, true, true, true, true, true, true, true, true, true, true, true, true] rfl rfl (any_of HT_.out (by kernel_rfl)) (fun _ _ _ h => h) (Or.inl ⟨by rfl, ?_⟩) ?_ ?_
            rotate_left
            ·
             intro w'
             go_simp
             with_reducible rfl
            rotate_left
            ·
             simp only [Act.put, List.setIfInBounds_toArray, List.set_cons_zero, List.set_cons_succ, i64_w, i32_w]
             rfl
            refine done_ (done_of HT_.out (by kernel_rfl)) ?_
            clear hHeld
            go_wp2
            go_roundg gk
            case measure => omega
            case rel => exact ⟨i + 1, s2, congrArg (Value.int .i64) HIN.out, ⟨by have := HI60.out; omega, by have := HI.out; have := HI60.out; omega⟩, HPb, HOM2⟩
           ·
            have HG := Aside0.mk hgx
            have HXX := Aside0.mk (HOM.out.small xx hmem)
            clear hgx hmem
            go_wp2_with (first | (go_at_call 31; (with_reducible refine (PX.get HP6.out.p HOM.out.small x.2.2.1.1 (verOf s.last x.2.1)).mono ?_); rintro e w7 ⟨hA, -, hb⟩; rw [HG.out] at hA; obtain ⟨a7, rfl, v1, v2, rfl, r1, r2⟩ := hA; obtain ⟨p1, n1, rfl⟩ := Kd.R_slice r1; obtain ⟨p2, n2, rfl⟩ := Kd.R_slice r2; have hba := below_alloc (Below.refl w7.heap.size w7) (.cells #[.int .u32 xx.id, .slice p1 xx.vec.length n1, .slice p2 xx.tags.length n2] 54); have hbb := bel_alloc hb (.cells #[.int .u32 xx.id, .slice p1 xx.vec.length n1, .slice p2 xx.tags.length n2] 54); have HR1 := Aside0.mk (Kd.R_below r1 hba); have HR2 := Aside0.mk (Kd.R_below r2 hba); have HP7 := Aside0.mk (HP6.out.below hbb); have HX7 := Aside0.mk (blk_below HX6.out hbb); have HB7 := Aside0.mk (bel_trans HB6.out hbb); have HY7 := Aside0.mk (heap_alloc_new w7 (.cells #[.int .u32 xx.id, .slice p1 xx.vec.length n1, .slice p2 xx.tags.length n2] 54)); have b2 := (blk_cell HX7.out 2).trans rfl; clear hb hba hbb r1 r2) | (go_at_call 38; (with_reducible refine (RX.get HP7.out.r x.2.2.1.1 (verOf s.last x.2.1)).mono ?_); rintro e w8 ⟨hA, hb⟩; rw [HG.out] at hA; obtain ⟨a8, rfl, D1, d1, D2, d2, rfl, hfr⟩ := hA; have hbb := bel_alloc hb (.cells #[.int .u32 xx.id, .slice D1 xx.vec.length d1, .slice D2 xx.tags.length d2] 54); have HP8 := Aside0.mk (HP7.out.below hbb); have HB8 := Aside0.mk (bel_trans HB7.out hbb); have HFR := Aside0.mk (FrI.reads hfr HB8.out); have HR18 := Aside0.mk (Kd.R_reads' (Kd.R_below HR1.out hbb)); have HR28 := Aside0.mk (Kd.R_reads' (Kd.R_below HR2.out hbb)); have HY8 := Aside0.mk (blk_below HY7.out hbb); have HW8 := Aside0.mk (heap_alloc_new w8 (.cells #[.int .u32 xx.id, .slice D1 xx.vec.length d1, .slice D2 xx.tags.length d2] 54)); have t70 := (blk_cell HY8.out 0).trans rfl; have t71 := (blk_cell HY8.out 1).trans rfl; have t72 := (blk_cell HY8.out 2).trans rfl; have t80 := (blk_cell HW8.out 0).trans rfl; have t81 := (blk_cell HW8.out 1).trans rfl; have t82 := (blk_cell HW8.out 2).trans rfl; clear hb hbb hfr) | (go_at_call 33; (with_reducible refine (lodestarref06_SameItem.calls 200000 xx.id p1 n1 xx.vec p2 n2 xx.tags xx.id D1 d1 xx.vec D2 d2 xx.tags true _ HR18.out.2.2 HR18.out.2.1 HR28.out.2.2 HR28.out.2.1 HFR.out.2.2.2.1 HFR.out.2.2.1 HFR.out.2.2.2.2.2 HFR.out.2.2.2.2.1 (item_f ⟨xx.id, xx.vec, xx.tags⟩ HXX.out.1 HXX.out.2 (by decide))).mono ?_); rintro e w9 ⟨rfl, hb⟩; have HPc := Aside0.mk (HP8.out.below hb); have HBc := Aside0.mk (bel_trans HB8.out hb); clear hb))
            rw [HS2.out] at HPc
            have HP8 := HPc
            have HB8 := HBc
            obtain ⟨w8, hw8⟩ : ∃ z, w9 = z := ⟨_, rfl⟩
            rw [hw8] at HP8 HB8 ⊢
            clear hw8 HPc HBc
            go_wp2
            have HP9 := Aside0.mk (HP8.out.below (below_drew (Below.refl _ _)))
            have HB9 := Aside0.mk (bel_trans HB8.out (below_drew (Below.refl _ _)))
            clear HP8 HB8
            obtain ⟨ar, cr, yr0, -⟩ := HP9.out.r.cells
            have HYR := Aside0.mk yr0
            clear yr0
            have ql : (s2.last != s2.last) = false := by simp
            have ql2 : ((s2.L.length : Int) != (s2.L.length : Int)) = false := by simp
            refine start_ (n := 17) (S := fun w' => w'.cell? ⟨gr, 1, none⟩ = some (.int .u64 s2.last) ∧ w'.cell? ⟨gr, 0, none⟩ = some (.slice ar s2.L.length cr)) (ds := []) #[false, false, false, false, false, false, false, false, false, false, false, false, false, false, false, false, false] (by kernel_rfl) rfl rfl ⟨HP9.out.r.y1, HYR.out⟩ (fun hHeld => ?_)
            refine with_tabW pl.tab32 pl.bits32 (fun HT_ HW_ => ?_)
            generalize w8.drew = we at HP9 HB9 HYR hHeld ⊢
            refine pure_ (i := 0) (N := some 148) (v := ?_) (a' := ?_) #[true, false, false, false, false, false, false, false, false, false, false, false, false, false, false, false, false] rfl rfl (any_of HT_.out (by kernel_rfl)) (fun _ _ _ h => h) (Or.inl ⟨by rfl, ?_⟩) ?_ ?_
            rotate_left
            ·
             intro w'
             go_simp
             with_reducible rfl
            rotate_left
            ·
             simp only [Act.put, List.setIfInBounds_toArray, List.set_cons_zero, List.set_cons_succ, i64_w, i32_w]
             rfl
            refine pure_ (i := 2) (N := some 150) (v := ?_) (a' := ?_) #[true, false, true, false, false, false, false, false, false, false, false, false, false, false, false, false, false] rfl rfl (any_of HT_.out (by kernel_rfl)) (fun _ _ _ h => h) (Or.inl ⟨by rfl, ?_⟩) ?_ ?_
            rotate_left
            ·
             intro w'
             go_simp
             with_reducible rfl
            rotate_left
            ·
             simp only [Act.put, List.setIfInBounds_toArray, List.set_cons_zero, List.set_cons_succ, i64_w, i32_w]
             rfl
            refine pure_ (i := 3) (N := some 151) (v := ?_) (a' := ?_) #[true, false, true, true, false, false, false, false, false, false, false, false, false, false, false, false, false] rfl rfl (any_of HT_.out (by kernel_rfl)) (fun _ _ _ h => h) (Or.inl ⟨by rfl, ?_⟩) ?_ ?_
            rotate_left
            ·
             intro w'
             go_simp
             with_reducible rfl
            rotate_left
            ·
             simp only [Act.put, List.setIfInBounds_toArray, List.set_cons_zero, List.set_cons_succ, i64_w, i32_w]
             rfl
            refine pure_ (i := 4) (N := some 152) (v := ?_) (a' := ?_) #[true, false, true, true, true, false, false, false, false, false, false, false, false, false, false, false, false] rfl rfl (any_of HT_.out (by kernel_rfl)) (fun _ _ _ h => h) (Or.inl ⟨by rfl, ?_⟩) ?_ ?_
            rotate_left
            ·
             intro w'
             go_simp
             with_reducible rfl
            rotate_left
            ·
             simp only [Act.put, List.setIfInBounds_toArray, List.set_cons_zero, List.set_cons_succ, i64_w, i32_w]
             rfl
            refine take_ (i := 5) (N := some 153) (v := ?_) (a' := ?_) #[true, false, true, true, true, true, false, false, false, false, false, false, false, false, false, false, false] rfl rfl (take_ofW HT_.out HW_.out (by kernel_rfl)) (fun _ _ _ h => h) (Or.inl ⟨by rfl, ?_⟩) hHeld ?_ ?_
            rotate_left
            ·
             rintro w' ⟨s0, s1⟩
             go_simp
             with_reducible rfl
            rotate_left
            ·
             simp only [Act.put, List.setIfInBounds_toArray, List.set_cons_zero, List.set_cons_succ, i64_w, i32_w]
             rfl
            refine one_ (i := 1) (N := some 149) #[true, true, true, true, true, true, false, false, false, false, false, false, false, false, false, false, false] rfl rfl (one_of HT_.out (by kernel_rfl)) (by decide) (fun K hK => ?_)
            refine goes_ Try.func27 (by kernel_rfl) rfl #[.pointer (some ⟨g, 0, none⟩)] (by rfl) rfl rfl (by simp only [List.map_toArray, List.map_cons, List.map_nil]; rfl) ?_
            with_reducible refine (PX.last HP9.out.p).mono ?_
            rintro e wa ⟨rfl, -, hb⟩
            refine ⟨_, rfl, ?_⟩
            have HPa := Aside0.mk (HP9.out.below hb)
            have HBa := Aside0.mk (bel_trans HB9.out hb)
            have HYRa := Aside0.mk (pw_cell_below hb HYR.out)
            clear hb HP9 HB9 HYR
            refine hK.out _ _ ⟨HPa.out.r.y1, HYRa.out⟩ (fun hHeld => ?_)
            clear hK K
            refine norm_ (a' := ?_) ?_ ?_
            rotate_left
            ·
             show Act.put _ (some 149) _ = _
             simp only [Act.put, List.setIfInBounds_toArray, List.set_cons_zero, List.set_cons_succ, i64_w, i32_w]
             rfl
            refine pure_ (i := 6) (N := some 154) (v := ?_) (a' := ?_) #[true, true, true, true, true, true, true, false, false, false, false, false, false, false, false, false, false] rfl rfl (any_of HT_.out (by kernel_rfl)) (fun _ _ _ h => h) (Or.inl ⟨by rfl, ?_⟩) ?_ ?_
            rotate_left
            ·
             intro w'
             go_simp
             with_reducible rfl
            rotate_left
            ·
             simp only [Act.put, List.setIfInBounds_toArray, List.set_cons_zero, List.set_cons_succ, i64_w, i32_w]
             rfl
            refine pure_ (i := 7) (N := some 155) (v := ?_) (a' := ?_) #[true, true, true, true, true, true, true, true, false, false, false, false, false, false, false, false, false] rfl rfl (any_of HT_.out (by kernel_rfl)) (fun _ _ _ h => h) (Or.inl ⟨by rfl, ?_⟩) ?_ ?_
            rotate_left
            ·
             intro w'
             go_simp
             with_reducible rfl
            rotate_left
            ·
             simp only [Act.put, List.setIfInBounds_toArray, List.set_cons_zero, List.set_cons_succ, i64_w, i32_w]
             rfl
            refine pure_ (i := 8) (N := some 156) (v := ?_) (a' := ?_) #[true, true, true, true, true, true, true, true, true, false, false, false, false, false, false, false, false] rfl rfl (any_of HT_.out (by kernel_rfl)) (fun _ _ _ h => h) (Or.inl ⟨by rfl, ?_⟩) ?_ ?_
            rotate_left
            ·
             intro w'
             go_simp
             with_reducible rfl
            rotate_left
            ·
             simp only [Act.put, List.setIfInBounds_toArray, List.set_cons_zero, List.set_cons_succ, i64_w, i32_w]
             rfl
            refine pure_ (i := 10) (N := some 158) (v := ?_) (a' := ?_) #[true, true, true, true, true, true, true, true, true, false, true, false, false, false, false, false, false] rfl rfl (any_of HT_.out (by kernel_rfl)) (fun _ _ _ h => h) (Or.inl ⟨by rfl, ?_⟩) ?_ ?_
            rotate_left
            ·
             intro w'
             go_simp
             with_reducible rfl
            rotate_left
            ·
             simp only [Act.put, List.setIfInBounds_toArray, List.set_cons_zero, List.set_cons_succ, i64_w, i32_w]
             rfl
            refine pure_ (i := 11) (N := some 159) (v := ?_) (a' := ?_) #[true, true, true, true, true, true, true, true, true, false, true, true, false, false, false, false, false] rfl rfl (any_of HT_.out (by kernel_rfl)) (fun _ _ _ h => h) (Or.inl ⟨by rfl, ?_⟩) ?_ ?_
            rotate_left
            ·
             intro w'
             go_simp
             with_reducible rfl
            rotate_left
            ·
             simp only [Act.put, List.setIfInBounds_toArray, List.set_cons_zero, List.set_cons_succ, i64_w, i32_w]
             rfl
            refine pure_ (i := 12) (N := some 160) (v := ?_) (a' := ?_) #[true, true, true, true, true, true, true, true, true, false, true, true, true, false, false, false, false] rfl rfl (any_of HT_.out (by kernel_rfl)) (fun _ _ _ h => h) (Or.inl ⟨by rfl, ?_⟩) ?_ ?_
            rotate_left
            ·
             intro w'
             go_simp
             with_reducible rfl
            rotate_left
            ·
             simp only [Act.put, List.setIfInBounds_toArray, List.set_cons_zero, List.set_cons_succ, i64_w, i32_w]
             rfl
            refine take_ (i := 13) (N := some 161) (v := ?_) (a' := ?_) #[true, true, true, true, true, true, true, true, true, false, true, true, true, true, false, false, false] rfl rfl (take_ofW HT_.out HW_.out (by kernel_rfl)) (fun _ _ _ h => h) (Or.inl ⟨by rfl, ?_⟩) hHeld ?_ ?_
            rotate_left
            ·
             rintro w' ⟨s0, s1⟩
             go_simp
             with_reducible rfl
            rotate_left
            ·
             simp only [Act.put, List.setIfInBounds_toArray, List.set_cons_zero, List.set_cons_succ, i64_w, i32_w]
             rfl
            refine pure_ (i := 14) (N := some 162) (v := ?_) (a' := ?_) #[true, true, true, true, true, true, true, true, true, false, true, true, true, true, true, false, false] rfl rfl (any_of HT_.out (by kernel_rfl)) (fun _ _ _ h => h) (Or.inl ⟨by rfl, ?_⟩) ?_ ?_
            rotate_left
            ·
             intro w'
             go_simp
             with_reducible rfl
            rotate_left
            ·
             simp only [Act.put, List.setIfInBounds_toArray, List.set_cons_zero, List.set_cons_succ, i64_w, i32_w]
             rfl
            refine one_ (i := 9) (N := some 157) #[true, true, true, true, true, true, true, true, true, true, true, true, true, true, true, false, false] rfl rfl (one_of HT_.out (by kernel_rfl)) (by decide) (fun K hK => ?_)
            refine goes_ Try.func29 (by kernel_rfl) rfl #[.pointer (some ⟨g, 0, none⟩)] (by rfl) rfl rfl (by simp only [List.map_toArray, List.map_cons, List.map_nil]; rfl) ?_
            with_reducible refine (PX.rows_ HPa.out.p).mono ?_
            rintro e wb ⟨rfl, -, hb⟩
            refine ⟨_, rfl, ?_⟩
            have HPb := Aside0.mk (HPa.out.below hb)
            have HBb := Aside0.mk (bel_trans HBa.out hb)
            have HYRb := Aside0.mk (pw_cell_below hb HYRa.out)
            clear hb HPa HBa HYRa
            refine hK.out _ _ ⟨HPb.out.r.y1, HYRb.out⟩ (fun hHeld => ?_)
            clear hK K
            refine norm_ (a' := ?_) ?_ ?_
            rotate_left
            ·
             show Act.put _ (some 157) _ = _
             simp only [Act.put, List.setIfInBounds_toArray, List.set_cons_zero, List.set_cons_succ, i64_w, i32_w]
             rfl
            refine pure_ (i := 15) (N := some 163) (v := ?_) (a' := ?_) #[true, true, true, true, true, true, true, true, true, true, true, true, true, true, true, true, false] rfl rfl (any_of HT_.out (by kernel_rfl)) (fun _ _ _ h => h) (Or.inl ⟨by rfl, ?_⟩) ?_ ?_
            rotate_left
            ·
             intro w'
             go_simp
             with_reducible rfl
            rotate_left
            ·
             simp only [Act.put, List.setIfInBounds_toArray, List.set_cons_zero, List.set_cons_succ, i64_w, i32_w]
             rfl
            refine pure_ (i := 16) (N := some 164) (v := ?_) (a' := ?_) #[true, true, true, true, true, true, true, true, true, true, true, true, true, true, true, true, true] rfl rfl (any_of HT_.out (by kernel_rfl)) (fun _ _ _ h => h) (Or.inl ⟨by rfl, ?_⟩) ?_ ?_
            rotate_left
            ·
             intro w'
             go_simp
             with_reducible rfl
            rotate_left
            ·
             simp only [Act.put, List.setIfInBounds_toArray, List.set_cons_zero, List.set_cons_succ, i64_w, i32_w]
             rfl
            refine done_ (done_of HT_.out (by kernel_rfl)) ?_
            clear hHeld
            go_wp2
            go_roundg gk
            case measure => omega
            case rel => exact ⟨i + 1, s2, congrArg (Value.int .i64) HIN.out, ⟨by have := HI60.out; omega, by have := HI.out; have := HI60.out; omega⟩, HPb, HOM2⟩
          | false =>
           obtain ⟨s2, hs2⟩ : ∃ z, s = z := ⟨_, rfl⟩
           have HOM2 := Aside0.mk (show Ok s2 (((i + 1 : Nat) : Int) * 127) by rw [← hs2]; exact HOM.out.mono HUP.out)
           have HS2 := Aside0.mk hs2
           clear hs2
           cases hk : s.known (verOf s.last x.2.1) with
           | false =>
            have HK := Aside0.mk hk
            clear hk
            go_wp2_with (first | (go_at_call 32; (with_reducible refine (PX.all_gone HP6.out.p (verOf s.last x.2.1) HK.out).mono ?_); rintro e w7 ⟨rfl, -, hb⟩; have HP7 := Aside0.mk (HP6.out.below hb); have HB7 := Aside0.mk (bel_trans HB6.out hb); clear hb) | (go_at_call 39; (with_reducible refine (RX.all_gone HP7.out.r (verOf s.last x.2.1) HK.out).mono ?_); rintro e w8 ⟨rfl, hb⟩; have HP8 := Aside0.mk (HP7.out.below hb); have HB8 := Aside0.mk (bel_trans HB7.out hb); clear hb) | (go_at_call 35; (with_reducible refine (same_none HB8.out).mono ?_); rintro e w9 ⟨rfl, hb⟩; have HPc := Aside0.mk (HP8.out.below hb); have HBc := Aside0.mk (bel_trans HB8.out hb); clear hb))
            rw [HS2.out] at HPc
            have HP8 := HPc
            have HB8 := HBc
            obtain ⟨w8, hw8⟩ : ∃ z, w9 = z := ⟨_, rfl⟩
            rw [hw8] at HP8 HB8 ⊢
            clear hw8 HPc HBc
            go_wp2
            have HP9 := Aside0.mk (HP8.out.below (below_drew (Below.refl _ _)))
            have HB9 := Aside0.mk (bel_trans HB8.out (below_drew (Below.refl _ _)))
            clear HP8 HB8
            obtain ⟨ar, cr, yr0, -⟩ := HP9.out.r.cells
            have HYR := Aside0.mk yr0
            clear yr0
            have ql : (s2.last != s2.last) = false := by simp
            have ql2 : ((s2.L.length : Int) != (s2.L.length : Int)) = false := by simp
            refine start_ (n := 17) (S := fun w' => w'.cell? ⟨gr, 1, none⟩ = some (.int .u64 s2.last) ∧ w'.cell? ⟨gr, 0, none⟩ = some (.slice ar s2.L.length cr)) (ds := []) #[false, false, false, false, false, false, false, false, false, false, false, false, false, false, false, false, false] (by kernel_rfl) rfl rfl ⟨HP9.out.r.y1, HYR.out⟩ (fun hHeld => ?_)
            refine with_tabW pl.tab32 pl.bits32 (fun HT_ HW_ => ?_)
            generalize w8.drew = we at HP9 HB9 HYR hHeld ⊢
            refine pure_ (i := 0) (N := some 148) (v := ?_) (a' := ?_) #[true, false, false, false, false, false, false, false, false, false, false, false, false, false, false, false, false] rfl rfl (any_of HT_.out (by kernel_rfl)) (fun _ _ _ h => h) (Or.inl ⟨by rfl, ?_⟩) ?_ ?_
            rotate_left
            ·
             intro w'
             go_simp
             with_reducible rfl
            rotate_left
            ·
             simp only [Act.put, List.setIfInBounds_toArray, List.set_cons_zero, List.set_cons_succ, i64_w, i32_w]
             rfl
            refine pure_ (i := 2) (N := some 150) (v := ?_) (a' := ?_) #[true, false, true, false, false, false, false, false, false, false, false, false, false, false, false, false, false] rfl rfl (any_of HT_.out (by kernel_rfl)) (fun _ _ _ h => h) (Or.inl ⟨by rfl, ?_⟩) ?_ ?_
            rotate_left
            ·
             intro w'
             go_simp
             with_reducible rfl
            rotate_left
            ·
             simp only [Act.put, List.setIfInBounds_toArray, List.set_cons_zero, List.set_cons_succ, i64_w, i32_w]
             rfl
            refine pure_ (i := 3) (N := some 151) (v := ?_) (a' := ?_) #[true, false, true, true, false, false, false, false, false, false, false, false, false, false, false, false, false] rfl rfl (any_of HT_.out (by kernel_rfl)) (fun _ _ _ h => h) (Or.inl ⟨by rfl, ?_⟩) ?_ ?_
            rotate_left
            ·
             intro w'
             go_simp
             with_reducible rfl
            rotate_left
            ·
             simp only [Act.put, List.setIfInBounds_toArray, List.set_cons_zero, List.set_cons_succ, i64_w, i32_w]
             rfl
            refine pure_ (i := 4) (N := some 152) (v := ?_) (a' := ?_) #[true, false, true, true, true, false, false, false, false, false, false, false, false, false, false, false, false] rfl rfl (any_of HT_.out (by kernel_rfl)) (fun _ _ _ h => h) (Or.inl ⟨by rfl, ?_⟩) ?_ ?_
            rotate_left
            ·
             intro w'
             go_simp
             with_reducible rfl
            rotate_left
            ·
             simp only [Act.put, List.setIfInBounds_toArray, List.set_cons_zero, List.set_cons_succ, i64_w, i32_w]
             rfl
            refine take_ (i := 5) (N := some 153) (v := ?_) (a' := ?_) #[true, false, true, true, true, true, false, false, false, false, false, false, false, false, false, false, false] rfl rfl (take_ofW HT_.out HW_.out (by kernel_rfl)) (fun _ _ _ h => h) (Or.inl ⟨by rfl, ?_⟩) hHeld ?_ ?_
            rotate_left
            ·
             rintro w' ⟨s0, s1⟩
             go_simp
             with_reducible rfl
            rotate_left
            ·
             simp only [Act.put, List.setIfInBounds_toArray, List.set_cons_zero, List.set_cons_succ, i64_w, i32_w]
             rfl
            refine one_ (i := 1) (N := some 149) #[true, true, true, true, true, true, false, false, false, false, false, false, false, false, false, false, false] rfl rfl (one_of HT_.out (by kernel_rfl)) (by decide) (fun K hK => ?_)
            refine goes_ Try.func27 (by kernel_rfl) rfl #[.pointer (some ⟨g, 0, none⟩)] (by rfl) rfl rfl (by simp only [List.map_toArray, List.map_cons, List.map_nil]; rfl) ?_
            with_reducible refine (PX.last HP9.out.p).mono ?_
            rintro e wa ⟨rfl, -, hb⟩
            refine ⟨_, rfl, ?_⟩
            have HPa := Aside0.mk (HP9.out.below hb)
            have HBa := Aside0.mk (bel_trans HB9.out hb)
            have HYRa := Aside0.mk (pw_cell_below hb HYR.out)
            clear hb HP9 HB9 HYR
            refine hK.out _ _ ⟨HPa.out.r.y1, HYRa.out⟩ (fun hHeld => ?_)
            clear hK K
            refine norm_ (a' := ?_) ?_ ?_
            rotate_left
            ·
             show Act.put _ (some 149) _ = _
             simp only [Act.put, List.setIfInBounds_toArray, List.set_cons_zero, List.set_cons_succ, i64_w, i32_w]
             rfl
            refine pure_ (i := 6) (N := some 154) (v := ?_) (a' := ?_) #[true, true, true, true, true, true, true, false, false, false, false, false, false, false, false, false, false] rfl rfl (any_of HT_.out (by kernel_rfl)) (fun _ _ _ h => h) (Or.inl ⟨by rfl, ?_⟩) ?_ ?_
            rotate_left
            ·
             intro w'
             go_simp
             with_reducible rfl
            rotate_left
            ·
             simp only [Act.put, List.setIfInBounds_toArray, List.set_cons_zero, List.set_cons_succ, i64_w, i32_w]
             rfl
            refine pure_ (i := 7) (N := some 155) (v := ?_) (a' := ?_) #[true, true, true, true, true, true, true, true, false, false, false, false, false, false, false, false, false] rfl rfl (any_of HT_.out (by kernel_rfl)) (fun _ _ _ h => h) (Or.inl ⟨by rfl, ?_⟩) ?_ ?_
            rotate_left
            ·
             intro w'
             go_simp
             with_reducible rfl
            rotate_left
            ·
             simp only [Act.put, List.setIfInBounds_toArray, List.set_cons_zero, List.set_cons_succ, i64_w, i32_w]
             rfl
            refine pure_ (i := 8) (N := some 156) (v := ?_) (a' := ?_) #[true, true, true, true, true, true, true, true, true, false, false, false, false, false, false, false, false] rfl rfl (any_of HT_.out (by kernel_rfl)) (fun _ _ _ h => h) (Or.inl ⟨by rfl, ?_⟩) ?_ ?_
            rotate_left
            ·
             intro w'
             go_simp
             with_reducible rfl
            rotate_left
            ·
             simp only [Act.put, List.setIfInBounds_toArray, List.set_cons_zero, List.set_cons_succ, i64_w, i32_w]
             rfl
            refine pure_ (i := 10) (N := some 158) (v := ?_) (a' := ?_) #[true, true, true, true, true, true, true, true, true, false, true, false, false, false, false, false, false] rfl rfl (any_of HT_.out (by kernel_rfl)) (fun _ _ _ h => h) (Or.inl ⟨by rfl, ?_⟩) ?_ ?_
            rotate_left
            ·
             intro w'
             go_simp
             with_reducible rfl
            rotate_left
            ·
             simp only [Act.put, List.setIfInBounds_toArray, List.set_cons_zero, List.set_cons_succ, i64_w, i32_w]
             rfl
            refine pure_ (i := 11) (N := some 159) (v := ?_) (a' := ?_) #[true, true, true, true, true, true, true, true, true, false, true, true, false, false, false, false, false] rfl rfl (any_of HT_.out (by kernel_rfl)) (fun _ _ _ h => h) (Or.inl ⟨by rfl, ?_⟩) ?_ ?_
            rotate_left
            ·
             intro w'
             go_simp
             with_reducible rfl
            rotate_left
            ·
             simp only [Act.put, List.setIfInBounds_toArray, List.set_cons_zero, List.set_cons_succ, i64_w, i32_w]
             rfl
            refine pure_ (i := 12) (N := some 160) (v := ?_) (a' := ?_) #[true, true, true, true, true, true, true, true, true, false, true, true, true, false, false, false, false] rfl rfl (any_of HT_.out (by kernel_rfl)) (fun _ _ _ h => h) (Or.inl ⟨by rfl, ?_⟩) ?_ ?_
            rotate_left
            ·
             intro w'
             go_simp
             with_reducible rfl
            rotate_left
            ·
             simp only [Act.put, List.setIfInBounds_toArray, List.set_cons_zero, List.set_cons_succ, i64_w, i32_w]
             rfl
            refine take_ (i := 13) (N := some 161) (v := ?_) (a' := ?_) #[true, true, true, true, true, true, true, true, true, false, true, true, true, true, false, false, false] rfl rfl (take_ofW HT_.out HW_.out (by kernel_rfl)) (fun _ _ _ h => h) (Or.inl ⟨by rfl, ?_⟩) hHeld ?_ ?_
            rotate_left
            ·
             rintro w' ⟨s0, s1⟩
             go_simp
             with_reducible rfl
            rotate_left
            ·
             simp only [Act.put, List.setIfInBounds_toArray, List.set_cons_zero, List.set_cons_succ, i64_w, i32_w]
             rfl
            refine pure_ (i := 14) (N := some 162) (v := ?_) (a' := ?_) #[true, true, true, true, true, true, true, true, true, false, true, true, true, true, true, false, false] rfl rfl (any_of HT_.out (by kernel_rfl)) (fun _ _ _ h => h) (Or.inl ⟨by rfl, ?_⟩) ?_ ?_
            rotate_left
            ·
             intro w'
             go_simp
             with_reducible rfl
            rotate_left
            ·
             simp only [Act.put, List.setIfInBounds_toArray, List.set_cons_zero, List.set_cons_succ, i64_w, i32_w]
             rfl
            refine one_ (i := 9) (N := some 157) #[true, true, true, true, true, true, true, true, true, true, true, true, true, true, true, false, false] rfl rfl (one_of HT_.out (by kernel_rfl)) (by decide) (fun K hK => ?_)
            refine goes_ Try.func29 (by kernel_rfl) rfl #[.pointer (some ⟨g, 0, none⟩)] (by rfl) rfl rfl (by simp only [List.map_toArray, List.map_cons, List.map_nil]; rfl) ?_
            with_reducible refine (PX.rows_ HPa.out.p).mono ?_
            rintro e wb ⟨rfl, -, hb⟩
            refine ⟨_, rfl, ?_⟩
            have HPb := Aside0.mk (HPa.out.below hb)
            have HBb := Aside0.mk (bel_trans HBa.out hb)
            have HYRb := Aside0.mk (pw_cell_below hb HYRa.out)
            clear hb HPa HBa HYRa
            refine hK.out _ _ ⟨HPb.out.r.y1, HYRb.out⟩ (fun hHeld => ?_)
            clear hK K
            refine norm_ (a' := ?_) ?_ ?_
            rotate_left
            ·
             show Act.put _ (some 157) _ = _
             simp only [Act.put, List.setIfInBounds_toArray, List.set_cons_zero, List.set_cons_succ, i64_w, i32_w]
             rfl
            refine pure_ (i := 15) (N := some 163) (v := ?_) (a' := ?_) #[true, true, true, true, true, true, true, true, true, true, true, true, true, true, true, true, false] rfl rfl (any_of HT_.out (by kernel_rfl)) (fun _ _ _ h => h) (Or.inl ⟨by rfl, ?_⟩) ?_ ?_
            rotate_left
            ·
             intro w'
             go_simp
             with_reducible rfl
            rotate_left
            ·
             simp only [Act.put, List.setIfInBounds_toArray, List.set_cons_zero, List.set_cons_succ, i64_w, i32_w]
             rfl
            refine pure_ (i := 16) (N := some 164) (v := ?_) (a' := ?_) #[true, true, true, true, true, true, true, true, true, true, true, true, true, true, true, true, true] rfl rfl (any_of HT_.out (by kernel_rfl)) (fun _ _ _ h => h) (Or.inl ⟨by rfl, ?_⟩) ?_ ?_
            rotate_left
            ·
             intro w'
             go_simp
             with_reducible rfl
            rotate_left
            ·
             simp only [Act.put, List.setIfInBounds_toArray, List.set_cons_zero, List.set_cons_succ, i64_w, i32_w]
             rfl
            refine done_ (done_of HT_.out (by kernel_rfl)) ?_
            clear hHeld
            go_wp2
            go_roundg gk
            case measure => omega
            case rel => exact ⟨i + 1, s2, congrArg (Value.int .i64) HIN.out, ⟨by have := HI60.out; omega, by have := HI.out; have := HI60.out; omega⟩, HPb, HOM2⟩
           | true =>
            have HK := Aside0.mk hk
            clear hk
            go_wp2_with (first | (go_at_call 32; (with_reducible refine (PX.all_known HP6.out.p HOM.out.small HOM.out.fit (verOf s.last x.2.1) HK.out).mono ?_); rintro e w7 ⟨⟨a1, d1, rfl, ho, he, hal⟩, -, hb⟩; have HT7 := Aside0.mk (show Pa.Told w7 w6.heap.size a1 d1 from ⟨ho, he⟩); have HAL := Aside0.mk hal; have HDR := Aside0.mk (told_rows hal HOM.out.small HP6.out.p.rows); have HP7 := Aside0.mk (HP6.out.below hb); have HB7 := Aside0.mk (bel_trans HB6.out hb); clear ho he hal hb) | (go_at_call 39; (with_reducible refine (RX.all_known HP7.out.r (verOf s.last x.2.1) HK.out).mono ?_); rintro e w8 ⟨⟨a2, d2, rfl, ho, he, hal⟩, hb⟩; have HT8 := Aside0.mk (HT7.out.below hb); have HO8 := Aside0.mk ho; have HE8 := Aside0.mk he; have HEQ := Aside0.mk (show d1.map Elt.r = d2.map Elt.r from HAL.out.eq hal (fun _ => Iff.rfl)); have HP8 := Aside0.mk (HP7.out.below hb); have HB8 := Aside0.mk (bel_trans HB7.out hb); clear ho he hal hb) | (go_at_call 35; (with_reducible refine (same_both HT8.out HO8.out HE8.out HB8.out HEQ.out HDR.out.1 HDR.out.2).mono ?_); rintro e w9 ⟨rfl, hb⟩; have HPc := Aside0.mk (HP8.out.below hb); have HBc := Aside0.mk (bel_trans HB8.out hb); clear hb))
            rw [HS2.out] at HPc
            have HP8 := HPc
            have HB8 := HBc
            obtain ⟨w8, hw8⟩ : ∃ z, w9 = z := ⟨_, rfl⟩
            rw [hw8] at HP8 HB8 ⊢
            clear hw8 HPc HBc
            go_wp2
            have HP9 := Aside0.mk (HP8.out.below (below_drew (Below.refl _ _)))
            have HB9 := Aside0.mk (bel_trans HB8.out (below_drew (Below.refl _ _)))
            clear HP8 HB8
            obtain ⟨ar, cr, yr0, -⟩ := HP9.out.r.cells
            have HYR := Aside0.mk yr0
            clear yr0
            have ql : (s2.last != s2.last) = false := by simp
            have ql2 : ((s2.L.length : Int) != (s2.L.length : Int)) = false := by simp
            refine start_ (n := 17) (S := fun w' => w'.cell? ⟨gr, 1, none⟩ = some (.int .u64 s2.last) ∧ w'.cell? ⟨gr, 0, none⟩ = some (.slice ar s2.L.length cr)) (ds := []) #[false, false, false, false, false, false, false, false, false, false, false, false, false, false, false, false, false] (by kernel_rfl) rfl rfl ⟨HP9.out.r.y1, HYR.out⟩ (fun hHeld => ?_)
            refine with_tabW pl.tab32 pl.bits32 (fun HT_ HW_ => ?_)
            generalize w8.drew = we at HP9 HB9 HYR hHeld ⊢
            refine pure_ (i := 0) (N := some 148) (v := ?_) (a' := ?_) #[true, false, false, false, false, false, false, false, false, false, false, false, false, false, false, false, false] rfl rfl (any_of HT_.out (by kernel_rfl)) (fun _ _ _ h => h) (Or.inl ⟨by rfl, ?_⟩) ?_ ?_
            rotate_left
            ·
             intro w'
             go_simp
             with_reducible rfl
            rotate_left
            ·
             simp only [Act.put, List.setIfInBounds_toArray, List.set_cons_zero, List.set_cons_succ, i64_w, i32_w]
             rfl
            refine pure_ (i := 2) (N := some 150) (v := ?_) (a' := ?_) #[true, false, true, false, false, false, false, false, false, false, false, false, false, false, false, false, false] rfl rfl (any_of HT_.out (by kernel_rfl)) (fun _ _ _ h => h) (Or.inl ⟨by rfl, ?_⟩) ?_ ?_
            rotate_left
            ·
             intro w'
             go_simp
             with_reducible rfl
            rotate_left
            ·
             simp only [Act.put, List.setIfInBounds_toArray, List.set_cons_zero, List.set_cons_succ, i64_w, i32_w]
             rfl
            refine pure_ (i := 3) (N := some 151) (v := ?_) (a' := ?_) #[true, false, true, true, false, false, false, false, false, false, false, false, false, false, false, false, false] rfl rfl (any_of HT_.out (by kernel_rfl)) (fun _ _ _ h => h) (Or.inl ⟨by rfl, ?_⟩) ?_ ?_
            rotate_left
            ·
             intro w'
             go_simp
             with_reducible rfl
            rotate_left
            ·
             simp only [Act.put, List.setIfInBounds_toArray, List.set_cons_zero, List.set_cons_succ, i64_w, i32_w]
             rfl
            refine pure_ (i := 4) (N := some 152) (v := ?_) (a' := ?_) #[true, false, true, true, true, false, false, false, false, false, false, false, false, false, false, false, false] rfl rfl (any_of HT_.out (by kernel_rfl)) (fun _ _ _ h => h) (Or.inl ⟨by rfl, ?_⟩) ?_ ?_
            rotate_left
            ·
             intro w'
             go_simp
             with_reducible rfl
            rotate_left
            ·
             simp only [Act.put, List.setIfInBounds_toArray, List.set_cons_zero, List.set_cons_succ, i64_w, i32_w]
             rfl
            refine take_ (i := 5) (N := some 153) (v := ?_) (a' := ?_) #[true, false, true, true, true, true, false, false, false, false, false, false, false, false, false, false, false] rfl rfl (take_ofW HT_.out HW_.out (by kernel_rfl)) (fun _ _ _ h => h) (Or.inl ⟨by rfl, ?_⟩) hHeld ?_ ?_
            rotate_left
            ·
             rintro w' ⟨s0, s1⟩
             go_simp
             with_reducible rfl
            rotate_left
            ·
             simp only [Act.put, List.setIfInBounds_toArray, List.set_cons_zero, List.set_cons_succ, i64_w, i32_w]
             rfl
            refine one_ (i := 1) (N := some 149) #[true, true, true, true, true, true, false, false, false, false, false, false, false, false, false, false, false] rfl rfl (one_of HT_.out (by kernel_rfl)) (by decide) (fun K hK => ?_)
            refine goes_ Try.func27 (by kernel_rfl) rfl #[.pointer (some ⟨g, 0, none⟩)] (by rfl) rfl rfl (by simp only [List.map_toArray, List.map_cons, List.map_nil]; rfl) ?_
            with_reducible refine (PX.last HP9.out.p).mono ?_
            rintro e wa ⟨rfl, -, hb⟩
            refine ⟨_, rfl, ?_⟩
            have HPa := Aside0.mk (HP9.out.below hb)
            have HBa := Aside0.mk (bel_trans HB9.out hb)
            have HYRa := Aside0.mk (pw_cell_below hb HYR.out)
            clear hb HP9 HB9 HYR
            refine hK.out _ _ ⟨HPa.out.r.y1, HYRa.out⟩ (fun hHeld => ?_)
            clear hK K
            refine norm_ (a' := ?_) ?_ ?_
            rotate_left
            ·
             show Act.put _ (some 149) _ = _
             simp only [Act.put, List.setIfInBounds_toArray, List.set_cons_zero, List.set_cons_succ, i64_w, i32_w]
             rfl
            refine pure_ (i := 6) (N := some 154) (v := ?_) (a' := ?_) #[true, true, true, true, true, true, true, false, false, false, false, false, false, false, false, false, false] rfl rfl (any_of HT_.out (by kernel_rfl)) (fun _ _ _ h => h) (Or.inl ⟨by rfl, ?_⟩) ?_ ?_
            rotate_left
            ·
             intro w'
             go_simp
             with_reducible rfl
            rotate_left
            ·
             simp only [Act.put, List.setIfInBounds_toArray, List.set_cons_zero, List.set_cons_succ, i64_w, i32_w]
             rfl
            refine pure_ (i := 7) (N := some 155) (v := ?_) (a' := ?_) #[true, true, true, true, true, true, true, true, false, false, false, false, false, false, false, false, false] rfl rfl (any_of HT_.out (by kernel_rfl)) (fun _ _ _ h => h) (Or.inl ⟨by rfl, ?_⟩) ?_ ?_
            rotate_left
            ·
             intro w'
             go_simp
             with_reducible rfl
            rotate_left
            ·
             simp only [Act.put, List.setIfInBounds_toArray, List.set_cons_zero, List.set_cons_succ, i64_w, i32_w]
             rfl
            refine pure_ (i := 8) (N := some 156) (v := ?_) (a' := ?_) #[true, true, true, true, true, true, true, true, true, false, false, false, false, false, false, false, false] rfl rfl (any_of HT_.out (by kernel_rfl)) (fun _ _ _ h => h) (Or.inl ⟨by rfl, ?_⟩) ?_ ?_
            rotate_left
            ·
             intro w'
             go_simp
             with_reducible rfl
            rotate_left
            ·
             simp only [Act.put, List.setIfInBounds_toArray, List.set_cons_zero, List.set_cons_succ, i64_w, i32_w]
             rfl
            refine pure_ (i := 10) (N := some 158) (v := ?_) (a' := ?_) #[true, true, true, true, true, true, true, true, true, false, true, false, false, false, false, false, false] rfl rfl (any_of HT_.out (by kernel_rfl)) (fun _ _ _ h => h) (Or.inl ⟨by rfl, ?_⟩) ?_ ?_
            rotate_left
            ·
             intro w'
             go_simp
             with_reducible rfl
            rotate_left
            ·
             simp only [Act.put, List.setIfInBounds_toArray, List.set_cons_zero, List.set_cons_succ, i64_w, i32_w]
             rfl
            refine pure_ (i := 11) (N := some 159) (v := ?_) (a' := ?_) #[true, true, true, true, true, true, true, true, true, false, true, true, false, false, false, false, false] rfl rfl (any_of HT_.out (by kernel_rfl)) (fun _ _ _ h => h) (Or.inl ⟨by rfl, ?_⟩) ?_ ?_
            rotate_left
            ·
             intro w'
             go_simp
             with_reducible rfl
            rotate_left
            ·
             simp only [Act.put, List.setIfInBounds_toArray, List.set_cons_zero, List.set_cons_succ, i64_w, i32_w]
             rfl
            refine pure_ (i := 12) (N := some 160) (v := ?_) (a' := ?_) #[true, true, true, true, true, true, true, true, true, false, true, true, true, false, false, false, false] rfl rfl (any_of HT_.out (by kernel_rfl)) (fun _ _ _ h => h) (Or.inl ⟨by rfl, ?_⟩) ?_ ?_
            rotate_left
            ·
             intro w'
             go_simp
             with_reducible rfl
            rotate_left
            ·
             simp only [Act.put, List.setIfInBounds_toArray, List.set_cons_zero, List.set_cons_succ, i64_w, i32_w]
             rfl
            refine take_ (i := 13) (N := some 161) (v := ?_) (a' := ?_) #[true, true, true, true, true, true, true, true, true, false, true, true, true, true, false, false, false] rfl rfl (take_ofW HT_.out HW_.out (by kernel_rfl)) (fun _ _ _ h => h) (Or.inl ⟨by rfl, ?_⟩) hHeld ?_ ?_
            rotate_left
            ·
             rintro w' ⟨s0, s1⟩
             go_simp
             with_reducible rfl
            rotate_left
            ·
             simp only [Act.put, List.setIfInBounds_toArray, List.set_cons_zero, List.set_cons_succ, i64_w, i32_w]
             rfl
            refine pure_ (i := 14) (N := some 162) (v := ?_) (a' := ?_) #[true, true, true, true, true, true, true, true, true, false, true, true, true, true, true, false, false] rfl rfl (any_of HT_.out (by kernel_rfl)) (fun _ _ _ h => h) (Or.inl ⟨by rfl, ?_⟩) ?_ ?_
            rotate_left
            ·
             intro w'
             go_simp
             with_reducible rfl
            rotate_left
            ·
             simp only [Act.put, List.setIfInBounds_toArray, List.set_cons_zero, List.set_cons_succ, i64_w, i32_w]
             rfl
            refine one_ (i := 9) (N := some 157) #[true, true, true, true, true, true, true, true, true, true, true, true, true, true, true, false, false] rfl rfl (one_of HT_.out (by kernel_rfl)) (by decide) (fun K hK => ?_)
            refine goes_ Try.func29 (by kernel_rfl) rfl #[.pointer (some ⟨g, 0, none⟩)] (by rfl) rfl rfl (by simp only [List.map_toArray, List.map_cons, List.map_nil]; rfl) ?_
            with_reducible refine (PX.rows_ HPa.out.p).mono ?_
            rintro e wb ⟨rfl, -, hb⟩
            refine ⟨_, rfl, ?_⟩
            have HPb := Aside0.mk (HPa.out.below hb)
            have HBb := Aside0.mk (bel_trans HBa.out hb)
            have HYRb := Aside0.mk (pw_cell_below hb HYRa.out)
            clear hb HPa HBa HYRa
            refine hK.out _ _ ⟨HPb.out.r.y1, HYRb.out⟩ (fun hHeld => ?_)
            clear hK K
            refine norm_ (a' := ?_) ?_ ?_
            rotate_left
            ·
             show Act.put _ (some 157) _ = _
             simp only [Act.put, List.setIfInBounds_toArray, List.set_cons_zero, List.set_cons_succ, i64_w, i32_w]
             rfl
            refine pure_ (i := 15) (N := some 163) (v := ?_) (a' := ?_) #[true, true, true, true, true, true, true, true, true, true, true, true, true, true, true, true, false] rfl rfl (any_of HT_.out (by kernel_rfl)) (fun _ _ _ h => h) (Or.inl ⟨by rfl, ?_⟩) ?_ ?_
            rotate_left
            ·
             intro w'
             go_simp
             with_reducible rfl
            rotate_left
            ·
             simp only [Act.put, List.setIfInBounds_toArray, List.set_cons_zero, List.set_cons_succ, i64_w, i32_w]
             rfl
            refine pure_ (i := 16) (N := some 164) (v := ?_) (a' := ?_) #[true, true, true, true, true, true, true, true, true, true, true, true, true, true, true, true, true] rfl rfl (any_of HT_.out (by kernel_rfl)) (fun _ _ _ h => h) (Or.inl ⟨by rfl, ?_⟩) ?_ ?_
            rotate_left
            ·
             intro w'
             go_simp
             with_reducible rfl
            rotate_left
            ·
             simp only [Act.put, List.setIfInBounds_toArray, List.set_cons_zero, List.set_cons_succ, i64_w, i32_w]
             rfl
            refine done_ (done_of HT_.out (by kernel_rfl)) ?_
            clear hHeld
            go_wp2
            go_roundg gk
            case measure => omega
            case rel => exact ⟨i + 1, s2, congrArg (Value.int .i64) HIN.out, ⟨by have := HI60.out; omega, by have := HI.out; have := HI60.out; omega⟩, HPb, HOM2⟩
    ·
     have q4 : decide ((100 : Int) < (x.2.2.2.length : Int)) = true := decide_eq_true (by omega)
     have q4' : decide (100 < x.2.2.2.length) = true := decide_eq_true (by omega)
     clear hk
     go_wp2_with (go_at_call 30; (with_reducible refine (small_calls x.2.2.1.1 x.2.2.1.2.1 x.2.2.1.2.2 A1 c1 A2 c2 _ HO.out.fit1 (HO.out.below (bel_trans HB0.out HBA0.out)).vec HO.out.fit2 (HO.out.below (bel_trans HB0.out HBA0.out)).tags).mono ?_); rintro e w3 ⟨⟨r, rfl, hr⟩, hb⟩; have hbb := bel_trans HBA0.out hb; have HP3 := Aside0.mk (HP0.out.below hbb); have HBW3 := Aside0.mk hbb; have HB3 := Aside0.mk (bel_trans HB0.out hbb); have HX3 := Aside0.mk (blk_below HBX0.out hb); have b0 := (blk_cell HX3.out 0).trans rfl; have b1 := (blk_cell HX3.out 1).trans rfl; have b2 := (blk_cell HX3.out 2).trans rfl; have b3 := (blk_cell HX3.out 3).trans rfl; have b4 := (blk_cell HX3.out 4).trans rfl; have b5 := (blk_cell HX3.out 5).trans rfl; have fz : ∀ j, w3.frozen? ⟨wr.heap.size, j, none⟩ = false := (fun j => blk_frozen HX3.out j); clear hb hbb; rcases r with _ | _; clear hr; rotate_left; (have HSM := Aside0.mk (hr rfl)); clear hr; rotate_right)
     all_goals
      go_ret
      exact ⟨rfl, HB3.out⟩
   ·
    have q2 : decide ((i : Int) < 120) = false := decide_eq_false (by omega)
    have q2' : decide (i < 120) = false := decide_eq_false h60
    clear hi h60 HI
    go_wp2
    go_ret
    exact ⟨rfl, HB0.out⟩
  ·
   have q1 : decide ((i : Int) < (l.length : Int)) = false := decide_eq_false (by omega)
   have q1' : (i < l.length) = False := eq_false hi
   have q1'' : decide (i < l.length) = false := decide_eq_false hi
   clear hi HI
   go_wp2
   go_ret
   exact ⟨rfl, HB0.out⟩
theorem plays_row (v1 : Value) (s1 : v1 = .slice none 0 0 ∨ ∃ a n c, v1 = .slice (some a) n c) (x1 : List OpT) {W : World} (K1 : (Kd.slice 70 kop).K W x1 v1.cells.toList) (o1 : okOps x1) (_ : World) :
  Calls Try.prog 12 #[v1] W fun e w' => e = .returned (.bool true) ∧ Below W.heap.size W w' := by
 obtain ⟨A, ca, rfl, g1, g2⟩ := slice_of s1 K1
 exact pastPlays_walk A ca x1 W g2 o1
end Go.Proofs.Ytjbakaplcjkniaa.Pb
