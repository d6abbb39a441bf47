/- Past: the document's past: its walks and its plain law; merged. No condition. -/
import Derived.Test.YtjbakaplcjkniaaPaI
import Derived.Test.YtjbakaplcjkniaaPaG
import Derived.Deep.RegionHeld3
import Derived.Deep.AppendLies
import Derived.Test.YtjbakaplcjkniaaPaH
namespace Go.Proofs.Ytjbakaplcjkniaa.Pb
open Go.RowKit Go.Maps Go.Proofs.YtjbakaplcjkniaaW.PrintWords Go.Proofs.YtjbakaplcjkniaaW.PrintLast Go.Proofs.YtjbakaplcjkniaaW.PrintMore Go.Proofs.Ytjbakaplcjkniaa.Pi Go.Proofs.Ytjbakaplcjkniaa.Pa
set_option linter.unusedVariables false
set_option linter.unusedSimpArgs false
/-- Blocks of the document's past's own types. -/
def TR (w : World) (k : Nat) : Prop := ∃ cells, w.heap[k]? = some (.cells cells 82 (0, 0)) ∨ w.heap[k]? = some (.cells cells 79 (0, 0))
/-- A row whose lists came in. -/
def FrI (w0 : World) (x : Row) (cs : List Value) : Prop := ∀ W, Below w0.heap.size w0 W → RK W x cs
theorem FrI.one {w0 : World} {x : Row} {cs : List Value} (h : FrI w0 x cs) : cs.length = 5 ∧ ∀ u ∈ cs, u.oneCell' = true := (h w0 (Below.refl _ _)).one
theorem FrI.cells {w0 : World} {x : Row} {cs : List Value} (h : FrI w0 x cs) : ∃ A1 c1 A2 c2, cs = [.int .u64 x.v, .bool x.gone, .int .u32 x.id, .slice A1 x.vec.length c1, .slice A2 x.tags.length c2] ∧ FrI w0 x [.int .u64 x.v, .bool x.gone, .int .u32 x.id, .slice A1 x.vec.length c1, .slice A2 x.tags.length c2] := by
 obtain ⟨A1, c1, A2, c2, e, _⟩ := h w0 (Below.refl _ _)
 subst e
 exact ⟨A1, c1, A2, c2, rfl, h⟩
/-- The lists of a row whose cells are told. -/
theorem FrI.reads {w0 w : World} {x : Row} {A1 A2 : Option Addr} {c1 c2 n1 n2 : Nat} {a b c : Value} (h : FrI w0 x [a, b, c, .slice A1 n1 c1, .slice A2 n2 c2]) (hb : Below w0.heap.size w0 w) : n1 = x.vec.length ∧ n2 = x.tags.length ∧ x.vec.length ≤ c1 ∧ Kd.C (Kd.int .i32) w A1 x.vec.length x.vec ∧ x.tags.length ≤ c2 ∧ Kd.C Kd.string w A2 x.tags.length x.tags := by
 obtain ⟨B1, d1, B2, d2, e, h1, h2, h3, h4⟩ := h w hb
 injection e with _ e
 injection e with _ e
 injection e with _ e
 injection e with e1 e
 injection e with e2 _
 injection e1 with e11 e12 e13
 injection e2 with e21 e22 e23
 subst e11 e12 e13 e21 e22 e23
 exact ⟨rfl, rfl, h1, h2, h3, h4⟩
def OwnR (w0 w : World) (v : Value) (L : List Row) : Prop := ∃ inner, w.ownsRow w0.heap.size 82 5 v L.length inner ∧ ∀ j x, L[j]? = some x → FrI w0 x ((inner.drop (j * 5)).take 5)
section
variable {w0 w w1 : World} {v : Value} {L : List Row}
theorem OwnR.nil (w0 w : World) : OwnR w0 w (.slice none 0 0) [] := ⟨[], own_nil _ _ _ _, fun j x h => by simp at h⟩
theorem OwnR.below (h : OwnR w0 w v L) (hb : Below w.heap.size w w1) : OwnR w0 w1 v L := by
 obtain ⟨inner, h1, h2⟩ := h
 exact ⟨inner, pw_own_below h1 hb, h2⟩
theorem OwnR.move (h : OwnR w0 w v L) (hm : ∀ k, v.ownBlock = some k → w1.heap[k]? = w.heap[k]?) : OwnR w0 w1 v L := by
 obtain ⟨inner, h1, h2⟩ := h
 exact ⟨inner, own_move h1 hm, h2⟩
theorem OwnR.base (h : OwnR w0 w v L) : ∀ k, v.ownBlock = some k → w0.heap.size ≤ k := by
 obtain ⟨inner, h1, h2⟩ := h
 exact own_base h1
theorem OwnR.lt (h : OwnR w0 w v L) : ∀ k, v.ownBlock = some k → k < w.heap.size := by
 obtain ⟨inner, h1, h2⟩ := h
 exact own_lt h1
theorem OwnR.typed (h : OwnR w0 w v L) : ∀ k, v.ownBlock = some k → ∃ cells, w.heap[k]? = some (.cells cells 82 (0, 0)) := by
 obtain ⟨inner, h1, h2⟩ := h
 exact own_typed h1
theorem OwnR.slice (h : OwnR w0 w v L) : ∃ ao cap, v = .slice ao L.length cap ∧ L.length ≤ cap := by
 obtain ⟨inner, h1, h2⟩ := h
 rcases h1.2 with ⟨rfl, h0⟩ | ⟨r, cap, cur, rfl, hb, hh, hc1, hc2, hc3, hc4⟩
 ·
  exact ⟨none, 0, by rw [h0], by omega⟩
 ·
  exact ⟨_, cap, rfl, hc1⟩
/-- Rows where they lie, with their cells. -/
def ReadI (w0 w : World) (ao : Option Addr) (L : List Row) : Prop := ∀ j x, L[j]? = some x → ∃ ad A1 c1 A2 c2, ao = some ad ∧ RowAt w ad j x A1 c1 A2 c2 ∧ FrI w0 x [.int .u64 x.v, .bool x.gone, .int .u32 x.id, .slice A1 x.vec.length c1, .slice A2 x.tags.length c2]
theorem ReadI.below {ao : Option Addr} (h : ReadI w0 w ao L) (hb : Below w.heap.size w w1) : ReadI w0 w1 ao L := fun j x hx => by
 obtain ⟨ad, A1, c1, A2, c2, h1, h2, h3⟩ := h j x hx
 exact ⟨ad, A1, c1, A2, c2, h1, h2.below hb, h3⟩
theorem OwnR.reads (h : OwnR w0 w v L) (hB : Below w0.heap.size w0 w) : ∃ ao cap, v = .slice ao L.length cap ∧ L.length ≤ cap ∧ ReadI w0 w ao L := by
 obtain ⟨inner, h1, h2⟩ := h
 rcases h1.2 with ⟨rfl, h0⟩ | ⟨r, cap, cur, rfl, hb, hh, hc1, hc2, hc3, hc4⟩
 ·
  have hL : L = [] := List.length_eq_zero_iff.1 h0
  subst hL
  exact ⟨none, 0, rfl, Nat.le_refl _, fun j x hx => by simp at hx⟩
 ·
  refine ⟨some ⟨r, 0, none⟩, cap, rfl, hc1, fun j x hj => ?_⟩
  obtain ⟨A1, c1, A2, c2, e, hF⟩ := (h2 j x hj).cells
  obtain ⟨_, _, l1, g1, l2, g2⟩ := hF.reads hB
  have hlt := (List.getElem?_eq_some_iff.1 hj).1
  have hin : ∀ i, i < 5 → w.cell? ⟨r, j * 5 + i, none⟩ = ((inner.drop (j * 5)).take 5)[i]? := by
   intro i hi
   rw [blk_cell hh, List.getElem?_take, if_pos hi, List.getElem?_drop, ← hc4, List.getElem?_take, if_pos (by omega), Array.getElem?_toList]
  have e2 : ((⟨r, 0, none⟩ : Addr).add (j * 5)) = ⟨r, j * 5, none⟩ := by rw [add_plain]
  refine ⟨_, A1, c1, A2, c2, rfl, ⟨?_, ?_, ?_, ?_, ?_, l1, g1, l2, g2⟩, hF⟩
  ·
   have h0 := hin 0 (by omega); rw [e] at h0; rw [e2]; exact h0
  ·
   have h0 := hin 1 (by omega); rw [e] at h0; rw [e2]; exact h0
  ·
   have h0 := hin 2 (by omega); rw [e] at h0; rw [e2]; exact h0
  ·
   have h0 := hin 3 (by omega); rw [e] at h0; rw [e2]; exact h0
  ·
   have h0 := hin 4 (by omega); rw [e] at h0; rw [e2]; exact h0
end
/-- The document's past. -/
structure RB (w0 w : World) (g : Nat) (vL vK : Value) (s : St) : Prop where
 box : w.heap[g]? = some (.cells #[vL, .int .u64 s.last, .int .u64 s.floor, vK] 79 (0, 0))
 row : OwnR w0 w vL s.L
 kept : (Kd.int .u64).R 50 w w0.heap.size (fun _ => True) vK s.K
 gb : w0.heap.size ≤ g
 at0 : Below w0.heap.size w0 w
 few : s.L.length ≤ 1024
 fewk : s.K.length ≤ 1000000
def RX (w0 w : World) (g : Nat) (s : St) : Prop := ∃ vL vK, RB w0 w g vL vK s
section
variable {w0 w w' : World} {g : Nat} {s : St} {vL vK : Value}
theorem RB.y0 (h : RB w0 w g vL vK s) : w.cell? ⟨g, 0, none⟩ = some vL := (blk_cell h.box 0).trans rfl
theorem RB.y1 (h : RB w0 w g vL vK s) : w.cell? ⟨g, 1, none⟩ = some (.int .u64 s.last) := (blk_cell h.box 1).trans rfl
theorem RB.y2 (h : RB w0 w g vL vK s) : w.cell? ⟨g, 2, none⟩ = some (.int .u64 s.floor) := (blk_cell h.box 2).trans rfl
theorem RB.y3 (h : RB w0 w g vL vK s) : w.cell? ⟨g, 3, none⟩ = some vK := (blk_cell h.box 3).trans rfl
theorem RB.below (h : RB w0 w g vL vK s) (hb : Below w.heap.size w w') : RB w0 w' g vL vK s := ⟨blk_below h.box hb, h.row.below hb, Kd.R_below h.kept hb, h.gb, bel_trans h.at0 hb, h.few, h.fewk⟩
theorem RB.rx (h : RB w0 w g vL vK s) : RX w0 w g s := ⟨_, _, h⟩
theorem RX.below (h : RX w0 w g s) (hb : Below w.heap.size w w') : RX w0 w' g s := by obtain ⟨vL, vK, h⟩ := h; exact ⟨vL, vK, h.below hb⟩
theorem RX.at0 (h : RX w0 w g s) : Below w0.heap.size w0 w := by obtain ⟨vL, vK, h⟩ := h; exact h.at0
theorem RX.few (h : RX w0 w g s) : s.L.length ≤ 1024 := by obtain ⟨vL, vK, h⟩ := h; exact h.few
theorem RX.fewk (h : RX w0 w g s) : s.K.length ≤ 1000000 := by obtain ⟨vL, vK, h⟩ := h; exact h.fewk
theorem RX.glt (h : RX w0 w g s) : g < w.heap.size := by obtain ⟨vL, vK, h⟩ := h; exact blk_lt h.box
/-- What is read of it. -/
theorem RX.reads (h : RX w0 w g s) : ∃ ao cap ak ck, w.heap[g]? = some (.cells #[.slice ao s.L.length cap, .int .u64 s.last, .int .u64 s.floor, .slice ak s.K.length ck] 79 (0, 0)) ∧ ReadI w0 w ao s.L ∧ Kd.C (Kd.int .u64) w ak s.K.length s.K := by
 obtain ⟨vL, vK, h⟩ := h
 obtain ⟨ao, cap, rfl, _, hr⟩ := h.row.reads h.at0
 obtain ⟨ak, ck, rfl, _, hk⟩ := Kd.R_reads h.kept
 exact ⟨ao, cap, ak, ck, h.box, hr, hk⟩
/-- It stays while blocks of other types turn. -/
theorem RX.other (h : RX w0 w g s) {S : Nat → Prop} (hO : Only S w w') (hB : Below w0.heap.size w0 w') (hS : ∀ k c t, S k → w.heap[k]? = some (.cells c t (0, 0)) → t ≠ 82 ∧ t ≠ 79 ∧ t ≠ 50) : RX w0 w' g s := by
 obtain ⟨vL, vK, h⟩ := h
 refine ⟨vL, vK, ⟨(hO.block g (blk_lt h.box) (fun hs => (hS g _ _ hs h.box).2.1 rfl)).trans h.box, h.row.move (fun k hk => hO.block k (h.row.lt k hk) (fun hs => ?_)), ?_, h.gb, hB, h.few, h.fewk⟩⟩
 ·
  obtain ⟨c, hc⟩ := h.row.typed k hk
  exact (hS k _ _ hs hc).1 rfl
 ·
  refine Kd.R_mono (Kd.R_step (Kd.R_bound h.kept) (fun k hk hlt => hO.block k hlt (fun hp => ?_))) (fun k hk => hk.1)
  obtain ⟨_, _, _, q, hq, cells, hc⟩ := hk
  have hq' : q ∈ [50] := hq
  have : q = 50 := by simpa using hq'
  subst this
  exact (hS k _ _ hp hc).2.2 rfl
theorem RX.tt (h : RX w0 w g s) (hO : Only (TT w) w w') (hB : Below w0.heap.size w0 w') : RX w0 w' g s := h.other hO hB (fun k c t hk hc => by
 obtain ⟨c2, hk⟩ := hk
 rcases hk with hk | hk <;> (rw [blk_type hc hk]; exact ⟨by decide, by decide, by decide⟩))
end
/-- The program's past stays while the document's turns. -/
theorem PX.tr {Z : Nat → Prop} {w0 w w' : World} {g : Nat} {s : St} (h : PX Z w0 w g s) (hO : Only (TR w) w w') (hB : Below w0.heap.size w0 w') : PX Z w0 w' g s := by
 obtain ⟨vL, vK, h1, h2, h3, h4, h5⟩ := h
 have hne : ∀ {k t : Nat} {c : Array Value}, w.heap[k]? = some (.cells c t (0, 0)) → t ≠ 82 → t ≠ 79 → ¬ TR w k := fun {k t c} hk n1 n2 hs => by
  obtain ⟨c2, hs⟩ := hs
  rcases hs with hs | hs
  ·
   exact n1 (blk_type hk hs)
  ·
   exact n2 (blk_type hk hs)
 refine ⟨vL, vK, ⟨(hO.block g h1.lt (hne h1.box (by decide) (by decide))).trans h1.box, h1.row.move (fun k hk => hO.block k (h1.row.lt k hk) ?_) ⟨hO.size, fun k hk ht _ => hO.block k hk ?_⟩, ?_, h1.gb⟩, hB, h3, h4, h5⟩
 ·
  obtain ⟨c, hc⟩ := h1.row.typed k hk
  exact hne hc (by decide) (by decide)
 ·
  obtain ⟨c, hc⟩ := ht
  rcases hc with hc | hc
  ·
   exact hne hc (by decide) (by decide)
  ·
   exact hne hc (by decide) (by decide)
 ·
  refine Kd.R_mono (Kd.R_step (Kd.R_bound h1.kept) (fun k hk hlt => hO.block k hlt ?_)) (fun k hk => hk.1)
  obtain ⟨_, _, _, q, hq, cells, hc⟩ := hk
  have hq' : q ∈ [50] := hq
  have : q = 50 := by simpa using hq'
  subst this
  exact hne hc (by decide) (by decide)
/-! ### At -/
def nI (o : Option Nat) : Int := match o with | some i => (i : Int) | none => -1
theorem atI_nI (L : List Row) (id v : Int) : atI L id v = nI (nowTo L v L.length id) := by rw [nowTo_all]; rfl
theorem nI_fit {L : List Row} {v id : Int} {k : Nat} {x : Row} (hx : L[k]? = some x) (h1 : x.id = id) (h2 : x.v ≤ v) : nI (nowTo L v (k + 1) id) = (k : Int) := by
 rw [congrFun (nowTo_fit hx h2) id, if_pos h1.symm]
 rfl
theorem nI_not {L : List Row} {v id : Int} {k : Nat} {x : Row} (hx : L[k]? = some x) (h : ¬ (x.id = id ∧ x.v ≤ v)) : nI (nowTo L v (k + 1) id) = nI (nowTo L v k id) := by
 by_cases h2 : x.v ≤ v
 ·
  rw [congrFun (nowTo_fit hx h2) id, if_neg (fun e => h ⟨e.symm, h2⟩)]
 ·
  rw [congrFun (nowTo_unfit hx h2) id]
section
variable {w0 w w' : World} {g : Nat} {s : St}
set_option maxHeartbeats 4000000 in
set_option maxRecDepth 100000 in
theorem RX.at_ (h : RX w0 w g s) (id v : Int) : Calls Try.prog 53 #[.pointer (some ⟨g, 0, none⟩), .int .u32 id, .int .u64 v] w fun e w' => e = .returned (.int .i64 (atI s.L id v)) ∧ Below w.heap.size w w' := by
 have hu2 := Try.underlying79
 have hu3 := Try.underlying82
 have hu4 := Try.underlying54
 have HX := Aside0.mk h
 obtain ⟨ao, cap, ak, ck, hbox, hrd, _⟩ := h.reads
 have HBX := Aside0.mk hbox
 have HRD := Aside0.mk hrd
 have HFW := Aside0.mk h.few
 clear h hbox hrd
 go_enter Try.func53, Try.ntmps53
 go_wp2
 go_loopg [7, 8] s.L.length (fun gk v7 v8 wr => ∃ (i : Nat), v8 = .int .i64 i ∧ v7 = .int .i64 (nI (nowTo s.L v i id)) ∧ Aside0 (i ≤ s.L.length ∧ s.L.length - i ≤ gk) ∧ Aside0 (Below w.heap.size w wr))
 case atStart => exact ⟨0, rfl, rfl, ⟨by omega, by omega⟩, ⟨by first | exact Below.refl _ _ | exact below_drew (Below.refl _ _)⟩⟩
 case round =>
  obtain ⟨i, rfl, rfl, HI, HB⟩ := hrel
  have y0 := (blk_cell (blk_below HBX.out HB.out) 0).trans rfl
  by_cases hi : i < s.L.length
  ·
   have q1 : decide ((i : Int) < (s.L.length : Int)) = true := decide_eq_true (by omega)
   have q1' : (i : Int) < (s.L.length : Int) := by omega
   obtain ⟨x, hx⟩ : ∃ x, s.L[i]? = some x := ⟨_, List.getElem?_eq_getElem hi⟩
   obtain ⟨ad, A1, c1, A2, c2, hao, hr, -⟩ := (HRD.out.below HB.out) i x hx
   subst hao
   have HR := Aside0.mk hr
   have HXI := Aside0.mk hx
   have HII := Aside0.mk hi
   have HIN := Aside0.mk (show wrap64 ((i : Int) + 1) = ((i + 1 : Nat) : Int) by have := HFW.out; unfold wrap64; omega)
   obtain ⟨gk, rfl⟩ : ∃ m, gk = m + 1 := ⟨gk - 1, by have := HI.out; omega⟩
   have x0 := hr.y0
   have x2 := hr.y2
   clear hi hx hr
   cases q2 : (x.id == id) with
   | true =>
    have HE := Aside0.mk (show x.id = id by simpa using q2)
    cases q3 : decide (x.v ≤ v) with
    | true =>
     have HF := Aside0.mk (of_decide_eq_true q3)
     go_wp2
     go_roundg gk
     case measure => omega
     case rel => exact ⟨i + 1, congrArg (Value.int .i64) HIN.out, by rw [nI_fit HXI.out HE.out HF.out], ⟨by have := HII.out; omega, by have := HI.out; have := HII.out; omega⟩, HB⟩
    | false =>
     have HF := Aside0.mk (of_decide_eq_false q3)
     go_wp2
     go_roundg gk
     case measure => omega
     case rel => exact ⟨i + 1, congrArg (Value.int .i64) HIN.out, by rw [nI_not HXI.out (fun h => absurd h.2 (by have := HF.out; omega))], ⟨by have := HII.out; omega, by have := HI.out; have := HII.out; omega⟩, HB⟩
   | false =>
    have HE := Aside0.mk (show ¬ x.id = id by simpa using q2)
    go_wp2
    go_roundg gk
    case measure => omega
    case rel => exact ⟨i + 1, congrArg (Value.int .i64) HIN.out, by rw [nI_not HXI.out (fun h => HE.out h.1)], ⟨by have := HII.out; omega, by have := HI.out; have := HII.out; omega⟩, HB⟩
  ·
   have q1 : decide ((i : Int) < (s.L.length : Int)) = false := decide_eq_false (by omega)
   have q1' : (i < s.L.length) = False := eq_false hi
   have q1'' : decide (i < s.L.length) = false := decide_eq_false hi
   have hie : i = s.L.length := by have := HI.out; omega
   clear hi HI
   go_wp2
   go_ret
   subst hie
   exact ⟨by rw [atI_nI]; rfl, HB.out⟩
/-! ### Known -/
set_option maxHeartbeats 4000000 in
set_option maxRecDepth 100000 in
theorem RX.known (h : RX w0 w g s) (v : Int) : Calls Try.prog 54 #[.pointer (some ⟨g, 0, none⟩), .int .u64 v] w fun e w' => e = .returned (.bool (s.known v)) ∧ Below w.heap.size w w' := by
 have hu2 := Try.underlying79
 have HX := Aside0.mk h
 obtain ⟨ao, cap, ak, ck, hbox, _, hk⟩ := h.reads
 have HBX := Aside0.mk hbox
 have HK := Aside0.mk hk
 have HFW := Aside0.mk h.fewk
 clear h hbox hk
 go_enter Try.func54, Try.ntmps54
 go_wp2
 go_loopg [5] s.K.length (fun gk v5 wr => ∃ (i : Nat), v5 = .int .i64 i ∧ Aside0 (i ≤ s.K.length ∧ s.K.length - i ≤ gk ∧ ∀ j, j < i → s.K[j]? ≠ some v) ∧ Aside0 (Below w.heap.size w wr))
 case atStart => exact ⟨0, rfl, ⟨by omega, by omega, fun j hj => by omega⟩, ⟨by first | exact Below.refl _ _ | exact below_drew (Below.refl _ _)⟩⟩
 case round =>
  obtain ⟨i, rfl, HI, HB⟩ := hrel
  have y3 := (blk_cell (blk_below HBX.out HB.out) 3).trans rfl
  have y2 := (blk_cell (blk_below HBX.out HB.out) 2).trans rfl
  by_cases hi : i < s.K.length
  ·
   have q1 : decide ((i : Int) < (s.K.length : Int)) = true := decide_eq_true (by omega)
   have q1' : (i : Int) < (s.K.length : Int) := by omega
   obtain ⟨ad, x, rfl, hx, x0⟩ := Pa.C_int_at (Kd.C_below HK.out HB.out) hi
   have HXI := Aside0.mk hx
   have HII := Aside0.mk hi
   have HIN := Aside0.mk (show wrap64 ((i : Int) + 1) = ((i + 1 : Nat) : Int) by have := HFW.out; unfold wrap64; omega)
   obtain ⟨gk, rfl⟩ : ∃ m, gk = m + 1 := ⟨gk - 1, by have := HI.out; omega⟩
   clear hi hx
   cases q2 : (x == v) with
   | true =>
    go_wp2
    go_ret
    refine ⟨?_, HB.out⟩
    have e : x = v := by simpa using q2
    have hm := List.mem_of_getElem? HXI.out
    rw [e] at hm
    unfold St.known knownP
    rw [List.contains_iff_mem.2 hm, Bool.or_true]
    rfl
   | false =>
    go_wp2
    go_roundg gk
    case measure => omega
    case rel => exact ⟨i + 1, congrArg (Value.int .i64) HIN.out, ⟨by have := HII.out; omega, by have := HI.out; have := HII.out; omega, fun j hj => by
     rcases Nat.lt_or_ge j i with h | h
     ·
      exact HI.out.2.2 j h
     ·
      have : j = i := by omega
      subst this
      rw [HXI.out]
      intro e
      injection e with e
      rw [e] at q2
      simp at q2⟩, HB⟩
  ·
   have q1 : decide ((i : Int) < (s.K.length : Int)) = false := decide_eq_false (by omega)
   have q1' : (i < s.K.length) = False := eq_false hi
   have q1'' : decide (i < s.K.length) = false := decide_eq_false hi
   have HII := Aside0.mk hi
   clear hi
   go_wp2
   go_ret
   refine ⟨?_, HB.out⟩
   have hn : s.K.contains v = false := by
    rw [← Bool.not_eq_true, List.contains_iff_mem]
    intro hm
    obtain ⟨j, hj⟩ := List.getElem?_of_mem hm
    have hjl := (List.getElem?_eq_some_iff.1 hj).1
    exact HI.out.2.2 j (by have := HII.out; omega) hj
   unfold St.known knownP
   rw [hn, Bool.or_false]
   rfl
end
end Go.Proofs.Ytjbakaplcjkniaa.Pb
namespace Go.Proofs.Ytjbakaplcjkniaa.Pb
open Go.RowKit Go.Maps Go.Proofs.YtjbakaplcjkniaaW.PrintWords Go.Proofs.YtjbakaplcjkniaaW.PrintLast Go.Proofs.YtjbakaplcjkniaaW.PrintMore Go.Proofs.Ytjbakaplcjkniaa.Pi Go.Proofs.Ytjbakaplcjkniaa.Pa
set_option linter.unusedVariables false
set_option linter.unusedSimpArgs false
def rlay.T1 : Bool × List (List Nat × List Nat) := (true, [([], []), ([0], [0]), ([1], [1]), ([2], [2]), ([3], [3]), ([4, 3], [3, 4]), ([3], [3]), ([6, 3], [3, 6]), ([7, 3], [3, 7]), ([8, 3], [3, 8]), ([5, 9, 3], [3, 5, 9]), ([3, 10], [3, 10])])
def rlay.B1 : List Nat := [0, 1, 3, 7, 15, 31, 15, 79, 207, 463, 1023, 2047]
theorem rlay.tab1 : rtab .any (opsOf Try.f36 1) = rlay.T1 := by kernel_rfl
theorem rlay.bits1 : waitsOk rlay.T1.2 rlay.B1 = true := by kernel_rfl
def rlay.T9 : Bool × List (List Nat × List Nat) := (true, [([], []), ([], []), ([1], [1]), ([2], [2]), ([3], [3]), ([], []), ([5], [5]), ([4, 6], [4, 6]), ([0, 0, 1, 2, 3, 4, 5, 6, 7], [0]), ([8, 0, 1, 2, 3, 4, 5, 6, 7], [8]), ([9, 7, 7, 0, 1, 2, 3, 4, 5, 6, 7], [7, 9])])
def rlay.B9 : List Nat := [0, 0, 2, 6, 14, 0, 32, 126, 255, 511, 1023]
theorem rlay.tab9 : rtab .any (opsOf Try.f36 9) = rlay.T9 := by kernel_rfl
theorem rlay.bits9 : waitsOk rlay.T9.2 rlay.B9 = true := by kernel_rfl
abbrev zeroRow : Value := .agg #[.int .u64 0, .bool false, .int .u32 0, .slice none 0 0, .slice none 0 0]
theorem info_row : (Try.prog.info? 82).map (fun i => (i.zero, i.size, i.bytes)) = some (some zeroRow, 5, 72) := by kernel_rfl
/-- What an append of one row leaves. -/
theorem run_append_R {w0 w : World} (ty : TypeId) (v : Value) (A : List Row) (y : Row) (p : Nat) (cs : List Value) (hv : OwnR w0 w v A) (hp : w.heap[p]? = some (.cells cs.toArray 82 (0, 0)))
  (hr : FrI w0 y cs) (hl : A.length ≤ 1000000) (hb : w0.heap.size ≤ w.heap.size) :
  ∃ v' w', (Builtin.append_ #[77, 77] ty #[v, .slice (some ⟨p, 0, none⟩) 1 1]).run Try.prog w = .ok v' w' ∧ OwnR w0 w' v' (A ++ [y]) ∧ Only (fun i => v.ownBlock = some i) w w' ∧ (v'.ownBlock = v.ownBlock ∨ v'.ownBlock = some w.heap.size) := by
 obtain ⟨i0, hi, hzz⟩ := Option.map_eq_some_iff.1 info_row
 simp only [Prod.mk.injEq] at hzz
 obtain ⟨hz, hsz, hby⟩ := hzz
 obtain ⟨inner, h1, h2⟩ := hv
 have hc5 := hr.one
 obtain ⟨v', w', hrun, hown, hgr, hne, hat⟩ := run_append_own_at (P := Try.prog) w w0.heap.size 77 ty 82 i0 _ 5 72 Try.underlying77 hi hz hsz hby rfl (by omega) v A.length inner h1 ⟨p, 0, none⟩ 1 1 cs (by rw [hc5.1])
  (fun j u hu => by rw [add_plain, blk_cell hp, List.getElem?_toArray]; simpa using hu) hc5.2 (by unfold maxLen; omega) (by omega) hb
 have hO : Only (fun i => v.ownBlock = some i) w w' := Only.of_grown hgr (fun k hk => hk)
 have hil : inner.length = A.length * 5 := h1.1
 refine ⟨v', w', hrun, ⟨inner ++ cs, by rw [List.length_append]; exact hown, fun j x hx => ?_⟩, hO, hat⟩
 by_cases hj : j < A.length
 ·
  rw [List.getElem?_append_left hj] at hx
  have e : ((inner ++ cs).drop (j * 5)).take 5 = (inner.drop (j * 5)).take 5 := by
   rw [List.drop_append_of_le_length (by omega), List.take_append_of_le_length (by rw [List.length_drop]; omega)]
  rw [e]
  exact h2 j x hx
 ·
  rw [List.getElem?_append_right (by omega)] at hx
  have hj0 : j - A.length = 0 := by
   have := (List.getElem?_eq_some_iff.1 hx).1
   simp at this; omega
  rw [hj0] at hx
  cases hx
  have e : ((inner ++ cs).drop (j * 5)).take 5 = cs := by
   rw [List.drop_append, List.drop_eq_nil_of_le (by omega), List.nil_append, show j * 5 - inner.length = 0 by omega, List.drop_zero, List.take_of_length_le (by rw [hc5.1]; exact Nat.le_refl _)]
  rw [e]
  exact hr
section
variable {ops : Array Oper} {rest : List Oper} {o : Oper} {a : Act} {w w0 : World} {K : Act → World → Prop} {Q : Exit → Act → World → Prop} {E : Prop}
theorem step_append_R (hgd : o.guard = none) (s x : Operand) (ho : o.op = .call { callee := .builtin .append, args := #[s, x], argTypes := #[77, 77] })
  (v : Value) (A : List Row) (y : Row) (p : Nat) (cs : List Value) (hs : a.eval s = v) (hx : a.eval x = .slice (some ⟨p, 0, none⟩) 1 1) (hv : OwnR w0 w v A) (hp : w.heap[p]? = some (.cells cs.toArray 82 (0, 0)))
  (hr : FrI w0 y cs) (hl : A.length ≤ 1000000) (hb : w0.heap.size ≤ w.heap.size)
  (h : ∀ v' w', OwnR w0 w' v' (A ++ [y]) → Only (fun i => v.ownBlock = some i) w w' → K (a.put o.dst v') w') : if Region.wanted o (yielded ops a.tmps) = true then Oper.wp Try.prog o a w K Q else E := by
 obtain ⟨v', w', hrun, h1, h2, -⟩ := run_append_R o.type v A y p cs hv hp hr hl hb
 rw [if_pos (by simp [Region.wanted, hgd])]
 unfold Oper.wp execOp
 simp only [ho, resolve, invoke, builtin, Sem.run_bind, Sem.run_pure, Result.andThen_ok, List.map_toArray, List.map_cons, List.map_nil, hs, hx, hrun]
 exact h v' w' h1 h2
/-- append(rows, row), at the operation. -/
theorem app_R (hgd : o.guard = none) (s x : Operand) (ho : o.op = .call { callee := .builtin .append, args := #[s, x], argTypes := #[77, 77] })
  (v : Value) (A : List Row) (y : Row) (cs : List Value) (hs : a.eval s = v) (hx : a.eval x = .slice (some ⟨w.heap.size, 0, none⟩) 1 1) (hv : OwnR w0 w v A)
  (hr : FrI w0 y cs) (hl : A.length ≤ 1000000) (hb : w0.heap.size ≤ w.heap.size)
  (h : ∀ v' w', OwnR w0 w' v' (A ++ [y]) → Only (fun i => v.ownBlock = some i) (w.alloc (.cells cs.toArray 82)) w' → (∀ k, v'.ownBlock = some k → v.ownBlock = some k ∨ w.heap.size ≤ k) → wpList Try.prog ops Q rest (a.put o.dst v') w') : wpList Try.prog ops Q (o :: rest) a (w.alloc (.cells cs.toArray 82)) := by
 have hba := below_alloc (Below.refl w.heap.size w) (.cells cs.toArray 82)
 obtain ⟨v', w', hrun, h1, h2, h3⟩ := run_append_R o.type v A y w.heap.size cs (hv.below hba) (heap_alloc_new w _) hr hl (Nat.le_trans hb hba.size)
 refine wpList_plain hgd fun K hK => ?_
 unfold Oper.wp execOp
 simp only [ho, resolve, invoke, builtin, Sem.run_bind, Sem.run_pure, Result.andThen_ok, List.map_toArray, List.map_cons, List.map_nil, hs, hx, hrun]
 exact hK _ _ (h v' w' h1 h2 (fun k hk => by rcases h3 with h3 | h3; exact .inl (h3 ▸ hk); rw [h3] at hk; injection hk with hk; exact .inr (by rw [← hk]; exact hba.size)))
end
/-- What Lay does. -/
def layD (s : St) (r : Row) : Int × St := if r.v = 0 ∨ r.v < s.last then (1, s) else if r.gone = true ∧ missing s.L r.id r.v = true then (2, s) else s.lay r
theorem layD_lay (s : St) {r : Row} (h : r.gone = false) : layD s r = s.lay r := by
 unfold layD
 by_cases hb : r.v = 0 ∨ r.v < s.last
 ·
  rw [if_pos hb]; unfold St.lay; rw [if_pos hb]
 ·
  rw [if_neg hb, if_neg (fun e => by rw [h] at e; cases e.1)]
theorem layD_cut (s : St) (v id : Int) : layD s ⟨v, true, id, [], []⟩ = s.cut v id := by
 unfold layD St.cut
 simp
theorem TR_back {w w1 : World} (hb : Below w.heap.size w w1) {i : Nat} (hi : i < w.heap.size) (h : TR w1 i) : TR w i := by
 obtain ⟨c, h⟩ := h
 rw [hb.block i hi] at h
 exact ⟨c, h⟩
/-- A row behind the others. -/
theorem RB.laid {w0 w w1 : World} {g : Nat} {vL vK v1 : Value} {s : St} {r : Row} (h : RB w0 w g vL vK s) (hl : s.L.length < 1024) (hO : Only (fun i => vL.ownBlock = some i) w w1) (hv : OwnR w0 w1 v1 (s.L ++ [r])) :
  RX w0 ((w1.setCell ⟨g, 0, none⟩ v1).setCell ⟨g, 1, none⟩ (.int .u64 r.v)) g ⟨s.L ++ [r], r.v, s.floor, s.K⟩ ∧ Only (TR w) w ((w1.setCell ⟨g, 0, none⟩ v1).setCell ⟨g, 1, none⟩ (.int .u64 r.v)) := by
 have hne : vL.ownBlock ≠ some g := fun e => by
  obtain ⟨c, hc⟩ := h.row.typed g e
  exact absurd (blk_type hc h.box) (by decide)
 have hb : w1.heap[g]? = _ := (hO.block g (blk_lt h.box) hne).trans h.box
 have hk : (Kd.int .u64).R 50 w1 w0.heap.size (fun _ => True) vK s.K := by
  refine Kd.R_mono (Kd.R_step (Kd.R_bound h.kept) (fun k hk hlt => hO.block k hlt (fun hp => ?_))) (fun k hk => hk.1)
  obtain ⟨_, _, _, q, hq, cells, hc⟩ := hk
  have hq' : q ∈ [50] := hq
  have : q = 50 := by simpa using hq'
  subst this
  obtain ⟨c, hc2⟩ := h.row.typed k hp
  exact absurd (blk_type hc hc2) (by decide)
 have hS : Only (fun k => TR w k ∧ w0.heap.size ≤ k) w ((w1.setCell ⟨g, 0, none⟩ v1).setCell ⟨g, 1, none⟩ (.int .u64 r.v)) :=
  ((hO.mono (fun k hk => by obtain ⟨c, hc⟩ := h.row.typed k hk; exact ⟨⟨c, .inl hc⟩, h.row.base k hk⟩)).set ⟨g, 0, none⟩ _ ⟨⟨_, .inr h.box⟩, h.gb⟩).set ⟨g, 1, none⟩ _ ⟨⟨_, .inr h.box⟩, h.gb⟩
 have hput : ∀ {W : World} {j : Nat} {u : Value} {cells : Array Value} {l : List Row}, OwnR w0 W v1 l → W.heap[g]? = some (.cells cells 79 (0, 0)) → OwnR w0 (W.setCell ⟨g, j, none⟩ u) v1 l := fun {W j u cells l} hw hg =>
  hw.move (fun k hk => Below.heap_setCell W ⟨g, j, none⟩ u k (fun e => by obtain ⟨c, hc⟩ := hw.typed k hk; have e : k = g := e; subst e; exact absurd (blk_type hc hg) (by decide)))
 refine ⟨⟨v1, vK, blk_put (blk_put hb 0 _ rfl) 1 _ rfl, hput (hput hv hb) (blk_set hb 0 _), Kd.R_set (Kd.R_set hk hb (by decide) 0 _) (blk_set hb 0 _) (by decide) 1 _, h.gb, hS.below_of h.at0 (fun i hi => hi.2), ?_, h.fewk⟩, hS.mono (fun k hk => hk.1)⟩
 show (s.L ++ [r]).length ≤ 1024
 rw [List.length_append, List.length_singleton]
 omega
section
variable {w0 w w' : World} {g : Nat} {s : St}
/-- The row at a place. -/
theorem RX.row_at (h : RX w0 w g s) {i : Nat} {x : Row} (hx : s.L[i]? = some x) : ∃ ad cap A1 c1 A2 c2, w.cell? ⟨g, 0, none⟩ = some (.slice (some ad) s.L.length cap) ∧ RowAt w ad i x A1 c1 A2 c2 ∧ FrI w0 x [.int .u64 x.v, .bool x.gone, .int .u32 x.id, .slice A1 x.vec.length c1, .slice A2 x.tags.length c2] := by
 obtain ⟨ao, cap, ak, ck, hb, hr, _⟩ := h.reads
 obtain ⟨ad, A1, c1, A2, c2, rfl, h1, h2⟩ := hr i x hx
 exact ⟨ad, cap, A1, c1, A2, c2, (blk_cell hb 0).trans rfl, h1, h2⟩
theorem RX.cells (h : RX w0 w g s) : ∃ ao cap, w.cell? ⟨g, 0, none⟩ = some (.slice ao s.L.length cap) ∧ w.cell? ⟨g, 1, none⟩ = some (.int .u64 s.last) := by
 obtain ⟨ao, cap, ak, ck, hb, _, _⟩ := h.reads
 exact ⟨ao, cap, (blk_cell hb 0).trans rfl, (blk_cell hb 1).trans rfl⟩
theorem RX.y1 (h : RX w0 w g s) : w.cell? ⟨g, 1, none⟩ = some (.int .u64 s.last) := by obtain ⟨_, _, _, h⟩ := h.cells; exact h
set_option maxHeartbeats 8000000 in
set_option maxRecDepth 100000 in
theorem RX.lay (h : RX w0 w g s) (r : Row) (A1 : Option Addr) (c1 : Nat) (A2 : Option Addr) (c2 : Nat) (gn : Bool) (hgn : r.gone = gn) (hF : FrI w0 r [.int .u64 r.v, .bool gn, .int .u32 r.id, .slice A1 r.vec.length c1, .slice A2 r.tags.length c2]) :
  Calls Try.prog 36 #[.pointer (some ⟨g, 0, none⟩), .agg #[.int .u64 r.v, .bool gn, .int .u32 r.id, .slice A1 r.vec.length c1, .slice A2 r.tags.length c2]] w fun e w' => e = .returned (.int .i64 (layD s r).1) ∧ RX w0 w' g (layD s r).2 ∧ Only (TR w) w w' := by
 have hu2 := Try.underlying79
 have hu3 := Try.underlying82
 have hu4 := Try.underlying54
 have hbx := below_alloc (Below.refl w.heap.size w) (.cells #[.int .u64 r.v, .bool gn, .int .u32 r.id, .slice A1 r.vec.length c1, .slice A2 r.tags.length c2] 82)
 have HB0 := Aside0.mk hbx
 obtain ⟨vL, vK, hRB⟩ := h
 obtain ⟨ao, cap, rfl, -, -⟩ := hRB.row.reads hRB.at0
 have HVL := Aside0.mk hRB.row.lt
 have HX0 := Aside0.mk (hRB.below hbx)
 have HBX0 := Aside0.mk (heap_alloc_new w (.cells #[.int .u64 r.v, .bool gn, .int .u32 r.id, .slice A1 r.vec.length c1, .slice A2 r.tags.length c2] 82))
 have HF := Aside0.mk hF
 have HGN := Aside0.mk hgn
 obtain ⟨D, hD⟩ : ∃ z, layD s r = z := ⟨_, rfl⟩
 rw [hD]
 have HD := Aside0.mk hD
 clear hRB hbx hF hgn hD
 by_cases hbad : r.v = 0 ∨ r.v < s.last
 ·
  have HE := Aside0.mk (show D = (1, s) by rw [← HD.out]; unfold layD; rw [if_pos hbad])
  cases q1 : (r.v == 0) with
  | true =>
   clear hbad
   go_enter Try.func36, Try.ntmps36
   go_wp2
   obtain ⟨wb, hwb⟩ : ∃ z, w.alloc (.cells #[.int .u64 r.v, .bool gn, .int .u32 r.id, .slice A1 r.vec.length c1, .slice A2 r.tags.length c2] 82) = z := ⟨_, rfl⟩
   rw [hwb] at HX0 HBX0 HB0 ⊢
   have HX := Aside0.mk (HX0.out.below (below_drew (Below.refl _ _)))
   have HBX := Aside0.mk (blk_below HBX0.out (below_drew (Below.refl _ _)))
   have HB := Aside0.mk (bel_trans HB0.out (below_drew (Below.refl _ _)))
   clear HX0 HBX0 HB0 hwb
   refine start_ (n := 12) (S := fun w' => w'.cell? ⟨w.heap.size, 0, none⟩ = some (.int .u64 r.v) ∧ w'.cell? ⟨g, 1, none⟩ = some (.int .u64 s.last)) (ds := []) #[false, false, false, false, false, false, false, false, false, false, false, false] (by kernel_rfl) rfl rfl ⟨((blk_cell HBX.out 0).trans rfl), HX.out.y1⟩ (fun hHeld => ?_)
   refine with_tabW rlay.tab1 rlay.bits1 (fun HT_ HW_ => ?_)
   generalize wb.drew = wd at HX HBX HB hHeld ⊢
   refine pure_ (i := 0) (N := some 6) (v := ?_) (a' := ?_) #[true, false, false, false, false, false, false, false, false, false, false, false] rfl rfl (any_of HT_.out (by kernel_rfl)) (fun _ _ _ h => h) (Or.inl ⟨by rfl, ?_⟩) ?_ ?_
   rotate_left
   ·
    intro w'
    go_simp
    with_reducible rfl
   rotate_left
   ·
    simp only [Act.put, List.setIfInBounds_toArray, List.set_cons_zero, List.set_cons_succ, i64_w, i32_w]
    rfl
   refine take_ (i := 1) (N := some 7) (v := ?_) (a' := ?_) #[true, true, false, false, false, false, false, false, false, false, false, false] rfl rfl (take_ofW HT_.out HW_.out (by kernel_rfl)) (fun _ _ _ h => h) (Or.inl ⟨by rfl, ?_⟩) hHeld ?_ ?_
   rotate_left
   ·
    rintro w' ⟨s0, s1⟩
    go_simp
    with_reducible rfl
   rotate_left
   ·
    simp only [Act.put, List.setIfInBounds_toArray, List.set_cons_zero, List.set_cons_succ, i64_w, i32_w]
    rfl
   refine pure_ (i := 2) (N := some 8) (v := ?_) (a' := ?_) #[true, true, true, false, false, false, false, false, false, false, false, false] rfl rfl (any_of HT_.out (by kernel_rfl)) (fun _ _ _ h => h) (Or.inl ⟨by rfl, ?_⟩) ?_ ?_
   rotate_left
   ·
    intro w'
    go_simp
    with_reducible rfl
   rotate_left
   ·
    simp only [Act.put, List.setIfInBounds_toArray, List.set_cons_zero, List.set_cons_succ, i64_w, i32_w]
    rfl
   refine pure_ (i := 3) (N := some 9) (v := ?_) (a' := ?_) #[true, true, true, true, false, false, false, false, false, false, false, false] rfl rfl (any_of HT_.out (by kernel_rfl)) (fun _ _ _ h => h) (Or.inl ⟨by rfl, ?_⟩) ?_ ?_
   rotate_left
   ·
    intro w'
    go_simp
    with_reducible rfl
   rotate_left
   ·
    simp only [Act.put, List.setIfInBounds_toArray, List.set_cons_zero, List.set_cons_succ, i64_w, i32_w]
    rfl
   refine pure_ (i := 4) (N := some 10) (v := undef) (a' := ?_) #[true, true, true, true, true, false, false, false, false, false, false, false] rfl rfl (any_of HT_.out (by kernel_rfl)) (fun _ _ _ h => h) (Or.inr ⟨by rfl, rfl⟩) ?_ ?_
   rotate_left
   ·
    simp only [Act.put, List.setIfInBounds_toArray, List.set_cons_zero, List.set_cons_succ, i64_w, i32_w]
    rfl
   refine pure_ (i := 5) (N := some 11) (v := undef) (a' := ?_) #[true, true, true, true, true, true, false, false, false, false, false, false] rfl rfl (any_of HT_.out (by kernel_rfl)) (fun _ _ _ h => h) (Or.inr ⟨by rfl, rfl⟩) ?_ ?_
   rotate_left
   ·
    simp only [Act.put, List.setIfInBounds_toArray, List.set_cons_zero, List.set_cons_succ, i64_w, i32_w]
    rfl
   refine pure_ (i := 6) (N := some 12) (v := undef) (a' := ?_) #[true, true, true, true, true, true, true, false, false, false, false, false] rfl rfl (any_of HT_.out (by kernel_rfl)) (fun _ _ _ h => h) (Or.inr ⟨by rfl, rfl⟩) ?_ ?_
   rotate_left
   ·
    simp only [Act.put, List.setIfInBounds_toArray, List.set_cons_zero, List.set_cons_succ, i64_w, i32_w]
    rfl
   refine pure_ (i := 7) (N := some 13) (v := undef) (a' := ?_) #[true, true, true, true, true, true, true, true, false, false, false, false] rfl rfl (any_of HT_.out (by kernel_rfl)) (fun _ _ _ h => h) (Or.inr ⟨by rfl, rfl⟩) ?_ ?_
   rotate_left
   ·
    simp only [Act.put, List.setIfInBounds_toArray, List.set_cons_zero, List.set_cons_succ, i64_w, i32_w]
    rfl
   refine pure_ (i := 8) (N := some 14) (v := undef) (a' := ?_) #[true, true, true, true, true, true, true, true, true, false, false, false] rfl rfl (any_of HT_.out (by kernel_rfl)) (fun _ _ _ h => h) (Or.inr ⟨by rfl, rfl⟩) ?_ ?_
   rotate_left
   ·
    simp only [Act.put, List.setIfInBounds_toArray, List.set_cons_zero, List.set_cons_succ, i64_w, i32_w]
    rfl
   refine pure_ (i := 9) (N := some 15) (v := undef) (a' := ?_) #[true, true, true, true, true, true, true, true, true, true, false, false] rfl rfl (any_of HT_.out (by kernel_rfl)) (fun _ _ _ h => h) (Or.inr ⟨by rfl, rfl⟩) ?_ ?_
   rotate_left
   ·
    simp only [Act.put, List.setIfInBounds_toArray, List.set_cons_zero, List.set_cons_succ, i64_w, i32_w]
    rfl
   refine pure_ (i := 10) (N := some 16) (v := undef) (a' := ?_) #[true, true, true, true, true, true, true, true, true, true, true, false] rfl rfl (any_of HT_.out (by kernel_rfl)) (fun _ _ _ h => h) (Or.inr ⟨by rfl, rfl⟩) ?_ ?_
   rotate_left
   ·
    simp only [Act.put, List.setIfInBounds_toArray, List.set_cons_zero, List.set_cons_succ, i64_w, i32_w]
    rfl
   refine pure_ (i := 11) (N := some 17) (v := ?_) (a' := ?_) #[true, true, true, true, true, true, true, true, true, true, true, true] rfl rfl (any_of HT_.out (by kernel_rfl)) (fun _ _ _ h => h) (Or.inl ⟨by rfl, ?_⟩) ?_ ?_
   rotate_left
   ·
    intro w'
    go_simp
    with_reducible rfl
   rotate_left
   ·
    simp only [Act.put, List.setIfInBounds_toArray, List.set_cons_zero, List.set_cons_succ, i64_w, i32_w]
    rfl
   refine done_ (done_of HT_.out (by kernel_rfl)) ?_
   clear hHeld
   go_wp2
   go_ret
   rw [HE.out]
   exact ⟨rfl, ⟨_, _, HX.out⟩, Only.of_below HB.out⟩
  | false =>
   have q2 : decide (r.v < s.last) = true := decide_eq_true (by rcases hbad with h | h; exact absurd h (by simpa using q1); exact h)
   clear hbad
   go_enter Try.func36, Try.ntmps36
   go_wp2
   obtain ⟨wb, hwb⟩ : ∃ z, w.alloc (.cells #[.int .u64 r.v, .bool gn, .int .u32 r.id, .slice A1 r.vec.length c1, .slice A2 r.tags.length c2] 82) = z := ⟨_, rfl⟩
   rw [hwb] at HX0 HBX0 HB0 ⊢
   have HX := Aside0.mk (HX0.out.below (below_drew (Below.refl _ _)))
   have HBX := Aside0.mk (blk_below HBX0.out (below_drew (Below.refl _ _)))
   have HB := Aside0.mk (bel_trans HB0.out (below_drew (Below.refl _ _)))
   clear HX0 HBX0 HB0 hwb
   refine start_ (n := 12) (S := fun w' => w'.cell? ⟨w.heap.size, 0, none⟩ = some (.int .u64 r.v) ∧ w'.cell? ⟨g, 1, none⟩ = some (.int .u64 s.last)) (ds := []) #[false, false, false, false, false, false, false, false, false, false, false, false] (by kernel_rfl) rfl rfl ⟨((blk_cell HBX.out 0).trans rfl), HX.out.y1⟩ (fun hHeld => ?_)
   refine with_tabW rlay.tab1 rlay.bits1 (fun HT_ HW_ => ?_)
   generalize wb.drew = wd at HX HBX HB hHeld ⊢
   refine pure_ (i := 0) (N := some 6) (v := ?_) (a' := ?_) #[true, false, false, false, false, false, false, false, false, false, false, false] rfl rfl (any_of HT_.out (by kernel_rfl)) (fun _ _ _ h => h) (Or.inl ⟨by rfl, ?_⟩) ?_ ?_
   rotate_left
   ·
    intro w'
    go_simp
    with_reducible rfl
   rotate_left
   ·
    simp only [Act.put, List.setIfInBounds_toArray, List.set_cons_zero, List.set_cons_succ, i64_w, i32_w]
    rfl
   refine take_ (i := 1) (N := some 7) (v := ?_) (a' := ?_) #[true, true, false, false, false, false, false, false, false, false, false, false] rfl rfl (take_ofW HT_.out HW_.out (by kernel_rfl)) (fun _ _ _ h => h) (Or.inl ⟨by rfl, ?_⟩) hHeld ?_ ?_
   rotate_left
   ·
    rintro w' ⟨s0, s1⟩
    go_simp
    with_reducible rfl
   rotate_left
   ·
    simp only [Act.put, List.setIfInBounds_toArray, List.set_cons_zero, List.set_cons_succ, i64_w, i32_w]
    rfl
   refine pure_ (i := 2) (N := some 8) (v := ?_) (a' := ?_) #[true, true, true, false, false, false, false, false, false, false, false, false] rfl rfl (any_of HT_.out (by kernel_rfl)) (fun _ _ _ h => h) (Or.inl ⟨by rfl, ?_⟩) ?_ ?_
   rotate_left
   ·
    intro w'
    go_simp
    with_reducible rfl
   rotate_left
   ·
    simp only [Act.put, List.setIfInBounds_toArray, List.set_cons_zero, List.set_cons_succ, i64_w, i32_w]
    rfl
   refine pure_ (i := 3) (N := some 9) (v := ?_) (a' := ?_) #[true, true, true, true, false, false, false, false, false, false, false, false] rfl rfl (any_of HT_.out (by kernel_rfl)) (fun _ _ _ h => h) (Or.inl ⟨by rfl, ?_⟩) ?_ ?_
   rotate_left
   ·
    intro w'
    go_simp
    with_reducible rfl
   rotate_left
   ·
    simp only [Act.put, List.setIfInBounds_toArray, List.set_cons_zero, List.set_cons_succ, i64_w, i32_w]
    rfl
   refine pure_ (i := 4) (N := some 10) (v := ?_) (a' := ?_) #[true, true, true, true, true, false, false, false, false, false, false, false] rfl rfl (any_of HT_.out (by kernel_rfl)) (fun _ _ _ h => h) (Or.inl ⟨by rfl, ?_⟩) ?_ ?_
   rotate_left
   ·
    intro w'
    go_simp
    with_reducible rfl
   rotate_left
   ·
    simp only [Act.put, List.setIfInBounds_toArray, List.set_cons_zero, List.set_cons_succ, i64_w, i32_w]
    rfl
   refine pure_ (i := 6) (N := some 12) (v := ?_) (a' := ?_) #[true, true, true, true, true, false, true, false, false, false, false, false] rfl rfl (any_of HT_.out (by kernel_rfl)) (fun _ _ _ h => h) (Or.inl ⟨by rfl, ?_⟩) ?_ ?_
   rotate_left
   ·
    intro w'
    go_simp
    with_reducible rfl
   rotate_left
   ·
    simp only [Act.put, List.setIfInBounds_toArray, List.set_cons_zero, List.set_cons_succ, i64_w, i32_w]
    rfl
   refine pure_ (i := 7) (N := some 13) (v := ?_) (a' := ?_) #[true, true, true, true, true, false, true, true, false, false, false, false] rfl rfl (any_of HT_.out (by kernel_rfl)) (fun _ _ _ h => h) (Or.inl ⟨by rfl, ?_⟩) ?_ ?_
   rotate_left
   ·
    intro w'
    go_simp
    with_reducible rfl
   rotate_left
   ·
    simp only [Act.put, List.setIfInBounds_toArray, List.set_cons_zero, List.set_cons_succ, i64_w, i32_w]
    rfl
   refine pure_ (i := 8) (N := some 14) (v := ?_) (a' := ?_) #[true, true, true, true, true, false, true, true, true, false, false, false] rfl rfl (any_of HT_.out (by kernel_rfl)) (fun _ _ _ h => h) (Or.inl ⟨by rfl, ?_⟩) ?_ ?_
   rotate_left
   ·
    intro w'
    go_simp
    with_reducible rfl
   rotate_left
   ·
    simp only [Act.put, List.setIfInBounds_toArray, List.set_cons_zero, List.set_cons_succ, i64_w, i32_w]
    rfl
   refine take_ (i := 5) (N := some 11) (v := ?_) (a' := ?_) #[true, true, true, true, true, true, true, true, true, false, false, false] rfl rfl (take_ofW HT_.out HW_.out (by kernel_rfl)) (fun _ _ _ h => h) (Or.inl ⟨by rfl, ?_⟩) hHeld ?_ ?_
   rotate_left
   ·
    rintro w' ⟨s0, s1⟩
    go_simp
    with_reducible rfl
   rotate_left
   ·
    simp only [Act.put, List.setIfInBounds_toArray, List.set_cons_zero, List.set_cons_succ, i64_w, i32_w]
    rfl
   refine take_ (i := 9) (N := some 15) (v := ?_) (a' := ?_) #[true, true, true, true, true, true, true, true, true, true, false, false] rfl rfl (take_ofW HT_.out HW_.out (by kernel_rfl)) (fun _ _ _ h => h) (Or.inl ⟨by rfl, ?_⟩) hHeld ?_ ?_
   rotate_left
   ·
    rintro w' ⟨s0, s1⟩
    go_simp
    with_reducible rfl
   rotate_left
   ·
    simp only [Act.put, List.setIfInBounds_toArray, List.set_cons_zero, List.set_cons_succ, i64_w, i32_w]
    rfl
   refine pure_ (i := 10) (N := some 16) (v := ?_) (a' := ?_) #[true, true, true, true, true, true, true, true, true, true, true, false] rfl rfl (any_of HT_.out (by kernel_rfl)) (fun _ _ _ h => h) (Or.inl ⟨by rfl, ?_⟩) ?_ ?_
   rotate_left
   ·
    intro w'
    go_simp
    with_reducible rfl
   rotate_left
   ·
    simp only [Act.put, List.setIfInBounds_toArray, List.set_cons_zero, List.set_cons_succ, i64_w, i32_w]
    rfl
   refine pure_ (i := 11) (N := some 17) (v := ?_) (a' := ?_) #[true, true, true, true, true, true, true, true, true, true, true, true] rfl rfl (any_of HT_.out (by kernel_rfl)) (fun _ _ _ h => h) (Or.inl ⟨by rfl, ?_⟩) ?_ ?_
   rotate_left
   ·
    intro w'
    go_simp
    with_reducible rfl
   rotate_left
   ·
    simp only [Act.put, List.setIfInBounds_toArray, List.set_cons_zero, List.set_cons_succ, i64_w, i32_w]
    rfl
   refine done_ (done_of HT_.out (by kernel_rfl)) ?_
   clear hHeld
   go_wp2
   go_ret
   rw [HE.out]
   exact ⟨rfl, ⟨_, _, HX.out⟩, Only.of_below HB.out⟩
 ·
  have q1 : (r.v == 0) = false := by rw [beq_eq_false_iff_ne]; exact fun h => hbad (.inl h)
  have q2 : decide (r.v < s.last) = false := decide_eq_false (fun h => hbad (.inr h))
  have HBD := Aside0.mk hbad
  clear hbad
  go_enter Try.func36, Try.ntmps36
  go_wp2
  obtain ⟨wb, hwb⟩ : ∃ z, w.alloc (.cells #[.int .u64 r.v, .bool gn, .int .u32 r.id, .slice A1 r.vec.length c1, .slice A2 r.tags.length c2] 82) = z := ⟨_, rfl⟩
  rw [hwb] at HX0 HBX0 HB0 ⊢
  have HX := Aside0.mk (HX0.out.below (below_drew (Below.refl _ _)))
  have HBX := Aside0.mk (blk_below HBX0.out (below_drew (Below.refl _ _)))
  have HB := Aside0.mk (bel_trans HB0.out (below_drew (Below.refl _ _)))
  clear HX0 HBX0 HB0 hwb
  refine start_ (n := 12) (S := fun w' => w'.cell? ⟨w.heap.size, 0, none⟩ = some (.int .u64 r.v) ∧ w'.cell? ⟨g, 1, none⟩ = some (.int .u64 s.last)) (ds := []) #[false, false, false, false, false, false, false, false, false, false, false, false] (by kernel_rfl) rfl rfl ⟨((blk_cell HBX.out 0).trans rfl), HX.out.y1⟩ (fun hHeld => ?_)
  refine with_tabW rlay.tab1 rlay.bits1 (fun HT_ HW_ => ?_)
  generalize wb.drew = wd at HX HBX HB hHeld ⊢
  refine pure_ (i := 0) (N := some 6) (v := ?_) (a' := ?_) #[true, false, false, false, false, false, false, false, false, false, false, false] rfl rfl (any_of HT_.out (by kernel_rfl)) (fun _ _ _ h => h) (Or.inl ⟨by rfl, ?_⟩) ?_ ?_
  rotate_left
  ·
   intro w'
   go_simp
   with_reducible rfl
  rotate_left
  ·
   simp only [Act.put, List.setIfInBounds_toArray, List.set_cons_zero, List.set_cons_succ, i64_w, i32_w]
   rfl
  refine take_ (i := 1) (N := some 7) (v := ?_) (a' := ?_) #[true, true, false, false, false, false, false, false, false, false, false, false] rfl rfl (take_ofW HT_.out HW_.out (by kernel_rfl)) (fun _ _ _ h => h) (Or.inl ⟨by rfl, ?_⟩) hHeld ?_ ?_
  rotate_left
  ·
   rintro w' ⟨s0, s1⟩
   go_simp
   with_reducible rfl
  rotate_left
  ·
   simp only [Act.put, List.setIfInBounds_toArray, List.set_cons_zero, List.set_cons_succ, i64_w, i32_w]
   rfl
  refine pure_ (i := 2) (N := some 8) (v := ?_) (a' := ?_) #[true, true, true, false, false, false, false, false, false, false, false, false] rfl rfl (any_of HT_.out (by kernel_rfl)) (fun _ _ _ h => h) (Or.inl ⟨by rfl, ?_⟩) ?_ ?_
  rotate_left
  ·
   intro w'
   go_simp
   with_reducible rfl
  rotate_left
  ·
   simp only [Act.put, List.setIfInBounds_toArray, List.set_cons_zero, List.set_cons_succ, i64_w, i32_w]
   rfl
  refine pure_ (i := 3) (N := some 9) (v := ?_) (a' := ?_) #[true, true, true, true, false, false, false, false, false, false, false, false] rfl rfl (any_of HT_.out (by kernel_rfl)) (fun _ _ _ h => h) (Or.inl ⟨by rfl, ?_⟩) ?_ ?_
  rotate_left
  ·
   intro w'
   go_simp
   with_reducible rfl
  rotate_left
  ·
   simp only [Act.put, List.setIfInBounds_toArray, List.set_cons_zero, List.set_cons_succ, i64_w, i32_w]
   rfl
  refine pure_ (i := 4) (N := some 10) (v := ?_) (a' := ?_) #[true, true, true, true, true, false, false, false, false, false, false, false] rfl rfl (any_of HT_.out (by kernel_rfl)) (fun _ _ _ h => h) (Or.inl ⟨by rfl, ?_⟩) ?_ ?_
  rotate_left
  ·
   intro w'
   go_simp
   with_reducible rfl
  rotate_left
  ·
   simp only [Act.put, List.setIfInBounds_toArray, List.set_cons_zero, List.set_cons_succ, i64_w, i32_w]
   rfl
  refine pure_ (i := 6) (N := some 12) (v := ?_) (a' := ?_) #[true, true, true, true, true, false, true, false, false, false, false, false] rfl rfl (any_of HT_.out (by kernel_rfl)) (fun _ _ _ h => h) (Or.inl ⟨by rfl, ?_⟩) ?_ ?_
  rotate_left
  ·
   intro w'
   go_simp
   with_reducible rfl
  rotate_left
  ·
   simp only [Act.put, List.setIfInBounds_toArray, List.set_cons_zero, List.set_cons_succ, i64_w, i32_w]
   rfl
  refine pure_ (i := 7) (N := some 13) (v := ?_) (a' := ?_) #[true, true, true, true, true, false, true, true, false, false, false, false] rfl rfl (any_of HT_.out (by kernel_rfl)) (fun _ _ _ h => h) (Or.inl ⟨by rfl, ?_⟩) ?_ ?_
  rotate_left
  ·
   intro w'
   go_simp
   with_reducible rfl
  rotate_left
  ·
   simp only [Act.put, List.setIfInBounds_toArray, List.set_cons_zero, List.set_cons_succ, i64_w, i32_w]
   rfl
  refine pure_ (i := 8) (N := some 14) (v := ?_) (a' := ?_) #[true, true, true, true, true, false, true, true, true, false, false, false] rfl rfl (any_of HT_.out (by kernel_rfl)) (fun _ _ _ h => h) (Or.inl ⟨by rfl, ?_⟩) ?_ ?_
  rotate_left
  ·
   intro w'
   go_simp
   with_reducible rfl
  rotate_left
  ·
   simp only [Act.put, List.setIfInBounds_toArray, List.set_cons_zero, List.set_cons_succ, i64_w, i32_w]
   rfl
  refine take_ (i := 5) (N := some 11) (v := ?_) (a' := ?_) #[true, true, true, true, true, true, true, true, true, false, false, false] rfl rfl (take_ofW HT_.out HW_.out (by kernel_rfl)) (fun _ _ _ h => h) (Or.inl ⟨by rfl, ?_⟩) hHeld ?_ ?_
  rotate_left
  ·
   rintro w' ⟨s0, s1⟩
   go_simp
   with_reducible rfl
  rotate_left
  ·
   simp only [Act.put, List.setIfInBounds_toArray, List.set_cons_zero, List.set_cons_succ, i64_w, i32_w]
   rfl
  refine take_ (i := 9) (N := some 15) (v := ?_) (a' := ?_) #[true, true, true, true, true, true, true, true, true, true, false, false] rfl rfl (take_ofW HT_.out HW_.out (by kernel_rfl)) (fun _ _ _ h => h) (Or.inl ⟨by rfl, ?_⟩) hHeld ?_ ?_
  rotate_left
  ·
   rintro w' ⟨s0, s1⟩
   go_simp
   with_reducible rfl
  rotate_left
  ·
   simp only [Act.put, List.setIfInBounds_toArray, List.set_cons_zero, List.set_cons_succ, i64_w, i32_w]
   rfl
  refine pure_ (i := 10) (N := some 16) (v := ?_) (a' := ?_) #[true, true, true, true, true, true, true, true, true, true, true, false] rfl rfl (any_of HT_.out (by kernel_rfl)) (fun _ _ _ h => h) (Or.inl ⟨by rfl, ?_⟩) ?_ ?_
  rotate_left
  ·
   intro w'
   go_simp
   with_reducible rfl
  rotate_left
  ·
   simp only [Act.put, List.setIfInBounds_toArray, List.set_cons_zero, List.set_cons_succ, i64_w, i32_w]
   rfl
  refine pure_ (i := 11) (N := some 17) (v := ?_) (a' := ?_) #[true, true, true, true, true, true, true, true, true, true, true, true] rfl rfl (any_of HT_.out (by kernel_rfl)) (fun _ _ _ h => h) (Or.inl ⟨by rfl, ?_⟩) ?_ ?_
  rotate_left
  ·
   intro w'
   go_simp
   with_reducible rfl
  rotate_left
  ·
   simp only [Act.put, List.setIfInBounds_toArray, List.set_cons_zero, List.set_cons_succ, i64_w, i32_w]
   rfl
  refine done_ (done_of HT_.out (by kernel_rfl)) ?_
  clear hHeld
  have b0 := (blk_cell HBX.out 0).trans rfl
  have b1 := (blk_cell HBX.out 1).trans rfl
  have b2 := (blk_cell HBX.out 2).trans rfl
  cases gn with
  | false =>
   have HE := Aside0.mk (show D = s.lay r by rw [← HD.out]; exact layD_lay s HGN.out)
   by_cases hl : 1024 ≤ s.L.length
   ·
    have q4 : decide ((1024 : Int) ≤ (s.L.length : Int)) = true := decide_eq_true (by omega)
    have q4' : (1024 : Nat) ≤ s.L.length := hl
    have HE2 := Aside0.mk (show D = (4, s) by rw [HE.out]; unfold St.lay; rw [if_neg HBD.out, if_pos hl])
    clear hl
    have y0 := HX.out.y0
    go_wp2
    go_ret
    rw [HE2.out]
    exact ⟨rfl, ⟨_, _, HX.out⟩, Only.of_below HB.out⟩
   ·
    have q4 : decide ((1024 : Int) ≤ (s.L.length : Int)) = false := decide_eq_false (by omega)
    have q4' : (1024 ≤ s.L.length) = False := eq_false hl
    have q4'' : decide (1024 ≤ s.L.length) = false := decide_eq_false hl
    have HL := Aside0.mk (show s.L.length < 1024 by omega)
    have HE2 := Aside0.mk (show D = (0, ⟨s.L ++ [r], r.v, s.floor, s.K⟩) by rw [HE.out]; unfold St.lay; rw [if_neg HBD.out, if_neg hl])
    clear hl
    have y0 := HX.out.y0
    go_wp2
    have HX1 := HX
    have HBX1 := HBX
    have HB1 := HB
    clear y0 b0 b1 b2 HX HBX HB
    have HX := Aside0.mk (HX1.out.below (below_drew (Below.refl _ _)))
    have HBX := Aside0.mk (blk_below HBX1.out (below_drew (Below.refl _ _)))
    have HB := Aside0.mk (bel_trans HB1.out (below_drew (Below.refl _ _)))
    clear HX1 HBX1 HB1
    have HRB := HX
    refine start_ (n := 11) (S := fun w' => w'.cell? ⟨w.heap.size, 0, none⟩ = some (.int .u64 r.v) ∧ w'.cell? ⟨w.heap.size, 1, none⟩ = some (.bool false) ∧ w'.cell? ⟨w.heap.size, 2, none⟩ = some (.int .u32 r.id) ∧ w'.cell? ⟨w.heap.size, 3, none⟩ = some (.slice A1 r.vec.length c1) ∧ w'.cell? ⟨w.heap.size, 4, none⟩ = some (.slice A2 r.tags.length c2) ∧ w'.cell? ⟨g, 0, none⟩ = some (.slice ao s.L.length cap)) (ds := [10]) #[false, false, false, false, false, false, false, false, false, false, false] (by kernel_rfl) rfl rfl ⟨((blk_cell HBX.out 0).trans rfl), ((blk_cell HBX.out 1).trans rfl), ((blk_cell HBX.out 2).trans rfl), ((blk_cell HBX.out 3).trans rfl), ((blk_cell HBX.out 4).trans rfl), HRB.out.y0⟩ (fun hHeld => ?_)
    refine with_tabW rlay.tab9 rlay.bits9 (fun HT_ HW_ => ?_)
    generalize wd.drew = we at HX HBX HB HRB hHeld ⊢
    refine pure_ (i := 0) (N := some 45) (v := ?_) (a' := ?_) #[true, false, false, false, false, false, false, false, false, false, false] rfl rfl (any_of HT_.out (by kernel_rfl)) (fun _ _ _ h => h) (Or.inl ⟨by rfl, ?_⟩) ?_ ?_
    rotate_left
    ·
     intro w'
     go_simp
     with_reducible rfl
    rotate_left
    ·
     simp only [Act.put, List.setIfInBounds_toArray, List.set_cons_zero, List.set_cons_succ, i64_w, i32_w]
     rfl
    refine pure_ (i := 1) (N := some 46) (v := ?_) (a' := ?_) #[true, true, false, false, false, false, false, false, false, false, false] rfl rfl (any_of HT_.out (by kernel_rfl)) (fun _ _ _ h => h) (Or.inl ⟨by rfl, ?_⟩) ?_ ?_
    rotate_left
    ·
     intro w'
     go_simp
     with_reducible rfl
    rotate_left
    ·
     simp only [Act.put, List.setIfInBounds_toArray, List.set_cons_zero, List.set_cons_succ, i64_w, i32_w]
     rfl
    refine pure_ (i := 2) (N := some 47) (v := ?_) (a' := ?_) #[true, true, true, false, false, false, false, false, false, false, false] rfl rfl (any_of HT_.out (by kernel_rfl)) (fun _ _ _ h => h) (Or.inl ⟨by rfl, ?_⟩) ?_ ?_
    rotate_left
    ·
     intro w'
     go_simp
     with_reducible rfl
    rotate_left
    ·
     simp only [Act.put, List.setIfInBounds_toArray, List.set_cons_zero, List.set_cons_succ, i64_w, i32_w]
     rfl
    refine pure_ (i := 3) (N := some 48) (v := ?_) (a' := ?_) #[true, true, true, true, false, false, false, false, false, false, false] rfl rfl (any_of HT_.out (by kernel_rfl)) (fun _ _ _ h => h) (Or.inl ⟨by rfl, ?_⟩) ?_ ?_
    rotate_left
    ·
     intro w'
     go_simp
     with_reducible rfl
    rotate_left
    ·
     simp only [Act.put, List.setIfInBounds_toArray, List.set_cons_zero, List.set_cons_succ, i64_w, i32_w]
     rfl
    refine take_ (i := 4) (N := some 49) (v := ?_) (a' := ?_) #[true, true, true, true, true, false, false, false, false, false, false] rfl rfl (take_ofW HT_.out HW_.out (by kernel_rfl)) (fun _ _ _ h => h) (Or.inl ⟨by rfl, ?_⟩) hHeld ?_ ?_
    rotate_left
    ·
     rintro w' ⟨s0, s1, s2, s3, s4, s5⟩
     go_simp
     with_reducible rfl
    rotate_left
    ·
     simp only [Act.put, List.setIfInBounds_toArray, List.set_cons_zero, List.set_cons_succ, i64_w, i32_w]
     rfl
    refine take_ (i := 5) (N := some 50) (v := ?_) (a' := ?_) #[true, true, true, true, true, true, false, false, false, false, false] rfl rfl (take_ofW HT_.out HW_.out (by kernel_rfl)) (fun _ _ _ h => h) (Or.inl ⟨by rfl, ?_⟩) hHeld ?_ ?_
    rotate_left
    ·
     rintro w' ⟨s0, s1, s2, s3, s4, s5⟩
     go_simp
     with_reducible rfl
    rotate_left
    ·
     simp only [Act.put, List.setIfInBounds_toArray, List.set_cons_zero, List.set_cons_succ, i64_w, i32_w]
     rfl
    refine one_ (i := 6) (N := some 51) #[true, true, true, true, true, true, true, false, false, false, false] rfl rfl (one_of HT_.out (by kernel_rfl)) (by decide) (fun K hK => ?_)
    refine value_ (w1 := ?_) (v := ?_) (by rfl) rfl ?_ ?_
    rotate_left 2
    ·
     go_simp
     constructor
     ·
      rfl
     ·
      rfl
    have HRB1 := Aside0.mk (HRB.out.below (below_alloc (Below.refl _ _) (.cells #[.int .u64 r.v, .bool false, .int .u32 r.id, .slice A1 r.vec.length c1, .slice A2 r.tags.length c2] 82)))
    have HN1 := Aside0.mk (heap_alloc_new we (.cells #[.int .u64 r.v, .bool false, .int .u32 r.id, .slice A1 r.vec.length c1, .slice A2 r.tags.length c2] 82))
    have HB1 := Aside0.mk (bel_alloc HB.out (.cells #[.int .u64 r.v, .bool false, .int .u32 r.id, .slice A1 r.vec.length c1, .slice A2 r.tags.length c2] 82))
    refine hK.out _ _ ⟨((blk_cell (blk_below HBX.out (below_alloc (Below.refl _ _) (.cells #[.int .u64 r.v, .bool false, .int .u32 r.id, .slice A1 r.vec.length c1, .slice A2 r.tags.length c2] 82))) 0).trans rfl), ((blk_cell (blk_below HBX.out (below_alloc (Below.refl _ _) (.cells #[.int .u64 r.v, .bool false, .int .u32 r.id, .slice A1 r.vec.length c1, .slice A2 r.tags.length c2] 82))) 1).trans rfl), ((blk_cell (blk_below HBX.out (below_alloc (Below.refl _ _) (.cells #[.int .u64 r.v, .bool false, .int .u32 r.id, .slice A1 r.vec.length c1, .slice A2 r.tags.length c2] 82))) 2).trans rfl), ((blk_cell (blk_below HBX.out (below_alloc (Below.refl _ _) (.cells #[.int .u64 r.v, .bool false, .int .u32 r.id, .slice A1 r.vec.length c1, .slice A2 r.tags.length c2] 82))) 3).trans rfl), ((blk_cell (blk_below HBX.out (below_alloc (Below.refl _ _) (.cells #[.int .u64 r.v, .bool false, .int .u32 r.id, .slice A1 r.vec.length c1, .slice A2 r.tags.length c2] 82))) 4).trans rfl), HRB1.out.y0⟩ (fun hHeld => ?_)
    clear hK K
    refine norm_ (a' := ?_) ?_ ?_
    rotate_left
    ·
     show Act.put _ (some 51) _ = _
     simp only [Act.put, List.setIfInBounds_toArray, List.set_cons_zero, List.set_cons_succ, i64_w, i32_w]
     rfl
    refine one_ (i := 7) (N := some 52) #[true, true, true, true, true, true, true, true, false, false, false] rfl rfl (one_of HT_.out (by kernel_rfl)) (by decide) (fun K hK => ?_)
    refine step_append_R rfl (.tmp 49) (.tmp 51) rfl (.slice ao s.L.length cap) s.L r (World.heap we).size [.int .u64 r.v, .bool false, .int .u32 r.id, .slice A1 r.vec.length c1, .slice A2 r.tags.length c2] rfl rfl HRB1.out.row HN1.out HF.out (by have := HL.out; omega) HRB1.out.at0.size ?_
    intro v6 w6 hv hO
    obtain ⟨L6, hL6⟩ : ∃ z, s.L ++ [r] = z := ⟨_, rfl⟩
    rw [hL6] at hv
    have HL6 := Aside0.mk hL6
    obtain ⟨ao6, cap6, rfl, -⟩ := hv.slice
    clear hL6
    have HV6 := Aside0.mk hv
    have HO6 := Aside0.mk hO
    have HG6 := Aside0.mk ((hO.block g (blk_lt HRB1.out.box) (fun e => by obtain ⟨c, hc⟩ := HRB1.out.row.typed g e; exact absurd (blk_type hc HRB1.out.box) (by decide))).trans HRB1.out.box)
    have HX6 := Aside0.mk ((hO.block w.heap.size (blk_lt (blk_below HBX.out (below_alloc (Below.refl _ _) (.cells #[.int .u64 r.v, .bool false, .int .u32 r.id, .slice A1 r.vec.length c1, .slice A2 r.tags.length c2] 82)))) (fun e => by have := HVL.out _ e; omega)).trans (blk_below HBX.out (below_alloc (Below.refl _ _) (.cells #[.int .u64 r.v, .bool false, .int .u32 r.id, .slice A1 r.vec.length c1, .slice A2 r.tags.length c2] 82))))
    have HNG := Aside0.mk (show w.heap.size ≠ g from fun e => by have h1 := HX6.out; rw [e] at h1; exact absurd (blk_type h1 HG6.out) (by decide))
    clear hv hO
    refine hK.out _ _ ⟨((blk_cell HX6.out 0).trans rfl), ((blk_cell HX6.out 1).trans rfl), ((blk_cell HX6.out 2).trans rfl), ((blk_cell HX6.out 3).trans rfl), ((blk_cell HX6.out 4).trans rfl), ((blk_cell HG6.out 0).trans rfl)⟩ (fun hHeld => ?_)
    clear hK K
    refine norm_ (a' := ?_) ?_ ?_
    rotate_left
    ·
     show Act.put _ (some 52) _ = _
     simp only [Act.put, List.setIfInBounds_toArray, List.set_cons_zero, List.set_cons_succ, i64_w, i32_w]
     rfl
    refine pure_ (i := 8) (N := some 53) (v := ?_) (a' := ?_) #[true, true, true, true, true, true, true, true, true, false, false] rfl rfl (any_of HT_.out (by kernel_rfl)) (fun _ _ _ h => h) (Or.inl ⟨by rfl, ?_⟩) ?_ ?_
    rotate_left
    ·
     intro w'
     go_simp
     with_reducible rfl
    rotate_left
    ·
     simp only [Act.put, List.setIfInBounds_toArray, List.set_cons_zero, List.set_cons_succ, i64_w, i32_w]
     rfl
    refine pure_ (i := 9) (N := some 54) (v := ?_) (a' := ?_) #[true, true, true, true, true, true, true, true, true, true, false] rfl rfl (any_of HT_.out (by kernel_rfl)) (fun _ _ _ h => h) (Or.inl ⟨by rfl, ?_⟩) ?_ ?_
    rotate_left
    ·
     intro w'
     go_simp
     with_reducible rfl
    rotate_left
    ·
     simp only [Act.put, List.setIfInBounds_toArray, List.set_cons_zero, List.set_cons_succ, i64_w, i32_w]
     rfl
    refine last_ (i := 10) (N := none) #[true, true, true, true, true, true, true, true, true, true, true] rfl rfl (one_of HT_.out (by kernel_rfl)) (by decide) (fun K hK => ?_)
    have yg := (blk_cell HG6.out 0).trans rfl
    have fz : w6.frozen? ⟨g, 0, none⟩ = false := blk_frozen HG6.out 0
    refine skip_ (w1 := ?_) (by rfl) rfl ?_ ?_
    rotate_left
    ·
     go_simp
     rfl
    clear yg fz
    refine hK.out _ _ ?_
    clear hK K
    refine done_ (done_of HT_.out (by kernel_rfl)) ?_
    have yb0 := (blk_cell (blk_far HX6.out (p := ⟨g, 0, none⟩) HNG.out (.slice ao6 L6.length cap6)) 0).trans rfl
    have yb1 := (blk_cell (blk_set HG6.out 0 (.slice ao6 L6.length cap6)) 1).trans rfl
    have fz : (w6.setCell ⟨g, 0, none⟩ (.slice ao6 L6.length cap6)).frozen? ⟨g, 1, none⟩ = false := blk_frozen (blk_set HG6.out 0 _) 1
    obtain ⟨hfin1, hfin2⟩ := HRB1.out.laid (r := r) HL.out HO6.out (by rw [HL6.out]; exact HV6.out)
    have HFIN1 := Aside0.mk hfin1
    have HFIN2 := Aside0.mk hfin2
    clear hfin1 hfin2
    go_wp2
    go_ret
    rw [HE2.out]
    exact ⟨rfl, HFIN1.out, (Only.of_below HB1.out).then_ HFIN2.out (fun i hi hlt => TR_back HB1.out hlt hi)⟩
  | true =>
   cases ha : atP s.L r.id r.v with
   | none =>
    have HE := Aside0.mk (show D = (2, s) by rw [← HD.out]; unfold layD; rw [if_neg HBD.out, if_pos ⟨HGN.out, by unfold missing; rw [ha]⟩])
    have HI := Aside0.mk (atI_none ha)
    clear ha
    go_wp2_with (go_at_call 53; (with_reducible refine (RX.at_ HX.out.rx r.id r.v).mono ?_); rintro e w1 ⟨rfl, hb⟩; rw [HI.out]; have HX1 := Aside0.mk (HX.out.below hb); have HB1 := Aside0.mk (bel_trans HB.out hb); clear hb)
    go_ret
    rw [HE.out]
    exact ⟨rfl, ⟨_, _, HX1.out⟩, Only.of_below HB1.out⟩
   | some i =>
    obtain ⟨x, hx, hid, hv⟩ := atP_some ha
    have HI := Aside0.mk (atI_some ha)
    have HXI := Aside0.mk hx
    have hil := atP_lt ha
    have q3 : (i : Int) < (s.L.length : Int) := by omega
    cases hgo : x.gone with
    | true =>
     have HE := Aside0.mk (show D = (2, s) by rw [← HD.out]; unfold layD; rw [if_neg HBD.out, if_pos ⟨HGN.out, by unfold missing; rw [ha]; dsimp only; rw [hx]; exact hgo⟩])
     clear ha hx hid hv
     go_wp2_with (go_at_call 53; (with_reducible refine (RX.at_ HX.out.rx r.id r.v).mono ?_); rintro e w1 ⟨rfl, hb⟩; rw [HI.out]; have HX1 := Aside0.mk (HX.out.below hb); have HB1 := Aside0.mk (bel_trans HB.out hb); clear hb; obtain ⟨ad, cap1, B1, d1, B2, d2, yy, hr, -⟩ := RX.row_at HX1.out.rx HXI.out; have x1 := hr.y1; rw [hgo] at x1; clear hr)
     go_ret
     rw [HE.out]
     exact ⟨rfl, ⟨_, _, HX1.out⟩, Only.of_below HB1.out⟩
    | false =>
     have HE := Aside0.mk (show D = s.lay r by rw [← HD.out]; unfold layD; rw [if_neg HBD.out, if_neg (fun e => by have h2 := e.2; unfold missing at h2; rw [ha] at h2; dsimp only at h2; rw [hx] at h2; dsimp only at h2; rw [hgo] at h2; cases h2)])
     clear ha hx hid hv
     by_cases hl : 1024 ≤ s.L.length
     ·
      have q4 : decide ((1024 : Int) ≤ (s.L.length : Int)) = true := decide_eq_true (by omega)
      have q4' : (1024 : Nat) ≤ s.L.length := hl
      have HE2 := Aside0.mk (show D = (4, s) by rw [HE.out]; unfold St.lay; rw [if_neg HBD.out, if_pos hl])
      clear hl
      go_wp2_with (go_at_call 53; (with_reducible refine (RX.at_ HX.out.rx r.id r.v).mono ?_); rintro e w1 ⟨rfl, hb⟩; rw [HI.out]; have HX1 := Aside0.mk (HX.out.below hb); have HBX1 := Aside0.mk (blk_below HBX.out hb); have HB1 := Aside0.mk (bel_trans HB.out hb); clear hb; obtain ⟨ad, cap1, B1, d1, B2, d2, yy, hr, -⟩ := RX.row_at HX1.out.rx HXI.out; have x1 := hr.y1; rw [hgo] at x1; clear hr)
      go_ret
      rw [HE2.out]
      exact ⟨rfl, ⟨_, _, HX1.out⟩, Only.of_below HB1.out⟩
     ·
      have q4 : decide ((1024 : Int) ≤ (s.L.length : Int)) = false := decide_eq_false (by omega)
      have q4' : (1024 ≤ s.L.length) = False := eq_false hl
      have q4'' : decide (1024 ≤ s.L.length) = false := decide_eq_false hl
      have HL := Aside0.mk (show s.L.length < 1024 by omega)
      have HE2 := Aside0.mk (show D = (0, ⟨s.L ++ [r], r.v, s.floor, s.K⟩) by rw [HE.out]; unfold St.lay; rw [if_neg HBD.out, if_neg hl])
      clear hl
      go_wp2_with (go_at_call 53; (with_reducible refine (RX.at_ HX.out.rx r.id r.v).mono ?_); rintro e w1 ⟨rfl, hb⟩; rw [HI.out]; have HX1 := Aside0.mk (HX.out.below hb); have HBX1 := Aside0.mk (blk_below HBX.out hb); have HB1 := Aside0.mk (bel_trans HB.out hb); clear hb; obtain ⟨ad, cap1, B1, d1, B2, d2, yy, hr, -⟩ := RX.row_at HX1.out.rx HXI.out; have x1 := hr.y1; rw [hgo] at x1; clear hr)
      clear yy x1 b0 b1 b2 HX HBX HB
      have HX := Aside0.mk (HX1.out.below (below_drew (Below.refl _ _)))
      have HBX := Aside0.mk (blk_below HBX1.out (below_drew (Below.refl _ _)))
      have HB := Aside0.mk (bel_trans HB1.out (below_drew (Below.refl _ _)))
      clear HX1 HBX1 HB1
      have HRB := HX
      refine start_ (n := 11) (S := fun w' => w'.cell? ⟨w.heap.size, 0, none⟩ = some (.int .u64 r.v) ∧ w'.cell? ⟨w.heap.size, 1, none⟩ = some (.bool true) ∧ w'.cell? ⟨w.heap.size, 2, none⟩ = some (.int .u32 r.id) ∧ w'.cell? ⟨w.heap.size, 3, none⟩ = some (.slice A1 r.vec.length c1) ∧ w'.cell? ⟨w.heap.size, 4, none⟩ = some (.slice A2 r.tags.length c2) ∧ w'.cell? ⟨g, 0, none⟩ = some (.slice ao s.L.length cap)) (ds := [10]) #[false, false, false, false, false, false, false, false, false, false, false] (by kernel_rfl) rfl rfl ⟨((blk_cell HBX.out 0).trans rfl), ((blk_cell HBX.out 1).trans rfl), ((blk_cell HBX.out 2).trans rfl), ((blk_cell HBX.out 3).trans rfl), ((blk_cell HBX.out 4).trans rfl), HRB.out.y0⟩ (fun hHeld => ?_)
      refine with_tabW rlay.tab9 rlay.bits9 (fun HT_ HW_ => ?_)
      generalize w1.drew = we at HX HBX HB HRB hHeld ⊢
      refine pure_ (i := 0) (N := some 45) (v := ?_) (a' := ?_) #[true, false, false, false, false, false, false, false, false, false, false] rfl rfl (any_of HT_.out (by kernel_rfl)) (fun _ _ _ h => h) (Or.inl ⟨by rfl, ?_⟩) ?_ ?_
      rotate_left
      ·
       intro w'
       go_simp
       with_reducible rfl
      rotate_left
      ·
       simp only [Act.put, List.setIfInBounds_toArray, List.set_cons_zero, List.set_cons_succ, i64_w, i32_w]
       rfl
      refine pure_ (i := 1) (N := some 46) (v := ?_) (a' := ?_) #[true, true, false, false, false, false, false, false, false, false, false] rfl rfl (any_of HT_.out (by kernel_rfl)) (fun _ _ _ h => h) (Or.inl ⟨by rfl, ?_⟩) ?_ ?_
      rotate_left
      ·
       intro w'
       go_simp
       with_reducible rfl
      rotate_left
      ·
       simp only [Act.put, List.setIfInBounds_toArray, List.set_cons_zero, List.set_cons_succ, i64_w, i32_w]
       rfl
      refine pure_ (i := 2) (N := some 47) (v := ?_) (a' := ?_) #[true, true, true, false, false, false, false, false, false, false, false] rfl rfl (any_of HT_.out (by kernel_rfl)) (fun _ _ _ h => h) (Or.inl ⟨by rfl, ?_⟩) ?_ ?_
      rotate_left
      ·
       intro w'
       go_simp
       with_reducible rfl
      rotate_left
      ·
       simp only [Act.put, List.setIfInBounds_toArray, List.set_cons_zero, List.set_cons_succ, i64_w, i32_w]
       rfl
      refine pure_ (i := 3) (N := some 48) (v := ?_) (a' := ?_) #[true, true, true, true, false, false, false, false, false, false, false] rfl rfl (any_of HT_.out (by kernel_rfl)) (fun _ _ _ h => h) (Or.inl ⟨by rfl, ?_⟩) ?_ ?_
      rotate_left
      ·
       intro w'
       go_simp
       with_reducible rfl
      rotate_left
      ·
       simp only [Act.put, List.setIfInBounds_toArray, List.set_cons_zero, List.set_cons_succ, i64_w, i32_w]
       rfl
      refine take_ (i := 4) (N := some 49) (v := ?_) (a' := ?_) #[true, true, true, true, true, false, false, false, false, false, false] rfl rfl (take_ofW HT_.out HW_.out (by kernel_rfl)) (fun _ _ _ h => h) (Or.inl ⟨by rfl, ?_⟩) hHeld ?_ ?_
      rotate_left
      ·
       rintro w' ⟨s0, s1, s2, s3, s4, s5⟩
       go_simp
       with_reducible rfl
      rotate_left
      ·
       simp only [Act.put, List.setIfInBounds_toArray, List.set_cons_zero, List.set_cons_succ, i64_w, i32_w]
       rfl
      refine take_ (i := 5) (N := some 50) (v := ?_) (a' := ?_) #[true, true, true, true, true, true, false, false, false, false, false] rfl rfl (take_ofW HT_.out HW_.out (by kernel_rfl)) (fun _ _ _ h => h) (Or.inl ⟨by rfl, ?_⟩) hHeld ?_ ?_
      rotate_left
      ·
       rintro w' ⟨s0, s1, s2, s3, s4, s5⟩
       go_simp
       with_reducible rfl
      rotate_left
      ·
       simp only [Act.put, List.setIfInBounds_toArray, List.set_cons_zero, List.set_cons_succ, i64_w, i32_w]
       rfl
      refine one_ (i := 6) (N := some 51) #[true, true, true, true, true, true, true, false, false, false, false] rfl rfl (one_of HT_.out (by kernel_rfl)) (by decide) (fun K hK => ?_)
      refine value_ (w1 := ?_) (v := ?_) (by rfl) rfl ?_ ?_
      rotate_left 2
      ·
       go_simp
       constructor
       ·
        rfl
       ·
        rfl
      have HRB1 := Aside0.mk (HRB.out.below (below_alloc (Below.refl _ _) (.cells #[.int .u64 r.v, .bool true, .int .u32 r.id, .slice A1 r.vec.length c1, .slice A2 r.tags.length c2] 82)))
      have HN1 := Aside0.mk (heap_alloc_new we (.cells #[.int .u64 r.v, .bool true, .int .u32 r.id, .slice A1 r.vec.length c1, .slice A2 r.tags.length c2] 82))
      have HB1 := Aside0.mk (bel_alloc HB.out (.cells #[.int .u64 r.v, .bool true, .int .u32 r.id, .slice A1 r.vec.length c1, .slice A2 r.tags.length c2] 82))
      refine hK.out _ _ ⟨((blk_cell (blk_below HBX.out (below_alloc (Below.refl _ _) (.cells #[.int .u64 r.v, .bool true, .int .u32 r.id, .slice A1 r.vec.length c1, .slice A2 r.tags.length c2] 82))) 0).trans rfl), ((blk_cell (blk_below HBX.out (below_alloc (Below.refl _ _) (.cells #[.int .u64 r.v, .bool true, .int .u32 r.id, .slice A1 r.vec.length c1, .slice A2 r.tags.length c2] 82))) 1).trans rfl), ((blk_cell (blk_below HBX.out (below_alloc (Below.refl _ _) (.cells #[.int .u64 r.v, .bool true, .int .u32 r.id, .slice A1 r.vec.length c1, .slice A2 r.tags.length c2] 82))) 2).trans rfl), ((blk_cell (blk_below HBX.out (below_alloc (Below.refl _ _) (.cells #[.int .u64 r.v, .bool true, .int .u32 r.id, .slice A1 r.vec.length c1, .slice A2 r.tags.length c2] 82))) 3).trans rfl), ((blk_cell (blk_below HBX.out (below_alloc (Below.refl _ _) (.cells #[.int .u64 r.v, .bool true, .int .u32 r.id, .slice A1 r.vec.length c1, .slice A2 r.tags.length c2] 82))) 4).trans rfl), HRB1.out.y0⟩ (fun hHeld => ?_)
      clear hK K
      refine norm_ (a' := ?_) ?_ ?_
      rotate_left
      ·
       show Act.put _ (some 51) _ = _
       simp only [Act.put, List.setIfInBounds_toArray, List.set_cons_zero, List.set_cons_succ, i64_w, i32_w]
       rfl
      refine one_ (i := 7) (N := some 52) #[true, true, true, true, true, true, true, true, false, false, false] rfl rfl (one_of HT_.out (by kernel_rfl)) (by decide) (fun K hK => ?_)
      refine step_append_R rfl (.tmp 49) (.tmp 51) rfl (.slice ao s.L.length cap) s.L r (World.heap we).size [.int .u64 r.v, .bool true, .int .u32 r.id, .slice A1 r.vec.length c1, .slice A2 r.tags.length c2] rfl rfl HRB1.out.row HN1.out HF.out (by have := HL.out; omega) HRB1.out.at0.size ?_
      intro v6 w6 hv hO
      obtain ⟨L6, hL6⟩ : ∃ z, s.L ++ [r] = z := ⟨_, rfl⟩
      rw [hL6] at hv
      have HL6 := Aside0.mk hL6
      obtain ⟨ao6, cap6, rfl, -⟩ := hv.slice
      clear hL6
      have HV6 := Aside0.mk hv
      have HO6 := Aside0.mk hO
      have HG6 := Aside0.mk ((hO.block g (blk_lt HRB1.out.box) (fun e => by obtain ⟨c, hc⟩ := HRB1.out.row.typed g e; exact absurd (blk_type hc HRB1.out.box) (by decide))).trans HRB1.out.box)
      have HX6 := Aside0.mk ((hO.block w.heap.size (blk_lt (blk_below HBX.out (below_alloc (Below.refl _ _) (.cells #[.int .u64 r.v, .bool true, .int .u32 r.id, .slice A1 r.vec.length c1, .slice A2 r.tags.length c2] 82)))) (fun e => by have := HVL.out _ e; omega)).trans (blk_below HBX.out (below_alloc (Below.refl _ _) (.cells #[.int .u64 r.v, .bool true, .int .u32 r.id, .slice A1 r.vec.length c1, .slice A2 r.tags.length c2] 82))))
      have HNG := Aside0.mk (show w.heap.size ≠ g from fun e => by have h1 := HX6.out; rw [e] at h1; exact absurd (blk_type h1 HG6.out) (by decide))
      clear hv hO
      refine hK.out _ _ ⟨((blk_cell HX6.out 0).trans rfl), ((blk_cell HX6.out 1).trans rfl), ((blk_cell HX6.out 2).trans rfl), ((blk_cell HX6.out 3).trans rfl), ((blk_cell HX6.out 4).trans rfl), ((blk_cell HG6.out 0).trans rfl)⟩ (fun hHeld => ?_)
      clear hK K
      refine norm_ (a' := ?_) ?_ ?_
      rotate_left
      ·
       show Act.put _ (some 52) _ = _
       simp only [Act.put, List.setIfInBounds_toArray, List.set_cons_zero, List.set_cons_succ, i64_w, i32_w]
       rfl
      refine pure_ (i := 8) (N := some 53) (v := ?_) (a' := ?_) #[true, true, true, true, true, true, true, true, true, false, false] rfl rfl (any_of HT_.out (by kernel_rfl)) (fun _ _ _ h => h) (Or.inl ⟨by rfl, ?_⟩) ?_ ?_
      rotate_left
      ·
       intro w'
       go_simp
       with_reducible rfl
      rotate_left
      ·
       simp only [Act.put, List.setIfInBounds_toArray, List.set_cons_zero, List.set_cons_succ, i64_w, i32_w]
       rfl
      refine pure_ (i := 9) (N := some 54) (v := ?_) (a' := ?_) #[true, true, true, true, true, true, true, true, true, true, false] rfl rfl (any_of HT_.out (by kernel_rfl)) (fun _ _ _ h => h) (Or.inl ⟨by rfl, ?_⟩) ?_ ?_
      rotate_left
      ·
       intro w'
       go_simp
       with_reducible rfl
      rotate_left
      ·
       simp only [Act.put, List.setIfInBounds_toArray, List.set_cons_zero, List.set_cons_succ, i64_w, i32_w]
       rfl
      refine last_ (i := 10) (N := none) #[true, true, true, true, true, true, true, true, true, true, true] rfl rfl (one_of HT_.out (by kernel_rfl)) (by decide) (fun K hK => ?_)
      have yg := (blk_cell HG6.out 0).trans rfl
      have fz : w6.frozen? ⟨g, 0, none⟩ = false := blk_frozen HG6.out 0
      refine skip_ (w1 := ?_) (by rfl) rfl ?_ ?_
      rotate_left
      ·
       go_simp
       rfl
      clear yg fz
      refine hK.out _ _ ?_
      clear hK K
      refine done_ (done_of HT_.out (by kernel_rfl)) ?_
      have yb0 := (blk_cell (blk_far HX6.out (p := ⟨g, 0, none⟩) HNG.out (.slice ao6 L6.length cap6)) 0).trans rfl
      have yb1 := (blk_cell (blk_set HG6.out 0 (.slice ao6 L6.length cap6)) 1).trans rfl
      have fz : (w6.setCell ⟨g, 0, none⟩ (.slice ao6 L6.length cap6)).frozen? ⟨g, 1, none⟩ = false := blk_frozen (blk_set HG6.out 0 _) 1
      obtain ⟨hfin1, hfin2⟩ := HRB1.out.laid (r := r) HL.out HO6.out (by rw [HL6.out]; exact HV6.out)
      have HFIN1 := Aside0.mk hfin1
      have HFIN2 := Aside0.mk hfin2
      clear hfin1 hfin2
      go_wp2
      go_ret
      rw [HE2.out]
      exact ⟨rfl, HFIN1.out, (Only.of_below HB1.out).then_ HFIN2.out (fun i hi hlt => TR_back HB1.out hlt hi)⟩
end
end Go.Proofs.Ytjbakaplcjkniaa.Pb
namespace Go.Proofs.Ytjbakaplcjkniaa.Pb
open Go.RowKit Go.Maps Go.Proofs.YtjbakaplcjkniaaW.PrintWords Go.Proofs.YtjbakaplcjkniaaW.PrintLast Go.Proofs.YtjbakaplcjkniaaW.PrintMore Go.Proofs.Ytjbakaplcjkniaa.Pi Go.Proofs.Ytjbakaplcjkniaa.Pa
set_option linter.unusedVariables false
set_option linter.unusedSimpArgs false
/-- What the document's Get tells: the item's lists are those that came in. -/
def GetD (w0 : World) (e : Ending) (r : Int × Option Row) : Prop := ∃ a, e = .returned (.tuple #[a, .int .i64 r.1]) ∧ match r.2 with
 | none => a = .agg #[.int .u32 0, .slice none 0 0, .slice none 0 0]
 | some x => ∃ A1 c1 A2 c2, a = .agg #[.int .u32 x.id, .slice A1 x.vec.length c1, .slice A2 x.tags.length c2] ∧ FrI w0 x [.int .u64 x.v, .bool x.gone, .int .u32 x.id, .slice A1 x.vec.length c1, .slice A2 x.tags.length c2]
section
variable {w0 w w' : World} {g : Nat} {s : St}
set_option maxHeartbeats 4000000 in
set_option maxRecDepth 100000 in
theorem RX.get (h : RX w0 w g s) (id v : Int) :
  Calls Try.prog 38 #[.pointer (some ⟨g, 0, none⟩), .int .u32 id, .int .u64 v] w fun e w' => GetD w0 e (s.get id v) ∧ Below w.heap.size w w' := by
 have hu2 := Try.underlying79
 have hu3 := Try.underlying82
 have hu4 := Try.underlying54
 have hb1 := below_alloc (Below.refl w.heap.size w) (.cells #[.int .u32 0, .slice none 0 0, .slice none 0 0] 54)
 have HBX := Aside0.mk (heap_alloc_new w (.cells #[.int .u32 0, .slice none 0 0, .slice none 0 0] 54))
 have HX := Aside0.mk (h.below hb1)
 have HB := Aside0.mk hb1
 clear h hb1
 cases hk : s.known v with
 | false =>
  have e1 : s.get id v = (80, none) := by unfold St.get; rw [if_pos hk]
  rw [e1]
  have HK := Aside0.mk hk
  clear e1 hk
  go_enter Try.func38, Try.ntmps38
  go_wp2_with (go_at_call 54; (with_reducible refine (RX.known HX.out v).mono ?_); rintro e w1 ⟨rfl, hb⟩; rw [HK.out]; have HB1 := Aside0.mk (bel_trans HB.out hb); have hy := blk_below HBX.out hb; have HY := Aside0.mk hy; have z0 := (blk_cell hy 0).trans rfl; have z1 := (blk_cell hy 1).trans rfl; have z2 := (blk_cell hy 2).trans rfl; have fz : ∀ j, w1.frozen? ⟨w.heap.size, j, none⟩ = false := (fun j => blk_frozen HY.out j); clear hb hy)
  refine bodyPost_ret (results_ct rfl _ _ w.heap.size 54 #[.int .u32 0, .slice none 0 0, .slice none 0 0] (0,0) _ rfl (blk_put (blk_put (blk_put HY.out 0 _ rfl) 1 _ rfl) 2 _ rfl) Try.underlying54 rfl (by kernel_rfl)) rfl ?_
  exact ⟨⟨_, rfl, rfl⟩, only_sets HB1.out (Nat.le_refl _) _ _ _⟩
 | true =>
  have HK := Aside0.mk hk
  cases ha : atP s.L id v with
  | none =>
   have e1 : s.get id v = (2, none) := by unfold St.get; rw [if_neg (by rw [hk]; simp), ha]
   rw [e1]
   have HI := Aside0.mk (atI_none ha)
   clear e1 ha hk
   go_enter Try.func38, Try.ntmps38
   go_wp2_with (first | (go_at_call 54; (with_reducible refine (RX.known HX.out v).mono ?_); rintro e w1 ⟨rfl, hb⟩; rw [HK.out]; have HP := Aside0.mk (HX.out.below hb); have HB1 := Aside0.mk (bel_trans HB.out hb); have HY := Aside0.mk (blk_below HBX.out hb); clear hb) | (go_at_call 53; (with_reducible refine (RX.at_ HP.out id v).mono ?_); rintro e w2 ⟨rfl, hb⟩; rw [HI.out]; have HB2 := Aside0.mk (bel_trans HB1.out hb); have hy := blk_below HY.out hb; have HY2 := Aside0.mk hy; have z0 := (blk_cell hy 0).trans rfl; have z1 := (blk_cell hy 1).trans rfl; have z2 := (blk_cell hy 2).trans rfl; have fz : ∀ j, w2.frozen? ⟨w.heap.size, j, none⟩ = false := (fun j => blk_frozen HY2.out j); clear hb hy))
   refine bodyPost_ret (results_ct rfl _ _ w.heap.size 54 #[.int .u32 0, .slice none 0 0, .slice none 0 0] (0,0) _ rfl (blk_put (blk_put (blk_put HY2.out 0 _ rfl) 1 _ rfl) 2 _ rfl) Try.underlying54 rfl (by kernel_rfl)) rfl ?_
   exact ⟨⟨_, rfl, rfl⟩, only_sets HB2.out (Nat.le_refl _) _ _ _⟩
  | some i =>
   obtain ⟨x, hx, hid, hv⟩ := atP_some ha
   have e1 : s.get id v = if x.gone = true then (2, none) else (0, some x) := by unfold St.get; rw [if_neg (by rw [hk]; simp), ha]; dsimp only; rw [hx]
   rw [e1]
   have HI := Aside0.mk (atI_some ha)
   have HXI := Aside0.mk hx
   have hil := atP_lt ha
   have q3 : (i : Int) < (s.L.length : Int) := by omega
   clear e1 ha hx hid hv hk
   cases hgo : x.gone with
   | true =>
    rw [if_pos rfl]
    go_enter Try.func38, Try.ntmps38
    go_wp2_with (first | (go_at_call 54; (with_reducible refine (RX.known HX.out v).mono ?_); rintro e w1 ⟨rfl, hb⟩; rw [HK.out]; have HP := Aside0.mk (HX.out.below hb); have HB1 := Aside0.mk (bel_trans HB.out hb); have HY := Aside0.mk (blk_below HBX.out hb); clear hb) | (go_at_call 53; (with_reducible refine (RX.at_ HP.out id v).mono ?_); rintro e w2 ⟨rfl, hb⟩; rw [HI.out]; have HP2 := Aside0.mk (HP.out.below hb); have HB2 := Aside0.mk (bel_trans HB1.out hb); have hy := blk_below HY.out hb; have HY2 := Aside0.mk hy; have z0 := (blk_cell hy 0).trans rfl; have z1 := (blk_cell hy 1).trans rfl; have z2 := (blk_cell hy 2).trans rfl; have fz : ∀ j, w2.frozen? ⟨w.heap.size, j, none⟩ = false := (fun j => blk_frozen HY2.out j); obtain ⟨ad, cap1, A1, c1, A2, c2, yy, hr, -⟩ := HP2.out.row_at HXI.out; have x1 := hr.y1; rw [hgo] at x1; clear hb hy hr))
    refine bodyPost_ret (results_ct rfl _ _ w.heap.size 54 #[.int .u32 0, .slice none 0 0, .slice none 0 0] (0,0) _ rfl (blk_put (blk_put (blk_put HY2.out 0 _ rfl) 1 _ rfl) 2 _ rfl) Try.underlying54 rfl (by kernel_rfl)) rfl ?_
    exact ⟨⟨_, rfl, rfl⟩, only_sets HB2.out (Nat.le_refl _) _ _ _⟩
   | false =>
    rw [if_neg (by simp)]
    go_enter Try.func38, Try.ntmps38
    go_wp2_with (first | (go_at_call 54; (with_reducible refine (RX.known HX.out v).mono ?_); rintro e w1 ⟨rfl, hb⟩; rw [HK.out]; have HP := Aside0.mk (HX.out.below hb); have HB1 := Aside0.mk (bel_trans HB.out hb); have HY := Aside0.mk (blk_below HBX.out hb); clear hb) | (go_at_call 53; (with_reducible refine (RX.at_ HP.out id v).mono ?_); rintro e w2 ⟨rfl, hb⟩; rw [HI.out]; have HP2 := Aside0.mk (HP.out.below hb); have HB2 := Aside0.mk (bel_trans HB1.out hb); have hy := blk_below HY.out hb; have HY2 := Aside0.mk hy; have z0 := (blk_cell hy 0).trans rfl; have z1 := (blk_cell hy 1).trans rfl; have z2 := (blk_cell hy 2).trans rfl; have fz : ∀ j, w2.frozen? ⟨w.heap.size, j, none⟩ = false := (fun j => blk_frozen HY2.out j); obtain ⟨ad, cap1, A1, c1, A2, c2, yy, hr, hfr⟩ := HP2.out.row_at HXI.out; have HFR := Aside0.mk hfr; have x1 := hr.y1; rw [hgo] at x1; have x2 := hr.y2; have x3 := hr.z3; have x4 := hr.z4; clear hb hy hr hfr))
    refine bodyPost_ret (results_ct rfl _ _ w.heap.size 54 #[.int .u32 x.id, .slice A1 x.vec.length c1, .slice A2 x.tags.length c2] (0,0) _ rfl (blk_put (blk_put (blk_put HY2.out 0 _ rfl) 1 _ rfl) 2 _ rfl) Try.underlying54 rfl (by kernel_rfl)) rfl ?_
    exact ⟨⟨_, rfl, A1, c1, A2, c2, rfl, HFR.out⟩, only_sets HB2.out (Nat.le_refl _) _ _ _⟩
end
end Go.Proofs.Ytjbakaplcjkniaa.Pb
namespace Go.Proofs.Ytjbakaplcjkniaa.Pb
open Go.Proofs.Ytjbakaplcjkniaa.Pa
set_option linter.unusedVariables false
set_option linter.unusedSimpArgs false
/-! ### An element in its place -/
section
variable {α : Type} (f : α → Int) (y : α)
def insBy : List α → List α
 | [] => [y]
 | z :: l => if f y < f z then y :: z :: l else z :: insBy l
def dnTo (l : List α) (k : Nat) : Bool := (l.take k).any fun z => decide (f y < f z)
def insTo (l : List α) (k : Nat) : List α := if dnTo f y l k = true then insBy f y (l.take k) else l.take k
variable {f y}
theorem insBy_snoc_done {l : List α} {z : α} (h : (l.any fun z => decide (f y < f z)) = true) : insBy f y (l ++ [z]) = insBy f y l ++ [z] := by
 induction l with
 | nil => simp at h
 | cons a l ih =>
  rw [List.cons_append]
  unfold insBy
  by_cases hc : f y < f a
  ·
   rw [if_pos hc, if_pos hc]; rfl
  ·
   rw [if_neg hc, if_neg hc, ih (by rw [List.any_cons] at h; simpa [hc] using h)]; rfl
theorem insBy_none {l : List α} (h : (l.any fun z => decide (f y < f z)) = false) : insBy f y l = l ++ [y] := by
 induction l with
 | nil => rfl
 | cons a l ih =>
  unfold insBy
  rw [List.any_cons, Bool.or_eq_false_iff] at h
  rw [if_neg (by simpa using h.1), ih h.2]; rfl
theorem insBy_snoc_lt {l : List α} {z : α} (h : (l.any fun z => decide (f y < f z)) = false) (hz : f y < f z) : insBy f y (l ++ [z]) = l ++ [y] ++ [z] := by
 induction l with
 | nil => show (if f y < f z then _ else _) = _; rw [if_pos hz]; rfl
 | cons a l ih =>
  rw [List.cons_append]
  unfold insBy
  rw [List.any_cons, Bool.or_eq_false_iff] at h
  rw [if_neg (by simpa using h.1), ih h.2]; rfl
theorem dnTo_zero (l : List α) : dnTo f y l 0 = false := by unfold dnTo; simp
theorem insTo_zero (l : List α) : insTo f y l 0 = [] := by unfold insTo; rw [dnTo_zero, if_neg (by simp)]; simp
theorem take_snoc {l : List α} {k : Nat} {z : α} (hz : l[k]? = some z) : l.take (k + 1) = l.take k ++ [z] := by
 obtain ⟨hl, e⟩ := List.getElem?_eq_some_iff.1 hz
 rw [List.take_succ_eq_append_getElem hl, e]
theorem dnTo_succ {l : List α} {k : Nat} {z : α} (hz : l[k]? = some z) : dnTo f y l (k + 1) = (dnTo f y l k || decide (f y < f z)) := by
 unfold dnTo
 rw [take_snoc hz, List.any_append]
 simp
theorem insTo_done {l : List α} {k : Nat} {z : α} (hz : l[k]? = some z) (h : dnTo f y l k = true) : insTo f y l (k + 1) = insTo f y l k ++ [z] ∧ dnTo f y l (k + 1) = true := by
 have h2 : dnTo f y l (k + 1) = true := by rw [dnTo_succ hz, h]; rfl
 refine ⟨?_, h2⟩
 unfold insTo
 rw [if_pos h2, if_pos h, take_snoc hz]
 exact insBy_snoc_done h
theorem insTo_lt {l : List α} {k : Nat} {z : α} (hz : l[k]? = some z) (h : dnTo f y l k = false) (hl : f y < f z) : insTo f y l (k + 1) = insTo f y l k ++ [y] ++ [z] ∧ dnTo f y l (k + 1) = true := by
 have h2 : dnTo f y l (k + 1) = true := by rw [dnTo_succ hz, h]; simp [hl]
 refine ⟨?_, h2⟩
 unfold insTo
 rw [if_pos h2, if_neg (by rw [h]; simp), take_snoc hz]
 exact insBy_snoc_lt h hl
theorem insTo_on {l : List α} {k : Nat} {z : α} (hz : l[k]? = some z) (h : dnTo f y l k = false) (hl : ¬ f y < f z) : insTo f y l (k + 1) = insTo f y l k ++ [z] ∧ dnTo f y l (k + 1) = false := by
 have h2 : dnTo f y l (k + 1) = false := by rw [dnTo_succ hz, h]; simp [hl]
 refine ⟨?_, h2⟩
 unfold insTo
 rw [if_neg (by rw [h2]; simp), if_neg (by rw [h]; simp), take_snoc hz]
theorem insTo_end_done {l : List α} (h : dnTo f y l l.length = true) : insTo f y l l.length = insBy f y l := by
 unfold insTo
 rw [if_pos h, List.take_length]
theorem insTo_end {l : List α} (h : dnTo f y l l.length = false) : insTo f y l l.length ++ [y] = insBy f y l := by
 unfold insTo
 rw [if_neg (by rw [h]; simp), List.take_length, insBy_none]
 unfold dnTo at h
 rwa [List.take_length] at h
theorem mem_insBy {l : List α} {z : α} : z ∈ insBy f y l ↔ z = y ∨ z ∈ l := by
 induction l with
 | nil => simp [insBy]
 | cons a l ih =>
  unfold insBy
  split
  ·
   simp
  ·
   simp only [List.mem_cons, ih]
   constructor
   ·
    rintro (h | h | h)
    ·
     exact .inr (.inl h)
    ·
     exact .inl h
    ·
     exact .inr (.inr h)
   ·
    rintro (h | h | h)
    ·
     exact .inr (.inl h)
    ·
     exact .inl h
    ·
     exact .inr (.inr h)
theorem insBy_rise {l : List α} (h : l.Pairwise fun a b => f a < f b) (hn : ∀ z ∈ l, f z ≠ f y) : (insBy f y l).Pairwise fun a b => f a < f b := by
 induction l with
 | nil => simp [insBy]
 | cons a l ih =>
  obtain ⟨h1, h2⟩ := List.pairwise_cons.1 h
  unfold insBy
  split
  ·
   next hc =>
   refine List.pairwise_cons.2 ⟨fun z hz => ?_, h⟩
   rcases List.mem_cons.1 hz with rfl | hz
   ·
    exact hc
   ·
    have := h1 z hz; omega
  ·
   next hc =>
   refine List.pairwise_cons.2 ⟨fun z hz => ?_, ih h2 (fun z hz => hn z (List.mem_cons_of_mem _ hz))⟩
   rcases mem_insBy.1 hz with rfl | hz
   ·
    have := hn a List.mem_cons_self
    omega
   ·
    exact h1 z hz
theorem map_insBy {β : Type} (g : β → Int) (m : α → β) (hm : ∀ a, g (m a) = f a) (l : List α) : (insBy f y l).map m = insBy g (m y) (l.map m) := by
 induction l with
 | nil => rfl
 | cons a l ih =>
  rw [List.map_cons]
  unfold insBy
  rw [hm, hm]
  split
  ·
   rfl
  ·
   rw [List.map_cons, ih]
theorem insBy_len (l : List α) : (insBy f y l).length = l.length + 1 := by
 induction l with
 | nil => rfl
 | cons a l ih =>
  unfold insBy
  split
  ·
   rfl
  ·
   rw [List.length_cons, ih, List.length_cons]
theorem insTo_len (l : List α) (k : Nat) : (insTo f y l k).length ≤ k + 1 := by
 unfold insTo
 split
 ·
  rw [insBy_len, List.length_take]; omega
 ·
  rw [List.length_take]; omega
end
/-! ### All -/
def isThere (L : List Row) (v : Int) (k : Nat) (x : Row) : Bool := decide (atP L x.id v = some k) && !x.gone
def allTo (L : List Row) (v : Int) : Nat → List Row
 | 0 => []
 | k + 1 => match L[k]? with
  | none => allTo L v k
  | some x => if isThere L v k x = true then insBy Row.id x (allTo L v k) else allTo L v k
theorem allTo_succ {L : List Row} {v : Int} {k : Nat} {x : Row} (hx : L[k]? = some x) : allTo L v (k + 1) = if isThere L v k x = true then insBy Row.id x (allTo L v k) else allTo L v k := by
 show (match L[k]? with | none => _ | some x => _) = _
 rw [hx]
theorem mem_allTo {L : List Row} {v : Int} {z : Row} : ∀ {k : Nat}, z ∈ allTo L v k ↔ ∃ i, i < k ∧ L[i]? = some z ∧ isThere L v i z = true := by
 intro k
 induction k with
 | zero => simp [allTo]
 | succ k ih =>
  cases hx : L[k]? with
  | none =>
   have e : allTo L v (k + 1) = allTo L v k := by show (match L[k]? with | none => _ | some x => _) = _; rw [hx]
   rw [e, ih]
   constructor
   ·
    rintro ⟨i, h1, h2⟩; exact ⟨i, by omega, h2⟩
   ·
    rintro ⟨i, h1, h2, h3⟩
    refine ⟨i, ?_, h2, h3⟩
    rcases Nat.lt_or_ge i k with h | h
    ·
     exact h
    ·
     have : i = k := by omega
     subst this
     rw [hx] at h2; cases h2
  | some x =>
   rw [allTo_succ hx]
   by_cases ht : isThere L v k x = true
   ·
    rw [if_pos ht, mem_insBy, ih]
    constructor
    ·
     rintro (rfl | ⟨i, h1, h2⟩)
     ·
      exact ⟨k, by omega, hx, ht⟩
     ·
      exact ⟨i, by omega, h2⟩
    ·
     rintro ⟨i, h1, h2, h3⟩
     rcases Nat.lt_or_ge i k with h | h
     ·
      exact .inr ⟨i, h, h2, h3⟩
     ·
      have : i = k := by omega
      subst this
      rw [hx] at h2; injection h2 with h2
      exact .inl h2.symm
   ·
    rw [if_neg ht, ih]
    constructor
    ·
     rintro ⟨i, h1, h2⟩; exact ⟨i, by omega, h2⟩
    ·
     rintro ⟨i, h1, h2, h3⟩
     rcases Nat.lt_or_ge i k with h | h
     ·
      exact ⟨i, h, h2, h3⟩
     ·
      have : i = k := by omega
      subst this
      rw [hx] at h2; injection h2 with h2
      subst h2
      exact absurd h3 ht
theorem isThere_iff {L : List Row} {v : Int} {k : Nat} {x : Row} : isThere L v k x = true ↔ atP L x.id v = some k ∧ x.gone = false := by
 unfold isThere
 simp
theorem allTo_rise (L : List Row) (v : Int) : ∀ k, (allTo L v k).Pairwise fun a b => a.id < b.id := by
 intro k
 induction k with
 | zero => exact List.Pairwise.nil
 | succ k ih =>
  cases hx : L[k]? with
  | none =>
   have e : allTo L v (k + 1) = allTo L v k := by show (match L[k]? with | none => _ | some x => _) = _; rw [hx]
   rw [e]; exact ih
  | some x =>
   rw [allTo_succ hx]
   by_cases ht : isThere L v k x = true
   ·
    rw [if_pos ht]
    refine insBy_rise ih (fun z hz e => ?_)
    obtain ⟨i, h1, h2, h3⟩ := mem_allTo.1 hz
    have e1 := (isThere_iff.1 h3).1
    have e2 := (isThere_iff.1 ht).1
    rw [show z.id = x.id from e, e2] at e1
    injection e1 with e1
    omega
   ·
    rw [if_neg ht]; exact ih
theorem allTo_is (L : List Row) (v : Int) : AllIs L v (allTo L v L.length) := by
 refine ⟨allTo_rise L v _, fun x => ?_⟩
 rw [mem_allTo]
 constructor
 ·
  rintro ⟨i, _, h2, h3⟩
  exact ⟨i, h2, isThere_iff.1 h3⟩
 ·
  rintro ⟨i, h1, h2, h3⟩
  exact ⟨i, (List.getElem?_eq_some_iff.1 h1).1, h1, isThere_iff.2 ⟨h2, h3⟩⟩
end Go.Proofs.Ytjbakaplcjkniaa.Pb
namespace Go.Proofs.Ytjbakaplcjkniaa.Pb
open Go.RowKit Go.Maps Go.Proofs.YtjbakaplcjkniaaW.PrintWords Go.Proofs.YtjbakaplcjkniaaW.PrintLast Go.Proofs.YtjbakaplcjkniaaW.PrintMore Go.Proofs.Ytjbakaplcjkniaa.Pi Go.Proofs.Ytjbakaplcjkniaa.Pa
set_option linter.unusedVariables false
set_option linter.unusedSimpArgs false
def rall.T14 : Bool × List (List Nat × List Nat) := (true, [([], []), ([0], [0]), ([1], [1]), ([2], [2]), ([3, 2], [2, 3]), ([4, 2], [2, 4]), ([2], [2]), ([2], [2]), ([6, 7, 2], [2, 6, 7]), ([8, 2], [2, 8]), ([9, 2], [2, 9]), ([5, 10, 2], [2, 5, 10]), ([2, 11], [2, 11])])
def rall.B14 : List Nat := [0, 1, 3, 7, 15, 31, 7, 7, 199, 455, 967, 2047, 4095]
theorem rall.tab14 : rtab .any (opsOf Try.f39 14) = rall.T14 := by kernel_rfl
theorem rall.bits14 : waitsOk rall.T14.2 rall.B14 = true := by kernel_rfl
end Go.Proofs.Ytjbakaplcjkniaa.Pb
namespace Go.Proofs.Ytjbakaplcjkniaa.Pa
open Go.RowKit Go.Maps Go.Proofs.YtjbakaplcjkniaaW.PrintWords Go.Proofs.YtjbakaplcjkniaaW.PrintLast Go.Proofs.YtjbakaplcjkniaaW.PrintMore Go.Proofs.Ytjbakaplcjkniaa.Pi
theorem OwnE.lower {w : World} {b b' : Nat} {v : Value} {d : List Elt} (h : OwnE w b v d) (hb : b' ≤ b) : OwnE w b' v d := by
 refine ⟨h.1, ?_⟩
 rcases h.2 with h0 | ⟨r, cap, cur, e, hbb, rest⟩
 ·
  exact .inl h0
 ·
  exact .inr ⟨r, cap, cur, e, Nat.le_trans hb hbb, rest⟩
/-- An item of a list where it lies. -/
theorem OwnE.at {w : World} {b : Nat} {ao : Option Addr} {c : Nat} {d : List Elt} (h : OwnE w b (.slice ao d.length c) d) {k : Nat} {e : Elt} (he : d[k]? = some e) : ∃ ad, ao = some ad ∧ w.cell? (ad.add (k * 3)) = some (.int .u32 e.r.id) ∧ w.cell? ⟨(ad.add (k * 3)).block, (ad.add (k * 3)).off + 1, none⟩ = some (.slice e.A1 e.r.vec.length e.c1) ∧ w.cell? ⟨(ad.add (k * 3)).block, (ad.add (k * 3)).off + 2, none⟩ = some (.slice e.A2 e.r.tags.length e.c2) := by
 have hk := (List.getElem?_eq_some_iff.1 he).1
 rcases h.2 with ⟨e0, h0⟩ | ⟨r, cap, cur, e0, hb, hh, hc1, hc2, hc3, hc4⟩
 ·
  rw [h0] at hk; omega
 ·
  injection e0 with e1 e2 e3
  subst e1
  have hin : ∀ i, i < 3 → w.cell? ⟨r, k * 3 + i, none⟩ = e.cs[i]? := by
   intro i hi
   rw [blk_cell hh, ← cellsE_get d k e he i hi, ← hc4, List.getElem?_take, if_pos (by omega), Array.getElem?_toList]
  refine ⟨_, rfl, ?_, ?_, ?_⟩
  ·
   rw [add_plain]; exact hin 0 (by omega)
  ·
   rw [add_plain]; exact hin 1 (by omega)
  ·
   rw [add_plain]; exact hin 2 (by omega)
end Go.Proofs.Ytjbakaplcjkniaa.Pa
namespace Go.Proofs.Ytjbakaplcjkniaa.Pb
open Go.RowKit Go.Maps Go.Proofs.YtjbakaplcjkniaaW.PrintWords Go.Proofs.YtjbakaplcjkniaaW.PrintLast Go.Proofs.YtjbakaplcjkniaaW.PrintMore Go.Proofs.Ytjbakaplcjkniaa.Pi Go.Proofs.Ytjbakaplcjkniaa.Pa
/-- An item whose lists came in. -/
def EltI (w0 : World) (e : Elt) : Prop := FrI w0 e.r [.int .u64 e.r.v, .bool e.r.gone, .int .u32 e.r.id, .slice e.A1 e.r.vec.length e.c1, .slice e.A2 e.r.tags.length e.c2]
/-- A list that was told. -/
def ToldI (w0 w : World) (v : Value) (d : List Elt) : Prop := OwnE w w0.heap.size v d ∧ ∀ e ∈ d, EltI w0 e
abbrev fE (e : Elt) : Int := e.r.id
/-- Rows, but as items. -/
def AnsE (L : List Row) (v : Int) (k : Nat) (d : List Elt) : Prop := d.map Elt.r = allTo L v k
theorem AnsE.skip {L : List Row} {v : Int} {k : Nat} {d : List Elt} {x : Row} (h : AnsE L v k d) (hx : L[k]? = some x) (ht : isThere L v k x = false) : AnsE L v (k + 1) d := by
 unfold AnsE
 rw [allTo_succ hx, if_neg (by rw [ht]; simp)]
 exact h
theorem AnsE.put {L : List Row} {v : Int} {k : Nat} {d : List Elt} {y : Elt} (h : AnsE L v k d) (hx : L[k]? = some y.r) (ht : isThere L v k y.r = true) : AnsE L v (k + 1) (insBy fE y d) := by
 unfold AnsE
 rw [allTo_succ hx, if_pos ht, map_insBy Row.id Elt.r (fun _ => rfl), h]
theorem isThere_at {L : List Row} {v : Int} {k : Nat} {x : Row} (h : atI L x.id v = (k : Int)) (hg : x.gone = false) : isThere L v k x = true := by
 refine isThere_iff.2 ⟨?_, hg⟩
 unfold atI at h
 cases e : atP L x.id v with
 | none => rw [e] at h; simp at h
 | some i => rw [e] at h; simp at h; rw [show i = k by omega]
theorem isThere_far {L : List Row} {v : Int} {k : Nat} {x : Row} (h : ¬ atI L x.id v = (k : Int)) : isThere L v k x = false := by
 rw [← Bool.not_eq_true, isThere_iff]
 rintro ⟨h1, _⟩
 exact h (atI_some h1)
theorem isThere_gone {L : List Row} {v : Int} {k : Nat} {x : Row} (h : x.gone = true) : isThere L v k x = false := by unfold isThere; rw [h]; simp
section
variable {w0 w w' : World} {g : Nat} {s : St}
set_option maxHeartbeats 2000000 in
set_option maxRecDepth 100000 in
theorem RX.all_gone (h : RX w0 w g s) (v : Int) (hk : s.known v = false) :
  Calls Try.prog 39 #[.pointer (some ⟨g, 0, none⟩), .int .u64 v] w fun e w' => e = .returned (.tuple #[.slice none 0 0, .int .i64 80]) ∧ Below w.heap.size w w' := by
 have HX := Aside0.mk h
 have HK := Aside0.mk hk
 clear h hk
 go_enter Try.func39, Try.ntmps39
 go_wp2_with (go_at_call 54; (with_reducible refine (RX.known HX.out v).mono ?_); rintro e w1 ⟨rfl, hb⟩; rw [HK.out]; have HB1 := Aside0.mk hb; clear hb)
 go_ret2
 exact ⟨rfl, HB1.out⟩
/-- What All tells. -/
def AllD (w0 w w' : World) (e : Ending) (s : St) (v : Int) : Prop := ∃ a d, e = .returned (.tuple #[a, .int .i64 0]) ∧ OwnE w' w.heap.size a d ∧ (∀ x ∈ d, EltI w0 x) ∧ AllIs s.L v (d.map Elt.r)
set_option maxHeartbeats 32000000 in
set_option maxRecDepth 100000 in
theorem RX.all_known (h : RX w0 w g s) (v : Int) (hk : s.known v = true) :
  Calls Try.prog 39 #[.pointer (some ⟨g, 0, none⟩), .int .u64 v] w fun e w' => AllD w0 w w' e s v ∧ Below w.heap.size w w' := by
 have hu2 := Try.underlying79
 have hu3 := Try.underlying82
 have hu4 := Try.underlying54
 have HX := Aside0.mk h
 have HK := Aside0.mk hk
 have HFW := Aside0.mk h.few
 clear h hk
 go_enter Try.func39, Try.ntmps39
 go_wp2_with (go_at_call 54; (with_reducible refine (RX.known HX.out v).mono ?_); rintro e w1 ⟨rfl, hb⟩; rw [HK.out]; have HB1 := Aside0.mk hb; clear hb)
 go_loopg [6, 7] s.L.length (fun gk v6 v7 wr => ∃ (i : Nat) (d : List Elt) (A : Option Addr) (c : Nat), v7 = .int .i64 i ∧ v6 = .slice A d.length c ∧ Aside0 (i ≤ s.L.length ∧ s.L.length - i ≤ gk ∧ d.length ≤ i) ∧ Aside0 (Below w.heap.size w wr) ∧ Aside0 (OwnE wr w.heap.size (.slice A d.length c) d) ∧ Aside0 (∀ x ∈ d, EltI w0 x) ∧ Aside0 (AnsE s.L v i d))
 case atStart => exact ⟨0, [], none, 0, rfl, rfl, ⟨by omega, by omega, Nat.le_refl _⟩, HB1, ⟨OwnE.nil _ _⟩, ⟨fun x hx => by simp at hx⟩, ⟨rfl⟩⟩
 case round =>
  clear HB1
  obtain ⟨i, d, A, c, rfl, rfl, HI, HB, HD, HE, HA⟩ := hrel
  obtain ⟨ao, cap, ak, ck, hbox, hrd, -⟩ := (HX.out.below HB.out).reads
  have y0 := (blk_cell hbox 0).trans rfl
  by_cases hi : i < s.L.length
  ·
   have q1 : decide ((i : Int) < (s.L.length : Int)) = true := decide_eq_true (by omega)
   have q1' : (i : Int) < (s.L.length : Int) := by omega
   obtain ⟨x, hx⟩ : ∃ x, s.L[i]? = some x := ⟨_, List.getElem?_eq_getElem hi⟩
   obtain ⟨ad, A1, c1, A2, c2, hao, hr, hf⟩ := hrd i x hx
   subst hao
   have x0 := hr.y0
   have x1 := hr.y1
   have x2 := hr.y2
   have x3 := hr.z3
   have x4 := hr.z4
   have HXI := Aside0.mk hx
   have HFX := Aside0.mk hf
   have HII := Aside0.mk hi
   have HIN := Aside0.mk (show wrap64 ((i : Int) + 1) = ((i + 1 : Nat) : Int) by have := HFW.out; unfold wrap64; omega)
   obtain ⟨gko, rfl⟩ : ∃ m, gk = m + 1 := ⟨gk - 1, by have := HI.out; omega⟩
   have hba := below_alloc (Below.refl wr.heap.size wr) (.cells #[.int .u64 x.v, .bool x.gone, .int .u32 x.id, .slice A1 x.vec.length c1, .slice A2 x.tags.length c2] 82)
   have HBA := Aside0.mk (bel_trans HB.out hba)
   have HDA := Aside0.mk (HD.out.below hba)
   have HBX := Aside0.mk (heap_alloc_new wr (.cells #[.int .u64 x.v, .bool x.gone, .int .u32 x.id, .slice A1 x.vec.length c1, .slice A2 x.tags.length c2] 82))
   clear hi hx hr hf hbox hrd hba
   by_cases hat : atI s.L x.id v = (i : Int)
   ·
    have q2 : (atI s.L x.id v != (i : Int)) = false := by simp [hat]
    cases hg : x.gone with
    | true =>
     have HT := Aside0.mk (isThere_gone (L := s.L) (v := v) (k := i) hg)
     rw [hg] at x1 HBX HBA HDA
     clear hat
     go_wp2_with (go_at_call 53; (with_reducible refine (RX.at_ (HX.out.below HBA.out) x.id v).mono ?_); rintro e w2 ⟨rfl, hb⟩; have HB2 := Aside0.mk (bel_trans HBA.out hb); have HD2 := Aside0.mk (HDA.out.below hb); have HBX2 := Aside0.mk (blk_below HBX.out hb); have b1 := (blk_cell HBX2.out 1).trans rfl; clear hb)
     go_roundg gko
     case measure => omega
     case rel => exact ⟨i + 1, d, A, c, congrArg (Value.int .i64) HIN.out, rfl, ⟨by have := HII.out; omega, by have := HI.out; have := HII.out; omega, by have := HI.out; omega⟩, HB2, HD2, HE, ⟨HA.out.skip HXI.out HT.out⟩⟩
    | false =>
     have HT := Aside0.mk (isThere_at hat hg)
     rw [hg] at x1 HBX HBA HDA
     have HG := Aside0.mk hg
     clear hat
     go_wp2_with (go_at_call 53; (with_reducible refine (RX.at_ (HX.out.below HBA.out) x.id v).mono ?_); rintro e w2 ⟨rfl, hb⟩; have HB2 := Aside0.mk (bel_trans HBA.out hb); have HD2 := Aside0.mk (HDA.out.below hb); have HBX2 := Aside0.mk (blk_below HBX.out hb); have b1 := (blk_cell HBX2.out 1).trans rfl; clear hb)
     clear b1
     obtain ⟨bx, hbx⟩ : ∃ z, wr.heap.size = z := ⟨_, rfl⟩
     rw [hbx] at HBX2 ⊢
     obtain ⟨nR, hnR⟩ : ∃ z, w2.heap.size = z := ⟨_, rfl⟩
     have HLT := Aside0.mk (show ∀ k, (Value.slice A d.length c).ownBlock = some k → k < nR from fun k hk => by rw [← hnR]; exact HD2.out.lt k hk)
     have HSB := Aside0.mk (show w.heap.size ≤ nR by rw [← hnR]; exact HB2.out.size)
     have HSR := Aside0.mk (show nR ≤ w2.heap.size from Nat.le_of_eq hnR.symm)
     clear hbx hnR HBX HBA HDA HD HB x0 x1 x2 x3 x4 y0 q2
     obtain ⟨y, hy⟩ : ∃ z : Elt, (⟨x, A1, c1, A2, c2⟩ : Elt) = z := ⟨_, rfl⟩
     have HY := Aside0.mk hy
     have HYI := Aside0.mk (show EltI w0 y by rw [← hy]; unfold EltI; dsimp only; rw [HG.out]; have := HFX.out; rw [HG.out] at this; exact this)
     have HYC := Aside0.mk (show y.cs = [.int .u32 x.id, .slice A1 x.vec.length c1, .slice A2 x.tags.length c2] by rw [← hy]; rfl)
     have HYF := Aside0.mk (show fE y = x.id by rw [← hy])
     clear hy
     go_loopg [9, 10, 11] d.length (fun gk v9 v10 v11 wr => ∃ (k : Nat) (d2 : List Elt) (A' : Option Addr) (c' : Nat), v11 = .int .i64 k ∧ v10 = .bool (dnTo fE y d k) ∧ v9 = .slice A' d2.length c' ∧ Aside0 (d2 = insTo fE y d k) ∧ Aside0 (k ≤ d.length ∧ d.length - k ≤ gk) ∧ Aside0 (Below w.heap.size w wr) ∧ Aside0 (OwnE wr w.heap.size (.slice A d.length c) d) ∧ Aside0 (OwnE wr nR (.slice A' d2.length c') d2) ∧ Aside0 (∀ e ∈ d2, EltI w0 e) ∧ Aside0 (wr.heap[bx]? = some (.cells #[.int .u64 x.v, .bool false, .int .u32 x.id, .slice A1 x.vec.length c1, .slice A2 x.tags.length c2] 82 (0, 0))) ∧ Aside0 (nR ≤ wr.heap.size))
     case atStart => exact ⟨0, [], none, 0, rfl, by rw [dnTo_zero], rfl, ⟨by rw [insTo_zero]⟩, ⟨by omega, by omega⟩, HB2, HD2, ⟨OwnE.nil _ _⟩, ⟨fun x hx => by simp at hx⟩, HBX2, HSR⟩
     case round =>
      clear HB2 HD2 HBX2 HSR
      obtain ⟨k, d2, A', c', rfl, rfl, rfl, HD2E, HKK, HB2, HD2, HN2, HN2I, HBX2, HSR⟩ := hrel
      have HLD := Aside0.mk (show d2.length ≤ 1026 by rw [HD2E.out]; have := insTo_len (f := fE) (y := y) d k; have := HKK.out; have := HI.out; have := HFW.out; omega)
      by_cases hk : k < d.length
      ·
       have q5 : decide ((k : Int) < (d.length : Int)) = true := decide_eq_true (by omega)
       have q5' : (k : Int) < (d.length : Int) := by omega
       obtain ⟨z, hz⟩ : ∃ z, d[k]? = some z := ⟨_, List.getElem?_eq_getElem hk⟩
       obtain ⟨ae, hA, z0, z1, z2⟩ := HD2.out.at hz
       subst hA
       have HZ := Aside0.mk hz
       have HKL := Aside0.mk hk
       have HZI := Aside0.mk (HE.out z (List.mem_of_getElem? hz))
       have HKN := Aside0.mk (show wrap64 ((k : Int) + 1) = ((k + 1 : Nat) : Int) by have := HFW.out; have := HI.out; unfold wrap64; omega)
       obtain ⟨gk2, rfl⟩ : ∃ m, gk = m + 1 := ⟨gk - 1, by have := HKK.out; omega⟩
       clear hk hz
       cases hdn : dnTo fE y d k with
       | true =>
        have HDN := Aside0.mk hdn
        go_wp2
        have HBd := Aside0.mk (bel_trans HB2.out (below_drew (Below.refl _ _)))
        have HDd := Aside0.mk (HD2.out.below (below_drew (Below.refl _ _)))
        have HNd := Aside0.mk (HN2.out.below (below_drew (Below.refl _ _)))
        have HXd := Aside0.mk (blk_below HBX2.out (below_drew (Below.refl _ _)))
        have HSd := Aside0.mk (show nR ≤ wr.drew.heap.size from HSR.out)
        clear z0 z1 z2
        obtain ⟨ae', hA', z0d, z1d, z2d⟩ := HDd.out.at HZ.out
        injection hA' with hA'
        subst hA'
        refine start_ (n := 13) (S := fun w' => w'.cell? ⟨bx, 2, none⟩ = some (.int .u32 x.id) ∧ w'.cell? (ae.add (k * 3)) = some (.int .u32 z.r.id)) (ds := []) #[false, false, false, false, false, false, false, false, false, false, false, false, false] (by kernel_rfl) rfl rfl ⟨((blk_cell HXd.out 2).trans rfl), z0d⟩ (fun hHeld => ?_)
        refine with_tabW rall.tab14 rall.bits14 (fun HT_ HW_ => ?_)
        generalize wr.drew = wd at HBd HDd HNd HXd HSd z0d z1d z2d hHeld ⊢
        refine pure_ (i := 0) (N := some 50) (v := ?_) (a' := ?_) #[true, false, false, false, false, false, false, false, false, false, false, false, false] rfl rfl (any_of HT_.out (by kernel_rfl)) (fun _ _ _ h => h) (Or.inl ⟨by rfl, ?_⟩) ?_ ?_
        rotate_left
        ·
         intro w'
         go_simp
         with_reducible rfl
        rotate_left
        ·
         simp only [Act.put, List.setIfInBounds_toArray, List.set_cons_zero, List.set_cons_succ, i64_w, i32_w]
         rfl
        refine pure_ (i := 1) (N := some 51) (v := ?_) (a' := ?_) #[true, true, false, false, false, false, false, false, false, false, false, false, false] rfl rfl (any_of HT_.out (by kernel_rfl)) (fun _ _ _ h => h) (Or.inl ⟨by rfl, ?_⟩) ?_ ?_
        rotate_left
        ·
         intro w'
         go_simp
         with_reducible rfl
        rotate_left
        ·
         simp only [Act.put, List.setIfInBounds_toArray, List.set_cons_zero, List.set_cons_succ, i64_w, i32_w]
         rfl
        refine pure_ (i := 2) (N := some 52) (v := ?_) (a' := ?_) #[true, true, true, false, false, false, false, false, false, false, false, false, false] rfl rfl (any_of HT_.out (by kernel_rfl)) (fun _ _ _ h => h) (Or.inl ⟨by rfl, ?_⟩) ?_ ?_
        rotate_left
        ·
         intro w'
         go_simp
         with_reducible rfl
        rotate_left
        ·
         simp only [Act.put, List.setIfInBounds_toArray, List.set_cons_zero, List.set_cons_succ, i64_w, i32_w]
         rfl
        refine pure_ (i := 3) (N := some 53) (v := undef) (a' := ?_) #[true, true, true, true, false, false, false, false, false, false, false, false, false] rfl rfl (any_of HT_.out (by kernel_rfl)) (fun _ _ _ h => h) (Or.inr ⟨by rfl, rfl⟩) ?_ ?_
        rotate_left
        ·
         simp only [Act.put, List.setIfInBounds_toArray, List.set_cons_zero, List.set_cons_succ, i64_w, i32_w]
         rfl
        refine pure_ (i := 4) (N := some 54) (v := undef) (a' := ?_) #[true, true, true, true, true, false, false, false, false, false, false, false, false] rfl rfl (any_of HT_.out (by kernel_rfl)) (fun _ _ _ h => h) (Or.inr ⟨by rfl, rfl⟩) ?_ ?_
        rotate_left
        ·
         simp only [Act.put, List.setIfInBounds_toArray, List.set_cons_zero, List.set_cons_succ, i64_w, i32_w]
         rfl
        refine pure_ (i := 5) (N := some 55) (v := undef) (a' := ?_) #[true, true, true, true, true, true, false, false, false, false, false, false, false] rfl rfl (any_of HT_.out (by kernel_rfl)) (fun _ _ _ h => h) (Or.inr ⟨by rfl, rfl⟩) ?_ ?_
        rotate_left
        ·
         simp only [Act.put, List.setIfInBounds_toArray, List.set_cons_zero, List.set_cons_succ, i64_w, i32_w]
         rfl
        refine pure_ (i := 6) (N := some 56) (v := undef) (a' := ?_) #[true, true, true, true, true, true, true, false, false, false, false, false, false] rfl rfl (any_of HT_.out (by kernel_rfl)) (fun _ _ _ h => h) (Or.inr ⟨by rfl, rfl⟩) ?_ ?_
        rotate_left
        ·
         simp only [Act.put, List.setIfInBounds_toArray, List.set_cons_zero, List.set_cons_succ, i64_w, i32_w]
         rfl
        refine pure_ (i := 7) (N := some 57) (v := undef) (a' := ?_) #[true, true, true, true, true, true, true, true, false, false, false, false, false] rfl rfl (any_of HT_.out (by kernel_rfl)) (fun _ _ _ h => h) (Or.inr ⟨by rfl, rfl⟩) ?_ ?_
        rotate_left
        ·
         simp only [Act.put, List.setIfInBounds_toArray, List.set_cons_zero, List.set_cons_succ, i64_w, i32_w]
         rfl
        refine pure_ (i := 8) (N := some 58) (v := undef) (a' := ?_) #[true, true, true, true, true, true, true, true, true, false, false, false, false] rfl rfl (any_of HT_.out (by kernel_rfl)) (fun _ _ _ h => h) (Or.inr ⟨by rfl, rfl⟩) ?_ ?_
        rotate_left
        ·
         simp only [Act.put, List.setIfInBounds_toArray, List.set_cons_zero, List.set_cons_succ, i64_w, i32_w]
         rfl
        refine pure_ (i := 9) (N := some 59) (v := undef) (a' := ?_) #[true, true, true, true, true, true, true, true, true, true, false, false, false] rfl rfl (any_of HT_.out (by kernel_rfl)) (fun _ _ _ h => h) (Or.inr ⟨by rfl, rfl⟩) ?_ ?_
        rotate_left
        ·
         simp only [Act.put, List.setIfInBounds_toArray, List.set_cons_zero, List.set_cons_succ, i64_w, i32_w]
         rfl
        refine pure_ (i := 10) (N := some 60) (v := undef) (a' := ?_) #[true, true, true, true, true, true, true, true, true, true, true, false, false] rfl rfl (any_of HT_.out (by kernel_rfl)) (fun _ _ _ h => h) (Or.inr ⟨by rfl, rfl⟩) ?_ ?_
        rotate_left
        ·
         simp only [Act.put, List.setIfInBounds_toArray, List.set_cons_zero, List.set_cons_succ, i64_w, i32_w]
         rfl
        refine pure_ (i := 11) (N := some 61) (v := undef) (a' := ?_) #[true, true, true, true, true, true, true, true, true, true, true, true, false] rfl rfl (any_of HT_.out (by kernel_rfl)) (fun _ _ _ h => h) (Or.inr ⟨by rfl, rfl⟩) ?_ ?_
        rotate_left
        ·
         simp only [Act.put, List.setIfInBounds_toArray, List.set_cons_zero, List.set_cons_succ, i64_w, i32_w]
         rfl
        refine pure_ (i := 12) (N := some 62) (v := ?_) (a' := ?_) #[true, true, true, true, true, true, true, true, true, true, true, true, true] rfl rfl (any_of HT_.out (by kernel_rfl)) (fun _ _ _ h => h) (Or.inl ⟨by rfl, ?_⟩) ?_ ?_
        rotate_left
        ·
         intro w'
         go_simp
         with_reducible rfl
        rotate_left
        ·
         simp only [Act.put, List.setIfInBounds_toArray, List.set_cons_zero, List.set_cons_succ, i64_w, i32_w]
         rfl
        refine done_ (done_of HT_.out (by kernel_rfl)) ?_
        clear hHeld
        have HB2 := HBd
        have HD2 := HDd
        have HN2 := HNd
        have HBX2 := HXd
        have HSR := HSd
        have z0 := z0d
        have z1 := z1d
        have z2 := z2d
        clear HBd HDd HNd HXd HSd z0d z1d z2d
        go_wp2_with (at_builtin; refine app_E rfl (.tmp 68) (.tmp 73) rfl nR _ d2 z [.int .u32 z.r.id, .slice z.A1 z.r.vec.length z.c1, .slice z.A2 z.r.tags.length z.c2] rfl rfl (by rfl) HN2.out (by have := HLD.out; omega) HSR.out ?_; intro v7 w7 ho hO; have hba := below_alloc (Below.refl wd.heap.size wd) (.cells #[.int .u32 z.r.id, .slice z.A1 z.r.vec.length z.c1, .slice z.A2 z.r.tags.length z.c2] 54); have hN := HN2.out.below hba; have hO2 := hO; have HB7 := Aside0.mk (hO.below_of (bel_trans HB2.out hba) (fun k hk => Nat.le_trans HSB.out (hN.base k hk))); have HO7 := Aside0.mk ((HD2.out.below hba).move (fun k hk => hO.block k ((HD2.out.below hba).lt k hk) (fun hs => by have h1 := HLT.out k hk; have h2 := hN.base k hs; omega))); have HX7 := Aside0.mk ((hO.block bx (blk_lt (blk_below HBX2.out hba)) (fun hs => by obtain ⟨cc, hc⟩ := hN.typed bx hs; exact absurd (blk_type hc (blk_below HBX2.out hba)) (by decide))).trans (blk_below HBX2.out hba)); have HS7 := Aside0.mk (Nat.le_trans HSR.out (Nat.le_trans hba.size hO.size)); obtain ⟨D7, hD7⟩ : ∃ zz, d2 ++ [z] = zz := ⟨_, rfl⟩; have HD7 := Aside0.mk hD7; have HI7 := Aside0.mk (show ∀ e ∈ D7, EltI w0 e by rw [← hD7]; intro e he; rcases List.mem_append.1 he with he | he; exact HN2I.out e he; rw [List.mem_singleton] at he; subst he; exact HZI.out); rw [hD7] at ho; obtain ⟨A7, c7, rfl, -⟩ := ho.slice; have HN7 := Aside0.mk ho; clear ho hO hO2 hba hN hD7)
        go_roundg gk2
        case measure => omega
        case rel => exact ⟨k + 1, D7, A7, c7, congrArg (Value.int .i64) HKN.out, by rw [(insTo_done HZ.out HDN.out).2], rfl, ⟨by rw [(insTo_done HZ.out HDN.out).1, ← HD2E.out]; exact HD7.out.symm⟩, ⟨by have := HKL.out; omega, by have := HKK.out; have := HKL.out; omega⟩, HB7, HO7, HN7, HI7, HX7, HS7⟩
       | false =>
        have HDN := Aside0.mk hdn
        by_cases hlt : fE y < fE z
        ·
         have q6 : decide (x.id < z.r.id) = true := decide_eq_true (by have := HYF.out; have h2 : fE z = z.r.id := rfl; omega)
         have HLZ := Aside0.mk hlt
         clear hlt
         go_wp2
         have HBd := Aside0.mk (bel_trans HB2.out (below_drew (Below.refl _ _)))
         have HDd := Aside0.mk (HD2.out.below (below_drew (Below.refl _ _)))
         have HNd := Aside0.mk (HN2.out.below (below_drew (Below.refl _ _)))
         have HXd := Aside0.mk (blk_below HBX2.out (below_drew (Below.refl _ _)))
         have HSd := Aside0.mk (show nR ≤ wr.drew.heap.size from HSR.out)
         clear z0 z1 z2
         obtain ⟨ae', hA', z0d, z1d, z2d⟩ := HDd.out.at HZ.out
         injection hA' with hA'
         subst hA'
         refine start_ (n := 13) (S := fun w' => w'.cell? ⟨bx, 2, none⟩ = some (.int .u32 x.id) ∧ w'.cell? (ae.add (k * 3)) = some (.int .u32 z.r.id)) (ds := []) #[false, false, false, false, false, false, false, false, false, false, false, false, false] (by kernel_rfl) rfl rfl ⟨((blk_cell HXd.out 2).trans rfl), z0d⟩ (fun hHeld => ?_)
         refine with_tabW rall.tab14 rall.bits14 (fun HT_ HW_ => ?_)
         generalize wr.drew = wd at HBd HDd HNd HXd HSd z0d z1d z2d hHeld ⊢
         refine pure_ (i := 0) (N := some 50) (v := ?_) (a' := ?_) #[true, false, false, false, false, false, false, false, false, false, false, false, false] rfl rfl (any_of HT_.out (by kernel_rfl)) (fun _ _ _ h => h) (Or.inl ⟨by rfl, ?_⟩) ?_ ?_
         rotate_left
         ·
          intro w'
          go_simp
          with_reducible rfl
         rotate_left
         ·
          simp only [Act.put, List.setIfInBounds_toArray, List.set_cons_zero, List.set_cons_succ, i64_w, i32_w]
          rfl
         refine pure_ (i := 1) (N := some 51) (v := ?_) (a' := ?_) #[true, true, false, false, false, false, false, false, false, false, false, false, false] rfl rfl (any_of HT_.out (by kernel_rfl)) (fun _ _ _ h => h) (Or.inl ⟨by rfl, ?_⟩) ?_ ?_
         rotate_left
         ·
          intro w'
          go_simp
          with_reducible rfl
         rotate_left
         ·
          simp only [Act.put, List.setIfInBounds_toArray, List.set_cons_zero, List.set_cons_succ, i64_w, i32_w]
          rfl
         refine pure_ (i := 2) (N := some 52) (v := ?_) (a' := ?_) #[true, true, true, false, false, false, false, false, false, false, false, false, false] rfl rfl (any_of HT_.out (by kernel_rfl)) (fun _ _ _ h => h) (Or.inl ⟨by rfl, ?_⟩) ?_ ?_
         rotate_left
         ·
          intro w'
          go_simp
          with_reducible rfl
         rotate_left
         ·
          simp only [Act.put, List.setIfInBounds_toArray, List.set_cons_zero, List.set_cons_succ, i64_w, i32_w]
          rfl
         refine pure_ (i := 3) (N := some 53) (v := ?_) (a' := ?_) #[true, true, true, true, false, false, false, false, false, false, false, false, false] rfl rfl (any_of HT_.out (by kernel_rfl)) (fun _ _ _ h => h) (Or.inl ⟨by rfl, ?_⟩) ?_ ?_
         rotate_left
         ·
          intro w'
          go_simp
          with_reducible rfl
         rotate_left
         ·
          simp only [Act.put, List.setIfInBounds_toArray, List.set_cons_zero, List.set_cons_succ, i64_w, i32_w]
          rfl
         refine pure_ (i := 4) (N := some 54) (v := ?_) (a' := ?_) #[true, true, true, true, true, false, false, false, false, false, false, false, false] rfl rfl (any_of HT_.out (by kernel_rfl)) (fun _ _ _ h => h) (Or.inl ⟨by rfl, ?_⟩) ?_ ?_
         rotate_left
         ·
          intro w'
          go_simp
          with_reducible rfl
         rotate_left
         ·
          simp only [Act.put, List.setIfInBounds_toArray, List.set_cons_zero, List.set_cons_succ, i64_w, i32_w]
          rfl
         refine pure_ (i := 6) (N := some 56) (v := ?_) (a' := ?_) #[true, true, true, true, true, false, true, false, false, false, false, false, false] rfl rfl (any_of HT_.out (by kernel_rfl)) (fun _ _ _ h => h) (Or.inl ⟨by rfl, ?_⟩) ?_ ?_
         rotate_left
         ·
          intro w'
          go_simp
          with_reducible rfl
         rotate_left
         ·
          simp only [Act.put, List.setIfInBounds_toArray, List.set_cons_zero, List.set_cons_succ, i64_w, i32_w]
          rfl
         refine pure_ (i := 7) (N := some 57) (v := ?_) (a' := ?_) #[true, true, true, true, true, false, true, true, false, false, false, false, false] rfl rfl (any_of HT_.out (by kernel_rfl)) (fun _ _ _ h => h) (Or.inl ⟨by rfl, ?_⟩) ?_ ?_
         rotate_left
         ·
          intro w'
          go_simp
          with_reducible rfl
         rotate_left
         ·
          simp only [Act.put, List.setIfInBounds_toArray, List.set_cons_zero, List.set_cons_succ, i64_w, i32_w]
          rfl
         refine pure_ (i := 8) (N := some 58) (v := ?_) (a' := ?_) #[true, true, true, true, true, false, true, true, true, false, false, false, false] rfl rfl (any_of HT_.out (by kernel_rfl)) (fun _ _ _ h => h) (Or.inl ⟨by rfl, ?_⟩) ?_ ?_
         rotate_left
         ·
          intro w'
          go_simp
          with_reducible rfl
         rotate_left
         ·
          simp only [Act.put, List.setIfInBounds_toArray, List.set_cons_zero, List.set_cons_succ, i64_w, i32_w]
          rfl
         refine pure_ (i := 9) (N := some 59) (v := ?_) (a' := ?_) #[true, true, true, true, true, false, true, true, true, true, false, false, false] rfl rfl (any_of HT_.out (by kernel_rfl)) (fun _ _ _ h => h) (Or.inl ⟨by rfl, ?_⟩) ?_ ?_
         rotate_left
         ·
          intro w'
          go_simp
          with_reducible rfl
         rotate_left
         ·
          simp only [Act.put, List.setIfInBounds_toArray, List.set_cons_zero, List.set_cons_succ, i64_w, i32_w]
          rfl
         refine take_ (i := 5) (N := some 55) (v := ?_) (a' := ?_) #[true, true, true, true, true, true, true, true, true, true, false, false, false] rfl rfl (take_ofW HT_.out HW_.out (by kernel_rfl)) (fun _ _ _ h => h) (Or.inl ⟨by rfl, ?_⟩) hHeld ?_ ?_
         rotate_left
         ·
          rintro w' ⟨s0, s1⟩
          go_simp
          with_reducible rfl
         rotate_left
         ·
          simp only [Act.put, List.setIfInBounds_toArray, List.set_cons_zero, List.set_cons_succ, i64_w, i32_w]
          rfl
         refine take_ (i := 10) (N := some 60) (v := ?_) (a' := ?_) #[true, true, true, true, true, true, true, true, true, true, true, false, false] rfl rfl (take_ofW HT_.out HW_.out (by kernel_rfl)) (fun _ _ _ h => h) (Or.inl ⟨by rfl, ?_⟩) hHeld ?_ ?_
         rotate_left
         ·
          rintro w' ⟨s0, s1⟩
          go_simp
          with_reducible rfl
         rotate_left
         ·
          simp only [Act.put, List.setIfInBounds_toArray, List.set_cons_zero, List.set_cons_succ, i64_w, i32_w]
          rfl
         refine pure_ (i := 11) (N := some 61) (v := ?_) (a' := ?_) #[true, true, true, true, true, true, true, true, true, true, true, true, false] rfl rfl (any_of HT_.out (by kernel_rfl)) (fun _ _ _ h => h) (Or.inl ⟨by rfl, ?_⟩) ?_ ?_
         rotate_left
         ·
          intro w'
          go_simp
          with_reducible rfl
         rotate_left
         ·
          simp only [Act.put, List.setIfInBounds_toArray, List.set_cons_zero, List.set_cons_succ, i64_w, i32_w]
          rfl
         refine pure_ (i := 12) (N := some 62) (v := ?_) (a' := ?_) #[true, true, true, true, true, true, true, true, true, true, true, true, true] rfl rfl (any_of HT_.out (by kernel_rfl)) (fun _ _ _ h => h) (Or.inl ⟨by rfl, ?_⟩) ?_ ?_
         rotate_left
         ·
          intro w'
          go_simp
          with_reducible rfl
         rotate_left
         ·
          simp only [Act.put, List.setIfInBounds_toArray, List.set_cons_zero, List.set_cons_succ, i64_w, i32_w]
          rfl
         refine done_ (done_of HT_.out (by kernel_rfl)) ?_
         clear hHeld
         have HB2 := HBd
         have HD2 := HDd
         have HN2 := HNd
         have HBX2 := HXd
         have HSR := HSd
         have z0 := z0d
         have z1 := z1d
         have z2 := z2d
         clear HBd HDd HNd HXd HSd z0d z1d z2d
         have b2 := (blk_cell HBX2.out 2).trans rfl
         have b3 := (blk_cell HBX2.out 3).trans rfl
         have b4 := (blk_cell HBX2.out 4).trans rfl
         clear z0 z1 z2
         go_wp2_with (first | (have := HN6; (at_builtin; refine app_E rfl (.tmp 68) (.tmp 73) rfl nR _ D6 z [.int .u32 z.r.id, .slice z.A1 z.r.vec.length z.c1, .slice z.A2 z.r.tags.length z.c2] rfl rfl (by rfl) HN6.out (by have := HLD.out; have h3 := congrArg List.length HD6.out; rw [List.length_append] at h3; simp at h3; omega) HS6.out ?_; intro v7 w7 ho hO; have hba := below_alloc (Below.refl w6.heap.size w6) (.cells #[.int .u32 z.r.id, .slice z.A1 z.r.vec.length z.c1, .slice z.A2 z.r.tags.length z.c2] 54); have hN := HN6.out.below hba; have hO2 := hO; have HB7 := Aside0.mk (hO.below_of (bel_trans HB6.out hba) (fun k hk => Nat.le_trans HSB.out (hN.base k hk))); have HO7 := Aside0.mk ((HO6.out.below hba).move (fun k hk => hO.block k ((HO6.out.below hba).lt k hk) (fun hs => by have h1 := HLT.out k hk; have h2 := hN.base k hs; omega))); have HX7 := Aside0.mk ((hO.block bx (blk_lt (blk_below HX6.out hba)) (fun hs => by obtain ⟨cc, hc⟩ := hN.typed bx hs; exact absurd (blk_type hc (blk_below HX6.out hba)) (by decide))).trans (blk_below HX6.out hba)); have HS7 := Aside0.mk (Nat.le_trans HS6.out (Nat.le_trans hba.size hO.size)); obtain ⟨D7, hD7⟩ : ∃ zz, D6 ++ [z] = zz := ⟨_, rfl⟩; have HD7 := Aside0.mk hD7; have HI7 := Aside0.mk (show ∀ e ∈ D7, EltI w0 e by rw [← hD7]; intro e he; rcases List.mem_append.1 he with he | he; exact HI6.out e he; rw [List.mem_singleton] at he; subst he; exact HZI.out); rw [hD7] at ho; obtain ⟨A7, c7, rfl, -⟩ := ho.slice; have HN7 := Aside0.mk ho; clear ho hO hO2 hba hN hD7)) | (at_builtin; refine app_E rfl (.tmp 63) (.tmp 66) rfl nR _ d2 y [.int .u32 x.id, .slice A1 x.vec.length c1, .slice A2 x.tags.length c2] HYC.out rfl (by rfl) HN2.out (by have := HLD.out; omega) HSR.out ?_; intro v6 w6 ho hO; have hba := below_alloc (Below.refl wd.heap.size wd) (.cells #[.int .u32 x.id, .slice A1 x.vec.length c1, .slice A2 x.tags.length c2] 54); have hN := HN2.out.below hba; have hO2 := hO; have HB6 := Aside0.mk (hO.below_of (bel_trans HB2.out hba) (fun k hk => Nat.le_trans HSB.out (hN.base k hk))); have HO6 := Aside0.mk ((HD2.out.below hba).move (fun k hk => hO.block k ((HD2.out.below hba).lt k hk) (fun hs => by have h1 := HLT.out k hk; have h2 := hN.base k hs; omega))); have HX6 := Aside0.mk ((hO.block bx (blk_lt (blk_below HBX2.out hba)) (fun hs => by obtain ⟨cc, hc⟩ := hN.typed bx hs; exact absurd (blk_type hc (blk_below HBX2.out hba)) (by decide))).trans (blk_below HBX2.out hba)); have HS6 := Aside0.mk (Nat.le_trans HSR.out (Nat.le_trans hba.size hO.size)); obtain ⟨D6, hD6⟩ : ∃ zz, d2 ++ [y] = zz := ⟨_, rfl⟩; have HD6 := Aside0.mk hD6; have HI6 := Aside0.mk (show ∀ e ∈ D6, EltI w0 e by rw [← hD6]; intro e he; rcases List.mem_append.1 he with he | he; exact HN2I.out e he; rw [List.mem_singleton] at he; subst he; exact HYI.out); rw [hD6] at ho; obtain ⟨A6, c6, rfl, -⟩ := ho.slice; have HN6 := Aside0.mk ho; clear ho hO hO2 hba hN hD6; obtain ⟨az, hAz, z0, z1, z2⟩ := HO6.out.at HZ.out; injection hAz with hAz; subst hAz))
         clear b2 b3 b4
         go_roundg gk2
         case measure => omega
         case rel => exact ⟨k + 1, D7, A7, c7, congrArg (Value.int .i64) HKN.out, by rw [(insTo_lt HZ.out HDN.out HLZ.out).2], rfl, ⟨by rw [(insTo_lt HZ.out HDN.out HLZ.out).1, ← HD2E.out, HD6.out]; exact HD7.out.symm⟩, ⟨by have := HKL.out; omega, by have := HKK.out; have := HKL.out; omega⟩, HB7, HO7, HN7, HI7, HX7, HS7⟩
        ·
         have q6 : decide (x.id < z.r.id) = false := decide_eq_false (by have := HYF.out; have h2 : fE z = z.r.id := rfl; omega)
         have HLZ := Aside0.mk hlt
         clear hlt
         go_wp2
         have HBd := Aside0.mk (bel_trans HB2.out (below_drew (Below.refl _ _)))
         have HDd := Aside0.mk (HD2.out.below (below_drew (Below.refl _ _)))
         have HNd := Aside0.mk (HN2.out.below (below_drew (Below.refl _ _)))
         have HXd := Aside0.mk (blk_below HBX2.out (below_drew (Below.refl _ _)))
         have HSd := Aside0.mk (show nR ≤ wr.drew.heap.size from HSR.out)
         clear z0 z1 z2
         obtain ⟨ae', hA', z0d, z1d, z2d⟩ := HDd.out.at HZ.out
         injection hA' with hA'
         subst hA'
         refine start_ (n := 13) (S := fun w' => w'.cell? ⟨bx, 2, none⟩ = some (.int .u32 x.id) ∧ w'.cell? (ae.add (k * 3)) = some (.int .u32 z.r.id)) (ds := []) #[false, false, false, false, false, false, false, false, false, false, false, false, false] (by kernel_rfl) rfl rfl ⟨((blk_cell HXd.out 2).trans rfl), z0d⟩ (fun hHeld => ?_)
         refine with_tabW rall.tab14 rall.bits14 (fun HT_ HW_ => ?_)
         generalize wr.drew = wd at HBd HDd HNd HXd HSd z0d z1d z2d hHeld ⊢
         refine pure_ (i := 0) (N := some 50) (v := ?_) (a' := ?_) #[true, false, false, false, false, false, false, false, false, false, false, false, false] rfl rfl (any_of HT_.out (by kernel_rfl)) (fun _ _ _ h => h) (Or.inl ⟨by rfl, ?_⟩) ?_ ?_
         rotate_left
         ·
          intro w'
          go_simp
          with_reducible rfl
         rotate_left
         ·
          simp only [Act.put, List.setIfInBounds_toArray, List.set_cons_zero, List.set_cons_succ, i64_w, i32_w]
          rfl
         refine pure_ (i := 1) (N := some 51) (v := ?_) (a' := ?_) #[true, true, false, false, false, false, false, false, false, false, false, false, false] rfl rfl (any_of HT_.out (by kernel_rfl)) (fun _ _ _ h => h) (Or.inl ⟨by rfl, ?_⟩) ?_ ?_
         rotate_left
         ·
          intro w'
          go_simp
          with_reducible rfl
         rotate_left
         ·
          simp only [Act.put, List.setIfInBounds_toArray, List.set_cons_zero, List.set_cons_succ, i64_w, i32_w]
          rfl
         refine pure_ (i := 2) (N := some 52) (v := ?_) (a' := ?_) #[true, true, true, false, false, false, false, false, false, false, false, false, false] rfl rfl (any_of HT_.out (by kernel_rfl)) (fun _ _ _ h => h) (Or.inl ⟨by rfl, ?_⟩) ?_ ?_
         rotate_left
         ·
          intro w'
          go_simp
          with_reducible rfl
         rotate_left
         ·
          simp only [Act.put, List.setIfInBounds_toArray, List.set_cons_zero, List.set_cons_succ, i64_w, i32_w]
          rfl
         refine pure_ (i := 3) (N := some 53) (v := ?_) (a' := ?_) #[true, true, true, true, false, false, false, false, false, false, false, false, false] rfl rfl (any_of HT_.out (by kernel_rfl)) (fun _ _ _ h => h) (Or.inl ⟨by rfl, ?_⟩) ?_ ?_
         rotate_left
         ·
          intro w'
          go_simp
          with_reducible rfl
         rotate_left
         ·
          simp only [Act.put, List.setIfInBounds_toArray, List.set_cons_zero, List.set_cons_succ, i64_w, i32_w]
          rfl
         refine pure_ (i := 4) (N := some 54) (v := ?_) (a' := ?_) #[true, true, true, true, true, false, false, false, false, false, false, false, false] rfl rfl (any_of HT_.out (by kernel_rfl)) (fun _ _ _ h => h) (Or.inl ⟨by rfl, ?_⟩) ?_ ?_
         rotate_left
         ·
          intro w'
          go_simp
          with_reducible rfl
         rotate_left
         ·
          simp only [Act.put, List.setIfInBounds_toArray, List.set_cons_zero, List.set_cons_succ, i64_w, i32_w]
          rfl
         refine pure_ (i := 6) (N := some 56) (v := ?_) (a' := ?_) #[true, true, true, true, true, false, true, false, false, false, false, false, false] rfl rfl (any_of HT_.out (by kernel_rfl)) (fun _ _ _ h => h) (Or.inl ⟨by rfl, ?_⟩) ?_ ?_
         rotate_left
         ·
          intro w'
          go_simp
          with_reducible rfl
         rotate_left
         ·
          simp only [Act.put, List.setIfInBounds_toArray, List.set_cons_zero, List.set_cons_succ, i64_w, i32_w]
          rfl
         refine pure_ (i := 7) (N := some 57) (v := ?_) (a' := ?_) #[true, true, true, true, true, false, true, true, false, false, false, false, false] rfl rfl (any_of HT_.out (by kernel_rfl)) (fun _ _ _ h => h) (Or.inl ⟨by rfl, ?_⟩) ?_ ?_
         rotate_left
         ·
          intro w'
          go_simp
          with_reducible rfl
         rotate_left
         ·
          simp only [Act.put, List.setIfInBounds_toArray, List.set_cons_zero, List.set_cons_succ, i64_w, i32_w]
          rfl
         refine pure_ (i := 8) (N := some 58) (v := ?_) (a' := ?_) #[true, true, true, true, true, false, true, true, true, false, false, false, false] rfl rfl (any_of HT_.out (by kernel_rfl)) (fun _ _ _ h => h) (Or.inl ⟨by rfl, ?_⟩) ?_ ?_
         rotate_left
         ·
          intro w'
          go_simp
          with_reducible rfl
         rotate_left
         ·
          simp only [Act.put, List.setIfInBounds_toArray, List.set_cons_zero, List.set_cons_succ, i64_w, i32_w]
          rfl
         refine pure_ (i := 9) (N := some 59) (v := ?_) (a' := ?_) #[true, true, true, true, true, false, true, true, true, true, false, false, false] rfl rfl (any_of HT_.out (by kernel_rfl)) (fun _ _ _ h => h) (Or.inl ⟨by rfl, ?_⟩) ?_ ?_
         rotate_left
         ·
          intro w'
          go_simp
          with_reducible rfl
         rotate_left
         ·
          simp only [Act.put, List.setIfInBounds_toArray, List.set_cons_zero, List.set_cons_succ, i64_w, i32_w]
          rfl
         refine take_ (i := 5) (N := some 55) (v := ?_) (a' := ?_) #[true, true, true, true, true, true, true, true, true, true, false, false, false] rfl rfl (take_ofW HT_.out HW_.out (by kernel_rfl)) (fun _ _ _ h => h) (Or.inl ⟨by rfl, ?_⟩) hHeld ?_ ?_
         rotate_left
         ·
          rintro w' ⟨s0, s1⟩
          go_simp
          with_reducible rfl
         rotate_left
         ·
          simp only [Act.put, List.setIfInBounds_toArray, List.set_cons_zero, List.set_cons_succ, i64_w, i32_w]
          rfl
         refine take_ (i := 10) (N := some 60) (v := ?_) (a' := ?_) #[true, true, true, true, true, true, true, true, true, true, true, false, false] rfl rfl (take_ofW HT_.out HW_.out (by kernel_rfl)) (fun _ _ _ h => h) (Or.inl ⟨by rfl, ?_⟩) hHeld ?_ ?_
         rotate_left
         ·
          rintro w' ⟨s0, s1⟩
          go_simp
          with_reducible rfl
         rotate_left
         ·
          simp only [Act.put, List.setIfInBounds_toArray, List.set_cons_zero, List.set_cons_succ, i64_w, i32_w]
          rfl
         refine pure_ (i := 11) (N := some 61) (v := ?_) (a' := ?_) #[true, true, true, true, true, true, true, true, true, true, true, true, false] rfl rfl (any_of HT_.out (by kernel_rfl)) (fun _ _ _ h => h) (Or.inl ⟨by rfl, ?_⟩) ?_ ?_
         rotate_left
         ·
          intro w'
          go_simp
          with_reducible rfl
         rotate_left
         ·
          simp only [Act.put, List.setIfInBounds_toArray, List.set_cons_zero, List.set_cons_succ, i64_w, i32_w]
          rfl
         refine pure_ (i := 12) (N := some 62) (v := ?_) (a' := ?_) #[true, true, true, true, true, true, true, true, true, true, true, true, true] rfl rfl (any_of HT_.out (by kernel_rfl)) (fun _ _ _ h => h) (Or.inl ⟨by rfl, ?_⟩) ?_ ?_
         rotate_left
         ·
          intro w'
          go_simp
          with_reducible rfl
         rotate_left
         ·
          simp only [Act.put, List.setIfInBounds_toArray, List.set_cons_zero, List.set_cons_succ, i64_w, i32_w]
          rfl
         refine done_ (done_of HT_.out (by kernel_rfl)) ?_
         clear hHeld
         have HB2 := HBd
         have HD2 := HDd
         have HN2 := HNd
         have HBX2 := HXd
         have HSR := HSd
         have z0 := z0d
         have z1 := z1d
         have z2 := z2d
         clear HBd HDd HNd HXd HSd z0d z1d z2d
         go_wp2_with (at_builtin; refine app_E rfl (.tmp 68) (.tmp 73) rfl nR _ d2 z [.int .u32 z.r.id, .slice z.A1 z.r.vec.length z.c1, .slice z.A2 z.r.tags.length z.c2] rfl rfl (by rfl) HN2.out (by have := HLD.out; omega) HSR.out ?_; intro v7 w7 ho hO; have hba := below_alloc (Below.refl wd.heap.size wd) (.cells #[.int .u32 z.r.id, .slice z.A1 z.r.vec.length z.c1, .slice z.A2 z.r.tags.length z.c2] 54); have hN := HN2.out.below hba; have hO2 := hO; have HB7 := Aside0.mk (hO.below_of (bel_trans HB2.out hba) (fun k hk => Nat.le_trans HSB.out (hN.base k hk))); have HO7 := Aside0.mk ((HD2.out.below hba).move (fun k hk => hO.block k ((HD2.out.below hba).lt k hk) (fun hs => by have h1 := HLT.out k hk; have h2 := hN.base k hs; omega))); have HX7 := Aside0.mk ((hO.block bx (blk_lt (blk_below HBX2.out hba)) (fun hs => by obtain ⟨cc, hc⟩ := hN.typed bx hs; exact absurd (blk_type hc (blk_below HBX2.out hba)) (by decide))).trans (blk_below HBX2.out hba)); have HS7 := Aside0.mk (Nat.le_trans HSR.out (Nat.le_trans hba.size hO.size)); obtain ⟨D7, hD7⟩ : ∃ zz, d2 ++ [z] = zz := ⟨_, rfl⟩; have HD7 := Aside0.mk hD7; have HI7 := Aside0.mk (show ∀ e ∈ D7, EltI w0 e by rw [← hD7]; intro e he; rcases List.mem_append.1 he with he | he; exact HN2I.out e he; rw [List.mem_singleton] at he; subst he; exact HZI.out); rw [hD7] at ho; obtain ⟨A7, c7, rfl, -⟩ := ho.slice; have HN7 := Aside0.mk ho; clear ho hO hO2 hba hN hD7)
         go_roundg gk2
         case measure => omega
         case rel => exact ⟨k + 1, D7, A7, c7, congrArg (Value.int .i64) HKN.out, by rw [(insTo_on HZ.out HDN.out (Int.not_lt.2 HLZ.out)).2], rfl, ⟨by rw [(insTo_on HZ.out HDN.out (Int.not_lt.2 HLZ.out)).1, ← HD2E.out]; exact HD7.out.symm⟩, ⟨by have := HKL.out; omega, by have := HKK.out; have := HKL.out; omega⟩, HB7, HO7, HN7, HI7, HX7, HS7⟩
      ·
       have q5 : decide ((k : Int) < (d.length : Int)) = false := decide_eq_false (by omega)
       have q5' : (k < d.length) = False := eq_false hk
       have q5'' : decide (k < d.length) = false := decide_eq_false hk
       have hke : k = d.length := by have := HKK.out; omega
       subst hke
       clear hk HKK
       have HLL := Aside0.mk (show (insBy fE y d).length ≤ i + 1 by rw [insBy_len]; have := HI.out; omega)
       have HPUT := Aside0.mk (show AnsE s.L v (i + 1) (insBy fE y d) from HA.out.put (y := y) (by rw [← HY.out]; exact HXI.out) (by rw [← HY.out]; exact HT.out))
       cases hdn : dnTo fE y d d.length with
       | true =>
        have HDE := Aside0.mk (show d2 = insBy fE y d by rw [HD2E.out]; exact insTo_end_done hdn)
        clear hdn
        go_wp2
        go_roundg gko
        case measure => omega
        case rel => exact ⟨i + 1, d2, A', c', congrArg (Value.int .i64) HIN.out, rfl, ⟨by have := HII.out; omega, by have := HI.out; have := HII.out; omega, by rw [HDE.out]; exact HLL.out⟩, HB2, ⟨HN2.out.lower HSB.out⟩, HN2I, ⟨by rw [HDE.out]; exact HPUT.out⟩⟩
       | false =>
        have HDE := Aside0.mk (show d2 ++ [y] = insBy fE y d by rw [HD2E.out]; exact insTo_end hdn)
        clear hdn
        have b2 := (blk_cell HBX2.out 2).trans rfl
        have b3 := (blk_cell HBX2.out 3).trans rfl
        have b4 := (blk_cell HBX2.out 4).trans rfl
        go_wp2_with (at_builtin; refine app_E rfl (.tmp 77) (.tmp 80) rfl nR _ d2 y [.int .u32 x.id, .slice A1 x.vec.length c1, .slice A2 x.tags.length c2] HYC.out rfl (by rfl) HN2.out (by have := HLD.out; omega) HSR.out ?_; intro v6 w6 ho hO; have hba := below_alloc (Below.refl wr.heap.size wr) (.cells #[.int .u32 x.id, .slice A1 x.vec.length c1, .slice A2 x.tags.length c2] 54); have hN := HN2.out.below hba; have hO2 := hO; have HB6 := Aside0.mk (hO.below_of (bel_trans HB2.out hba) (fun k hk => Nat.le_trans HSB.out (hN.base k hk))); have HO6 := Aside0.mk ((HD2.out.below hba).move (fun k hk => hO.block k ((HD2.out.below hba).lt k hk) (fun hs => by have h1 := HLT.out k hk; have h2 := hN.base k hs; omega))); have HX6 := Aside0.mk ((hO.block bx (blk_lt (blk_below HBX2.out hba)) (fun hs => by obtain ⟨cc, hc⟩ := hN.typed bx hs; exact absurd (blk_type hc (blk_below HBX2.out hba)) (by decide))).trans (blk_below HBX2.out hba)); have HS6 := Aside0.mk (Nat.le_trans HSR.out (Nat.le_trans hba.size hO.size)); obtain ⟨D6, hD6⟩ : ∃ zz, d2 ++ [y] = zz := ⟨_, rfl⟩; have HD6 := Aside0.mk hD6; have HI6 := Aside0.mk (show ∀ e ∈ D6, EltI w0 e by rw [← hD6]; intro e he; rcases List.mem_append.1 he with he | he; exact HN2I.out e he; rw [List.mem_singleton] at he; subst he; exact HYI.out); rw [hD6] at ho; obtain ⟨A6, c6, rfl, -⟩ := ho.slice; have HN6 := Aside0.mk ho; clear ho hO hO2 hba hN hD6)
        clear b2 b3 b4
        go_roundg gko
        case measure => omega
        case rel => exact ⟨i + 1, D6, A6, c6, congrArg (Value.int .i64) HIN.out, rfl, ⟨by have := HII.out; omega, by have := HI.out; have := HII.out; omega, by rw [← HD6.out, HDE.out]; exact HLL.out⟩, HB6, ⟨HN6.out.lower HSB.out⟩, HI6, ⟨by rw [← HD6.out, HDE.out]; exact HPUT.out⟩⟩
   ·
    have q2 : (atI s.L x.id v != (i : Int)) = true := by simpa using hat
    have HT := Aside0.mk (isThere_far (L := s.L) (v := v) (k := i) hat)
    clear hat
    go_wp2_with (go_at_call 53; (with_reducible refine (RX.at_ (HX.out.below HBA.out) x.id v).mono ?_); rintro e w2 ⟨rfl, hb⟩; have HB2 := Aside0.mk (bel_trans HBA.out hb); have HD2 := Aside0.mk (HDA.out.below hb); clear hb)
    go_roundg gko
    case measure => omega
    case rel => exact ⟨i + 1, d, A, c, congrArg (Value.int .i64) HIN.out, rfl, ⟨by have := HII.out; omega, by have := HI.out; have := HII.out; omega, by have := HI.out; omega⟩, HB2, HD2, HE, ⟨HA.out.skip HXI.out HT.out⟩⟩
  ·
   have q1 : decide ((i : Int) < (s.L.length : Int)) = false := decide_eq_false (by omega)
   have q1' : (i < s.L.length) = False := eq_false hi
   have q1'' : decide (i < s.L.length) = false := decide_eq_false hi
   have hie : i = s.L.length := by have := HI.out; omega
   subst hie
   clear hi HI
   go_wp2
   go_ret2
   exact ⟨⟨_, d, rfl, HD.out, HE.out, by have h := HA.out; unfold AnsE at h; rw [h]; exact allTo_is s.L v⟩, HB.out⟩
end
end Go.Proofs.Ytjbakaplcjkniaa.Pb
namespace Go.Proofs.Ytjbakaplcjkniaa.Pb
open Go.RowKit Go.Maps Go.Proofs.YtjbakaplcjkniaaW.PrintWords Go.Proofs.YtjbakaplcjkniaaW.PrintLast Go.Proofs.YtjbakaplcjkniaaW.PrintMore Go.Proofs.Ytjbakaplcjkniaa.Pi Go.Proofs.Ytjbakaplcjkniaa.Pa
set_option linter.unusedVariables false
set_option linter.unusedSimpArgs false
def rsw.T12 : Bool × List (List Nat × List Nat) := (true, [([], []), ([], []), ([1], [1]), ([2], [2]), ([], []), ([4], [4]), ([5], [5]), ([6], [6]), ([0, 3, 7], [0, 3, 7]), ([], []), ([8, 9], [8, 9]), ([10, 8, 0, 1, 2, 3, 4, 5, 6, 7, 8, 9, 10], [10])])
def rsw.B12 : List Nat := [0, 0, 2, 6, 0, 16, 48, 112, 255, 0, 1023, 2047]
theorem rsw.tab12 : rtab .any (opsOf Try.f37 12) = rsw.T12 := by kernel_rfl
theorem rsw.bits12 : waitsOk rsw.T12.2 rsw.B12 = true := by kernel_rfl
def rsw.T16 : Bool × List (List Nat × List Nat) := (true, [([], []), ([0], [0]), ([1], [1]), ([1], [1]), ([3, 1], [1, 3]), ([4, 1], [1, 4]), ([1], [1]), ([1], [1]), ([6, 7, 1], [1, 6, 7]), ([8, 1], [1, 8]), ([2, 5, 9, 1, 1], [1, 2, 5, 9]), ([1], [1]), ([10, 11, 1], [1, 10, 11]), ([1, 12], [1, 12]), ([13, 10, 0, 1, 2, 3, 4, 5, 6, 7, 8, 9, 10, 11, 12, 13], [0, 13])])
def rsw.B16 : List Nat := [0, 1, 3, 3, 11, 27, 3, 3, 195, 451, 1023, 3, 4095, 8191, 16383]
theorem rsw.tab16 : rtab .any (opsOf Try.f37 16) = rsw.T16 := by kernel_rfl
theorem rsw.bits16 : waitsOk rsw.T16.2 rsw.B16 = true := by kernel_rfl
def rsw.T21 : Bool × List (List Nat × List Nat) := (true, [([], []), ([0], [0]), ([1], [1]), ([1], [1]), ([2, 3, 1], [1, 2, 3]), ([4, 1], [1, 4]), ([5, 1], [1, 5]), ([6, 1], [1, 6]), ([1], [1]), ([8, 1], [1, 8]), ([9, 1], [1, 9]), ([7, 10, 1], [1, 7, 10]), ([1, 11], [1, 11]), ([12, 1, 0, 1, 2, 3, 4, 5, 6, 7, 8, 9, 10, 11, 12], [0, 12])])
def rsw.B21 : List Nat := [0, 1, 3, 3, 15, 31, 63, 127, 3, 259, 771, 2047, 4095, 8191]
theorem rsw.tab21 : rtab .any (opsOf Try.f37 21) = rsw.T21 := by kernel_rfl
theorem rsw.bits21 : waitsOk rsw.T21.2 rsw.B21 = true := by kernel_rfl
theorem OwnR.put {w0 w : World} {g j : Nat} {v u : Value} {L : List Row} {cells : Array Value} (h : OwnR w0 w v L) (hb : w.heap[g]? = some (.cells cells 79 (0, 0))) : OwnR w0 (w.setCell ⟨g, j, none⟩ u) v L :=
 h.move (fun k hk => Below.heap_setCell w ⟨g, j, none⟩ u k (fun e => by obtain ⟨c, hc⟩ := h.typed k hk; have e : k = g := e; subst e; exact absurd (blk_type hc hb) (by decide)))
theorem RX.swept {w0 w W : World} {g : Nat} {s : St} (h : RX w0 w g s) (hB : Below w.heap.size w W) {vL vK : Value} {L : List Row} {K : List Int} (hO : OwnR w0 W vL L) (hK : (Kd.int .u64).R 50 W w.heap.size (fun _ => True) vK K) (hl : L.length ≤ 1024) (hk : K.length ≤ 1000000) (fl : Int) :
  RX w0 (((W.setCell ⟨g, 0, none⟩ vL).setCell ⟨g, 3, none⟩ vK).setCell ⟨g, 2, none⟩ (.int .u64 fl)) g ⟨L, s.last, fl, K⟩ ∧ Only (TR w) w (((W.setCell ⟨g, 0, none⟩ vL).setCell ⟨g, 3, none⟩ vK).setCell ⟨g, 2, none⟩ (.int .u64 fl)) := by
 have h0 := h.at0
 obtain ⟨vL0, vK0, h1⟩ := h
 have hb := blk_below h1.box hB
 have hT : TR w g := ⟨_, .inr h1.box⟩
 have hOn : Only (fun k => TR w k ∧ w0.heap.size ≤ k) w (((W.setCell ⟨g, 0, none⟩ vL).setCell ⟨g, 3, none⟩ vK).setCell ⟨g, 2, none⟩ (.int .u64 fl)) := (((Only.of_below hB).set ⟨g, 0, none⟩ _ ⟨hT, h1.gb⟩).set ⟨g, 3, none⟩ _ ⟨hT, h1.gb⟩).set ⟨g, 2, none⟩ _ ⟨hT, h1.gb⟩
 exact ⟨⟨vL, vK, blk_put (blk_put (blk_put hb 0 _ rfl) 3 _ rfl) 2 _ rfl, ((hO.put hb).put (blk_set hb 0 _)).put (blk_set (blk_set hb 0 _) 3 _), Kd.R_set (Kd.R_set (Kd.R_set (Kd.R_lower hK h0.size) hb (by decide) 0 _) (blk_set hb 0 _) (by decide) 3 _) (blk_set (blk_set hb 0 _) 3 _) (by decide) 2 _, h1.gb, hOn.below_of h0 (fun i hi => hi.2), hl, hk⟩, hOn.mono (fun k hk => hk.1)⟩
theorem need_eq {L : List Row} {j : Nat} {x : Row} (hx : L[j]? = some x) (v : Int) : (atI L x.id v == (j : Int)) = needAt L v j := by
 unfold needAt
 rw [hx]
 dsimp only
 unfold atI
 cases e : atP L x.id v with
 | none => simp
 | some i =>
  rw [Bool.eq_iff_iff, beq_iff_eq, decide_eq_true_eq]
  constructor
  ·
   intro h
   have h2 : (i : Int) = (j : Int) := h
   rw [show i = j by omega]
  ·
   intro h; injection h with h; rw [h]
def ndTo (L : List Row) (K : List Int) (last : Int) (j k : Nat) : Bool := needAt L last j || (K.take k).any fun u => needAt L u j
theorem ndTo_zero (L : List Row) (K : List Int) (last : Int) (j : Nat) : ndTo L K last j 0 = needAt L last j := by unfold ndTo; simp
theorem ndTo_succ {L : List Row} {K : List Int} {last u : Int} {j k : Nat} (hu : K[k]? = some u) : ndTo L K last j (k + 1) = (ndTo L K last j k || needAt L u j) := by
 unfold ndTo
 obtain ⟨hl, e⟩ := List.getElem?_eq_some_iff.1 hu
 rw [List.take_succ_eq_append_getElem hl, e, List.any_append, Bool.or_assoc]
 simp
theorem ndTo_all (L : List Row) (K : List Int) (last : Int) (j : Nat) : ndTo L K last j K.length = needs L (K ++ [last]) j := by
 unfold ndTo needs
 rw [List.take_length, List.any_append, Bool.or_comm]
 simp
def elTo (S : List Row) (x : Row) (k : Nat) : Bool := (S.take k).any fun y => decide (y.id = x.id)
theorem elTo_zero (S : List Row) (x : Row) : elTo S x 0 = false := by unfold elTo; simp
theorem elTo_succ {S : List Row} {x z : Row} {k : Nat} (hz : S[k]? = some z) : elTo S x (k + 1) = (elTo S x k || (z.id == x.id)) := by
 unfold elTo
 obtain ⟨hl, e⟩ := List.getElem?_eq_some_iff.1 hz
 rw [List.take_succ_eq_append_getElem hl, e, List.any_append]
 simp
 rfl
theorem stays_at {L : List Row} {nd : Nat → Bool} {j : Nat} {x : Row} (hx : L[j]? = some x) : stays L nd (j + 1) = if (nd j && (!x.gone || elTo (stays L nd j) x (stays L nd j).length)) = true then stays L nd j ++ [x] else stays L nd j := by
 show (match L[j]? with | none => _ | some x => _) = _
 rw [hx]
 unfold elTo
 rw [List.take_length]
section
variable {w0 w w' : World} {g : Nat} {s : St}
set_option maxHeartbeats 32000000 in
set_option maxRecDepth 100000 in
theorem RX.sweep (h : RX w0 w g s) (ao : Option Addr) (cap : Nat) (keep : List Int) (hC : Kd.C (Kd.int .u64) w ao keep.length keep) (hl : keep.length ≤ 1000) :
  Calls Try.prog 37 #[.pointer (some ⟨g, 0, none⟩), .slice ao keep.length cap] w fun e w' => e = .returned (.int .i64 (s.sweep keep).1) ∧ RX w0 w' g (s.sweep keep).2 ∧ Only (TR w) w w' := by
 have hu2 := Try.underlying79
 have hu3 := Try.underlying82
 have hu4 := Try.underlying54
 have HX := Aside0.mk h
 have HC := Aside0.mk hC
 have HL := Aside0.mk hl
 have HFW := Aside0.mk h.few
 clear h hC hl
 go_enter Try.func37, Try.ntmps37
 go_wp2
 go_loopg [5, 6] keep.length (fun gk v5 v6 wr => ∃ (i : Nat), v6 = .int .i64 i ∧ Aside0 (i ≤ keep.length ∧ keep.length - i ≤ gk) ∧ Aside0 (Below w.heap.size w wr) ∧ ∃ A c, v5 = .slice A ((keep.take i).filter s.known).length c ∧ Aside0 ((Kd.int .u64).R 50 wr w.heap.size (fun _ => True) (.slice A ((keep.take i).filter s.known).length c) ((keep.take i).filter s.known)))
 case atStart => exact ⟨0, rfl, ⟨by omega, by omega⟩, ⟨by first | exact Below.refl _ _ | exact below_drew (Below.refl _ _)⟩, none, 0, rfl, ⟨Kd.R_nil _ _ _ _ _⟩⟩
 case round =>
  obtain ⟨i, rfl, HI, HB, kA, kc, rfl, HK⟩ := hrel
  by_cases hi : i < keep.length
  ·
   have q1 : decide ((i : Int) < (keep.length : Int)) = true := decide_eq_true (by omega)
   have q1' : (i : Int) < (keep.length : Int) := by omega
   obtain ⟨ad, x, rfl, hx, x0⟩ := Pa.C_int_at (Kd.C_below HC.out HB.out) hi
   have hin : wrap64 ((i : Int) + 1) = ((i + 1 : Nat) : Int) := by have := HL.out; unfold wrap64; omega
   have HIN := Aside0.mk hin
   have HII := Aside0.mk hi
   have HFX := Aside0.mk (take_filter (p := s.known) hx)
   have HXX := Aside0.mk hx
   obtain ⟨gk, rfl⟩ : ∃ m, gk = m + 1 := ⟨gk - 1, by have := HI.out; omega⟩
   clear hx hi hin
   cases hk : s.known x with
   | false =>
    have HKN := Aside0.mk hk
    clear hk
    go_wp2_with (go_at_call 54; (with_reducible refine (RX.known (HX.out.below HB.out) x).mono ?_); rintro e w1 ⟨rfl, hb⟩; rw [HKN.out]; have HB1 := Aside0.mk (bel_trans HB.out hb); have HK1 := Aside0.mk (Kd.R_below HK.out hb); clear hb)
    go_roundg gk
    case measure => omega
    case rel =>
     have e1 : (keep.take (i + 1)).filter s.known = (keep.take i).filter s.known := by rw [HFX.out, HKN.out]; simp
     refine ⟨i + 1, congrArg (Value.int .i64) HIN.out, ⟨by have := HI.out; have := HII.out; omega, by have := HI.out; have := HII.out; omega⟩, HB1, kA, kc, by rw [e1], ?_⟩
     rw [e1]
     exact HK1
   | true =>
    have HKN := Aside0.mk hk
    clear hk
    go_wp2_with (first | (go_at_call 54; (with_reducible refine (RX.known (HX.out.below HB.out) x).mono ?_); rintro e w1 ⟨rfl, hb⟩; rw [HKN.out]; have HB1 := Aside0.mk (bel_trans HB.out hb); have HK1 := Aside0.mk (Kd.R_below HK.out hb); have x0 := pw_cell_below hb x0; clear hb) | (at_builtin; go_must (refine Kd.R_append (Kd.int .u64) (w0 := w) w.heap.size rfl (.tmp 27) (.tmp 32) 67 50 (.int .u64 0) 8 rfl Try.underlying67 (by kernel_rfl) (by rfl) (by decide) (by decide) _ ((keep.take i).filter s.known) x [.int .u64 x] (fun _ => True) (fun _ => False) rfl rfl rfl (fun k hk => hk.elim) (fun _ _ => trivial) HK1.out HB1.out HB1.out.size (by have := HI.out; have := HL.out; have := List.length_filter_le s.known (keep.take i); rw [List.length_take] at this; omega) ?_); intro v2 w2 h1 hb hg hat; obtain ⟨kA2, kc2, rfl⟩ := Kd.R_slice h1; have HK2 := Aside0.mk h1; have HB2 := Aside0.mk hb; clear h1 hb hg hat))
    go_roundg gk
    case measure => omega
    case rel =>
     have e1 : (keep.take (i + 1)).filter s.known = (keep.take i).filter s.known ++ [x] := by rw [HFX.out, HKN.out]; simp
     refine ⟨i + 1, congrArg (Value.int .i64) HIN.out, ⟨by have := HI.out; have := HII.out; omega, by have := HI.out; have := HII.out; omega⟩, HB2, kA2, kc2, by rw [e1, List.length_append]; rfl, ?_⟩
     rw [e1]
     exact HK2
  ·
   have q1 : decide ((i : Int) < (keep.length : Int)) = false := decide_eq_false (by omega)
   have q1' : (i < keep.length) = False := eq_false hi
   have q1'' : decide (i < keep.length) = false := decide_eq_false hi
   have hie : i = keep.length := by have := HI.out; omega
   subst hie
   have e1 : (keep.take keep.length).filter s.known = s.kept keep := by rw [List.take_length]; rfl
   obtain ⟨KP, hKe⟩ : ∃ z, s.kept keep = z := ⟨_, rfl⟩
   have hKl : KP.length ≤ 1000 := by have := HL.out; rw [← hKe]; exact Nat.le_trans (List.length_filter_le _ _) this
   rw [e1, hKe] at HK ⊢
   have HKE := Aside0.mk hKe
   have HKL := Aside0.mk hKl
   obtain ⟨nd, hnd⟩ : ∃ z, needs s.L (KP ++ [s.last]) = z := ⟨_, rfl⟩
   have HND := Aside0.mk hnd
   clear hi HI e1 hKe hKl hnd
   go_wp2
   go_loopg [7, 8] s.L.length (fun gk v7 v8 wr => ∃ (j : Nat) (SL : List Row) (A : Option Addr) (c : Nat), v8 = .int .i64 j ∧ v7 = .slice A SL.length c ∧ Aside0 (j ≤ s.L.length ∧ s.L.length - j ≤ gk) ∧ Aside0 (stays s.L nd j = SL) ∧ Aside0 (Below w.heap.size w wr) ∧ Aside0 ((Kd.int .u64).R 50 wr w.heap.size (fun _ => True) (.slice kA KP.length kc) KP) ∧ Aside0 (OwnR w0 wr (.slice A SL.length c) SL) ∧ Aside0 (∀ k, (Value.slice A SL.length c).ownBlock = some k → w.heap.size ≤ k))
   case atStart => exact ⟨0, [], none, 0, rfl, rfl, ⟨by omega, by omega⟩, ⟨rfl⟩, HB, HK, ⟨OwnR.nil _ _⟩, ⟨fun k hk => by cases hk⟩⟩
   case round =>
    clear HB HK
    obtain ⟨j, SL, A, c, rfl, rfl, HJ, HST, HB, HK, HO, HNB⟩ := hrel
    obtain ⟨ao, cap, ak, ck, hbox, hrd, -⟩ := (HX.out.below HB.out).reads
    have y0 := (blk_cell hbox 0).trans rfl
    have HSL := Aside0.mk (show SL.length ≤ j by rw [← HST.out]; exact stays_length _ _ _)
    by_cases hj : j < s.L.length
    ·
     have q2 : decide ((j : Int) < (s.L.length : Int)) = true := decide_eq_true (by omega)
     have q2' : (j : Int) < (s.L.length : Int) := by omega
     obtain ⟨x, hx⟩ : ∃ x, s.L[j]? = some x := ⟨_, List.getElem?_eq_getElem hj⟩
     obtain ⟨ad, A1, c1, A2, c2, hao, hr, hf⟩ := hrd j x hx
     subst hao
     have x0 := hr.y0
     have x1 := hr.y1
     have x2 := hr.y2
     have x3 := hr.z3
     have x4 := hr.z4
     have HXI := Aside0.mk hx
     have HFX := Aside0.mk hf
     have HJJ := Aside0.mk hj
     have HJN := Aside0.mk (show wrap64 ((j : Int) + 1) = ((j + 1 : Nat) : Int) by have := HFW.out; unfold wrap64; omega)
     obtain ⟨gko, rfl⟩ : ∃ m, gk = m + 1 := ⟨gk - 1, by have := HJ.out; omega⟩
     have hba := below_alloc (Below.refl wr.heap.size wr) (.cells #[.int .u64 x.v, .bool x.gone, .int .u32 x.id, .slice A1 x.vec.length c1, .slice A2 x.tags.length c2] 82)
     have HB1 := Aside0.mk (bel_trans HB.out hba)
     have HK1 := Aside0.mk (Kd.R_below HK.out hba)
     have HO1 := Aside0.mk (HO.out.below hba)
     have HBX1 := Aside0.mk (heap_alloc_new wr (.cells #[.int .u64 x.v, .bool x.gone, .int .u32 x.id, .slice A1 x.vec.length c1, .slice A2 x.tags.length c2] 82))
     have HBL := Aside0.mk (show ∀ k, (Value.slice A SL.length c).ownBlock = some k → k < wr.heap.size from HO.out.lt)
     clear hj hx hr hf hbox hrd hba HB HK HO
     go_wp2
     obtain ⟨bx, hbx⟩ : ∃ z, wr.heap.size = z := ⟨_, rfl⟩
     rw [hbx] at HBX1 HBL ⊢
     have HNX := Aside0.mk (show ∀ k, (Value.slice A SL.length c).ownBlock = some k → k ≠ bx from fun k hk => by have := HBL.out k hk; omega)
     clear hbx x0 x1 x2 x3 x4 y0
     obtain ⟨wb, hwb⟩ : ∃ z, wr.alloc (.cells #[.int .u64 x.v, .bool x.gone, .int .u32 x.id, .slice A1 x.vec.length c1, .slice A2 x.tags.length c2] 82) = z := ⟨_, rfl⟩
     rw [hwb] at HB1 HK1 HO1 HBX1 ⊢
     have HBd := Aside0.mk (bel_trans HB1.out (below_drew (Below.refl _ _)))
     have HKd := Aside0.mk (Kd.R_below HK1.out (below_drew (Below.refl _ _)))
     have HOd := Aside0.mk (HO1.out.below (below_drew (Below.refl _ _)))
     have HXd := Aside0.mk (blk_below HBX1.out (below_drew (Below.refl _ _)))
     clear HB1 HK1 HO1 HBX1 hwb
     refine start_ (n := 12) (S := fun w' => w'.cell? ⟨bx, 2, none⟩ = some (.int .u32 x.id) ∧ w'.cell? ⟨g, 1, none⟩ = some (.int .u64 s.last)) (ds := []) #[false, false, false, false, false, false, false, false, false, false, false, false] (by kernel_rfl) rfl rfl ⟨((blk_cell HXd.out 2).trans rfl), (HX.out.below HBd.out).y1⟩ (fun hHeld => ?_)
     refine with_tabW rsw.tab12 rsw.bits12 (fun HT_ HW_ => ?_)
     generalize wb.drew = wd at HBd HKd HOd HXd hHeld ⊢
     refine pure_ (i := 0) (N := some 50) (v := ?_) (a' := ?_) #[true, false, false, false, false, false, false, false, false, false, false, false] rfl rfl (any_of HT_.out (by kernel_rfl)) (fun _ _ _ h => h) (Or.inl ⟨by rfl, ?_⟩) ?_ ?_
     rotate_left
     ·
      intro w'
      go_simp
      with_reducible rfl
     rotate_left
     ·
      simp only [Act.put, List.setIfInBounds_toArray, List.set_cons_zero, List.set_cons_succ, i64_w, i32_w]
      rfl
     refine pure_ (i := 1) (N := some 51) (v := ?_) (a' := ?_) #[true, true, false, false, false, false, false, false, false, false, false, false] rfl rfl (any_of HT_.out (by kernel_rfl)) (fun _ _ _ h => h) (Or.inl ⟨by rfl, ?_⟩) ?_ ?_
     rotate_left
     ·
      intro w'
      go_simp
      with_reducible rfl
     rotate_left
     ·
      simp only [Act.put, List.setIfInBounds_toArray, List.set_cons_zero, List.set_cons_succ, i64_w, i32_w]
      rfl
     refine pure_ (i := 2) (N := some 52) (v := ?_) (a' := ?_) #[true, true, true, false, false, false, false, false, false, false, false, false] rfl rfl (any_of HT_.out (by kernel_rfl)) (fun _ _ _ h => h) (Or.inl ⟨by rfl, ?_⟩) ?_ ?_
     rotate_left
     ·
      intro w'
      go_simp
      with_reducible rfl
     rotate_left
     ·
      simp only [Act.put, List.setIfInBounds_toArray, List.set_cons_zero, List.set_cons_succ, i64_w, i32_w]
      rfl
     refine pure_ (i := 4) (N := some 54) (v := ?_) (a' := ?_) #[true, true, true, false, true, false, false, false, false, false, false, false] rfl rfl (any_of HT_.out (by kernel_rfl)) (fun _ _ _ h => h) (Or.inl ⟨by rfl, ?_⟩) ?_ ?_
     rotate_left
     ·
      intro w'
      go_simp
      with_reducible rfl
     rotate_left
     ·
      simp only [Act.put, List.setIfInBounds_toArray, List.set_cons_zero, List.set_cons_succ, i64_w, i32_w]
      rfl
     refine pure_ (i := 5) (N := some 55) (v := ?_) (a' := ?_) #[true, true, true, false, true, true, false, false, false, false, false, false] rfl rfl (any_of HT_.out (by kernel_rfl)) (fun _ _ _ h => h) (Or.inl ⟨by rfl, ?_⟩) ?_ ?_
     rotate_left
     ·
      intro w'
      go_simp
      with_reducible rfl
     rotate_left
     ·
      simp only [Act.put, List.setIfInBounds_toArray, List.set_cons_zero, List.set_cons_succ, i64_w, i32_w]
      rfl
     refine pure_ (i := 6) (N := some 56) (v := ?_) (a' := ?_) #[true, true, true, false, true, true, true, false, false, false, false, false] rfl rfl (any_of HT_.out (by kernel_rfl)) (fun _ _ _ h => h) (Or.inl ⟨by rfl, ?_⟩) ?_ ?_
     rotate_left
     ·
      intro w'
      go_simp
      with_reducible rfl
     rotate_left
     ·
      simp only [Act.put, List.setIfInBounds_toArray, List.set_cons_zero, List.set_cons_succ, i64_w, i32_w]
      rfl
     refine pure_ (i := 9) (N := some 59) (v := ?_) (a' := ?_) #[true, true, true, false, true, true, true, false, false, true, false, false] rfl rfl (any_of HT_.out (by kernel_rfl)) (fun _ _ _ h => h) (Or.inl ⟨by rfl, ?_⟩) ?_ ?_
     rotate_left
     ·
      intro w'
      go_simp
      with_reducible rfl
     rotate_left
     ·
      simp only [Act.put, List.setIfInBounds_toArray, List.set_cons_zero, List.set_cons_succ, i64_w, i32_w]
      rfl
     refine take_ (i := 3) (N := some 53) (v := ?_) (a' := ?_) #[true, true, true, true, true, true, true, false, false, true, false, false] rfl rfl (take_ofW HT_.out HW_.out (by kernel_rfl)) (fun _ _ _ h => h) (Or.inl ⟨by rfl, ?_⟩) hHeld ?_ ?_
     rotate_left
     ·
      rintro w' ⟨s0, s1⟩
      go_simp
      with_reducible rfl
     rotate_left
     ·
      simp only [Act.put, List.setIfInBounds_toArray, List.set_cons_zero, List.set_cons_succ, i64_w, i32_w]
      rfl
     refine take_ (i := 7) (N := some 57) (v := ?_) (a' := ?_) #[true, true, true, true, true, true, true, true, false, true, false, false] rfl rfl (take_ofW HT_.out HW_.out (by kernel_rfl)) (fun _ _ _ h => h) (Or.inl ⟨by rfl, ?_⟩) hHeld ?_ ?_
     rotate_left
     ·
      rintro w' ⟨s0, s1⟩
      go_simp
      with_reducible rfl
     rotate_left
     ·
      simp only [Act.put, List.setIfInBounds_toArray, List.set_cons_zero, List.set_cons_succ, i64_w, i32_w]
      rfl
     refine one_ (i := 8) (N := some 58) #[true, true, true, true, true, true, true, true, true, true, false, false] rfl rfl (one_of HT_.out (by kernel_rfl)) (by decide) (fun K hK => ?_)
     refine goes_ Try.func53 (by kernel_rfl) rfl #[.pointer (some ⟨g, 0, none⟩), .int .u32 x.id, .int .u64 s.last] (by rfl) rfl rfl (by simp only [List.map_toArray, List.map_cons, List.map_nil]; rfl) ?_
     with_reducible refine (RX.at_ (HX.out.below HBd.out) x.id s.last).mono ?_
     rintro e w2 ⟨rfl, hb⟩
     refine ⟨_, rfl, ?_⟩
     have HB2 := Aside0.mk (bel_trans HBd.out hb)
     have HK2 := Aside0.mk (Kd.R_below HKd.out hb)
     have HO2 := Aside0.mk (HOd.out.below hb)
     have HBX2 := Aside0.mk (blk_below HXd.out hb)
     clear hb HBd HKd HOd HXd
     refine hK.out _ _ ⟨((blk_cell HBX2.out 2).trans rfl), (HX.out.below HB2.out).y1⟩ (fun hHeld => ?_)
     clear hK K
     refine norm_ (a' := ?_) ?_ ?_
     rotate_left
     ·
      show Act.put _ (some 58) _ = _
      simp only [Act.put, List.setIfInBounds_toArray, List.set_cons_zero, List.set_cons_succ, i64_w, i32_w]
      rfl
     refine pure_ (i := 10) (N := some 60) (v := ?_) (a' := ?_) #[true, true, true, true, true, true, true, true, true, true, true, false] rfl rfl (any_of HT_.out (by kernel_rfl)) (fun _ _ _ h => h) (Or.inl ⟨by rfl, ?_⟩) ?_ ?_
     rotate_left
     ·
      intro w'
      go_simp
      with_reducible rfl
     rotate_left
     ·
      simp only [Act.put, List.setIfInBounds_toArray, List.set_cons_zero, List.set_cons_succ, i64_w, i32_w]
      rfl
     refine pure_ (i := 11) (N := some 10) (v := ?_) (a' := ?_) #[true, true, true, true, true, true, true, true, true, true, true, true] rfl rfl (any_of HT_.out (by kernel_rfl)) (fun _ _ _ h => h) (Or.inl ⟨by rfl, ?_⟩) ?_ ?_
     rotate_left
     ·
      intro w'
      go_simp
      with_reducible rfl
     rotate_left
     ·
      simp only [Act.put, List.setIfInBounds_toArray, List.set_cons_zero, List.set_cons_succ, i64_w, i32_w]
      rfl
     refine done_ (done_of HT_.out (by kernel_rfl)) ?_
     clear hHeld
     go_wp2
     go_loopg [10, 11] KP.length (fun gk v10 v11 wr => ∃ (k : Nat), v11 = .int .i64 k ∧ v10 = .bool (ndTo s.L KP s.last j k) ∧ Aside0 (k ≤ KP.length ∧ KP.length - k ≤ gk) ∧ Aside0 (Below w.heap.size w wr) ∧ Aside0 ((Kd.int .u64).R 50 wr w.heap.size (fun _ => True) (.slice kA KP.length kc) KP) ∧ Aside0 (OwnR w0 wr (.slice A SL.length c) SL) ∧ Aside0 (wr.heap[bx]? = some (.cells #[.int .u64 x.v, .bool x.gone, .int .u32 x.id, .slice A1 x.vec.length c1, .slice A2 x.tags.length c2] 82 (0, 0))))
     case atStart => exact ⟨0, rfl, by rw [ndTo_zero, ← need_eq HXI.out], ⟨by omega, by omega⟩, HB2, HK2, HO2, HBX2⟩
     case round =>
      clear HB2 HK2 HO2 HBX2
      obtain ⟨k, rfl, rfl, HKK, HB2, HK2, HO2, HBX2⟩ := hrel
      by_cases hk : k < KP.length
      ·
       have q3 : decide ((k : Int) < (KP.length : Int)) = true := decide_eq_true (by omega)
       have q3' : (k : Int) < (KP.length : Int) := by omega
       obtain ⟨ae, u, hA, hu, z0⟩ := Pa.C_int_at (Kd.R_reads' HK2.out).2.2 hk
       subst hA
       have HU := Aside0.mk hu
       have HKLT := Aside0.mk hk
       have HKN := Aside0.mk (show wrap64 ((k : Int) + 1) = ((k + 1 : Nat) : Int) by have := HKL.out; unfold wrap64; omega)
       obtain ⟨gk2, rfl⟩ : ∃ m, gk = m + 1 := ⟨gk - 1, by have := HKK.out; omega⟩
       clear hk hu
       cases hnt : ndTo s.L KP s.last j k with
       | true =>
        have HNT := Aside0.mk hnt
        clear hnt
        go_wp2
        have HBd := Aside0.mk (bel_trans HB2.out (below_drew (Below.refl _ _)))
        have HKd := Aside0.mk (Kd.R_below HK2.out (below_drew (Below.refl _ _)))
        have HOd := Aside0.mk (HO2.out.below (below_drew (Below.refl _ _)))
        have HXd := Aside0.mk (blk_below HBX2.out (below_drew (Below.refl _ _)))
        have zd := pw_cell_below (below_drew (Below.refl _ _)) z0
        have HZD := Aside0.mk zd
        clear z0 zd
        refine start_ (n := 15) (S := fun w' => w'.cell? ⟨bx, 2, none⟩ = some (.int .u32 x.id) ∧ w'.cell? (ae.add k) = some (.int .u64 u)) (ds := []) #[false, false, false, false, false, false, false, false, false, false, false, false, false, false, false] (by kernel_rfl) rfl rfl ⟨((blk_cell HXd.out 2).trans rfl), HZD.out⟩ (fun hHeld => ?_)
        refine with_tabW rsw.tab16 rsw.bits16 (fun HT_ HW_ => ?_)
        generalize wr.drew = wd at HBd HKd HOd HXd HZD hHeld ⊢
        refine pure_ (i := 0) (N := some 67) (v := ?_) (a' := ?_) #[true, false, false, false, false, false, false, false, false, false, false, false, false, false, false] rfl rfl (any_of HT_.out (by kernel_rfl)) (fun _ _ _ h => h) (Or.inl ⟨by rfl, ?_⟩) ?_ ?_
        rotate_left
        ·
         intro w'
         go_simp
         with_reducible rfl
        rotate_left
        ·
         simp only [Act.put, List.setIfInBounds_toArray, List.set_cons_zero, List.set_cons_succ, i64_w, i32_w]
         rfl
        refine pure_ (i := 1) (N := some 68) (v := ?_) (a' := ?_) #[true, true, false, false, false, false, false, false, false, false, false, false, false, false, false] rfl rfl (any_of HT_.out (by kernel_rfl)) (fun _ _ _ h => h) (Or.inl ⟨by rfl, ?_⟩) ?_ ?_
        rotate_left
        ·
         intro w'
         go_simp
         with_reducible rfl
        rotate_left
        ·
         simp only [Act.put, List.setIfInBounds_toArray, List.set_cons_zero, List.set_cons_succ, i64_w, i32_w]
         rfl
        refine pure_ (i := 2) (N := some 69) (v := undef) (a' := ?_) #[true, true, true, false, false, false, false, false, false, false, false, false, false, false, false] rfl rfl (any_of HT_.out (by kernel_rfl)) (fun _ _ _ h => h) (Or.inr ⟨by rfl, rfl⟩) ?_ ?_
        rotate_left
        ·
         simp only [Act.put, List.setIfInBounds_toArray, List.set_cons_zero, List.set_cons_succ, i64_w, i32_w]
         rfl
        refine pure_ (i := 3) (N := some 70) (v := undef) (a' := ?_) #[true, true, true, true, false, false, false, false, false, false, false, false, false, false, false] rfl rfl (any_of HT_.out (by kernel_rfl)) (fun _ _ _ h => h) (Or.inr ⟨by rfl, rfl⟩) ?_ ?_
        rotate_left
        ·
         simp only [Act.put, List.setIfInBounds_toArray, List.set_cons_zero, List.set_cons_succ, i64_w, i32_w]
         rfl
        refine pure_ (i := 4) (N := some 71) (v := undef) (a' := ?_) #[true, true, true, true, true, false, false, false, false, false, false, false, false, false, false] rfl rfl (any_of HT_.out (by kernel_rfl)) (fun _ _ _ h => h) (Or.inr ⟨by rfl, rfl⟩) ?_ ?_
        rotate_left
        ·
         simp only [Act.put, List.setIfInBounds_toArray, List.set_cons_zero, List.set_cons_succ, i64_w, i32_w]
         rfl
        refine pure_ (i := 5) (N := some 72) (v := undef) (a' := ?_) #[true, true, true, true, true, true, false, false, false, false, false, false, false, false, false] rfl rfl (any_of HT_.out (by kernel_rfl)) (fun _ _ _ h => h) (Or.inr ⟨by rfl, rfl⟩) ?_ ?_
        rotate_left
        ·
         simp only [Act.put, List.setIfInBounds_toArray, List.set_cons_zero, List.set_cons_succ, i64_w, i32_w]
         rfl
        refine pure_ (i := 6) (N := some 73) (v := undef) (a' := ?_) #[true, true, true, true, true, true, true, false, false, false, false, false, false, false, false] rfl rfl (any_of HT_.out (by kernel_rfl)) (fun _ _ _ h => h) (Or.inr ⟨by rfl, rfl⟩) ?_ ?_
        rotate_left
        ·
         simp only [Act.put, List.setIfInBounds_toArray, List.set_cons_zero, List.set_cons_succ, i64_w, i32_w]
         rfl
        refine pure_ (i := 7) (N := some 74) (v := undef) (a' := ?_) #[true, true, true, true, true, true, true, true, false, false, false, false, false, false, false] rfl rfl (any_of HT_.out (by kernel_rfl)) (fun _ _ _ h => h) (Or.inr ⟨by rfl, rfl⟩) ?_ ?_
        rotate_left
        ·
         simp only [Act.put, List.setIfInBounds_toArray, List.set_cons_zero, List.set_cons_succ, i64_w, i32_w]
         rfl
        refine pure_ (i := 8) (N := some 75) (v := undef) (a' := ?_) #[true, true, true, true, true, true, true, true, true, false, false, false, false, false, false] rfl rfl (any_of HT_.out (by kernel_rfl)) (fun _ _ _ h => h) (Or.inr ⟨by rfl, rfl⟩) ?_ ?_
        rotate_left
        ·
         simp only [Act.put, List.setIfInBounds_toArray, List.set_cons_zero, List.set_cons_succ, i64_w, i32_w]
         rfl
        refine pure_ (i := 9) (N := some 76) (v := undef) (a' := ?_) #[true, true, true, true, true, true, true, true, true, true, false, false, false, false, false] rfl rfl (any_of HT_.out (by kernel_rfl)) (fun _ _ _ h => h) (Or.inr ⟨by rfl, rfl⟩) ?_ ?_
        rotate_left
        ·
         simp only [Act.put, List.setIfInBounds_toArray, List.set_cons_zero, List.set_cons_succ, i64_w, i32_w]
         rfl
        refine pure_ (i := 10) (N := some 77) (v := undef) (a' := ?_) #[true, true, true, true, true, true, true, true, true, true, true, false, false, false, false] rfl rfl (any_of HT_.out (by kernel_rfl)) (fun _ _ _ h => h) (Or.inr ⟨by rfl, rfl⟩) ?_ ?_
        rotate_left
        ·
         simp only [Act.put, List.setIfInBounds_toArray, List.set_cons_zero, List.set_cons_succ, i64_w, i32_w]
         rfl
        refine pure_ (i := 11) (N := some 78) (v := undef) (a' := ?_) #[true, true, true, true, true, true, true, true, true, true, true, true, false, false, false] rfl rfl (any_of HT_.out (by kernel_rfl)) (fun _ _ _ h => h) (Or.inr ⟨by rfl, rfl⟩) ?_ ?_
        rotate_left
        ·
         simp only [Act.put, List.setIfInBounds_toArray, List.set_cons_zero, List.set_cons_succ, i64_w, i32_w]
         rfl
        refine pure_ (i := 12) (N := some 79) (v := undef) (a' := ?_) #[true, true, true, true, true, true, true, true, true, true, true, true, true, false, false] rfl rfl (any_of HT_.out (by kernel_rfl)) (fun _ _ _ h => h) (Or.inr ⟨by rfl, rfl⟩) ?_ ?_
        rotate_left
        ·
         simp only [Act.put, List.setIfInBounds_toArray, List.set_cons_zero, List.set_cons_succ, i64_w, i32_w]
         rfl
        refine pure_ (i := 13) (N := some 80) (v := ?_) (a' := ?_) #[true, true, true, true, true, true, true, true, true, true, true, true, true, true, false] rfl rfl (any_of HT_.out (by kernel_rfl)) (fun _ _ _ h => h) (Or.inl ⟨by rfl, ?_⟩) ?_ ?_
        rotate_left
        ·
         intro w'
         go_simp
         with_reducible rfl
        rotate_left
        ·
         simp only [Act.put, List.setIfInBounds_toArray, List.set_cons_zero, List.set_cons_succ, i64_w, i32_w]
         rfl
        refine pure_ (i := 14) (N := some 10) (v := ?_) (a' := ?_) #[true, true, true, true, true, true, true, true, true, true, true, true, true, true, true] rfl rfl (any_of HT_.out (by kernel_rfl)) (fun _ _ _ h => h) (Or.inl ⟨by rfl, ?_⟩) ?_ ?_
        rotate_left
        ·
         intro w'
         go_simp
         with_reducible rfl
        rotate_left
        ·
         simp only [Act.put, List.setIfInBounds_toArray, List.set_cons_zero, List.set_cons_succ, i64_w, i32_w]
         rfl
        refine done_ (done_of HT_.out (by kernel_rfl)) ?_
        clear hHeld
        have HB3 := HBd
        have HK3 := HKd
        have HO3 := HOd
        have HBX3 := HXd
        clear HBd HKd HOd HXd
        go_wp2
        go_roundg gk2
        case measure => omega
        case rel => exact ⟨k + 1, congrArg (Value.int .i64) HKN.out, by rw [ndTo_succ HU.out, HNT.out]; rfl, ⟨by have := HKLT.out; omega, by have := HKK.out; have := HKLT.out; omega⟩, HB3, HK3, HO3, HBX3⟩
       | false =>
        have HNT := Aside0.mk hnt
        clear hnt
        go_wp2
        have HBd := Aside0.mk (bel_trans HB2.out (below_drew (Below.refl _ _)))
        have HKd := Aside0.mk (Kd.R_below HK2.out (below_drew (Below.refl _ _)))
        have HOd := Aside0.mk (HO2.out.below (below_drew (Below.refl _ _)))
        have HXd := Aside0.mk (blk_below HBX2.out (below_drew (Below.refl _ _)))
        have zd := pw_cell_below (below_drew (Below.refl _ _)) z0
        have HZD := Aside0.mk zd
        clear z0 zd
        refine start_ (n := 15) (S := fun w' => w'.cell? ⟨bx, 2, none⟩ = some (.int .u32 x.id) ∧ w'.cell? (ae.add k) = some (.int .u64 u)) (ds := []) #[false, false, false, false, false, false, false, false, false, false, false, false, false, false, false] (by kernel_rfl) rfl rfl ⟨((blk_cell HXd.out 2).trans rfl), HZD.out⟩ (fun hHeld => ?_)
        refine with_tabW rsw.tab16 rsw.bits16 (fun HT_ HW_ => ?_)
        generalize wr.drew = wd at HBd HKd HOd HXd HZD hHeld ⊢
        refine pure_ (i := 0) (N := some 67) (v := ?_) (a' := ?_) #[true, false, false, false, false, false, false, false, false, false, false, false, false, false, false] rfl rfl (any_of HT_.out (by kernel_rfl)) (fun _ _ _ h => h) (Or.inl ⟨by rfl, ?_⟩) ?_ ?_
        rotate_left
        ·
         intro w'
         go_simp
         with_reducible rfl
        rotate_left
        ·
         simp only [Act.put, List.setIfInBounds_toArray, List.set_cons_zero, List.set_cons_succ, i64_w, i32_w]
         rfl
        refine pure_ (i := 1) (N := some 68) (v := ?_) (a' := ?_) #[true, true, false, false, false, false, false, false, false, false, false, false, false, false, false] rfl rfl (any_of HT_.out (by kernel_rfl)) (fun _ _ _ h => h) (Or.inl ⟨by rfl, ?_⟩) ?_ ?_
        rotate_left
        ·
         intro w'
         go_simp
         with_reducible rfl
        rotate_left
        ·
         simp only [Act.put, List.setIfInBounds_toArray, List.set_cons_zero, List.set_cons_succ, i64_w, i32_w]
         rfl
        refine pure_ (i := 2) (N := some 69) (v := ?_) (a' := ?_) #[true, true, true, false, false, false, false, false, false, false, false, false, false, false, false] rfl rfl (any_of HT_.out (by kernel_rfl)) (fun _ _ _ h => h) (Or.inl ⟨by rfl, ?_⟩) ?_ ?_
        rotate_left
        ·
         intro w'
         go_simp
         with_reducible rfl
        rotate_left
        ·
         simp only [Act.put, List.setIfInBounds_toArray, List.set_cons_zero, List.set_cons_succ, i64_w, i32_w]
         rfl
        refine pure_ (i := 3) (N := some 70) (v := ?_) (a' := ?_) #[true, true, true, true, false, false, false, false, false, false, false, false, false, false, false] rfl rfl (any_of HT_.out (by kernel_rfl)) (fun _ _ _ h => h) (Or.inl ⟨by rfl, ?_⟩) ?_ ?_
        rotate_left
        ·
         intro w'
         go_simp
         with_reducible rfl
        rotate_left
        ·
         simp only [Act.put, List.setIfInBounds_toArray, List.set_cons_zero, List.set_cons_succ, i64_w, i32_w]
         rfl
        refine pure_ (i := 4) (N := some 71) (v := ?_) (a' := ?_) #[true, true, true, true, true, false, false, false, false, false, false, false, false, false, false] rfl rfl (any_of HT_.out (by kernel_rfl)) (fun _ _ _ h => h) (Or.inl ⟨by rfl, ?_⟩) ?_ ?_
        rotate_left
        ·
         intro w'
         go_simp
         with_reducible rfl
        rotate_left
        ·
         simp only [Act.put, List.setIfInBounds_toArray, List.set_cons_zero, List.set_cons_succ, i64_w, i32_w]
         rfl
        refine pure_ (i := 6) (N := some 73) (v := ?_) (a' := ?_) #[true, true, true, true, true, false, true, false, false, false, false, false, false, false, false] rfl rfl (any_of HT_.out (by kernel_rfl)) (fun _ _ _ h => h) (Or.inl ⟨by rfl, ?_⟩) ?_ ?_
        rotate_left
        ·
         intro w'
         go_simp
         with_reducible rfl
        rotate_left
        ·
         simp only [Act.put, List.setIfInBounds_toArray, List.set_cons_zero, List.set_cons_succ, i64_w, i32_w]
         rfl
        refine pure_ (i := 7) (N := some 74) (v := ?_) (a' := ?_) #[true, true, true, true, true, false, true, true, false, false, false, false, false, false, false] rfl rfl (any_of HT_.out (by kernel_rfl)) (fun _ _ _ h => h) (Or.inl ⟨by rfl, ?_⟩) ?_ ?_
        rotate_left
        ·
         intro w'
         go_simp
         with_reducible rfl
        rotate_left
        ·
         simp only [Act.put, List.setIfInBounds_toArray, List.set_cons_zero, List.set_cons_succ, i64_w, i32_w]
         rfl
        refine pure_ (i := 8) (N := some 75) (v := ?_) (a' := ?_) #[true, true, true, true, true, false, true, true, true, false, false, false, false, false, false] rfl rfl (any_of HT_.out (by kernel_rfl)) (fun _ _ _ h => h) (Or.inl ⟨by rfl, ?_⟩) ?_ ?_
        rotate_left
        ·
         intro w'
         go_simp
         with_reducible rfl
        rotate_left
        ·
         simp only [Act.put, List.setIfInBounds_toArray, List.set_cons_zero, List.set_cons_succ, i64_w, i32_w]
         rfl
        refine pure_ (i := 11) (N := some 78) (v := ?_) (a' := ?_) #[true, true, true, true, true, false, true, true, true, false, false, true, false, false, false] rfl rfl (any_of HT_.out (by kernel_rfl)) (fun _ _ _ h => h) (Or.inl ⟨by rfl, ?_⟩) ?_ ?_
        rotate_left
        ·
         intro w'
         go_simp
         with_reducible rfl
        rotate_left
        ·
         simp only [Act.put, List.setIfInBounds_toArray, List.set_cons_zero, List.set_cons_succ, i64_w, i32_w]
         rfl
        refine take_ (i := 5) (N := some 72) (v := ?_) (a' := ?_) #[true, true, true, true, true, true, true, true, true, false, false, true, false, false, false] rfl rfl (take_ofW HT_.out HW_.out (by kernel_rfl)) (fun _ _ _ h => h) (Or.inl ⟨by rfl, ?_⟩) hHeld ?_ ?_
        rotate_left
        ·
         rintro w' ⟨s0, s1⟩
         go_simp
         with_reducible rfl
        rotate_left
        ·
         simp only [Act.put, List.setIfInBounds_toArray, List.set_cons_zero, List.set_cons_succ, i64_w, i32_w]
         rfl
        refine take_ (i := 9) (N := some 76) (v := ?_) (a' := ?_) #[true, true, true, true, true, true, true, true, true, true, false, true, false, false, false] rfl rfl (take_ofW HT_.out HW_.out (by kernel_rfl)) (fun _ _ _ h => h) (Or.inl ⟨by rfl, ?_⟩) hHeld ?_ ?_
        rotate_left
        ·
         rintro w' ⟨s0, s1⟩
         go_simp
         with_reducible rfl
        rotate_left
        ·
         simp only [Act.put, List.setIfInBounds_toArray, List.set_cons_zero, List.set_cons_succ, i64_w, i32_w]
         rfl
        refine one_ (i := 10) (N := some 77) #[true, true, true, true, true, true, true, true, true, true, true, true, false, false, false] rfl rfl (one_of HT_.out (by kernel_rfl)) (by decide) (fun K hK => ?_)
        refine goes_ Try.func53 (by kernel_rfl) rfl #[.pointer (some ⟨g, 0, none⟩), .int .u32 x.id, .int .u64 u] (by rfl) rfl rfl (by simp only [List.map_toArray, List.map_cons, List.map_nil]; rfl) ?_
        with_reducible refine (RX.at_ (HX.out.below HBd.out) x.id u).mono ?_
        rintro e w3 ⟨rfl, hb⟩
        refine ⟨_, rfl, ?_⟩
        have HB3 := Aside0.mk (bel_trans HBd.out hb)
        have HK3 := Aside0.mk (Kd.R_below HKd.out hb)
        have HO3 := Aside0.mk (HOd.out.below hb)
        have HBX3 := Aside0.mk (blk_below HXd.out hb)
        have HZ3 := Aside0.mk (pw_cell_below hb HZD.out)
        clear hb HBd HKd HOd HXd HZD
        refine hK.out _ _ ⟨((blk_cell HBX3.out 2).trans rfl), HZ3.out⟩ (fun hHeld => ?_)
        clear hK K
        refine norm_ (a' := ?_) ?_ ?_
        rotate_left
        ·
         show Act.put _ (some 77) _ = _
         simp only [Act.put, List.setIfInBounds_toArray, List.set_cons_zero, List.set_cons_succ, i64_w, i32_w]
         rfl
        refine pure_ (i := 12) (N := some 79) (v := ?_) (a' := ?_) #[true, true, true, true, true, true, true, true, true, true, true, true, true, false, false] rfl rfl (any_of HT_.out (by kernel_rfl)) (fun _ _ _ h => h) (Or.inl ⟨by rfl, ?_⟩) ?_ ?_
        rotate_left
        ·
         intro w'
         go_simp
         with_reducible rfl
        rotate_left
        ·
         simp only [Act.put, List.setIfInBounds_toArray, List.set_cons_zero, List.set_cons_succ, i64_w, i32_w]
         rfl
        refine pure_ (i := 13) (N := some 80) (v := ?_) (a' := ?_) #[true, true, true, true, true, true, true, true, true, true, true, true, true, true, false] rfl rfl (any_of HT_.out (by kernel_rfl)) (fun _ _ _ h => h) (Or.inl ⟨by rfl, ?_⟩) ?_ ?_
        rotate_left
        ·
         intro w'
         go_simp
         with_reducible rfl
        rotate_left
        ·
         simp only [Act.put, List.setIfInBounds_toArray, List.set_cons_zero, List.set_cons_succ, i64_w, i32_w]
         rfl
        refine pure_ (i := 14) (N := some 10) (v := ?_) (a' := ?_) #[true, true, true, true, true, true, true, true, true, true, true, true, true, true, true] rfl rfl (any_of HT_.out (by kernel_rfl)) (fun _ _ _ h => h) (Or.inl ⟨by rfl, ?_⟩) ?_ ?_
        rotate_left
        ·
         intro w'
         go_simp
         with_reducible rfl
        rotate_left
        ·
         simp only [Act.put, List.setIfInBounds_toArray, List.set_cons_zero, List.set_cons_succ, i64_w, i32_w]
         rfl
        refine done_ (done_of HT_.out (by kernel_rfl)) ?_
        clear hHeld
        go_wp2
        go_roundg gk2
        case measure => omega
        case rel => exact ⟨k + 1, congrArg (Value.int .i64) HKN.out, by rw [ndTo_succ HU.out, HNT.out, ← need_eq HXI.out]; rfl, ⟨by have := HKLT.out; omega, by have := HKK.out; have := HKLT.out; omega⟩, HB3, HK3, HO3, HBX3⟩
      ·
       have q3 : decide ((k : Int) < (KP.length : Int)) = false := decide_eq_false (by omega)
       have q3' : (k < KP.length) = False := eq_false hk
       have q3'' : decide (k < KP.length) = false := decide_eq_false hk
       have hke : k = KP.length := by have := HKK.out; omega
       subst hke
       have hna : ndTo s.L KP s.last j KP.length = nd j := by rw [ndTo_all, HND.out]
       rw [hna]
       obtain ⟨n1, hn1⟩ : ∃ z, nd j = z := ⟨_, rfl⟩
       rw [hn1]
       have HN1 := Aside0.mk hn1
       clear hk HKK hna hn1
       go_wp2
       go_loopg [12, 13] SL.length (fun gk v12 v13 wr => ∃ (k : Nat), v13 = .int .i64 k ∧ v12 = .bool (elTo SL x k) ∧ Aside0 (k ≤ SL.length ∧ SL.length - k ≤ gk) ∧ Aside0 (Below w.heap.size w wr) ∧ Aside0 ((Kd.int .u64).R 50 wr w.heap.size (fun _ => True) (.slice kA KP.length kc) KP) ∧ Aside0 (OwnR w0 wr (.slice A SL.length c) SL) ∧ Aside0 (wr.heap[bx]? = some (.cells #[.int .u64 x.v, .bool x.gone, .int .u32 x.id, .slice A1 x.vec.length c1, .slice A2 x.tags.length c2] 82 (0, 0))))
       case atStart => exact ⟨0, rfl, by rw [elTo_zero], ⟨by omega, by omega⟩, HB2, HK2, HO2, HBX2⟩
       case round =>
        clear HB2 HK2 HO2 HBX2
        obtain ⟨k, rfl, rfl, HKK, HB2, HK2, HO2, HBX2⟩ := hrel
        by_cases hk : k < SL.length
        ·
         have q4 : decide ((k : Int) < (SL.length : Int)) = true := decide_eq_true (by omega)
         have q4' : (k : Int) < (SL.length : Int) := by omega
         obtain ⟨z, hz⟩ : ∃ z, SL[k]? = some z := ⟨_, List.getElem?_eq_getElem hk⟩
         obtain ⟨aoz, capz, hvz, -, hrz⟩ := HO2.out.reads (bel_trans HX.out.at0 HB2.out)
         obtain ⟨ae, B1, e1, B2, e2, hA, hrw, -⟩ := hrz k z hz
         injection hvz with hv1 hv2 hv3
         subst hA
         subst hv1
         have z2 := hrw.y2
         have HZ := Aside0.mk hz
         have HRW := Aside0.mk hrw
         have HKLT := Aside0.mk hk
         have HKN := Aside0.mk (show wrap64 ((k : Int) + 1) = ((k + 1 : Nat) : Int) by have := HSL.out; have := HJ.out; have := HFW.out; unfold wrap64; omega)
         obtain ⟨gk2, rfl⟩ : ∃ m, gk = m + 1 := ⟨gk - 1, by have := HKK.out; omega⟩
         clear hk hz hrz hv2 hv3 hrw
         cases hnt : elTo SL x k with
         | true =>
          have HNT := Aside0.mk hnt
          clear hnt
          go_wp2
          have HBd := Aside0.mk (bel_trans HB2.out (below_drew (Below.refl _ _)))
          have HKd := Aside0.mk (Kd.R_below HK2.out (below_drew (Below.refl _ _)))
          have HOd := Aside0.mk (HO2.out.below (below_drew (Below.refl _ _)))
          have HXd := Aside0.mk (blk_below HBX2.out (below_drew (Below.refl _ _)))
          have HRD := Aside0.mk (HRW.out.below (below_drew (Below.refl _ _)))
          clear z2
          refine start_ (n := 14) (S := fun w' => w'.cell? ⟨bx, 2, none⟩ = some (.int .u32 x.id) ∧ w'.cell? ⟨(ae.add (k * 5)).block, (ae.add (k * 5)).off + 2, none⟩ = some (.int .u32 z.id)) (ds := []) #[false, false, false, false, false, false, false, false, false, false, false, false, false, false] (by kernel_rfl) rfl rfl ⟨((blk_cell HXd.out 2).trans rfl), HRD.out.y2⟩ (fun hHeld => ?_)
          refine with_tabW rsw.tab21 rsw.bits21 (fun HT_ HW_ => ?_)
          generalize wr.drew = wd at HBd HKd HOd HXd HRD hHeld ⊢
          refine pure_ (i := 0) (N := some 87) (v := ?_) (a' := ?_) #[true, false, false, false, false, false, false, false, false, false, false, false, false, false] rfl rfl (any_of HT_.out (by kernel_rfl)) (fun _ _ _ h => h) (Or.inl ⟨by rfl, ?_⟩) ?_ ?_
          rotate_left
          ·
           intro w'
           go_simp
           with_reducible rfl
          rotate_left
          ·
           simp only [Act.put, List.setIfInBounds_toArray, List.set_cons_zero, List.set_cons_succ, i64_w, i32_w]
           rfl
          refine pure_ (i := 1) (N := some 88) (v := ?_) (a' := ?_) #[true, true, false, false, false, false, false, false, false, false, false, false, false, false] rfl rfl (any_of HT_.out (by kernel_rfl)) (fun _ _ _ h => h) (Or.inl ⟨by rfl, ?_⟩) ?_ ?_
          rotate_left
          ·
           intro w'
           go_simp
           with_reducible rfl
          rotate_left
          ·
           simp only [Act.put, List.setIfInBounds_toArray, List.set_cons_zero, List.set_cons_succ, i64_w, i32_w]
           rfl
          refine pure_ (i := 2) (N := some 89) (v := undef) (a' := ?_) #[true, true, true, false, false, false, false, false, false, false, false, false, false, false] rfl rfl (any_of HT_.out (by kernel_rfl)) (fun _ _ _ h => h) (Or.inr ⟨by rfl, rfl⟩) ?_ ?_
          rotate_left
          ·
           simp only [Act.put, List.setIfInBounds_toArray, List.set_cons_zero, List.set_cons_succ, i64_w, i32_w]
           rfl
          refine pure_ (i := 3) (N := some 90) (v := undef) (a' := ?_) #[true, true, true, true, false, false, false, false, false, false, false, false, false, false] rfl rfl (any_of HT_.out (by kernel_rfl)) (fun _ _ _ h => h) (Or.inr ⟨by rfl, rfl⟩) ?_ ?_
          rotate_left
          ·
           simp only [Act.put, List.setIfInBounds_toArray, List.set_cons_zero, List.set_cons_succ, i64_w, i32_w]
           rfl
          refine pure_ (i := 4) (N := some 91) (v := undef) (a' := ?_) #[true, true, true, true, true, false, false, false, false, false, false, false, false, false] rfl rfl (any_of HT_.out (by kernel_rfl)) (fun _ _ _ h => h) (Or.inr ⟨by rfl, rfl⟩) ?_ ?_
          rotate_left
          ·
           simp only [Act.put, List.setIfInBounds_toArray, List.set_cons_zero, List.set_cons_succ, i64_w, i32_w]
           rfl
          refine pure_ (i := 5) (N := some 92) (v := undef) (a' := ?_) #[true, true, true, true, true, true, false, false, false, false, false, false, false, false] rfl rfl (any_of HT_.out (by kernel_rfl)) (fun _ _ _ h => h) (Or.inr ⟨by rfl, rfl⟩) ?_ ?_
          rotate_left
          ·
           simp only [Act.put, List.setIfInBounds_toArray, List.set_cons_zero, List.set_cons_succ, i64_w, i32_w]
           rfl
          refine pure_ (i := 6) (N := some 93) (v := undef) (a' := ?_) #[true, true, true, true, true, true, true, false, false, false, false, false, false, false] rfl rfl (any_of HT_.out (by kernel_rfl)) (fun _ _ _ h => h) (Or.inr ⟨by rfl, rfl⟩) ?_ ?_
          rotate_left
          ·
           simp only [Act.put, List.setIfInBounds_toArray, List.set_cons_zero, List.set_cons_succ, i64_w, i32_w]
           rfl
          refine pure_ (i := 7) (N := some 94) (v := undef) (a' := ?_) #[true, true, true, true, true, true, true, true, false, false, false, false, false, false] rfl rfl (any_of HT_.out (by kernel_rfl)) (fun _ _ _ h => h) (Or.inr ⟨by rfl, rfl⟩) ?_ ?_
          rotate_left
          ·
           simp only [Act.put, List.setIfInBounds_toArray, List.set_cons_zero, List.set_cons_succ, i64_w, i32_w]
           rfl
          refine pure_ (i := 8) (N := some 95) (v := undef) (a' := ?_) #[true, true, true, true, true, true, true, true, true, false, false, false, false, false] rfl rfl (any_of HT_.out (by kernel_rfl)) (fun _ _ _ h => h) (Or.inr ⟨by rfl, rfl⟩) ?_ ?_
          rotate_left
          ·
           simp only [Act.put, List.setIfInBounds_toArray, List.set_cons_zero, List.set_cons_succ, i64_w, i32_w]
           rfl
          refine pure_ (i := 9) (N := some 96) (v := undef) (a' := ?_) #[true, true, true, true, true, true, true, true, true, true, false, false, false, false] rfl rfl (any_of HT_.out (by kernel_rfl)) (fun _ _ _ h => h) (Or.inr ⟨by rfl, rfl⟩) ?_ ?_
          rotate_left
          ·
           simp only [Act.put, List.setIfInBounds_toArray, List.set_cons_zero, List.set_cons_succ, i64_w, i32_w]
           rfl
          refine pure_ (i := 10) (N := some 97) (v := undef) (a' := ?_) #[true, true, true, true, true, true, true, true, true, true, true, false, false, false] rfl rfl (any_of HT_.out (by kernel_rfl)) (fun _ _ _ h => h) (Or.inr ⟨by rfl, rfl⟩) ?_ ?_
          rotate_left
          ·
           simp only [Act.put, List.setIfInBounds_toArray, List.set_cons_zero, List.set_cons_succ, i64_w, i32_w]
           rfl
          refine pure_ (i := 11) (N := some 98) (v := undef) (a' := ?_) #[true, true, true, true, true, true, true, true, true, true, true, true, false, false] rfl rfl (any_of HT_.out (by kernel_rfl)) (fun _ _ _ h => h) (Or.inr ⟨by rfl, rfl⟩) ?_ ?_
          rotate_left
          ·
           simp only [Act.put, List.setIfInBounds_toArray, List.set_cons_zero, List.set_cons_succ, i64_w, i32_w]
           rfl
          refine pure_ (i := 12) (N := some 99) (v := ?_) (a' := ?_) #[true, true, true, true, true, true, true, true, true, true, true, true, true, false] rfl rfl (any_of HT_.out (by kernel_rfl)) (fun _ _ _ h => h) (Or.inl ⟨by rfl, ?_⟩) ?_ ?_
          rotate_left
          ·
           intro w'
           go_simp
           with_reducible rfl
          rotate_left
          ·
           simp only [Act.put, List.setIfInBounds_toArray, List.set_cons_zero, List.set_cons_succ, i64_w, i32_w]
           rfl
          refine pure_ (i := 13) (N := some 12) (v := ?_) (a' := ?_) #[true, true, true, true, true, true, true, true, true, true, true, true, true, true] rfl rfl (any_of HT_.out (by kernel_rfl)) (fun _ _ _ h => h) (Or.inl ⟨by rfl, ?_⟩) ?_ ?_
          rotate_left
          ·
           intro w'
           go_simp
           with_reducible rfl
          rotate_left
          ·
           simp only [Act.put, List.setIfInBounds_toArray, List.set_cons_zero, List.set_cons_succ, i64_w, i32_w]
           rfl
          refine done_ (done_of HT_.out (by kernel_rfl)) ?_
          clear hHeld
          have HB3 := HBd
          have HK3 := HKd
          have HO3 := HOd
          have HBX3 := HXd
          clear HBd HKd HOd HXd
          go_wp2
          go_roundg gk2
          case measure => omega
          case rel => exact ⟨k + 1, congrArg (Value.int .i64) HKN.out, by rw [elTo_succ HZ.out, HNT.out]; rfl, ⟨by have := HKLT.out; omega, by have := HKK.out; have := HKLT.out; omega⟩, HB3, HK3, HO3, HBX3⟩
         | false =>
          have HNT := Aside0.mk hnt
          clear hnt
          go_wp2
          have HBd := Aside0.mk (bel_trans HB2.out (below_drew (Below.refl _ _)))
          have HKd := Aside0.mk (Kd.R_below HK2.out (below_drew (Below.refl _ _)))
          have HOd := Aside0.mk (HO2.out.below (below_drew (Below.refl _ _)))
          have HXd := Aside0.mk (blk_below HBX2.out (below_drew (Below.refl _ _)))
          have HRD := Aside0.mk (HRW.out.below (below_drew (Below.refl _ _)))
          clear z2
          refine start_ (n := 14) (S := fun w' => w'.cell? ⟨bx, 2, none⟩ = some (.int .u32 x.id) ∧ w'.cell? ⟨(ae.add (k * 5)).block, (ae.add (k * 5)).off + 2, none⟩ = some (.int .u32 z.id)) (ds := []) #[false, false, false, false, false, false, false, false, false, false, false, false, false, false] (by kernel_rfl) rfl rfl ⟨((blk_cell HXd.out 2).trans rfl), HRD.out.y2⟩ (fun hHeld => ?_)
          refine with_tabW rsw.tab21 rsw.bits21 (fun HT_ HW_ => ?_)
          generalize wr.drew = wd at HBd HKd HOd HXd HRD hHeld ⊢
          refine pure_ (i := 0) (N := some 87) (v := ?_) (a' := ?_) #[true, false, false, false, false, false, false, false, false, false, false, false, false, false] rfl rfl (any_of HT_.out (by kernel_rfl)) (fun _ _ _ h => h) (Or.inl ⟨by rfl, ?_⟩) ?_ ?_
          rotate_left
          ·
           intro w'
           go_simp
           with_reducible rfl
          rotate_left
          ·
           simp only [Act.put, List.setIfInBounds_toArray, List.set_cons_zero, List.set_cons_succ, i64_w, i32_w]
           rfl
          refine pure_ (i := 1) (N := some 88) (v := ?_) (a' := ?_) #[true, true, false, false, false, false, false, false, false, false, false, false, false, false] rfl rfl (any_of HT_.out (by kernel_rfl)) (fun _ _ _ h => h) (Or.inl ⟨by rfl, ?_⟩) ?_ ?_
          rotate_left
          ·
           intro w'
           go_simp
           with_reducible rfl
          rotate_left
          ·
           simp only [Act.put, List.setIfInBounds_toArray, List.set_cons_zero, List.set_cons_succ, i64_w, i32_w]
           rfl
          refine pure_ (i := 2) (N := some 89) (v := ?_) (a' := ?_) #[true, true, true, false, false, false, false, false, false, false, false, false, false, false] rfl rfl (any_of HT_.out (by kernel_rfl)) (fun _ _ _ h => h) (Or.inl ⟨by rfl, ?_⟩) ?_ ?_
          rotate_left
          ·
           intro w'
           go_simp
           with_reducible rfl
          rotate_left
          ·
           simp only [Act.put, List.setIfInBounds_toArray, List.set_cons_zero, List.set_cons_succ, i64_w, i32_w]
           rfl
          refine pure_ (i := 3) (N := some 90) (v := ?_) (a' := ?_) #[true, true, true, true, false, false, false, false, false, false, false, false, false, false] rfl rfl (any_of HT_.out (by kernel_rfl)) (fun _ _ _ h => h) (Or.inl ⟨by rfl, ?_⟩) ?_ ?_
          rotate_left
          ·
           intro w'
           go_simp
           with_reducible rfl
          rotate_left
          ·
           simp only [Act.put, List.setIfInBounds_toArray, List.set_cons_zero, List.set_cons_succ, i64_w, i32_w]
           rfl
          refine pure_ (i := 4) (N := some 91) (v := ?_) (a' := ?_) #[true, true, true, true, true, false, false, false, false, false, false, false, false, false] rfl rfl (any_of HT_.out (by kernel_rfl)) (fun _ _ _ h => h) (Or.inl ⟨by rfl, ?_⟩) ?_ ?_
          rotate_left
          ·
           intro w'
           go_simp
           with_reducible rfl
          rotate_left
          ·
           simp only [Act.put, List.setIfInBounds_toArray, List.set_cons_zero, List.set_cons_succ, i64_w, i32_w]
           rfl
          refine pure_ (i := 5) (N := some 92) (v := ?_) (a' := ?_) #[true, true, true, true, true, true, false, false, false, false, false, false, false, false] rfl rfl (any_of HT_.out (by kernel_rfl)) (fun _ _ _ h => h) (Or.inl ⟨by rfl, ?_⟩) ?_ ?_
          rotate_left
          ·
           intro w'
           go_simp
           with_reducible rfl
          rotate_left
          ·
           simp only [Act.put, List.setIfInBounds_toArray, List.set_cons_zero, List.set_cons_succ, i64_w, i32_w]
           rfl
          refine pure_ (i := 6) (N := some 93) (v := ?_) (a' := ?_) #[true, true, true, true, true, true, true, false, false, false, false, false, false, false] rfl rfl (any_of HT_.out (by kernel_rfl)) (fun _ _ _ h => h) (Or.inl ⟨by rfl, ?_⟩) ?_ ?_
          rotate_left
          ·
           intro w'
           go_simp
           with_reducible rfl
          rotate_left
          ·
           simp only [Act.put, List.setIfInBounds_toArray, List.set_cons_zero, List.set_cons_succ, i64_w, i32_w]
           rfl
          refine pure_ (i := 8) (N := some 95) (v := ?_) (a' := ?_) #[true, true, true, true, true, true, true, false, true, false, false, false, false, false] rfl rfl (any_of HT_.out (by kernel_rfl)) (fun _ _ _ h => h) (Or.inl ⟨by rfl, ?_⟩) ?_ ?_
          rotate_left
          ·
           intro w'
           go_simp
           with_reducible rfl
          rotate_left
          ·
           simp only [Act.put, List.setIfInBounds_toArray, List.set_cons_zero, List.set_cons_succ, i64_w, i32_w]
           rfl
          refine pure_ (i := 9) (N := some 96) (v := ?_) (a' := ?_) #[true, true, true, true, true, true, true, false, true, true, false, false, false, false] rfl rfl (any_of HT_.out (by kernel_rfl)) (fun _ _ _ h => h) (Or.inl ⟨by rfl, ?_⟩) ?_ ?_
          rotate_left
          ·
           intro w'
           go_simp
           with_reducible rfl
          rotate_left
          ·
           simp only [Act.put, List.setIfInBounds_toArray, List.set_cons_zero, List.set_cons_succ, i64_w, i32_w]
           rfl
          refine take_ (i := 7) (N := some 94) (v := ?_) (a' := ?_) #[true, true, true, true, true, true, true, true, true, true, false, false, false, false] rfl rfl (take_ofW HT_.out HW_.out (by kernel_rfl)) (fun _ _ _ h => h) (Or.inl ⟨by rfl, ?_⟩) hHeld ?_ ?_
          rotate_left
          ·
           rintro w' ⟨s0, s1⟩
           go_simp
           with_reducible rfl
          rotate_left
          ·
           simp only [Act.put, List.setIfInBounds_toArray, List.set_cons_zero, List.set_cons_succ, i64_w, i32_w]
           rfl
          refine take_ (i := 10) (N := some 97) (v := ?_) (a' := ?_) #[true, true, true, true, true, true, true, true, true, true, true, false, false, false] rfl rfl (take_ofW HT_.out HW_.out (by kernel_rfl)) (fun _ _ _ h => h) (Or.inl ⟨by rfl, ?_⟩) hHeld ?_ ?_
          rotate_left
          ·
           rintro w' ⟨s0, s1⟩
           go_simp
           with_reducible rfl
          rotate_left
          ·
           simp only [Act.put, List.setIfInBounds_toArray, List.set_cons_zero, List.set_cons_succ, i64_w, i32_w]
           rfl
          refine pure_ (i := 11) (N := some 98) (v := ?_) (a' := ?_) #[true, true, true, true, true, true, true, true, true, true, true, true, false, false] rfl rfl (any_of HT_.out (by kernel_rfl)) (fun _ _ _ h => h) (Or.inl ⟨by rfl, ?_⟩) ?_ ?_
          rotate_left
          ·
           intro w'
           go_simp
           with_reducible rfl
          rotate_left
          ·
           simp only [Act.put, List.setIfInBounds_toArray, List.set_cons_zero, List.set_cons_succ, i64_w, i32_w]
           rfl
          refine pure_ (i := 12) (N := some 99) (v := ?_) (a' := ?_) #[true, true, true, true, true, true, true, true, true, true, true, true, true, false] rfl rfl (any_of HT_.out (by kernel_rfl)) (fun _ _ _ h => h) (Or.inl ⟨by rfl, ?_⟩) ?_ ?_
          rotate_left
          ·
           intro w'
           go_simp
           with_reducible rfl
          rotate_left
          ·
           simp only [Act.put, List.setIfInBounds_toArray, List.set_cons_zero, List.set_cons_succ, i64_w, i32_w]
           rfl
          refine pure_ (i := 13) (N := some 12) (v := ?_) (a' := ?_) #[true, true, true, true, true, true, true, true, true, true, true, true, true, true] rfl rfl (any_of HT_.out (by kernel_rfl)) (fun _ _ _ h => h) (Or.inl ⟨by rfl, ?_⟩) ?_ ?_
          rotate_left
          ·
           intro w'
           go_simp
           with_reducible rfl
          rotate_left
          ·
           simp only [Act.put, List.setIfInBounds_toArray, List.set_cons_zero, List.set_cons_succ, i64_w, i32_w]
           rfl
          refine done_ (done_of HT_.out (by kernel_rfl)) ?_
          clear hHeld
          have HB3 := HBd
          have HK3 := HKd
          have HO3 := HOd
          have HBX3 := HXd
          clear HBd HKd HOd HXd
          go_wp2
          go_roundg gk2
          case measure => omega
          case rel => exact ⟨k + 1, congrArg (Value.int .i64) HKN.out, by rw [elTo_succ HZ.out, HNT.out]; rfl, ⟨by have := HKLT.out; omega, by have := HKK.out; have := HKLT.out; omega⟩, HB3, HK3, HO3, HBX3⟩
        ·
         have q4 : decide ((k : Int) < (SL.length : Int)) = false := decide_eq_false (by omega)
         have q4' : (k < SL.length) = False := eq_false hk
         have q4'' : decide (k < SL.length) = false := decide_eq_false hk
         have hke : k = SL.length := by have := HKK.out; omega
         subst hke
         have HAT := Aside0.mk (show stays s.L nd (j + 1) = if (n1 && (!x.gone || elTo SL x SL.length)) = true then SL ++ [x] else SL by rw [stays_at HXI.out, HST.out, HN1.out])
         have b1 := (blk_cell HBX2.out 1).trans rfl
         clear hk HKK
         cases n1 with
         | false =>
          have HAT2 := Aside0.mk (show stays s.L nd (j + 1) = SL by rw [HAT.out]; simp)
          go_wp2
          go_roundg gko
          case measure => omega
          case rel => exact ⟨j + 1, SL, A, c, congrArg (Value.int .i64) HJN.out, rfl, ⟨by have := HJJ.out; omega, by have := HJ.out; have := HJJ.out; omega⟩, HAT2, HB2, HK2, HO2, HNB⟩
         | true =>
          cases hg : x.gone with
          | false =>
           have HAT2 := Aside0.mk (show stays s.L nd (j + 1) = SL ++ [x] by rw [HAT.out, hg]; simp)
           rw [hg] at b1
           have HFX2 := Aside0.mk (by have h2 := HFX.out; rw [hg] at h2; exact h2)
           have b0 := (blk_cell HBX2.out 0).trans rfl
           have b2 := (blk_cell HBX2.out 2).trans rfl
           have b3 := (blk_cell HBX2.out 3).trans rfl
           have b4 := (blk_cell HBX2.out 4).trans rfl
           go_wp2_with (at_builtin; refine app_R rfl (.tmp 109) (.tmp 111) rfl _ SL x [.int .u64 x.v, .bool false, .int .u32 x.id, .slice A1 x.vec.length c1, .slice A2 x.tags.length c2] rfl (by rfl) HO2.out HFX2.out (by have := HSL.out; have := HJ.out; have := HFW.out; omega) (Nat.le_trans HX.out.at0.size HB2.out.size) ?_; intro v7 w7 ho hO hat; have hba := below_alloc (Below.refl wr.heap.size wr) (.cells #[.int .u64 x.v, .bool false, .int .u32 x.id, .slice A1 x.vec.length c1, .slice A2 x.tags.length c2] 82); have HB7 := Aside0.mk (hO.below_of (bel_trans HB2.out hba) (fun k hk => HNB.out k hk)); have hty := (HO2.out.below hba).typed; have HK7 := Aside0.mk (R_other (Kd.R_below HK2.out hba) hO hty (by decide)); obtain ⟨D7, hD7⟩ : ∃ zz, SL ++ [x] = zz := ⟨_, rfl⟩; rw [hD7] at ho; have HD7 := Aside0.mk hD7; obtain ⟨A7, c7, rfl, -⟩ := ho.slice; have HO7 := Aside0.mk ho; have HN7 := Aside0.mk (fun k (hk : (Value.slice A7 D7.length c7).ownBlock = some k) => by rcases hat k hk with h1 | h1; exact HNB.out k h1; exact Nat.le_trans HB2.out.size h1); clear ho hO hat hba hty hD7)
           go_roundg gko
           case measure => omega
           case rel => exact ⟨j + 1, D7, A7, c7, congrArg (Value.int .i64) HJN.out, rfl, ⟨by have := HJJ.out; omega, by have := HJ.out; have := HJJ.out; omega⟩, ⟨HAT2.out.trans HD7.out⟩, HB7, HK7, HO7, HN7⟩
          | true =>
           rw [hg] at b1
           cases hel : elTo SL x SL.length with
           | false =>
            have HAT2 := Aside0.mk (show stays s.L nd (j + 1) = SL by rw [HAT.out, hg, hel]; simp)
            go_wp2
            go_roundg gko
            case measure => omega
            case rel => exact ⟨j + 1, SL, A, c, congrArg (Value.int .i64) HJN.out, rfl, ⟨by have := HJJ.out; omega, by have := HJ.out; have := HJJ.out; omega⟩, HAT2, HB2, HK2, HO2, HNB⟩
           | true =>
            have HAT2 := Aside0.mk (show stays s.L nd (j + 1) = SL ++ [x] by rw [HAT.out, hg, hel]; simp)
            have HFX2 := Aside0.mk (by have h2 := HFX.out; rw [hg] at h2; exact h2)
            have b0 := (blk_cell HBX2.out 0).trans rfl
            have b2 := (blk_cell HBX2.out 2).trans rfl
            have b3 := (blk_cell HBX2.out 3).trans rfl
            have b4 := (blk_cell HBX2.out 4).trans rfl
            go_wp2_with (at_builtin; refine app_R rfl (.tmp 109) (.tmp 111) rfl _ SL x [.int .u64 x.v, .bool true, .int .u32 x.id, .slice A1 x.vec.length c1, .slice A2 x.tags.length c2] rfl (by rfl) HO2.out HFX2.out (by have := HSL.out; have := HJ.out; have := HFW.out; omega) (Nat.le_trans HX.out.at0.size HB2.out.size) ?_; intro v7 w7 ho hO hat; have hba := below_alloc (Below.refl wr.heap.size wr) (.cells #[.int .u64 x.v, .bool true, .int .u32 x.id, .slice A1 x.vec.length c1, .slice A2 x.tags.length c2] 82); have HB7 := Aside0.mk (hO.below_of (bel_trans HB2.out hba) (fun k hk => HNB.out k hk)); have hty := (HO2.out.below hba).typed; have HK7 := Aside0.mk (R_other (Kd.R_below HK2.out hba) hO hty (by decide)); obtain ⟨D7, hD7⟩ : ∃ zz, SL ++ [x] = zz := ⟨_, rfl⟩; rw [hD7] at ho; have HD7 := Aside0.mk hD7; obtain ⟨A7, c7, rfl, -⟩ := ho.slice; have HO7 := Aside0.mk ho; have HN7 := Aside0.mk (fun k (hk : (Value.slice A7 D7.length c7).ownBlock = some k) => by rcases hat k hk with h1 | h1; exact HNB.out k h1; exact Nat.le_trans HB2.out.size h1); clear ho hO hat hba hty hD7)
            go_roundg gko
            case measure => omega
            case rel => exact ⟨j + 1, D7, A7, c7, congrArg (Value.int .i64) HJN.out, rfl, ⟨by have := HJJ.out; omega, by have := HJ.out; have := HJJ.out; omega⟩, ⟨HAT2.out.trans HD7.out⟩, HB7, HK7, HO7, HN7⟩
    ·
     have q2 : decide ((j : Int) < (s.L.length : Int)) = false := decide_eq_false (by omega)
     have q2' : (j < s.L.length) = False := eq_false hj
     have q2'' : decide (j < s.L.length) = false := decide_eq_false hj
     have hje : j = s.L.length := by have := HJ.out; omega
     subst hje
     have HSE := Aside0.mk (show s.stay keep = SL by unfold St.stay; rw [HKE.out, HND.out]; exact HST.out)
     have HWR := Aside0.mk (show wrap64 ((s.L.length : Int) - (SL.length : Int)) = (s.L.length : Int) - (SL.length : Int) by have := HFW.out; have := HSL.out; unfold wrap64; omega)
     have y1 := (blk_cell hbox 1).trans rfl
     have y2 := (blk_cell hbox 2).trans rfl
     have y3 := (blk_cell hbox 3).trans rfl
     have HBX := Aside0.mk hbox
     have fz : ∀ j, wr.frozen? ⟨g, j, none⟩ = false := fun j => blk_frozen HBX.out j
     clear hj HJ hbox hrd
     go_wp2
     obtain ⟨hfin1, hfin2⟩ := HX.out.swept HB.out HO.out HK.out (Nat.le_trans HSL.out HFW.out) (by have := HKL.out; omega) s.last
     have HFIN1 := Aside0.mk hfin1
     have HFIN2 := Aside0.mk hfin2
     clear hfin1 hfin2
     go_ret
     have es : s.sweep keep = ((s.L.length : Int) - (SL.length : Int), ⟨SL, s.last, s.last, KP⟩) := by unfold St.sweep; rw [HSE.out, HKE.out]
     rw [es]
     exact ⟨by rw [HWR.out]; rfl, HFIN1.out, HFIN2.out⟩
end
end Go.Proofs.Ytjbakaplcjkniaa.Pb
