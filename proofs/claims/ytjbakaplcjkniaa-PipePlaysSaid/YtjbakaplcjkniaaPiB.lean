/- Pipe: the document's example. No condition. -/
import Derived.Test.YtjbakaplcjkniaaPiA
import Derived.Lib.SlBytesConst
namespace Go.Proofs.Ytjbakaplcjkniaa.Pi
open Go.RowKit Go.Proofs.YtjbakaplcjkniaaW.PrintWords Go.Proofs.YtjbakaplcjkniaaW.PrintLast Go.Proofs.YtjbakaplcjkniaaW.PrintMore
set_option linter.unusedVariables false
set_option linter.unusedSimpArgs false
attribute [local go_sem] max2_M min2_M max_two min_two
/-- A literal of bytes. -/
theorem C_lit {w : World} {b : Nat} {cells : Array Value} {fr : Nat × Nat} (B : List Int) (h : w.heap[b]? = some (.cells cells 5 fr)) (hc : cells.toList = B.map (Value.int .u8)) (hl : B.length ≤ 1000) : Kd.C (Kd.int .u8) w (some ⟨b, 0, none⟩) B.length B := by
  refine ⟨rfl, by omega, fun _ => ⟨_, rfl, fun j p hj => ⟨[.int .u8 p], rfl, rfl, fun i u hu => ?_⟩⟩⟩
  have hi : i = 0 := by have := (List.getElem?_eq_some_iff.1 hu).1; simp at this; omega
  subst hi
  simp only [List.getElem?_cons_zero, Option.some.injEq] at hu
  subst hu
  rw [add_plain, cell_of_row w b _ cells _ fr h, ← Array.getElem?_toList, hc, List.getElem?_map]
  have e1 : j * (Kd.int .u8).sz + 0 = j := by show j * 1 + 0 = j; omega
  rw [e1, hj]
  rfl
theorem PS.put_lit {X : Nat → Prop} {w0 w : World} {g : Nat} {room : Int} {L : Pcs} {cut : Bool} (h : PS X w0 w g room L cut) (cells : Array Value) (B : List Int) (now delay : Int) (hc : cells.toList = B.map (Value.int .u8)) (hl : B.length ≤ 1000) (ht : total L ≤ 1000000) (hw : 0 ≤ now ∧ now ≤ 4294967295) (hdl : 0 ≤ delay ∧ delay ≤ 4294967295) (f : Nat × Nat) (n : Nat) (hn : B.length = n) (hX : ∀ k, X k → k < w.heap.size) :
    Calls Try.prog 15 #[.pointer (some ⟨g, 0, none⟩), .slice (some ⟨w.heap.size, 0, none⟩) n n, .int .u32 now, .int .u32 delay] (w.alloc (.cells cells 5 f)) fun e w' => e = .returned (.int .i64 (putN cut room L B.length : Nat)) ∧ PS X w0 w' g room (putL cut room L B (now + delay)) cut := by
  subst hn
  exact ((h.below (below_alloc (Below.refl _ _) _)).put _ _ B now delay ht (by omega) (C_lit B (heap_alloc_new w _) hc hl) (Nat.le_refl _) hw hdl (fun k hk => by rw [World.size_alloc]; exact Nat.lt_succ_of_lt (hX k hk))).mono fun e w' ⟨h1, h2, _⟩ => ⟨h1, h2⟩
theorem PS.new {X : Nat → Prop} {w0 w : World} (hb : Below w0.heap.size w0 w) (r : Int) (h1 : r ≤ 9223372036854775807) : Calls Try.prog 14 #[.int .i64 r] w fun e w' => ∃ g, e = .returned (.pointer (some ⟨g, 0, none⟩)) ∧ PS X w0 w' g (max 0 r) [] false := by
  refine (new_calls r w).mono ?_
  rintro e w' ⟨rfl, rfl⟩
  exact ⟨_, rfl, PS.new_ hb _ (by omega) (by omega)⟩
variable {X : Nat → Prop}
abbrev NX : Nat → Prop := fun _ => False
abbrev five : Int := max 0 5
theorem ex1 : putN false five [] ([97, 98, 99] : List Int).length = 3 ∧ putL false five [] [97, 98, 99] (0 + 2) = [([97, 98, 99], 2)] := by decide
theorem ex2 : putN false five [([97, 98, 99], 2)] ([100, 101, 102] : List Int).length = 2 ∧ putL false five [([97, 98, 99], 2)] [100, 101, 102] (1 + 0) = [([97, 98, 99], 2), ([100, 101], 2)] := by decide
theorem ex3 : takeP 1 (Int.toNat 9) [([97, 98, 99], 2), ([100, 101], 2)] = ([], [([97, 98, 99], 2), ([100, 101], 2)]) := by decide
theorem ex4 : takeP 2 (Int.toNat 4) [([97, 98, 99], 2), ([100, 101], 2)] = ([97, 98, 99, 100], [([101], 2)]) := by decide
theorem ex5 : total [([101], 2)] = 1 := by decide
theorem ex6 : putN true five [] ([120] : List Int).length = 0 := by decide
theorem lit_run (w : World) (C : Array Value) (n c g : Nat) (hg : g = w.heap.size) : (convert 26 26 (.slice (some ⟨g, 0, none⟩) n c)).run Try.prog (w.alloc (.cells C 5)) = .ok (.slice (some ⟨w.heap.size, 0, none⟩) n c) (w.alloc (.cells C 5 (C.size, C.size + 1))) := by
  subst hg
  exact Lib.run_convert_bytes_const w _ _ C n c Try.underlying26 Try.underlying5
theorem ex_put1 {w0 w : World} {g : Nat} (h : PS NX w0 w g five [] false) : Calls Try.prog 15 #[.pointer (some ⟨g, 0, none⟩), .slice (some ⟨w.heap.size, 0, none⟩) 3 3, .int .u32 0, .int .u32 2] (w.alloc (.cells #[.int .u8 97, .int .u8 98, .int .u8 99] 5 (3, 4))) fun e w' => e = .returned (.int .i64 3) ∧ PS NX w0 w' g five [([97, 98, 99], 2)] false := by
  refine (h.put_lit _ [97, 98, 99] 0 2 rfl (by decide) (by decide) (by decide) (by decide) _ 3 rfl (fun k hk => hk.elim)).mono fun e w' ⟨h1, h2⟩ => ?_
  rw [ex1.1] at h1
  rw [ex1.2] at h2
  exact ⟨h1, h2⟩
theorem ex_put2 {w0 w : World} {g : Nat} (h : PS NX w0 w g five [([97, 98, 99], 2)] false) : Calls Try.prog 15 #[.pointer (some ⟨g, 0, none⟩), .slice (some ⟨w.heap.size, 0, none⟩) 3 3, .int .u32 1, .int .u32 0] (w.alloc (.cells #[.int .u8 100, .int .u8 101, .int .u8 102] 5 (3, 4))) fun e w' => e = .returned (.int .i64 2) ∧ PS NX w0 w' g five [([97, 98, 99], 2), ([100, 101], 2)] false := by
  refine (h.put_lit _ [100, 101, 102] 1 0 rfl (by decide) (by decide) (by decide) (by decide) _ 3 rfl (fun k hk => hk.elim)).mono fun e w' ⟨h1, h2⟩ => ?_
  rw [ex2.1] at h1
  rw [ex2.2] at h2
  exact ⟨h1, h2⟩
theorem ex_take1 {w0 w : World} {g : Nat} (h : PS NX w0 w g five [([97, 98, 99], 2), ([100, 101], 2)] false) : Calls Try.prog 16 #[.pointer (some ⟨g, 0, none⟩), .int .i64 9, .int .u32 1] w fun e w' => (∃ a c, e = .returned (.slice a 0 c)) ∧ PS NX w0 w' g five [([97, 98, 99], 2), ([100, 101], 2)] false := by
  refine (h.take 9 1 (by decide) (by decide) (by decide)).mono fun e w' ⟨⟨o, h1, h2⟩, h3, _⟩ => ?_
  rw [ex3] at h2 h3
  obtain ⟨a, c, rfl⟩ := Kd.R_slice h2
  exact ⟨⟨a, c, h1⟩, h3⟩
theorem ex_take2 {w0 w : World} {g : Nat} (h : PS NX w0 w g five [([97, 98, 99], 2), ([100, 101], 2)] false) : Calls Try.prog 16 #[.pointer (some ⟨g, 0, none⟩), .int .i64 4, .int .u32 2] w fun e w' => (∃ a c, e = .returned (.slice a 4 c) ∧ Kd.C (Kd.int .u8) w' a 4 [97, 98, 99, 100]) ∧ PS NX w0 w' g five [([101], 2)] false := by
  refine (h.take 4 2 (by decide) (by decide) (by decide)).mono fun e w' ⟨⟨o, h1, h2⟩, h3, _⟩ => ?_
  rw [ex4] at h2 h3
  obtain ⟨a, c, rfl, _, hC⟩ := Kd.R_reads h2
  exact ⟨⟨a, c, h1, hC⟩, h3⟩
theorem ex_len {w0 w : World} {g : Nat} (h : PS NX w0 w g five [([101], 2)] false) : Calls Try.prog 17 #[.pointer (some ⟨g, 0, none⟩)] w fun e w' => e = .returned (.int .i64 1) ∧ PS NX w0 w' g five [([101], 2)] false :=
  (h.len (by decide)).mono fun e w' ⟨h1, h2, _⟩ => ⟨h1, h2⟩
theorem ex_cut {w0 w : World} {g : Nat} (h : PS NX w0 w g five [([101], 2)] false) : Calls Try.prog 20 #[.pointer (some ⟨g, 0, none⟩)] w fun e w' => e = .returned (.int .i64 1) ∧ PS NX w0 w' g five [] true :=
  (h.cut_ (by decide)).mono fun e w' ⟨h1, h2, _⟩ => ⟨h1, h2⟩
theorem ex_put3 {w0 w : World} {g : Nat} (h : PS NX w0 w g five [] true) : Calls Try.prog 15 #[.pointer (some ⟨g, 0, none⟩), .slice (some ⟨w.heap.size, 0, none⟩) 1 1, .int .u32 9, .int .u32 0] (w.alloc (.cells #[.int .u8 120] 5 (1, 2))) fun e w' => e = .returned (.int .i64 0) ∧ Below w0.heap.size w0 w' := by
  refine (h.put_lit _ [120] 9 0 rfl (by decide) (by decide) (by decide) (by decide) _ 1 rfl (fun k hk => hk.elim)).mono fun e w' ⟨h1, h2⟩ => ?_
  rw [ex6] at h1
  exact ⟨h1, h2.at0⟩
set_option maxHeartbeats 8000000 in
set_option maxRecDepth 100000 in
theorem alive_calls (w : World) : Calls Try.prog 13 #[] w fun e w' => e = .returned (.bool true) ∧ Below w.heap.size w w' := by
  have hu := Try.underlying92
  have hu2 := Try.underlying90
  have hs : (strOfNums [97, 98, 99, 100]) = ⟨#[97, 98, 99, 100]⟩ := by decide
  go_enter Try.func13, Try.ntmps13
  go_wp2_with (first
    | (go_at_call 15; (have := HG; (with_reducible refine (ex_put3 HG.out).mono ?_); rintro e w8 ⟨rfl, hP⟩; have HZ := Aside0.mk hP; clear hP))
    | (go_at_call 15; (have := HB; (with_reducible refine (ex_put2 HB.out).mono ?_); rintro e w3 ⟨rfl, hP⟩; have HC := Aside0.mk hP; clear hP))
    | (go_at_call 15; (have := HA; (with_reducible refine (ex_put1 HA.out).mono ?_); rintro e w2 ⟨rfl, hP⟩; have HB := Aside0.mk hP; have cv2 := lit_run w2 #[.int .u8 100, .int .u8 101, .int .u8 102] 3 3 _ rfl; clear hP))
    | (go_at_call 14; ((with_reducible refine (PS.new (X := NX) (Below.refl _ _) 5 (by decide)).mono ?_); rintro e w1 ⟨g, rfl, hP⟩; have HA := Aside0.mk hP; have cv1 := lit_run w1 #[.int .u8 97, .int .u8 98, .int .u8 99] 3 3 _ rfl; clear hP))
    | (go_at_call 16; (have := HD; (with_reducible refine (ex_take2 HD.out).mono ?_); rintro e w5 ⟨⟨a5, c5, rfl, hC⟩, hP⟩; have HE := Aside0.mk hP; have cs := Kd.C_string (c := c5) Try.underlying26 Try.underlying5 Try.underlying9 hC; rw [hs] at cs; clear hP hC))
    | (go_at_call 16; (have := HC; (with_reducible refine (ex_take1 HC.out).mono ?_); rintro e w4 ⟨⟨a4, c4, rfl⟩, hP⟩; have HD := Aside0.mk hP; clear hP))
    | (go_at_call 17; ((with_reducible refine (ex_len HE.out).mono ?_); rintro e w6 ⟨rfl, hP⟩; have HF := Aside0.mk hP; clear hP))
    | (go_at_call 20; ((with_reducible refine (ex_cut HF.out).mono ?_); rintro e w7 ⟨rfl, hP⟩; have HG := Aside0.mk hP; have cv3 := lit_run w7 #[.int .u8 120] 1 1 _ rfl; clear hP)))
  go_ret
  exact ⟨rfl, HZ.out⟩
end Go.Proofs.Ytjbakaplcjkniaa.Pi
