/- PipeRoom: never is more in a pipe than it has room for; what goes in is the room that there is, or all. No condition. -/
import Derived.Test.YtjbakaplcjkniaaPiC
namespace Go.Proofs.Ytjbakaplcjkniaa.Pi
open Go.RowKit Go.Proofs.YtjbakaplcjkniaaW.PrintWords Go.Proofs.YtjbakaplcjkniaaW.PrintLast Go.Proofs.YtjbakaplcjkniaaW.PrintMore
set_option linter.unusedVariables false
set_option linter.unusedSimpArgs false
attribute [local go_sem] max2_M min2_M max_two min_two
theorem w64 {x : Int} (h : -9223372036854775808 ≤ x ∧ x ≤ 9223372036854775807) : wrap64 x = x := by unfold wrap64; omega
theorem putN_false (room : Int) (L : Pcs) (n : Nat) : putN false room L n = min n (room - total L).toNat := by unfold putN; rw [if_neg (by simp)]
theorem put_fits {room : Int} {L : Pcs} {B : List Int} {d : Int} (h : (total L : Int) ≤ room) : decide (room < (total (putL false room L B d) : Int)) = false := by
  have h1 := putL_total false room L B d
  rw [putN_false] at h1
  exact decide_eq_false (by omega)
theorem put_min {a : Int} {L : Pcs} {n : Nat} (ha : 0 ≤ a ∧ a ≤ 65535) (h : (total L : Int) ≤ a) : min (n : Int) (wrap64 (a - (total L : Int))) = ((putN false a L n : Nat) : Int) := by
  rw [w64 (by omega), putN_false]
  omega
theorem put_sum {a : Int} {L : Pcs} {B : List Int} {d : Int} (ha : 0 ≤ a ∧ a ≤ 65535) (h : (total L : Int) ≤ a) (hb : B.length ≤ 2000) : wrap64 ((total L : Int) + ((putN false a L B.length : Nat) : Int)) = (total (putL false a L B d) : Int) := by
  have h1 := putL_total false a L B d
  have h2 := putN_le false a L B.length
  rw [w64 (by omega), h1]
  omega
def At0 (L : Pcs) : Prop := ∀ x ∈ L, x.2 = 0
theorem at0_due {L : Pcs} (h : At0 L) : dueT 0 L = total L := by
  induction L with
  | nil => rfl
  | cons x L ih =>
    have hx := h x List.mem_cons_self
    have := ih (fun y hy => h y (List.mem_cons_of_mem _ hy))
    unfold dueT at this ⊢
    rw [List.map_cons, List.sum_cons, total_cons, this, hx]
    simp
theorem at0_put {cut : Bool} {room : Int} {L : Pcs} {B : List Int} (h : At0 L) : At0 (putL cut room L B (0 + 0)) := by
  unfold putL
  split
  · exact h
  · intro x hx
    rcases List.mem_append.1 hx with hx | hx
    · exact h x hx
    · rw [List.mem_singleton] at hx
      subst hx
      show (match L.getLast? with | some x => max (0 + 0) x.2 | none => 0 + 0) = (0 : Int)
      cases e : L.getLast? with
      | none => rfl
      | some y => have := h y (List.mem_of_getLast? e); simp [this]
theorem at0_take (now : Int) : ∀ (L : Pcs) (m : Nat), At0 L → At0 (takeP now m L).2
  | [], m, h => h
  | (b, d) :: L, m, h => by
    rw [takeP]
    split
    · exact h
    · split
      · intro x hx
        rcases List.mem_cons.1 hx with rfl | hx
        · exact h (b, d) List.mem_cons_self
        · exact h x (List.mem_cons_of_mem _ hx)
      · exact at0_take now L _ (fun y hy => h y (List.mem_cons_of_mem _ hy))
theorem take_total (now : Int) (L : Pcs) (m : Nat) (h : Full L) : total (takeP now m L).2 ≤ total L := by
  have := (take_bytes now L m h).2.1
  unfold total
  rw [this, List.length_drop]
  omega
set_option maxHeartbeats 8000000 in
set_option maxRecDepth 100000 in
theorem pipeRoom_walk (a : Int) (ha : 0 ≤ a ∧ a ≤ 65535) (A : Option Addr) (c : Nat) (l : List OpT) (w : World) (hc : l.length ≤ c) (hC : Kd.C kop w A l.length l) (hok : okOps l) :
    Calls Try.prog 6 #[.int .u16 a, .slice A l.length c] w fun e w' => e = .returned (.bool true) ∧ Below w.heap.size w w' := by
  have hu := Try.underlying29
  have HC := Aside0.mk hC
  have HOK := Aside0.mk hok
  have HA := Aside0.mk ha
  have wa : wrap64 a = a := by unfold wrap64; omega
  have HLM := Aside0.mk hok.1
  clear hC hok ha
  go_enter Try.func6, Try.ntmps6
  go_wp2_with (first | (go_at_call 13; (with_reducible refine (alive_calls _).mono ?_); rintro e w1 ⟨rfl, hb⟩; have HB1 := Aside0.mk hb; clear hb) | (go_at_call 14; (with_reducible refine (PS.new HB1.out a (by have := HA.out; omega)).mono ?_); rintro e w2 ⟨g, rfl, hP⟩; rw [show max 0 a = a by have := HA.out; omega] at hP; have HP0 := Aside0.mk hP; clear hP))
  go_loopg [6, 7, 8] 60 (fun gk v6 v7 v8 wr => ∃ (i : Nat) (L : Pcs), v6 = .int .i64 i ∧ Aside0 (i ≤ l.length ∧ i ≤ 60 ∧ 60 - i ≤ gk) ∧ Aside0 (PS w wr g a L false) ∧ Aside0 (At0 L))
  case atStart => exact ⟨0, [], rfl, ⟨by omega, by omega, by omega⟩, HP0, ⟨fun x hx => by simp at hx⟩⟩
  case round =>
    obtain ⟨i, L, rfl, HI, HP, HZ⟩ := hrel
    have HB := Aside0.mk HP.out.at0
    by_cases hi : i < l.length
    · have q1 : decide ((i : Int) < (l.length : Int)) = true := decide_eq_true (by omega)
      have q1' : (i : Int) < (l.length : Int) := by omega
      by_cases h60 : i < 60
      · have q2 : decide ((i : Int) < 60) = true := decide_eq_true (by omega)
        have q2' : decide (i < 60) = true := decide_eq_true h60
        obtain ⟨ad, X, cx, x, rfl, hx, hO⟩ := op_at HC.out hi
        have HXO := Aside0.mk (HOK.out.2 x (List.mem_of_getElem? hx))
        have HX := Aside0.mk hO
        have y0 := (hO.below HB.out).y0
        have y1 := (hO.below HB.out).y1
        have y2 := (hO.below HB.out).y2
        have HI60 := Aside0.mk h60
        have HIL := Aside0.mk hi
        have hin : wrap64 ((i : Int) + 1) = ((i + 1 : Nat) : Int) := by unfold wrap64; omega
        clear hx hO hi h60
        by_cases hb : x.2.1.length ≤ 2000
        · have q4 : decide ((2000 : Int) < (x.2.1.length : Int)) = false := decide_eq_false (by omega)
          have q4' : decide (2000 < x.2.1.length) = false := decide_eq_false (by omega)
          have HBL := Aside0.mk hb
          have HFL := Aside0.mk HP.out.full
          cases hk : (x.1.tmod 2 == 0) with
          | true =>
            obtain ⟨n, hn⟩ : ∃ n, putN false a L x.2.1.length = n := ⟨_, rfl⟩
            obtain ⟨L2, hL2⟩ : ∃ L2, putL false a L x.2.1 (0 + 0) = L2 := ⟨_, rfl⟩
            have hmin := put_min (n := x.2.1.length) HA.out HP.out.fits
            have hsum := put_sum (d := 0 + 0) HA.out HP.out.fits hb
            have hle := put_fits (B := x.2.1) (d := 0 + 0) HP.out.fits
            rw [hn] at hmin hsum
            rw [hL2] at hsum hle
            have HZ2 := Aside0.mk (show At0 L2 from hL2 ▸ at0_put HZ.out)
            have HN := Aside0.mk hn
            have HL2 := Aside0.mk hL2
            clear hn hL2 hb
            go_wp2_with (first | (go_at_call 17; (with_reducible refine (PS.len HP.out (by have := HP.out.fits; have := HA.out; omega)).mono ?_); rintro e w4 ⟨rfl, hP, hb⟩; clear HP; have HP := Aside0.mk hP; clear hP hb; (try clear y0 y1 y2); have y0 := (HX.out.below HP.out.at0).y0; have y1 := (HX.out.below HP.out.at0).y1; have y2 := (HX.out.below HP.out.at0).y2) | (go_at_call 15; (with_reducible refine (PS.put HP.out X cx x.2.1 0 0 (by have := HP.out.fits; have := HA.out; omega) (by have := HBL.out; omega) (HX.out.below HP.out.at0).reads HX.out.fit (by decide) (by decide)).mono ?_); rintro e w4 ⟨rfl, hP, hO⟩; rw [HN.out]; rw [HL2.out] at hP; clear HP; have HP := Aside0.mk hP; clear hP hO y0 y1 y2; have y0 := (HX.out.below HP.out.at0).y0; have y1 := (HX.out.below HP.out.at0).y1; have y2 := (HX.out.below HP.out.at0).y2) | (go_at_call 21; (with_reducible refine (PS.due HP.out (by have := HP.out.fits; have := HA.out; omega) 0 (by decide)).mono ?_); rintro e w4 ⟨rfl, hP, hb⟩; rw [at0_due HZ2.out]; clear HP; have HP := Aside0.mk hP; clear hP hb))
            obtain ⟨gk, rfl⟩ : ∃ m, gk = m + 1 := ⟨gk - 1, by have := HI.out; have := HI60.out; omega⟩
            go_roundg gk
            case measure => omega
            case rel => exact ⟨i + 1, L2, congrArg (Value.int .i64) hin, ⟨by have := HI.out; have := HI60.out; have := HIL.out; omega⟩, HP, HZ2⟩
          | false =>
            obtain ⟨L2, hL2⟩ : ∃ L2, (takeP 0 x.2.2.1.toNat L).2 = L2 := ⟨_, rfl⟩
            have HNI := Aside0.mk (wf_i64 HXO.out.2.2.1)
            have HZ2 := Aside0.mk (show At0 L2 from hL2 ▸ at0_take 0 L _ HZ.out)
            have hle : decide (a < (total L2 : Int)) = false := by
              have h1 := take_total 0 L x.2.2.1.toNat HFL.out
              rw [hL2] at h1
              exact decide_eq_false (Int.not_lt.2 (Int.le_trans (Int.ofNat_le.2 h1) HP.out.fits))
            have HL2 := Aside0.mk hL2
            clear hL2 hb
            go_wp2_with (first | (go_at_call 16; (with_reducible refine (PS.take HP.out x.2.2.1 0 (by have := HP.out.fits; have := HA.out; omega) (by decide) HNI.out).mono ?_); rintro e w4 ⟨⟨o4, rfl, hr⟩, hP, hO⟩; rw [HL2.out] at hP; clear HP; have HP := Aside0.mk hP; clear hP hO hr) | (go_at_call 17; (with_reducible refine (PS.len HP.out (by have := HP.out.fits; have := HA.out; omega)).mono ?_); rintro e w4 ⟨rfl, hP, hb⟩; clear HP; have HP := Aside0.mk hP; clear hP hb; (try clear y0 y1 y2); have y0 := (HX.out.below HP.out.at0).y0; have y1 := (HX.out.below HP.out.at0).y1; have y2 := (HX.out.below HP.out.at0).y2) | (go_at_call 21; (with_reducible refine (PS.due HP.out (by have := HP.out.fits; have := HA.out; omega) 0 (by decide)).mono ?_); rintro e w4 ⟨rfl, hP, hb⟩; rw [at0_due HZ2.out]; clear HP; have HP := Aside0.mk hP; clear hP hb))
            obtain ⟨gk, rfl⟩ : ∃ m, gk = m + 1 := ⟨gk - 1, by have := HI.out; have := HI60.out; omega⟩
            go_roundg gk
            case measure => omega
            case rel => exact ⟨i + 1, L2, congrArg (Value.int .i64) hin, ⟨by have := HI.out; have := HI60.out; have := HIL.out; omega⟩, HP, HZ2⟩
        · have q4 : decide ((2000 : Int) < (x.2.1.length : Int)) = true := decide_eq_true (by omega)
          have q4' : decide (2000 < x.2.1.length) = true := decide_eq_true (by omega)
          go_wp2
          go_ret
          exact ⟨rfl, HB.out⟩
      · have q2 : decide ((i : Int) < 60) = false := decide_eq_false (by omega)
        have q2' : decide (i < 60) = false := decide_eq_false h60
        go_wp2
        go_ret
        exact ⟨rfl, HB.out⟩
    · have q1 : decide ((i : Int) < (l.length : Int)) = false := decide_eq_false (by omega)
      have q1' : (i < l.length) = False := eq_false hi
      have q1'' : decide (i < l.length) = false := decide_eq_false hi
      clear hi
      go_wp2
      go_ret
      exact ⟨rfl, HB.out⟩
theorem room_row (a : Int) (ha : (Lit.int .u16 a).wf = true) (v : Value) (s : v = .slice none 0 0 ∨ ∃ a n c, v = .slice (some a) n c) (x : List OpT) {W : World} (K : (Kd.slice 29 kop).K W x v.cells.toList) (o : okOps x) (_ : World) :
    Calls Try.prog 6 #[.int .u16 a, v] W fun e w' => e = .returned (.bool true) ∧ Below W.heap.size W w' := by
  obtain ⟨A, c, rfl, h1, h2⟩ := slice_of s K
  exact pipeRoom_walk a (wf_u16 ha) A c x W h1 h2 o
end Go.Proofs.Ytjbakaplcjkniaa.Pi
