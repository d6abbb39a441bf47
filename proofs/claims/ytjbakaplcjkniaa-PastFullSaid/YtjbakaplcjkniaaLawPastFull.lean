/- PastFull: there are so many rows at most; a sweep of an item that was put again and again leaves one. No condition. -/
import Derived.Test.YtjbakaplcjkniaaPaA
namespace Go.Proofs.Ytjbakaplcjkniaa.Pa
open Go.RowKit Go.Maps Go.Proofs.YtjbakaplcjkniaaW.PrintWords Go.Proofs.YtjbakaplcjkniaaW.PrintLast Go.Proofs.YtjbakaplcjkniaaW.PrintMore Go.Proofs.Ytjbakaplcjkniaa.Pi
set_option linter.unusedVariables false
set_option linter.unusedSimpArgs false
def fullRow (id : Int) (k : Nat) : Row := ⟨((1 + k / 2 : Nat) : Int), false, id, [], []⟩
def fullLast (i : Nat) : Int := if i = 0 then 0 else ((1 + (i - 1) / 2 : Nat) : Int)
def fullS (id : Int) (i : Nat) : St := ⟨(List.range i).map (fullRow id), fullLast i, 0, []⟩
theorem full_len (id : Int) (i : Nat) : (fullS id i).L.length = i := by unfold fullS; simp
theorem full_at (id : Int) {i k : Nat} (h : k < i) : (fullS id i).L[k]? = some (fullRow id k) := by unfold fullS; simp [h]
theorem full_lay (id : Int) {i : Nat} (h : i < 1024) : (fullS id i).lay ⟨((1 + i / 2 : Nat) : Int), false, id, [], []⟩ = (0, fullS id (i + 1)) := by
  unfold St.lay
  rw [if_neg, if_neg (by rw [full_len]; omega)]
  · unfold fullS
    dsimp only
    rw [List.range_succ, List.map_append]
    have e : fullLast (i + 1) = ((1 + i / 2 : Nat) : Int) := by unfold fullLast; rw [if_neg (by omega)]; rfl
    rw [e]
    rfl
  · show ¬ (((1 + i / 2 : Nat) : Int) = 0 ∨ ((1 + i / 2 : Nat) : Int) < fullLast i)
    unfold fullLast
    split <;> omega
theorem full_lay4 (id : Int) (b : Bool) : (fullS id 1024).lay ⟨2000, b, id, [], []⟩ = (4, fullS id 1024) := by
  unfold St.lay
  rw [if_neg (by show ¬ ((2000 : Int) = 0 ∨ (2000 : Int) < fullLast 1024); unfold fullLast; simp), if_pos (by rw [full_len]; exact Nat.le_refl _)]
theorem full_atP (id v : Int) (h : 512 ≤ v) : atP (fullS id 1024).L id v = some 1023 := by
  have hx := full_at id (i := 1024) (k := 1023) (by omega)
  have h1 := congrFun (nowTo_fit hx (v := v) (by show ((1 + 1023 / 2 : Nat) : Int) ≤ v; omega)) id
  rw [← nowTo_all, full_len]
  exact h1.trans (if_pos rfl)
theorem full_cut (id : Int) : (fullS id 1024).cut 2000 id = (4, fullS id 1024) := by
  unfold St.cut
  rw [if_neg (by show ¬ ((2000 : Int) = 0 ∨ (2000 : Int) < fullLast 1024); unfold fullLast; simp), if_neg, full_lay4]
  unfold missing
  rw [full_atP id 2000 (by omega)]
  dsimp only
  rw [full_at id (by omega)]
  simp [fullRow]
theorem stays_none {L : List Row} {nd : Nat → Bool} : ∀ {k : Nat}, (∀ j, j < k → nd j = false) → stays L nd k = [] := by
  intro k
  induction k with
  | zero => intro _; rfl
  | succ k ih =>
    intro h
    unfold stays
    rw [ih (fun j hj => h j (by omega)), h k (by omega)]
    split <;> simp
theorem stays_last {L : List Row} {nd : Nat → Bool} {k : Nat} {x : Row} (hx : L[k]? = some x) (hg : x.gone = false) (h0 : stays L nd k = []) (hn : nd k = true) : stays L nd (k + 1) = [x] := by
  unfold stays
  rw [hx]
  dsimp only
  rw [h0, hn, hg]
  rfl
theorem full_need (id : Int) (j : Nat) : needAt (fullS id 1024).L 512 j = true ↔ j = 1023 := by
  rw [needAt_iff]
  constructor
  · rintro ⟨z, hz⟩
    obtain ⟨x, hx, hid, _⟩ := atP_some hz
    have hj := (List.getElem?_eq_some_iff.1 hx).1
    rw [full_len] at hj
    rw [full_at id hj] at hx
    cases hx
    have : z = id := hid.symm
    subst this
    rw [full_atP z 512 (by omega)] at hz
    injection hz with hz
    exact hz.symm
  · rintro rfl
    exact ⟨id, full_atP id 512 (by omega)⟩
def fullEnd (id : Int) : St := ⟨[fullRow id 1023], 512, 512, []⟩
theorem full_sweep (id : Int) : (fullS id 1024).sweep [] = (1023, fullEnd id) := by
  have hl : (fullS id 1024).last = 512 := by unfold fullS fullLast; rfl
  have hn : ∀ j, needs (fullS id 1024).L ((fullS id 1024).kept [] ++ [(fullS id 1024).last]) j = decide (j = 1023) := by
    intro j
    rw [hl]
    show (needAt (fullS id 1024).L 512 j || false) = _
    rw [Bool.or_false, Bool.eq_iff_iff, full_need, decide_eq_true_eq]
  have hs : (fullS id 1024).stay [] = [fullRow id 1023] := by
    unfold St.stay
    rw [full_len]
    exact stays_last (full_at id (by omega)) rfl (stays_none (k := 1023) (fun j hj => by rw [hn]; exact decide_eq_false (by omega))) (by rw [hn]; rfl)
  unfold St.sweep
  rw [hs, hl, full_len]
  rfl
theorem full_end (id : Int) : (fullEnd id).lay ⟨2000, false, id, [], []⟩ = (0, ⟨[fullRow id 1023, ⟨2000, false, id, [], []⟩], 2000, 512, []⟩) := by
  unfold St.lay fullEnd
  simp
theorem full_fit {id : Int} (h : (Lit.int .u32 id).wf = true) (i : Nat) : (fullS id i).Fit := by
  intro x hx
  have hx : x ∈ (List.range i).map (fullRow id) := hx
  obtain ⟨k, _, rfl⟩ := List.mem_map.1 hx
  exact h
set_option maxHeartbeats 4000000 in
set_option maxRecDepth 100000 in
theorem pastFull_walk (a id : Int) (ha : 0 ≤ a ∧ a ≤ 255) (hid : (Lit.int .u32 id).wf = true) (w : World) :
    Calls Try.prog 7 #[.int .u8 a, .int .u32 id] w fun e w' => e = .returned (.bool true) ∧ Below w.heap.size w w' := by
  have hu4 := Try.underlying54
  have HA := Aside0.mk ha
  have HID := Aside0.mk hid
  clear ha hid
  go_enter Try.func7, Try.ntmps7
  go_wp2_with (first | (go_at_call 23; (with_reducible refine (alive_calls _).mono ?_); rintro e w1 ⟨rfl, hb⟩; have HB1 := Aside0.mk hb; clear hb) | (go_at_call 24; (with_reducible refine (PX.new (Z := fun _ => False) HB1.out (fun k hk => hk.elim)).mono ?_); rintro e w2 ⟨g, rfl, hP, -⟩; have HP0 := Aside0.mk hP; clear hP))
  go_loopg [6] 1024 (fun gk v6 wr => ∃ (i : Nat), v6 = .int .i64 i ∧ Aside0 (i ≤ 1024 ∧ 1024 - i ≤ gk) ∧ Aside0 (PX (fun _ => False) w wr g (fullS id i)))
  case atStart => exact ⟨0, rfl, ⟨by omega, by omega⟩, HP0⟩
  case round =>
    clear HP0
    obtain ⟨i, rfl, HI, HP⟩ := hrel
    by_cases hi : i < 1024
    · have q1 : decide ((i : Int) < 1024) = true := decide_eq_true (by omega)
      have q1' : decide (i < 1024) = true := decide_eq_true hi
      have hin : wrap64 ((i : Int) + 1) = ((i + 1 : Nat) : Int) := by unfold wrap64; omega
      have HIN := Aside0.mk hin
      have HII := Aside0.mk hi
      have HV := Aside0.mk (show IntKind.u64.wrap (wrap64 (1 + wrap64 ((i : Int) / 2))) = ((1 + i / 2 : Nat) : Int) by
        have h1 : wrap64 ((i : Int) / 2) = ((i / 2 : Nat) : Int) := by unfold wrap64; omega
        have h2 : wrap64 (1 + ((i / 2 : Nat) : Int)) = ((1 + i / 2 : Nat) : Int) := by unfold wrap64; omega
        rw [h1, h2]
        show IntKind.wrap .u64 _ = _
        unfold IntKind.wrap
        simp only [IntKind.bits, IntKind.signed, Bool.false_and, Bool.false_eq_true, if_false]
        omega)
      clear hi hin
      go_wp2_with (go_at_call 25; rw [HV.out]; (with_reducible refine (PX.put0 HP.out _ id (by omega) (fun k hk => hk.elim)).mono ?_); rintro e w3 ⟨rfl, hP, hb⟩; rw [full_lay id HII.out] at hP ⊢; have HP3 := Aside0.mk hP; clear hP hb)
      obtain ⟨gk, rfl⟩ : ∃ m, gk = m + 1 := ⟨gk - 1, by have := HI.out; have := HII.out; omega⟩
      go_roundg gk
      case measure => omega
      case rel => exact ⟨i + 1, congrArg (Value.int .i64) HIN.out, ⟨by have := HII.out; omega, by have := HI.out; have := HII.out; omega⟩, HP3⟩
    · have q1 : decide ((i : Int) < 1024) = false := decide_eq_false (by omega)
      have q1' : decide (i < 1024) = false := decide_eq_false hi
      have hie : i = 1024 := by have := HI.out; omega
      subst hie
      clear HI hi
      go_wp2
      go_loopg [7] 5 (fun gk v7 wr => ∃ (i : Nat), v7 = .int .i64 i ∧ Aside0 (i ≤ 5 ∧ 5 - i ≤ gk) ∧ Aside0 (PX (fun _ => False) w wr g (fullS id 1024)))
      case atStart => exact ⟨0, rfl, ⟨by omega, by omega⟩, HP⟩
      case round =>
        clear HP
        obtain ⟨i, rfl, HI, HP⟩ := hrel
        have hin : wrap64 ((i : Int) + 1) = ((i + 1 : Nat) : Int) := by have := HI.out; unfold wrap64; omega
        have HIN := Aside0.mk hin
        clear hin
        have hm5 : wrap64 (a.tmod 5) ≤ 5 := by have := HA.out; have h1 : a.tmod 5 = a % 5 := Int.tmod_eq_emod_of_nonneg this.1; rw [h1]; unfold wrap64; omega
        have HM5 := Aside0.mk hm5
        by_cases hi : (i : Int) < wrap64 (a.tmod 5)
        · have q2 : decide ((i : Int) < wrap64 (a.tmod 5)) = true := decide_eq_true hi
          have hi5 : i < 5 := by omega
          have HII := Aside0.mk hi5
          clear hi5 hm5 hi
          go_wp2_with (first | (go_at_call 25; (with_reducible refine (PX.put0 HP.out 2000 id (by omega) (fun k hk => hk.elim)).mono ?_); rintro e w3 ⟨rfl, hP, hb⟩; rw [full_lay4] at hP ⊢; have HP3 := Aside0.mk hP; clear hP hb) | (go_at_call 26; (with_reducible refine (PX.cut HP3.out 2000 id).mono ?_); rintro e w4 ⟨rfl, hP, hb⟩; rw [full_cut] at hP ⊢; have HP4 := Aside0.mk hP; clear hP hb))
          obtain ⟨gk, rfl⟩ : ∃ m, gk = m + 1 := ⟨gk - 1, by have := HI.out; have := HII.out; omega⟩
          go_roundg gk
          case measure => omega
          case rel => exact ⟨i + 1, congrArg (Value.int .i64) HIN.out, ⟨by have := HII.out; omega, by have := HI.out; have := HII.out; omega⟩, HP4⟩
        · have q2 : decide ((i : Int) < wrap64 (a.tmod 5)) = false := decide_eq_false hi
          clear hi hm5 HI
          go_wp2_with (first
            | (go_at_call 27; (with_reducible refine (PX.last HP.out).mono ?_); rintro e w3 ⟨rfl, hP, hb⟩; rw [show (fullS id 1024).last = 512 from rfl]; have HP3 := Aside0.mk hP; clear hP hb)
            | (go_at_call 28; (with_reducible refine (PX.sweep0 HP3.out (full_fit HID.out 1024)).mono ?_); rintro e w4 ⟨rfl, hP⟩; rw [full_sweep] at hP ⊢; have HP4 := Aside0.mk hP; clear hP)
            | (go_at_call 29; (with_reducible refine (PX.rows_ HP4.out).mono ?_); rintro e w5 ⟨rfl, hP, hb⟩; rw [show (((fullEnd id).L.length : Nat) : Int) = 1 from rfl]; have HP5 := Aside0.mk hP; clear hP hb)
            | (go_at_call 25; (with_reducible refine (PX.put0 HP5.out 2000 id (by omega) (fun k hk => hk.elim)).mono ?_); rintro e w6 ⟨rfl, hP, hb⟩; rw [full_end] at hP ⊢; have HB6 := Aside0.mk hb; clear hP hb))
          go_ret
          exact ⟨rfl, HB6.out⟩
theorem wf_u8p {m : Int} (h : (Lit.int .u8 m).wf = true) : 0 ≤ m ∧ m ≤ 255 := by simp [Lit.wf, IntKind.min, IntKind.max, IntKind.bits, IntKind.signed] at h; omega
theorem full_row (a : Int) (h1 : (Lit.int .u8 a).wf = true) (id : Int) (h2 : (Lit.int .u32 id).wf = true) (W : World) :
    Calls Try.prog 7 #[.int .u8 a, .int .u32 id] W fun e w' => e = .returned (.bool true) ∧ Below W.heap.size W w' :=
  pastFull_walk a id (wf_u8p h1) h2 W
end Go.Proofs.Ytjbakaplcjkniaa.Pa
