/- Past: lists that may be written over. No condition. -/
import Derived.Test.YtjbakaplcjkniaaPaG
namespace Go.Proofs.Ytjbakaplcjkniaa.Pa
open Go.RowKit Go.Maps Go.Proofs.YtjbakaplcjkniaaW.PrintWords Go.Proofs.YtjbakaplcjkniaaW.PrintLast Go.Proofs.YtjbakaplcjkniaaW.PrintMore Go.Proofs.Ytjbakaplcjkniaa.Pi Go.Proofs.Ytjbakaplcjkniaa.Q
set_option linter.unusedVariables false
set_option linter.unusedSimpArgs false
section
variable {Z Z' : Nat → Prop} {w0 w w' : World} {g : Nat} {s : St}
theorem FrR.free {x : Row} {cs : List Value} (h : FrR Z w x cs) : FrR (fun k => Z k ∨ w.heap.size ≤ k) w x cs := fun W hW => h W ⟨hW.size, fun k hk ht hz => hW.block k hk ht (fun hc => hc.elim hz (fun h2 => by omega))⟩
theorem PX.free (h : PX Z w0 w g s) : PX (fun k => Z k ∨ w.heap.size ≤ k) w0 w g s := by
  obtain ⟨vL, vK, h1, h2, h3, h4, h5⟩ := h
  obtain ⟨inner, r1, r2⟩ := h1.row
  exact ⟨vL, vK, ⟨h1.box, ⟨inner, r1, fun j x hx => (r2 j x hx).free⟩, h1.kept, h1.gb⟩, h2, h3, h4, fun k hk => hk.elim (h5 k) (fun h => Nat.le_trans h2.size h)⟩
theorem PX.rez (h : PX Z w0 w g s) (hs : s.L = []) (hZ : ∀ k, Z' k → w0.heap.size ≤ k) : PX Z' w0 w g s := by
  obtain ⟨vL, vK, h1, h2, h3, h4, h5⟩ := h
  obtain ⟨inner, r1, r2⟩ := h1.row
  exact ⟨vL, vK, ⟨h1.box, ⟨inner, r1, fun j x hx => by rw [hs] at hx; simp at hx⟩, h1.kept, h1.gb⟩, h2, h3, h4, hZ⟩
/-- A list that may turn is written. -/
theorem PX.write (h : PX Z w0 w g s) {k t : Nat} {cells : Array Value} (hk : w.heap[k]? = some (.cells cells t (0, 0))) (ht : t = 21 ∨ t = 9) (hz : Z k) (j : Nat) (u : Value) : PX Z w0 (w.setCell ⟨k, j, none⟩ u) g s := by
  obtain ⟨vL, vK, h1, h2, h3, h4, h5⟩ := h
  have hO : Only (fun i => i = k) w (w.setCell ⟨k, j, none⟩ u) := (Only.refl _ _).set _ _ rfl
  have hne : ∀ {i t' : Nat} {c : Array Value}, w.heap[i]? = some (.cells c t' (0, 0)) → t' ≠ 21 → t' ≠ 9 → ¬ i = k := fun {i t' c} hi n1 n2 e => by
    subst e
    have := blk_type hi hk
    rcases ht with ht | ht
    · exact n1 (this.trans ht)
    · exact n2 (this.trans ht)
  refine ⟨vL, vK, ⟨(hO.block g h1.lt (hne h1.box (by decide) (by decide))).trans h1.box, h1.row.move (fun i hi => hO.block i (h1.row.lt i hi) (fun e => ?_)) ⟨hO.size, fun i hi _ hzi => hO.block i hi (fun e => hzi (e ▸ hz))⟩, Kd.R_set h1.kept hk (by rcases ht with rfl | rfl <;> decide) j u, h1.gb⟩, hO.below_of h2 (fun i hi => by subst hi; exact h5 _ hz), h3, h4, h5⟩
  obtain ⟨c, hc⟩ := h1.row.typed i hi
  exact hne hc (by decide) (by decide) e
end
/-- A block of numbers; of texts. -/
def NumArr (w : World) (b n : Nat) : Prop := ∃ cells : Array Value, w.heap[b]? = some (.cells cells 21 (0, 0)) ∧ ∀ i, i < n → ∃ x, cells[i]? = some (.int .i32 x)
def StrArr (w : World) (b n : Nat) : Prop := ∃ cells : Array Value, w.heap[b]? = some (.cells cells 9 (0, 0)) ∧ ∀ i, i < n → ∃ x, cells[i]? = some (.string x)
section
variable {w w1 : World} {b n : Nat}
theorem NumArr.lt (h : NumArr w b n) : b < w.heap.size := by obtain ⟨c, h, _⟩ := h; exact blk_lt h
theorem StrArr.lt (h : StrArr w b n) : b < w.heap.size := by obtain ⟨c, h, _⟩ := h; exact blk_lt h
theorem NumArr.same (h : NumArr w b n) (e : w1.heap[b]? = w.heap[b]?) : NumArr w1 b n := by obtain ⟨c, h1, h2⟩ := h; exact ⟨c, e.trans h1, h2⟩
theorem StrArr.same (h : StrArr w b n) (e : w1.heap[b]? = w.heap[b]?) : StrArr w1 b n := by obtain ⟨c, h1, h2⟩ := h; exact ⟨c, e.trans h1, h2⟩
theorem NumArr.below (h : NumArr w b n) (hb : Below w.heap.size w w1) : NumArr w1 b n := h.same (hb.block b h.lt)
theorem StrArr.below (h : StrArr w b n) (hb : Below w.heap.size w w1) : StrArr w1 b n := h.same (hb.block b h.lt)
theorem NumArr.set (h : NumArr w b n) (j : Nat) (y : Int) : NumArr (w.setCell ⟨b, j, none⟩ (.int .i32 y)) b n := by
  obtain ⟨c, h1, h2⟩ := h
  refine ⟨_, blk_set h1 j _, fun i hi => ?_⟩
  obtain ⟨x, hx⟩ := h2 i hi
  rw [Array.getElem?_setIfInBounds]
  by_cases e : j = i
  · subst e
    have hj := (Array.getElem?_eq_some_iff.1 hx).1
    exact ⟨y, by simp [hj]⟩
  · exact ⟨x, by rw [if_neg e]; exact hx⟩
theorem StrArr.set (h : StrArr w b n) (j : Nat) (y : ByteArray) : StrArr (w.setCell ⟨b, j, none⟩ (.string y)) b n := by
  obtain ⟨c, h1, h2⟩ := h
  refine ⟨_, blk_set h1 j _, fun i hi => ?_⟩
  obtain ⟨x, hx⟩ := h2 i hi
  rw [Array.getElem?_setIfInBounds]
  by_cases e : j = i
  · subst e
    have hj := (Array.getElem?_eq_some_iff.1 hx).1
    exact ⟨y, by simp [hj]⟩
  · exact ⟨x, by rw [if_neg e]; exact hx⟩
theorem NumArr.at (h : NumArr w b n) {i : Nat} (hi : i < n) : (∃ x, w.cell? ⟨b, i, none⟩ = some (.int .i32 x)) ∧ w.frozen? ⟨b, i, none⟩ = false := by
  obtain ⟨c, h1, h2⟩ := h
  obtain ⟨x, hx⟩ := h2 i hi
  exact ⟨⟨x, (blk_cell h1 i).trans hx⟩, blk_frozen h1 i⟩
theorem StrArr.at (h : StrArr w b n) {i : Nat} (hi : i < n) : (∃ x, w.cell? ⟨b, i, none⟩ = some (.string x)) ∧ w.frozen? ⟨b, i, none⟩ = false := by
  obtain ⟨c, h1, h2⟩ := h
  obtain ⟨x, hx⟩ := h2 i hi
  exact ⟨⟨x, (blk_cell h1 i).trans hx⟩, blk_frozen h1 i⟩
theorem NumArr.write {Z : Nat → Prop} {w0 : World} {g : Nat} {s : St} (hp : PX Z w0 w g s) (h : NumArr w b n) (hz : Z b) (j : Nat) (u : Value) : PX Z w0 (w.setCell ⟨b, j, none⟩ u) g s := by
  obtain ⟨c, h1, h2⟩ := h
  exact hp.write h1 (.inl rfl) hz j u
theorem StrArr.write {Z : Nat → Prop} {w0 : World} {g : Nat} {s : St} (hp : PX Z w0 w g s) (h : StrArr w b n) (hz : Z b) (j : Nat) (u : Value) : PX Z w0 (w.setCell ⟨b, j, none⟩ u) g s := by
  obtain ⟨c, h1, h2⟩ := h
  exact hp.write h1 (.inr rfl) hz j u
/-- A block of another type stays. -/
theorem NumArr.far {t k : Nat} {cs : Array Value} (h : NumArr w b n) (hk : w.heap[k]? = some (.cells cs t (0, 0))) (ht : t ≠ 21) (j : Nat) (u : Value) : (w.setCell ⟨b, j, none⟩ u).heap[k]? = some (.cells cs t (0, 0)) := by
  obtain ⟨c, h1, h2⟩ := h
  exact (Below.heap_setCell w ⟨b, j, none⟩ u k (fun e => by have e : k = b := e; subst e; exact ht (blk_type hk h1))).trans hk
theorem StrArr.far {t k : Nat} {cs : Array Value} (h : StrArr w b n) (hk : w.heap[k]? = some (.cells cs t (0, 0))) (ht : t ≠ 9) (j : Nat) (u : Value) : (w.setCell ⟨b, j, none⟩ u).heap[k]? = some (.cells cs t (0, 0)) := by
  obtain ⟨c, h1, h2⟩ := h
  exact (Below.heap_setCell w ⟨b, j, none⟩ u k (fun e => by have e : k = b := e; subst e; exact ht (blk_type hk h1))).trans hk
theorem StrArr.past {k m : Nat} (h : NumArr w b n) (h2 : StrArr w k m) (j : Nat) (u : Value) : StrArr (w.setCell ⟨b, j, none⟩ u) k m := by
  obtain ⟨c, e1, e2⟩ := h2
  exact ⟨c, h.far e1 (by decide) j u, e2⟩
end
/-- A list's block, where the list isn't empty. -/
def NArr (w : World) (A : Option Addr) (b n : Nat) : Prop := 0 < n → A = some ⟨b, 0, none⟩ ∧ NumArr w b n
def SArr (w : World) (A : Option Addr) (b n : Nat) : Prop := 0 < n → A = some ⟨b, 0, none⟩ ∧ StrArr w b n
theorem C_str_at {w : World} {A : Option Addr} {xs : List ByteArray} {n : Nat} (h : Kd.C Kd.string w A n xs) {i : Nat} (hi : i < xs.length) : ∃ ad x, A = some ad ∧ xs[i]? = some x ∧ w.cell? (ad.add i) = some (.string x) := by
  obtain ⟨ad, e, hc⟩ := h.2.2 (by rw [← h.1]; omega)
  obtain ⟨cs, h1, h2, h3⟩ := hc i _ (List.getElem?_eq_getElem hi)
  have h2' : cs = [.string xs[i]] := h2
  subst h2'
  have := h3 0 _ rfl
  have e2 : i * Kd.string.sz + 0 = i := by show i * 1 + 0 = i; omega
  rw [e2] at this
  exact ⟨ad, xs[i], e, List.getElem?_eq_getElem hi, this⟩
theorem num_arr {w : World} {base : Nat} {A : Option Addr} {c : Nat} {l : List Int} (h : rowV w base (.slice A l.length c) l) : ∃ b, NArr w A b l.length ∧ (0 < l.length → base ≤ b ∧ (Value.slice A l.length c).ownBlock = some b) := by
  have hC := (Kd.R_reads' h).2.2
  obtain ⟨hok, inner, hown, hr⟩ := h
  rcases hown.2 with ⟨e, h0⟩ | ⟨r, cap, cur, e, hb, hh, hc1, hc2, hc3, hc4⟩
  · exact ⟨0, fun h => by omega, fun h => by omega⟩
  · injection e with e1 e2 e3
    subst e1
    refine ⟨r, fun _ => ⟨rfl, cur, hh, fun i hi => ?_⟩, fun _ => ⟨hb, rfl⟩⟩
    obtain ⟨ad, x, e4, e5, e6⟩ := C_int_at hC hi
    injection e4 with e4
    subst e4
    rw [add_plain, blk_cell hh] at e6
    exact ⟨x, e6⟩
theorem str_arr {w : World} {base : Nat} {A : Option Addr} {c : Nat} {l : List ByteArray} (h : rowT w base (.slice A l.length c) l) : ∃ b, SArr w A b l.length ∧ (0 < l.length → base ≤ b ∧ (Value.slice A l.length c).ownBlock = some b) := by
  have hC := (Kd.R_reads' h).2.2
  obtain ⟨hok, inner, hown, hr⟩ := h
  rcases hown.2 with ⟨e, h0⟩ | ⟨r, cap, cur, e, hb, hh, hc1, hc2, hc3, hc4⟩
  · exact ⟨0, fun h => by omega, fun h => by omega⟩
  · injection e with e1 e2 e3
    subst e1
    refine ⟨r, fun _ => ⟨rfl, cur, hh, fun i hi => ?_⟩, fun _ => ⟨hb, rfl⟩⟩
    obtain ⟨ad, x, e4, e5, e6⟩ := C_str_at hC hi
    injection e4 with e4
    subst e4
    rw [add_plain, blk_cell hh] at e6
    exact ⟨x, e6⟩
/-! ### A past of one row -/
def oneSt (r : Row) : St := ⟨[r], r.v, 0, []⟩
theorem lay_one {r : Row} (h : 1 ≤ r.v) : St.new.lay r = (0, oneSt r) := by
  unfold St.lay
  rw [if_neg (by simp [St.new]; omega), if_neg (by simp [St.new])]
  rfl
theorem atP_one (r : Row) {v : Int} (h : r.v ≤ v) : atP [r] r.id v = some 0 := by
  unfold atP backs
  simp [List.range_succ, isId, fitsAt, h]
theorem get_one (r : Row) {v : Int} (h0 : 0 ≤ v) (h : r.v ≤ v) (hg : r.gone = false) : (oneSt r).get r.id v = (0, some r) := by
  unfold St.get
  rw [if_neg (by rw [known_zero rfl h0]; simp)]
  show (match atP [r] r.id v with | none => _ | some i => _) = _
  rw [atP_one r h]
  show (if r.gone = true then _ else _) = _
  rw [hg]
  rfl
theorem all_one {r : Row} {v : Int} {R : List Row} (h : r.v ≤ v) (hg : r.gone = false) (hR : AllIs (oneSt r).L v R) : R = [r] := by
  refine hR.eq (L' := [r]) (v' := v) ⟨List.pairwise_singleton _ _, fun x => ?_⟩ (fun x => Iff.rfl)
  rw [List.mem_singleton]
  constructor
  · rintro rfl
    exact ⟨0, rfl, atP_one x h, hg⟩
  · rintro ⟨i, h1, h2, h3⟩
    have := (List.getElem?_eq_some_iff.1 h1).1
    have e : i = 0 := by simp at this; exact this
    subst e
    cases h1
    rfl
end Go.Proofs.Ytjbakaplcjkniaa.Pa
