/- Past: a sweep, in plain Lean; maps of a function's own. No condition. -/
import Derived.Test.YtjbakaplcjkniaaPa7
import Derived.Maps.RangeWalk
import Derived.Maps.OwnOps
import Derived.Maps.Views
namespace Go.Proofs.Ytjbakaplcjkniaa.Pa
open Go.RowKit Go.Maps Go.Proofs.YtjbakaplcjkniaaW.PrintWords Go.Proofs.YtjbakaplcjkniaaW.PrintLast Go.Proofs.YtjbakaplcjkniaaW.PrintMore Go.Proofs.Ytjbakaplcjkniaa.Pi
set_option linter.unusedVariables false
set_option linter.unusedSimpArgs false
/-- Where each id's row at a version is, of the rows ahead of place k. -/
def nowTo (L : List Row) (v : Int) (k : Nat) (id : Int) : Option Nat := (backsTo L id k).find? (fitsAt L v)
theorem nowTo_zero (L : List Row) (v id : Int) : nowTo L v 0 id = none := rfl
theorem nowTo_succ (L : List Row) (v : Int) (k : Nat) (id : Int) : nowTo L v (k + 1) id = if isId L id k = true ∧ fitsAt L v k = true then some k else nowTo L v k id := by
  unfold nowTo
  rw [backsTo_succ]
  by_cases h : isId L id k = true
  · rw [if_pos h, List.singleton_append, List.find?_cons]
    by_cases h2 : fitsAt L v k = true
    · rw [h2, if_pos ⟨h, rfl⟩]
    · have h3 : fitsAt L v k = false := by simpa using h2
      rw [h3, if_neg (by simp)]
  · rw [if_neg h, List.nil_append, if_neg (fun e => h e.1)]
theorem nowTo_all (L : List Row) (v id : Int) : nowTo L v L.length id = atP L id v := rfl
theorem nowTo_fit {L : List Row} {v : Int} {k : Nat} {x : Row} (hx : L[k]? = some x) (h : x.v ≤ v) : (fun id => nowTo L v (k + 1) id) = fun id => if id = x.id then some k else nowTo L v k id := by
  funext id
  rw [nowTo_succ]
  unfold isId fitsAt
  rw [hx]
  by_cases e : id = x.id
  · subst e; simp [h]
  · have e2 : ¬ x.id = id := fun z => e z.symm
    simp [e, e2]
theorem nowTo_unfit {L : List Row} {v : Int} {k : Nat} {x : Row} (hx : L[k]? = some x) (h : ¬ x.v ≤ v) : (fun id => nowTo L v (k + 1) id) = fun id => nowTo L v k id := by
  funext id
  rw [nowTo_succ, if_neg]
  unfold fitsAt
  rw [hx]
  simp [h]
theorem nowTo_lt {L : List Row} {v id : Int} {k j : Nat} (h : nowTo L v k id = some j) : j < k := by
  have := List.mem_of_find?_eq_some h
  unfold backsTo at this
  rw [List.mem_reverse, List.mem_filter, List.mem_range] at this
  exact this.1
/-- Is the row at place j an id's row at a version? -/
def needAt (L : List Row) (v : Int) (j : Nat) : Bool := match L[j]? with | some x => decide (atP L x.id v = some j) | none => false
def needs (L : List Row) (vs : List Int) (j : Nat) : Bool := vs.any fun v => needAt L v j
theorem needAt_iff (L : List Row) (v : Int) (j : Nat) : needAt L v j = true ↔ ∃ id, atP L id v = some j := by
  unfold needAt
  constructor
  · intro h
    cases e : L[j]? with
    | none => rw [e] at h; simp at h
    | some x => rw [e] at h; exact ⟨x.id, by simpa using h⟩
  · rintro ⟨id, h⟩
    obtain ⟨x, hx, hid, _⟩ := atP_some h
    rw [hx]
    subst hid
    simpa using h
/-- The rows that stay, of those ahead of place k. -/
def stays (L : List Row) (nd : Nat → Bool) : Nat → List Row
  | 0 => []
  | k + 1 => match L[k]? with | none => stays L nd k | some x => if (nd k && (!x.gone || (stays L nd k).any fun y => decide (y.id = x.id))) = true then stays L nd k ++ [x] else stays L nd k
theorem stays_length (L : List Row) (nd : Nat → Bool) (k : Nat) : (stays L nd k).length ≤ k := by
  induction k with
  | zero => simp [stays]
  | succ k ih =>
    unfold stays
    split
    · omega
    · split
      · rw [List.length_append, List.length_singleton]; omega
      · omega
theorem stays_mem {L : List Row} {nd : Nat → Bool} {x : Row} : ∀ {k : Nat}, x ∈ stays L nd k → x ∈ L := by
  intro k
  induction k with
  | zero => simp [stays]
  | succ k ih =>
    intro h
    unfold stays at h
    split at h
    · exact ih h
    · next y hy =>
      split at h
      · rcases List.mem_append.1 h with h | h
        · exact ih h
        · rw [List.mem_singleton] at h; subst h; exact List.mem_of_getElem? hy
      · exact ih h
theorem stays_congr {L : List Row} {nd nd' : Nat → Bool} : ∀ {k : Nat}, (∀ j, j < k → nd j = nd' j) → stays L nd k = stays L nd' k := by
  intro k
  induction k with
  | zero => intro _; rfl
  | succ k ih =>
    intro h
    unfold stays
    rw [ih (fun j hj => h j (by omega)), h k (by omega)]
def St.kept (s : St) (keep : List Int) : List Int := keep.filter s.known
def St.stay (s : St) (keep : List Int) : List Row := stays s.L (needs s.L (s.kept keep ++ [s.last])) s.L.length
/-- A sweep: how many rows went, and what is there then. -/
def St.sweep (s : St) (keep : List Int) : Int × St := ((s.L.length : Int) - ((s.stay keep).length : Int), ⟨s.stay keep, s.last, s.last, s.kept keep⟩)
/-- Nothing is out of reach of its type. -/
def St.Fit (s : St) : Prop := ∀ x ∈ s.L, (Lit.int .u32 x.id).wf = true
theorem St.sweep_small {s : St} {keep : List Int} (h : s.Small) : (s.sweep keep).2.Small := fun x hx => h x (stays_mem hx)
theorem St.sweep_fit {s : St} {keep : List Int} (h : s.Fit) : (s.sweep keep).2.Fit := fun x hx => h x (stays_mem hx)
/-! ### Maps -/
theorem keyU32 : Keyed Try.prog 27 := int_keyed Try.underlying27
/-- What a map's datum says. -/
def Says (d : Int → DataW Unit) (D : DataW Unit) (f : Int → Option Int) : Prop := Maps.IsMap D ∧ ∀ id, (∀ c, f id = some c → Maps.has D (.int .u32 id) = true ∧ ∀ z, D.atKey (.int .u32 id) z = d c) ∧ (f id = none → Maps.has D (.int .u32 id) = false)
def dInt (c : Int) : DataW Unit := .lit (.int .i64 c)
def dBool (c : Int) : DataW Unit := .lit (.bool (decide (c ≠ 0)))
theorem Says.nil (d : Int → DataW Unit) : Says d (.map []) (fun _ => none) := ⟨Maps.isMap_empty, fun id => ⟨fun c h => by simp at h, fun _ => rfl⟩⟩
theorem Says.put {d : Int → DataW Unit} {D : DataW Unit} {f : Int → Option Int} (h : Says d D f) {id : Int} (hid : (Lit.int .u32 id).wf = true) (c : Int) : Says d (D.put (.int .u32 id) (d c)) (fun z => if z = id then some c else f z) := by
  have hk := keyU32.key (keyOf_int_mk Try.underlying27 hid)
  refine ⟨h.1.put _ _, fun z => ?_⟩
  by_cases e : z = id
  · subst e
    show (∀ c_1 : Int, (if z = z then some c else f z) = some c_1 → _) ∧ ((if z = z then some c else f z) = none → _)
    rw [if_pos rfl]
    exact ⟨fun c' hc' => ⟨Maps.has_put_same h.1 hk _, fun y => by injection hc' with hc'; subst hc'; exact Maps.atKey_put_same h.1 hk _ _⟩, fun hn => by simp at hn⟩
  · show (∀ c_1 : Int, (if z = id then some c else f z) = some c_1 → _) ∧ ((if z = id then some c else f z) = none → _)
    rw [if_neg e]
    have hne : (Lit.int .u32 z) ≠ .int .u32 id := fun e2 => e (by injection e2)
    rw [Maps.has_put_other hne]
    exact ⟨fun c' hc' => ⟨((h.2 z).1 c' hc').1, fun y => by rw [Maps.atKey_put_other hne]; exact ((h.2 z).1 c' hc').2 y⟩, (h.2 z).2⟩
/-- A map from numbers to places. -/
def MapI (w : World) (b n : Nat) (f : Int → Option Int) : Prop := ∃ D, w.ownsMap Try.prog 27 (plainElem Try.prog 3) b n D ∧ Says dInt D f
/-- A map from numbers to yes. -/
def MapB (w : World) (b n : Nat) (f : Int → Option Int) : Prop := ∃ D, w.ownsMap Try.prog 27 (plainElem Try.prog 4) b n D ∧ Says dBool D f
/-- A map that is ranged over. -/
def RanI (w : World) (b r n : Nat) (f : Int → Option Int) (left : Int → Bool) (cnt : Nat) : Prop := ∃ D lf, w.ranges Try.prog 27 (plainElem Try.prog 3) b r n D lf cnt ∧ Says dInt D f ∧ ∀ id, lf (.int .u32 id) = left id
theorem MapI.new (w : World) : MapI (w.alloc (.map #[] 0)) w.heap.size 0 (fun _ => none) := ⟨_, World.ownsMap_made _ _ _ _, Says.nil _⟩
theorem MapB.new (w : World) : MapB (w.alloc (.map #[] 0)) w.heap.size 0 (fun _ => none) := ⟨_, World.ownsMap_made _ _ _ _, Says.nil _⟩
theorem MapI.below {w w1 : World} {b n : Nat} {f : Int → Option Int} (h : MapI w b n f) (hb : Below w.heap.size w w1) : MapI w1 b n f := by
  obtain ⟨D, h1, h2⟩ := h
  exact ⟨D, h1.kept (row := none) ⟨hb.os, hb.tape, hb.output, hb.size, fun i hi _ => hb.block i hi⟩ (by simp), h2⟩
/-- Blocks that are no cells. -/
def NoCells (w : World) (k : Nat) : Prop := ∀ c t, w.heap[k]? ≠ some (.cells c t (0, 0))
theorem MapI.only {w w1 : World} {b n : Nat} {f : Int → Option Int} (h : MapI w b n f) {S : Nat → Prop} (hO : Only S w w1) (hn : ¬ S b) : MapI w1 b n f := by
  obtain ⟨D, h1, h2⟩ := h
  have hlt := h1.lt
  obtain ⟨es, clock, hb, F, hs, hD⟩ := h1
  exact ⟨D, ⟨es, clock, (hO.block b hlt hn).trans hb, F, hs, hD⟩, h2⟩
theorem MapB.only {w w1 : World} {b n : Nat} {f : Int → Option Int} (h : MapB w b n f) {S : Nat → Prop} (hO : Only S w w1) (hn : ¬ S b) : MapB w1 b n f := by
  obtain ⟨D, h1, h2⟩ := h
  have hlt := h1.lt
  obtain ⟨es, clock, hb, F, hs, hD⟩ := h1
  exact ⟨D, ⟨es, clock, (hO.block b hlt hn).trans hb, F, hs, hD⟩, h2⟩
theorem MapI.lt {w : World} {b n : Nat} {f : Int → Option Int} (h : MapI w b n f) : b < w.heap.size := by obtain ⟨D, h1, _⟩ := h; exact h1.lt
theorem MapB.lt {w : World} {b n : Nat} {f : Int → Option Int} (h : MapB w b n f) : b < w.heap.size := by obtain ⟨D, h1, _⟩ := h; exact h1.lt
theorem MapI.nocells {w : World} {b n : Nat} {f : Int → Option Int} (h : MapI w b n f) : NoCells w b := by
  obtain ⟨D, ⟨es, clock, hb, _⟩, _⟩ := h
  intro c t e
  rw [hb] at e
  cases e
theorem MapB.nocells {w : World} {b n : Nat} {f : Int → Option Int} (h : MapB w b n f) : NoCells w b := by
  obtain ⟨D, ⟨es, clock, hb, _⟩, _⟩ := h
  intro c t e
  rw [hb] at e
  cases e
theorem MapI.mono {w : World} {b n n' : Nat} {f : Int → Option Int} (h : MapI w b n f) (hn : n ≤ n') : MapI w b n' f := by obtain ⟨D, h1, h2⟩ := h; exact ⟨D, h1.mono hn, h2⟩
theorem MapB.mono {w : World} {b n n' : Nat} {f : Int → Option Int} (h : MapB w b n f) (hn : n ≤ n') : MapB w b n' f := by obtain ⟨D, h1, h2⟩ := h; exact ⟨D, h1.mono hn, h2⟩
theorem RanI.ne {w : World} {b r n : Nat} {f : Int → Option Int} {left : Int → Bool} {cnt : Nat} (h : RanI w b r n f left cnt) : r ≠ b := by obtain ⟨D, lf, h, _⟩ := h; exact h.ne
theorem RanI.only {w w1 : World} {b r n : Nat} {f : Int → Option Int} {left : Int → Bool} {cnt : Nat} (h : RanI w b r n f left cnt) {S : Nat → Prop} (hO : Only S w w1) (hb : ¬ S b) (hr : ¬ S r) : RanI w1 b r n f left cnt := by
  obtain ⟨D, lf, h1, h2⟩ := h
  have l1 := h1.owns.lt
  have l2 := h1.lt
  obtain ⟨es, clock, since, seen, c0, hbb, F, hs, hD, hrr, rest⟩ := h1
  exact ⟨D, lf, ⟨es, clock, since, seen, c0, (hO.block b l1 hb).trans hbb, F, hs, hD, (hO.block r l2 hr).trans hrr, rest⟩, h2⟩
theorem RanI.nocells {w : World} {b r n : Nat} {f : Int → Option Int} {left : Int → Bool} {cnt : Nat} (h : RanI w b r n f left cnt) : NoCells w r := by
  obtain ⟨D, lf, ⟨es, clock, since, seen, c0, hbb, F, hs, hD, hrr, _⟩, _⟩ := h
  intro c t e
  rw [hrr] at e
  cases e
theorem RanI.lt {w : World} {b r n : Nat} {f : Int → Option Int} {left : Int → Bool} {cnt : Nat} (h : RanI w b r n f left cnt) : r < w.heap.size := by
  obtain ⟨D, lf, h, _⟩ := h
  exact h.lt
theorem RanI.map {w : World} {b r n : Nat} {f : Int → Option Int} {left : Int → Bool} {cnt : Nat} (h : RanI w b r n f left cnt) : MapI w b n f := by
  obtain ⟨D, lf, h, hs, _⟩ := h
  exact ⟨D, h.owns, hs⟩
/-- A row of cells stays where no cells turn. -/
theorem R_nocells {α : Type} {d : Kd α} {e : Nat} {w w1 : World} {base : Nat} {ok : Nat → Prop} {v : Value} {xs : List α} (h : d.R e w base ok v xs) (hO : Only (NoCells w) w w1) : d.R e w1 base ok v xs := by
  refine Kd.R_mono (Kd.R_step (Kd.R_bound h) (fun k hk hlt => hO.block k hlt (fun hp => ?_))) (fun k hk => hk.1)
  obtain ⟨_, _, _, q, _, c, hc⟩ := hk
  exact hp c q hc
section
variable {w : World} {ops : Array Oper} {rest : List Oper} {o : Oper} {a : Act} {Q : Exit → Act → World → Prop}
/-- m[id] = place. -/
theorem put_I (hg : o.guard = none) (m x v : Operand) (hop : o.op = Op.mapUpdate 107 m x v) (b n : Nat) (f : Int → Option Int) (hm : a.eval m = .map (some b)) (h : MapI w b n f) (hn : n < 1000000) (id c : Int) (hx : a.eval x = .int .u32 id) (hv : a.eval v = .int .i64 c)
    (hid : (Lit.int .u32 id).wf = true) (hc : (Lit.int .i64 c).wf = true)
    (hK : ∀ w', MapI w' b (n + 1) (fun z => if z = id then some c else f z) → Only (fun k => k = b) w w' → wpList Try.prog ops Q rest (a.put o.dst undef) w') : wpList Try.prog ops Q (o :: rest) a w := by
  obtain ⟨D, h1, h2⟩ := h
  refine wpList_mapUpdate_own w hg m x v 107 hop 27 3 keyU32 Try.underlying107 _ b n D hm h1 (by unfold maxLen; omega) _ _ (.int .u32 id) hx hv (keyOf_int_mk Try.underlying27 hid) (dInt c) [] (plainElem_int Try.underlying3 hc) ?_
  intro w1 h3 h4
  exact hK w1 ⟨_, h3, h2.put hid c⟩ (Only.of_grown h4 (fun k hk => by cases hk; rfl))
theorem put_B (hg : o.guard = none) (m x v : Operand) (hop : o.op = Op.mapUpdate 108 m x v) (b n : Nat) (f : Int → Option Int) (hm : a.eval m = .map (some b)) (h : MapB w b n f) (hn : n < 1000000) (id : Int) (hx : a.eval x = .int .u32 id) (hv : a.eval v = .bool true)
    (hid : (Lit.int .u32 id).wf = true)
    (hK : ∀ w', MapB w' b (n + 1) (fun z => if z = id then some 1 else f z) → Only (fun k => k = b) w w' → wpList Try.prog ops Q rest (a.put o.dst undef) w') : wpList Try.prog ops Q (o :: rest) a w := by
  obtain ⟨D, h1, h2⟩ := h
  refine wpList_mapUpdate_own w hg m x v 108 hop 27 4 keyU32 Try.underlying108 _ b n D hm h1 (by unfold maxLen; omega) _ _ (.int .u32 id) hx hv (keyOf_int_mk Try.underlying27 hid) (dBool 1) [] (plainElem_bool Try.underlying4 true) ?_
  intro w1 h3 h4
  exact hK w1 ⟨_, h3, h2.put hid 1⟩ (Only.of_grown h4 (fun k hk => by cases hk; rfl))
/-- range m. -/
theorem range_I (hg : o.guard = none) (m : Operand) (hop : o.op = Op.range 107 m) (b n : Nat) (f : Int → Option Int) (hm : a.eval m = .map (some b)) (h : MapI w b n f)
    (hK : ∀ w' cnt, RanI w' b w.heap.size n f (fun id => (f id).isSome) cnt → Below w.heap.size w w' → wpList Try.prog ops Q rest (a.put o.dst (.pointer (some ⟨w.heap.size, 0, none⟩))) w') : wpList Try.prog ops Q (o :: rest) a w := by
  obtain ⟨D, h1, h2⟩ := h
  refine wpList_range_own w hg m 107 hop 27 3 keyU32 Try.underlying107 _ b n D hm h1 ?_
  intro w1 h3 h4 h5
  refine hK w1 _ ⟨D, _, h3, h2, fun id => (?_ : has D (.int .u32 id) = (f id).isSome)⟩ ⟨h4.os, h4.tape, h4.output, h4.size, fun i hi => h4.block i hi (by simp)⟩
  cases e : f id with
  | none => rw [(h2.2 id).2 e]; rfl
  | some c => rw [((h2.2 id).1 c e).1]; rfl
/-- The next of a map. -/
theorem next_I (hg : o.guard = none) (it : Operand) (hop : o.op = Op.next it false) (b r n : Nat) (f : Int → Option Int) (left : Int → Bool) (cnt : Nat) (hit : a.eval it = .pointer (some ⟨r, 0, none⟩)) (h : RanI w b r n f left cnt)
    (hDone : cnt = 0 → (∀ id, left id = false) → wpList Try.prog ops Q rest (a.put o.dst (.tuple #[.bool false])) w)
    (hMore : ∀ (id c : Int) (w' : World) (cnt' : Nat), left id = true → f id = some c → RanI w' b r n f (fun z => left z && !decide (z = id)) cnt' → cnt' < cnt → Only (fun k => k = r) w w' → (Instr.entry (.pointer (some ⟨r, 0, none⟩))).run Try.prog w' = .ok (.tuple #[.int .u32 id, .int .i64 c]) w' → wpList Try.prog ops Q rest (a.put o.dst (.tuple #[.bool true, .int .u32 id, .int .i64 c])) w') : wpList Try.prog ops Q (o :: rest) a w := by
  obtain ⟨D, lf, h1, h2, h3⟩ := h
  refine wpList_next_ranges_ii w hg it hop 27 3 .u32 .i64 keyU32 Try.underlying27 Try.underlying3 b r n D lf cnt hit h1 (fun h0 hl => hDone h0 (fun id => (h3 id).symm.trans (hl _))) ?_
  intro x c w1 cnt1 hwx hwc hlx hat hr1 hlt hg1 hs1 hen
  have hf : f x = some c := by
    cases e : f x with
    | none =>
      have h4 := (h2.2 x).2 e
      rw [has_true_of_atKey hat] at h4
      cases h4
    | some c' =>
      have h4 := ((h2.2 x).1 c' e).2 .nil
      rw [hat] at h4
      unfold dInt at h4
      injection h4 with h4
      injection h4 with _ h4
      rw [h4]
  refine hMore x c w1 cnt1 ((h3 x).symm.trans hlx) hf ⟨D, _, hr1, h2, fun id => ?_⟩ hlt (Only.of_grown hg1 (fun k hk => by cases hk; rfl)) hen
  show (lf (.int .u32 id) && !(Lit.int .u32 id).sameKey (.int .u32 x)) = (left id && !decide (id = x))
  rw [h3 id]
  by_cases e : id = x
  · subst e
    have hk := keyU32.key (keyOf_int_mk Try.underlying27 hwx)
    rw [WideAt.sameKey_self hk]
    simp
  · rw [sameKey_ne (fun e2 => e (by injection e2))]
    simp [e]
end
theorem zeroBool (w : World) : (zeroValue 4).run Try.prog w = .ok (.bool false) w := by kernel_rfl
set_option maxRecDepth 100000 in
/-- m[id]. -/
theorem MapB.look {w : World} {b n : Nat} {f : Int → Option Int} (h : MapB w b n f) {id : Int} (hid : (Lit.int .u32 id).wf = true) : ∃ x, (Instr.lookup 108 (.map (some b)) (.int .u32 id) false).run Try.prog w = .ok (.bool x) w ∧ (f id = none → x = false) ∧ (f id = some 1 → x = true) := by
  obtain ⟨D, h1, h2⟩ := h
  obtain ⟨v, ps, hrun, hv⟩ := h1.lookup keyU32 Try.underlying108 (zeroBool w) (plainElem_bool Try.underlying4 false) (keyOf_int_mk Try.underlying27 hid)
  obtain ⟨x, rfl, hx⟩ : ∃ x, v = .bool x ∧ D.atKey (.int .u32 id) (.lit (.bool false)) = .lit (.bool x) := by
    unfold plainElem at hv
    rw [Try.underlying4] at hv
    cases v <;> simp at hv
    exact ⟨_, rfl, hv.1.symm⟩
  refine ⟨x, hrun, fun e => ?_, fun e => ?_⟩
  · rw [atKey_of_not_has ((h2.2 id).2 e)] at hx
    injection hx with hx
    injection hx with hx
    exact hx.symm
  · rw [((h2.2 id).1 1 e).2] at hx
    injection hx with hx
    injection hx with hx
    exact hx.symm
end Go.Proofs.Ytjbakaplcjkniaa.Pa
