/- Past: items in a list of one's own, and their order. No condition. -/
import Derived.Test.YtjbakaplcjkniaaPa9
import Derived.Test.YtjbakaplcjkniaaSort
import Derived.Shelf.SlSortCmp.NoneTotal
namespace Go.Proofs.Ytjbakaplcjkniaa.Pa
open Go.RowKit Go.Maps Go.Proofs.YtjbakaplcjkniaaW.PrintWords Go.Proofs.YtjbakaplcjkniaaW.PrintLast Go.Proofs.YtjbakaplcjkniaaW.PrintMore Go.Proofs.Ytjbakaplcjkniaa.Pi
set_option linter.unusedVariables false
set_option linter.unusedSimpArgs false
/-- An item in memory. -/
structure Elt where
  r : Row
  A1 : Option Addr
  c1 : Nat
  A2 : Option Addr
  c2 : Nat
instance : Inhabited Elt := ⟨⟨⟨0, false, 0, [], []⟩, none, 0, none, 0⟩⟩
def Elt.cs (x : Elt) : List Value := [.int .u32 x.r.id, .slice x.A1 x.r.vec.length x.c1, .slice x.A2 x.r.tags.length x.c2]
theorem Elt.len (x : Elt) : x.cs.length = 3 := rfl
theorem Elt.one (x : Elt) : ∀ v ∈ x.cs, v.oneCell' = true := by
  intro v hv
  unfold Elt.cs at hv
  simp at hv
  rcases hv with rfl | rfl | rfl <;> rfl
def cellsE (d : List Elt) : List Value := d.flatMap Elt.cs
theorem cellsE_len (d : List Elt) : (cellsE d).length = d.length * 3 := by
  induction d with
  | nil => rfl
  | cons x d ih =>
    show (x.cs ++ cellsE d).length = _
    rw [List.length_append, ih, Elt.len, List.length_cons]
    omega
theorem cellsE_get : ∀ (d : List Elt) (i : Nat) (x : Elt), d[i]? = some x → ∀ j, j < 3 → (cellsE d)[i * 3 + j]? = x.cs[j]?
  | [], i, x, h, j, hj => by simp at h
  | y :: d, 0, x, h, j, hj => by
    have e : y = x := by simpa using h
    subst e
    show (y.cs ++ cellsE d)[0 * 3 + j]? = _
    rw [List.getElem?_append_left (by rw [Elt.len]; omega), show 0 * 3 + j = j by omega]
  | y :: d, i + 1, x, h, j, hj => by
    have h' : d[i]? = some x := by simpa using h
    show (y.cs ++ cellsE d)[(i + 1) * 3 + j]? = _
    rw [List.getElem?_append_right (by rw [Elt.len]; omega), Elt.len, show (i + 1) * 3 + j - 3 = i * 3 + j by omega]
    exact cellsE_get d i x h' j hj
theorem cellsE_append (d d' : List Elt) : cellsE (d ++ d') = cellsE d ++ cellsE d' := by unfold cellsE; rw [List.flatMap_append]
/-- A list of items of a function's own. -/
def OwnE (w : World) (base : Nat) (v : Value) (d : List Elt) : Prop := w.ownsRow base 54 3 v d.length (cellsE d)
theorem OwnE.nil (w : World) (base : Nat) : OwnE w base (.slice none 0 0) [] := own_nil _ _ _ _
theorem OwnE.below {w w1 : World} {base : Nat} {v : Value} {d : List Elt} (h : OwnE w base v d) (hb : Below w.heap.size w w1) : OwnE w1 base v d := pw_own_below h hb
theorem OwnE.typed {w : World} {base : Nat} {v : Value} {d : List Elt} (h : OwnE w base v d) : ∀ k, v.ownBlock = some k → ∃ cells, w.heap[k]? = some (.cells cells 54 (0, 0)) := own_typed h
theorem OwnE.base {w : World} {base : Nat} {v : Value} {d : List Elt} (h : OwnE w base v d) : ∀ k, v.ownBlock = some k → base ≤ k := own_base h
theorem OwnE.lt {w : World} {base : Nat} {v : Value} {d : List Elt} (h : OwnE w base v d) : ∀ k, v.ownBlock = some k → k < w.heap.size := own_lt h
theorem OwnE.slice {w : World} {base : Nat} {v : Value} {d : List Elt} (h : OwnE w base v d) : ∃ A c, v = .slice A d.length c ∧ d.length ≤ c := by
  rcases h.2 with ⟨rfl, h0⟩ | ⟨r, cap, cur, rfl, hb, hh, hc1, hc2, hc3, hc4⟩
  · exact ⟨none, 0, by rw [h0], by omega⟩
  · exact ⟨_, cap, rfl, hc1⟩
theorem OwnE.move {w w1 : World} {base : Nat} {v : Value} {d : List Elt} (h : OwnE w base v d) (hm : ∀ k, v.ownBlock = some k → w1.heap[k]? = w.heap[k]?) : OwnE w1 base v d := own_move h hm
theorem info_item : (Try.prog.info? 54).map (fun i => (i.zero, i.size, i.bytes)) = some (some (.agg #[.int .u32 0, .slice none 0 0, .slice none 0 0]), 3, 56) := by kernel_rfl
section
variable {ops : Array Oper} {rest : List Oper} {o : Oper} {a : Act} {Q : Exit → Act → World → Prop} {W : World}
/-- append(items, item), at the operation. -/
theorem app_E (hgd : o.guard = none) (s x : Operand) (ho : o.op = .call { callee := .builtin .append, args := #[s, x], argTypes := #[62, 62] })
    (base : Nat) (v : Value) (d : List Elt) (y : Elt) (cs : List Value) (hcs : y.cs = cs) (hs : a.eval s = v) (hx : a.eval x = .slice (some ⟨W.heap.size, 0, none⟩) 1 1) (hv : OwnE W base v d) (hl : d.length ≤ 1000000) (hb : base ≤ W.heap.size)
    (h : ∀ v' w', OwnE w' base v' (d ++ [y]) → Only (fun i => v.ownBlock = some i) (W.alloc (.cells cs.toArray 54)) w' → wpList Try.prog ops Q rest (a.put o.dst v') w') : wpList Try.prog ops Q (o :: rest) a (W.alloc (.cells cs.toArray 54)) := by
  subst hcs
  have hba := below_alloc (Below.refl W.heap.size W) (.cells y.cs.toArray 54)
  obtain ⟨i0, hi, hzz⟩ := Option.map_eq_some_iff.1 info_item
  simp only [Prod.mk.injEq] at hzz
  obtain ⟨hz, hsz, hby⟩ := hzz
  obtain ⟨v', w', hrun, hown, hgr, hne, hat⟩ := run_append_own_at (P := Try.prog) (W.alloc (.cells y.cs.toArray 54)) base 62 o.type 54 i0 _ 3 56 Try.underlying62 hi hz hsz hby rfl (by omega) v d.length (cellsE d) (OwnE.below hv hba) ⟨W.heap.size, 0, none⟩ 1 1 y.cs rfl
    (fun j u hu => by rw [add_plain, blk_cell (heap_alloc_new W _), List.getElem?_toArray]; simpa using hu) y.one (by unfold maxLen; omega) (by omega) (Nat.le_trans hb hba.size)
  refine wpList_plain hgd fun K hK => ?_
  unfold Oper.wp execOp
  simp only [ho, resolve, invoke, builtin, Sem.run_bind, Sem.run_pure, Result.andThen_ok, List.map_toArray, List.map_cons, List.map_nil, hs, hx, hrun]
  refine hK _ _ (h v' w' ?_ (Only.of_grown hgr (fun k hk => hk)))
  show w'.ownsRow base 54 3 v' (d ++ [y]).length (cellsE (d ++ [y]))
  rw [List.length_append, cellsE_append, show cellsE [y] = y.cs from List.append_nil _]
  exact hown
end
/-! ### Order -/
def cmpE (x y : Elt) : Int := if x.r.id < y.r.id then -1 else if y.r.id < x.r.id then 1 else 0
theorem ltE_iff (x y : Elt) : Go.Proofs.ltOf cmpE x y = decide (x.r.id < y.r.id) := by
  unfold Go.Proofs.ltOf cmpE
  by_cases h : x.r.id < y.r.id
  · simp [h]
  · by_cases h2 : y.r.id < x.r.id <;> simp [h, h2]
theorem swoE : Go.Sort.SWO (Go.Proofs.ltOf cmpE) where
  irrefl x := by rw [ltE_iff]; simp
  trans x y z h1 h2 := by rw [ltE_iff, decide_eq_true_eq] at *; omega
  ntrans x y z h1 h2 := by rw [ltE_iff, decide_eq_false_iff_not] at *; omega
set_option maxRecDepth 100000 in
theorem isNaN_calls (a : Int) (w : World) : Calls Try.prog 62 #[.int .u32 a] w fun e w' => e = .returned (.bool false) ∧ w' = w := by
  have e1 : (a == a) = true := beq_self_eq_true a
  have e2 : (a != a) = false := by simp
  go_enter Try.func62, Try.ntmps62
  go_wp2
  go_ret
  exact ⟨by simp, rfl⟩
set_option maxRecDepth 100000 in
theorem compare_calls (a b : Int) (w : World) : Calls Try.prog 50 #[.int .u32 a, .int .u32 b] w fun e w' => e = .returned (.int .i64 (if a < b then -1 else if b < a then 1 else 0)) ∧ w' = w := by
  by_cases h1 : a < b
  · have q1 : decide (a < b) = true := decide_eq_true h1
    rw [if_pos h1]
    clear h1
    go_enter Try.func50, Try.ntmps50
    go_wp2_with (go_at_call 62; (with_reducible refine (isNaN_calls _ _).mono ?_); rintro e w1 ⟨rfl, rfl⟩)
    go_ret
    exact ⟨rfl, rfl⟩
  · have q1 : decide (a < b) = false := decide_eq_false h1
    rw [if_neg h1]
    clear h1
    by_cases h2 : b < a
    · have q2 : decide (b < a) = true := decide_eq_true h2
      rw [if_pos h2]
      clear h2
      go_enter Try.func50, Try.ntmps50
      go_wp2_with (go_at_call 62; (with_reducible refine (isNaN_calls _ _).mono ?_); rintro e w1 ⟨rfl, rfl⟩)
      go_ret
      exact ⟨rfl, rfl⟩
    · have q2 : decide (b < a) = false := decide_eq_false h2
      rw [if_neg h2]
      clear h2
      go_enter Try.func50, Try.ntmps50
      go_wp2_with (go_at_call 62; (with_reducible refine (isNaN_calls _ _).mono ?_); rintro e w1 ⟨rfl, rfl⟩)
      go_ret
      exact ⟨rfl, rfl⟩
def boxE (x : Elt) : Obj := .cells x.cs.toArray 54
set_option maxHeartbeats 2000000 in
set_option maxRecDepth 100000 in
theorem cmpE_calls (x y : Elt) (w : World) : Calls Try.prog 49 #[.agg x.cs.toArray, .agg y.cs.toArray] w fun e w' => e = .returned (.int .i64 (cmpE x y)) ∧ w' = ((w.alloc (boxE x)).alloc (boxE y)) := by
  have hu := Try.underlying54
  obtain ⟨r, A1, c1, A2, c2⟩ := x
  obtain ⟨r', A1', c1', A2', c2'⟩ := y
  show Calls Try.prog 49 #[.agg #[.int .u32 r.id, .slice A1 r.vec.length c1, .slice A2 r.tags.length c2], .agg #[.int .u32 r'.id, .slice A1' r'.vec.length c1', .slice A2' r'.tags.length c2']] w fun e w' => e = .returned (.int .i64 (if r.id < r'.id then -1 else if r'.id < r.id then 1 else 0)) ∧ w' = ((w.alloc (.cells #[.int .u32 r.id, .slice A1 r.vec.length c1, .slice A2 r.tags.length c2] 54)).alloc (.cells #[.int .u32 r'.id, .slice A1' r'.vec.length c1', .slice A2' r'.tags.length c2'] 54))
  obtain ⟨q, hq⟩ : ∃ z : Int, (if r.id < r'.id then -1 else if r'.id < r.id then 1 else 0) = z := ⟨_, rfl⟩
  rw [hq]
  have HQ := Aside0.mk hq
  clear hq
  go_enter Try.func49, Try.ntmps49
  go_wp2_with (go_at_call 50; (with_reducible refine (compare_calls _ _ _).mono ?_); rintro e w1 ⟨rfl, rfl⟩; rw [HQ.out])
  go_ret
  exact ⟨rfl, rfl⟩
end Go.Proofs.Ytjbakaplcjkniaa.Pa
