/- Past: rows, in plain Lean. No condition. -/
namespace Go.Proofs.Ytjbakaplcjkniaa.Pa
/-- What an item is from a version on. -/
structure Row where
  v : Int
  gone : Bool
  id : Int
  vec : List Int
  tags : List ByteArray
/-- Is a row an id's? -/
def isId (L : List Row) (id : Int) (i : Nat) : Bool := match L[i]? with | some x => decide (x.id = id) | none => false
/-- The places of an id's rows, the last one first. -/
def backs (L : List Row) (id : Int) : List Nat := ((List.range L.length).filter (isId L id)).reverse
/-- Does a row's version fit? -/
def fitsAt (L : List Row) (v : Int) (i : Nat) : Bool := match L[i]? with | some x => decide (x.v ≤ v) | none => false
/-- The place of an id's row at a version. -/
def atP (L : List Row) (id v : Int) : Option Nat := (backs L id).find? (fitsAt L v)
def atI (L : List Row) (id v : Int) : Int := match atP L id v with | some i => (i : Int) | none => -1
/-- May a version be asked for? -/
def knownP (floor : Int) (K : List Int) (v : Int) : Bool := decide (floor ≤ v) || K.contains v
theorem backs_mem {L : List Row} {id : Int} {i : Nat} (h : i ∈ backs L id) : ∃ x, L[i]? = some x ∧ x.id = id := by
  unfold backs at h
  rw [List.mem_reverse, List.mem_filter] at h
  obtain ⟨h1, h2⟩ := h
  unfold isId at h2
  cases e : L[i]? with
  | none => rw [e] at h2; simp at h2
  | some x => rw [e] at h2; exact ⟨x, rfl, by simpa using h2⟩
theorem atP_some {L : List Row} {id v : Int} {i : Nat} (h : atP L id v = some i) : ∃ x, L[i]? = some x ∧ x.id = id ∧ x.v ≤ v := by
  unfold atP at h
  obtain ⟨x, h1, h2⟩ := backs_mem (List.mem_of_find?_eq_some h)
  have h3 := List.find?_some h
  unfold fitsAt at h3
  rw [h1] at h3
  exact ⟨x, h1, h2, by simpa using h3⟩
theorem atP_lt {L : List Row} {id v : Int} {i : Nat} (h : atP L id v = some i) : i < L.length := by
  obtain ⟨x, h1, _⟩ := atP_some h
  exact (List.getElem?_eq_some_iff.1 h1).1
/-- The rows of an id ahead of place k, the last one first. -/
def backsTo (L : List Row) (id : Int) (k : Nat) : List Nat := ((List.range k).filter (isId L id)).reverse
theorem backsTo_succ (L : List Row) (id : Int) (k : Nat) : backsTo L id (k + 1) = (if isId L id k = true then [k] else []) ++ backsTo L id k := by
  unfold backsTo
  rw [List.range_succ, List.filter_append, List.reverse_append]
  congr 1
  simp only [List.filter_cons, List.filter_nil]
  by_cases h : isId L id k = true <;> simp [h]
/-- A past. -/
structure St where
  L : List Row
  last : Int
  floor : Int
  K : List Int
def St.new : St := ⟨[], 0, 0, []⟩
/-- A row is laid: an error's number, and what is there then. -/
def St.lay (s : St) (r : Row) : Int × St := if r.v = 0 ∨ r.v < s.last then (1, s) else if 1024 ≤ s.L.length then (4, s) else (0, ⟨s.L ++ [r], r.v, s.floor, s.K⟩)
/-- Is an id's row at a version missing, or a cut? -/
def missing (L : List Row) (id v : Int) : Bool := match atP L id v with | none => true | some i => match L[i]? with | none => true | some x => x.gone
def St.cut (s : St) (v id : Int) : Int × St := if v = 0 ∨ v < s.last then (1, s) else if missing s.L id v = true then (2, s) else s.lay ⟨v, true, id, [], []⟩
def St.known (s : St) (v : Int) : Bool := knownP s.floor s.K v
/-- What is there of an id at a version: an error's number, the row. -/
def St.get (s : St) (id v : Int) : Int × Option Row := if s.known v = false then (80, none) else match atP s.L id v with | none => (2, none) | some i => match s.L[i]? with | none => (2, none) | some x => if x.gone = true then (2, none) else (0, some x)
/-- Nothing is too long. -/
def St.Small (s : St) : Prop := ∀ x ∈ s.L, x.vec.length ≤ 100000 ∧ x.tags.length ≤ 100000
end Go.Proofs.Ytjbakaplcjkniaa.Pa
