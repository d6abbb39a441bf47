/- Past: two pasts side by side. No condition. -/
import Derived.Test.YtjbakaplcjkniaaPaH
namespace Go.Proofs.Ytjbakaplcjkniaa.Pa
open Go.RowKit Go.Maps Go.Proofs.YtjbakaplcjkniaaW.PrintWords Go.Proofs.YtjbakaplcjkniaaW.PrintLast Go.Proofs.YtjbakaplcjkniaaW.PrintMore Go.Proofs.Ytjbakaplcjkniaa.Pi
set_option linter.unusedVariables false
set_option linter.unusedSimpArgs false
/-- A past stays while another one turns. -/
theorem PX.beside {Z : Nat → Prop} {w0 w W : World} {g gp : Nat} {s : St} (h : PX Z w0 w g s) (hO : Only (fun k => TT w k ∧ FT w gp k) w W) (ha : ∀ k, FT w gp k → ¬ FT w g k) (hb : ∀ k, FT w gp k → w0.heap.size ≤ k) : PX Z w0 W g s := by
  obtain ⟨vL, vK, h1, h2, h3, h4, h5⟩ := h
  have hT : Only (TT w) w W := hO.mono (fun k hk => hk.1)
  refine ⟨vL, vK, ⟨(hO.block g h1.lt (fun hs => ha g hs.2 (.inl rfl))).trans h1.box, h1.row.move (fun k hk => hO.block k (h1.row.lt k hk) (fun hs => ha k hs.2 (.inr ⟨vL, h1.y0, hk⟩))) (Mem.only hT), R_tt h1.kept hT (by decide), h1.gb⟩, hO.below_of h2 (fun i hi => hb i hi.2), h3, h4, h5⟩
theorem PX.foot {Z : Nat → Prop} {w0 w : World} {g : Nat} {s : St} (h : PX Z w0 w g s) : ∀ k, FT w g k → w0.heap.size ≤ k ∧ k < w.heap.size := by
  obtain ⟨vL, vK, h1, h2, h3, h4, h5⟩ := h
  intro k hk
  rcases hk with rfl | ⟨v, hv, hk⟩
  · exact ⟨h1.gb, h1.lt⟩
  · rw [h1.y0] at hv
    injection hv with hv
    subst hv
    exact ⟨h1.row.base k hk, h1.row.lt k hk⟩
/-- Two pasts that share nothing. -/
structure PP (Z : Nat → Prop) (w0 w : World) (gp gq : Nat) (s t : St) : Prop where
  p : PX Z w0 w gp s
  q : PX Z w0 w gq t
  apart : ∀ k, FT w gp k → ¬ FT w gq k
section
variable {Z : Nat → Prop} {w0 w w' : World} {gp gq : Nat} {s s' t t' : St}
theorem PP.swap (h : PP Z w0 w gp gq s t) : PP Z w0 w gq gp t s := ⟨h.q, h.p, fun k h1 h2 => h.apart k h2 h1⟩
theorem PP.below (h : PP Z w0 w gp gq s t) (hb : Below w.heap.size w w') : PP Z w0 w' gp gq s t := ⟨h.p.below hb, h.q.below hb, fun k h1 h2 => h.apart k (FT_back hb h.p.glt h1) (FT_back hb h.q.glt h2)⟩
theorem PP.left (h : PP Z w0 w gp gq s t) (hp : PX Z w0 w' gp s') (ht : Turns gp w w') : PP Z w0 w' gp gq s' t := by
  refine ⟨hp, h.q.beside ht.only h.apart (fun k hk => (h.p.foot k hk).1), fun k h1 h2 => ?_⟩
  have hg : ¬ (TT w gq ∧ FT w gp gq) := fun hc => h.apart gq hc.2 (.inl rfl)
  have h3 : FT w gq k := by
    rcases h2 with h2 | ⟨v, h2, h3⟩
    · exact .inl h2
    · refine .inr ⟨v, ?_, h3⟩
      rw [← h2]
      have := ht.only.block gq h.q.glt hg
      unfold World.cell?
      rw [this]
  rcases ht.foot k h1 with h4 | h4
  · exact h.apart k h4 h3
  · have := (h.q.foot k h3).2
    omega
theorem PP.right (h : PP Z w0 w gp gq s t) (hq : PX Z w0 w' gq t') (ht : Turns gq w w') : PP Z w0 w' gp gq s t' := (h.swap.left hq ht).swap
/-- A second past is made. -/
theorem PX.second (h : PX Z w0 w gp s) : Calls Try.prog 24 #[] w fun e w' => ∃ g, e = .returned (.pointer (some ⟨g, 0, none⟩)) ∧ PP Z w0 w' gp g s .new := by
  refine (pnew_calls w).mono ?_
  rintro e w' ⟨rfl, rfl⟩
  have hb := below_alloc (Below.refl w.heap.size w) (.cells #[.slice none 0 0, .int .u64 0, .int .u64 0, .slice none 0 0] 98)
  have hx := heap_alloc_new w (.cells #[.slice none 0 0, .int .u64 0, .int .u64 0, .slice none 0 0] 98)
  have h5 : ∀ k, Z k → w0.heap.size ≤ k := by obtain ⟨_, _, _, _, _, _, h5⟩ := h; exact h5
  refine ⟨_, rfl, h.below hb, ⟨_, _, ⟨hx, OwnR.nil _ _ _, Kd.R_nil _ _ _ _ _, h.at0.size⟩, bel_alloc h.at0 _, by simp [St.new], by simp [St.new], h5⟩, fun k h1 h2 => ?_⟩
  have h3 := (h.foot k (FT_back hb h.glt h1)).2
  rcases h2 with h2 | ⟨v, hv, hk⟩
  · omega
  · rw [(blk_cell hx 0).trans rfl] at hv
    injection hv with hv
    subst hv
    cases hk
end
/-! ### What holds of a past that only takes rows -/
/-- All versions are known; no row is younger than the last one. -/
structure Grows (s : St) (m : Int) (n : Nat) : Prop where
  ok : Ok s m
  fl : s.floor = 0
  kp : s.K = []
  old : ∀ x ∈ s.L, x.v ≤ s.last
  few : s.L.length ≤ n
theorem Grows.new : Grows St.new 0 0 := ⟨Ok.new, rfl, rfl, fun x hx => by simp [St.new] at hx, by simp [St.new]⟩
theorem Grows.mono {s : St} {m m' : Int} {n n' : Nat} (h : Grows s m n) (hm : m ≤ m') (hn : n ≤ n') : Grows s m' n' := ⟨h.ok.mono hm, h.fl, h.kp, h.old, Nat.le_trans h.few hn⟩
theorem lay_cases2 (s : St) (r : Row) : (s.lay r).2 = s ∨ ((s.lay r).2 = ⟨s.L ++ [r], r.v, s.floor, s.K⟩ ∧ ¬ r.v < s.last) := by
  unfold St.lay
  split
  · exact .inl rfl
  · next h =>
    split
    · exact .inl rfl
    · exact .inr ⟨rfl, fun h2 => h (.inr h2)⟩
theorem Grows.lay {s : St} {m m' : Int} {n : Nat} (h : Grows s m n) (hm : m ≤ m') {r : Row} (h1 : r.vec.length ≤ 100000 ∧ r.tags.length ≤ 100000) (h2 : (Lit.int .u32 r.id).wf = true) (h3 : 0 ≤ r.v) (h4 : r.v ≤ m') : Grows (s.lay r).2 m' (n + 1) := by
  refine ⟨h.ok.lay hm h1 h2 h3 h4, (lay_floor s r).1.trans h.fl, (lay_floor s r).2.trans h.kp, ?_, ?_⟩
  · rcases lay_cases2 s r with e | ⟨e, hv⟩ <;> rw [e]
    · exact h.old
    · intro x hx
      rcases List.mem_append.1 hx with hx | hx
      · have := h.old x hx
        show x.v ≤ r.v
        omega
      · rw [List.mem_singleton] at hx; subst hx; exact Int.le_refl _
  · rcases lay_cases2 s r with e | ⟨e, hv⟩ <;> rw [e]
    · have := h.few; omega
    · show (s.L ++ [r]).length ≤ n + 1
      rw [List.length_append, List.length_singleton]
      have := h.few
      omega
theorem Grows.cut {s : St} {m m' : Int} {n : Nat} (h : Grows s m n) (hm : m ≤ m') {v id : Int} (h2 : (Lit.int .u32 id).wf = true) (h3 : 0 ≤ v) (h4 : v ≤ m') : Grows (s.cut v id).2 m' (n + 1) := by
  rcases cut_cases s v id with e | e <;> rw [e]
  · exact h.mono hm (by omega)
  · exact h.lay hm ⟨by simp, by simp⟩ h2 h3 h4
/-- A past that was swept, and one that wasn't, behind the same rows more. -/
structure After (s : St) (keep : List Int) (sp sq : St) (m : Int) (n : Nat) : Prop where
  okp : Ok sp m
  okq : Ok sq m
  fewp : sp.L.length ≤ n
  fewq : sq.L.length ≤ n
  last : sp.last = sq.last
  from_ : s.last ≤ sq.last
  flp : sp.floor = s.last
  kpp : sp.K = s.kept keep
  flq : sq.floor = 0
  rows : ∃ E, sp.L = s.stay keep ++ E ∧ sq.L = s.L ++ E
theorem After.start {s : St} {keep : List Int} {m : Int} {n : Nat} (h : Grows s m n) : After s keep (s.sweep keep).2 s m n :=
  ⟨⟨St.sweep_small h.ok.small, St.sweep_fit h.ok.fit, h.ok.low, h.ok.high⟩, h.ok, Nat.le_trans (stays_length _ _ _) h.few, h.few, rfl, Int.le_refl _, rfl, rfl, h.fl, ⟨[], (List.append_nil _).symm, (List.append_nil _).symm⟩⟩
theorem After.lay {s : St} {keep : List Int} {sp sq : St} {m m' : Int} {n : Nat} (h : After s keep sp sq m n) (hn : n < 1024) (hm : m ≤ m') {r : Row} (h1 : r.vec.length ≤ 100000 ∧ r.tags.length ≤ 100000) (h2 : (Lit.int .u32 r.id).wf = true) (h3 : 0 ≤ r.v) (h4 : r.v ≤ m') :
    (sp.lay r).1 = (sq.lay r).1 ∧ After s keep (sp.lay r).2 (sq.lay r).2 m' (n + 1) := by
  have hp := h.okp.lay hm h1 h2 h3 h4
  have hq := h.okq.lay hm h1 h2 h3 h4
  have f1 := h.fewp
  have f2 := h.fewq
  have hl := h.last
  by_cases hb : r.v = 0 ∨ r.v < sq.last
  · have e1 : sp.lay r = (1, sp) := by unfold St.lay; rw [hl, if_pos hb]
    have e2 : sq.lay r = (1, sq) := by unfold St.lay; rw [if_pos hb]
    rw [e1] at hp ⊢
    rw [e2] at hq ⊢
    exact ⟨rfl, ⟨hp, hq, Nat.le_trans f1 (Nat.le_succ n), Nat.le_trans f2 (Nat.le_succ n), hl, h.from_, h.flp, h.kpp, h.flq, h.rows⟩⟩
  · have e1 : sp.lay r = (0, ⟨sp.L ++ [r], r.v, sp.floor, sp.K⟩) := by unfold St.lay; rw [hl, if_neg hb, if_neg (by omega)]
    have e2 : sq.lay r = (0, ⟨sq.L ++ [r], r.v, sq.floor, sq.K⟩) := by unfold St.lay; rw [if_neg hb, if_neg (by omega)]
    rw [e1] at hp ⊢
    rw [e2] at hq ⊢
    obtain ⟨E, e3, e4⟩ := h.rows
    have h5 := h.from_
    exact ⟨rfl, ⟨hp, hq, by show (sp.L ++ [r]).length ≤ _; rw [List.length_append, List.length_singleton]; omega, by show (sq.L ++ [r]).length ≤ _; rw [List.length_append, List.length_singleton]; omega, rfl, (by show s.last ≤ r.v; omega), h.flp, h.kpp, h.flq, ⟨E ++ [r], by show sp.L ++ [r] = _; rw [e3, List.append_assoc], by show sq.L ++ [r] = _; rw [e4, List.append_assoc]⟩⟩⟩
/-- What is asked for is known to both, and told alike. -/
theorem After.asked {s : St} {keep : List Int} {sp sq : St} {m m' : Int} {n n' : Nat} (hs : Grows s m' n') (hk : ∀ x ∈ keep, 0 ≤ x) (h : After s keep sp sq m n) {v : Int} (hv : v ∈ keep ∨ s.last ≤ v) :
    sp.known v = true ∧ sq.known v = true ∧ ∀ R R', AllIs sp.L v R → AllIs sq.L v R' → R = R' := by
  have h0 := hs.ok.low
  have hK : s.kept keep = keep := List.filter_eq_self.2 (fun x hx => known_zero hs.fl (hk x hx))
  have hv0 : 0 ≤ v := by
    rcases hv with hv | hv
    · exact hk v hv
    · omega
  refine ⟨?_, known_zero h.flq hv0, fun R R' h1 h2 => ?_⟩
  · unfold St.known knownP
    rw [h.flp, h.kpp, hK, Bool.or_eq_true, decide_eq_true_eq, List.contains_iff_mem]
    exact hv.symm
  · obtain ⟨E, e1, e2⟩ := h.rows
    rw [e1] at h1
    rw [e2] at h2
    exact AllIs.swept hs.old (by rw [hK]; exact hv) h1 h2
/-- The versions that are asked for. -/
def askedL (keep : List Int) (last last2 : Int) : List Int := keep ++ [last, last + 1, last2, last2 + 9]
theorem asked_mem {keep : List Int} {last last2 v : Int} (h : last ≤ last2) (hv : v ∈ askedL keep last last2) : v ∈ keep ∨ last ≤ v := by
  unfold askedL at hv
  rcases List.mem_append.1 hv with hv | hv
  · exact .inl hv
  · simp at hv
    rcases hv with rfl | rfl | rfl | rfl
    · exact .inr (by omega)
    · exact .inr (by omega)
    · exact .inr (by omega)
    · exact .inr (by omega)
theorem C_four {w : World} {p t : Nat} {a b c d : Int} (h : w.heap[p]? = some (.cells #[.int .u64 a, .int .u64 b, .int .u64 c, .int .u64 d] t (0, 0))) : Kd.C (Kd.int .u64) w (some ⟨p, 0, none⟩) 4 [a, b, c, d] := by
  refine ⟨rfl, by omega, fun _ => ⟨_, rfl, fun j y hj => ?_⟩⟩
  obtain ⟨hl, hy⟩ := List.getElem?_eq_some_iff.1 hj
  refine ⟨[.int .u64 y], rfl, rfl, fun i u hu => ?_⟩
  obtain ⟨hl2, hy2⟩ := List.getElem?_eq_some_iff.1 hu
  have : i = 0 := by simp at hl2; exact hl2
  subst this
  have : Value.int .u64 y = u := hy2
  subst this
  subst hy
  rw [add_plain]
  have e : ∀ i, w.cell? ⟨p, i, none⟩ = _ := fun i => blk_cell h i
  show w.cell? ⟨p, j * 1 + 0, none⟩ = _
  rw [Nat.mul_one, Nat.add_zero, e]
  match j, hl with
  | 0, _ => rfl
  | 1, _ => rfl
  | 2, _ => rfl
  | 3, _ => rfl
end Go.Proofs.Ytjbakaplcjkniaa.Pa
