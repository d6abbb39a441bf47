/- Past: All. No condition. -/
import Derived.Test.YtjbakaplcjkniaaPaC
namespace Go.Proofs.Ytjbakaplcjkniaa.Pa
open Go.RowKit Go.Maps Go.Proofs.YtjbakaplcjkniaaW.PrintWords Go.Proofs.YtjbakaplcjkniaaW.PrintLast Go.Proofs.YtjbakaplcjkniaaW.PrintMore Go.Proofs.Ytjbakaplcjkniaa.Pi
set_option linter.unusedVariables false
set_option linter.unusedSimpArgs false
/-- An item's lists are its own. -/
def EltOk (W : World) (base : Nat) (e : Elt) : Prop := rowV W base (.slice e.A1 e.r.vec.length e.c1) e.r.vec ∧ rowT W base (.slice e.A2 e.r.tags.length e.c2) e.r.tags
theorem EltOk.below {W W1 : World} {base : Nat} {e : Elt} (h : EltOk W base e) (hb : Below W.heap.size W W1) : EltOk W1 base e := ⟨Kd.R_below h.1 hb, Kd.R_below h.2 hb⟩
theorem EltOk.one {W W1 : World} {base b : Nat} {e : Elt} (h : EltOk W base e) (hO : Only (fun k => k = b) W W1) (hnc : NoCells W b) : EltOk W1 base e :=
  have hO2 : Only (NoCells W) W W1 := hO.mono (fun k hk => by subst hk; exact hnc)
  ⟨R_nocells h.1 hO2, R_nocells h.2 hO2⟩
theorem R_other {α : Type} {dd : Kd α} {e t : Nat} {w w1 : World} {base : Nat} {ok : Nat → Prop} {v : Value} {xs : List α} (h : dd.R e w base ok v xs) {S : Nat → Prop} (hO : Only S w w1) (hS : ∀ k, S k → ∃ c, w.heap[k]? = some (.cells c t (0, 0))) (ht : ∀ q, q ∈ e :: dd.E → q ≠ t) : dd.R e w1 base ok v xs := by
  refine Kd.R_mono (Kd.R_step (Kd.R_bound h) (fun k hk hlt => hO.block k hlt (fun hp => ?_))) (fun k hk => hk.1)
  obtain ⟨_, _, _, q, hq, c, hc⟩ := hk
  obtain ⟨c2, hc2⟩ := hS k hp
  exact ht q hq (blk_type hc hc2)
theorem item_t1 : ∀ q, q ∈ 21 :: (Kd.int .i32).E → q ≠ 54 := by
  intro q hq
  have hq : q ∈ [21] := hq
  have e : q = 21 := by simpa using hq
  rw [e]; decide
theorem item_t2 : ∀ q, q ∈ 9 :: Kd.string.E → q ≠ 54 := by
  intro q hq
  have hq : q ∈ [9] := hq
  have e : q = 9 := by simpa using hq
  rw [e]; decide
theorem EltOk.app {W W1 : World} {base : Nat} {e : Elt} (h : EltOk W base e) {S : Nat → Prop} (hO : Only S W W1) (hS : ∀ k, S k → ∃ c, W.heap[k]? = some (.cells c 54 (0, 0))) : EltOk W1 base e :=
  ⟨R_other h.1 hO hS item_t1, R_other h.2 hO hS item_t2⟩
/-- The items that were met. -/
structure Met (L : List Row) (v : Int) (left : Int → Bool) (d : List Elt) : Prop where
  from_ : ∀ e ∈ d, ∃ i : Nat, L[i]? = some e.r ∧ nowI L v L.length e.r.id = some (i : Int) ∧ left e.r.id = false ∧ e.r.gone = false
  all : ∀ id (i : Nat) x, nowI L v L.length id = some (i : Int) → left id = false → L[i]? = some x → x.gone = false → ∃ e ∈ d, e.r = x
  apart : d.Pairwise fun x y => x.r.id ≠ y.r.id
theorem Met.start (L : List Row) (v : Int) : Met L v (fun id => (nowI L v L.length id).isSome) [] := by
  refine ⟨fun e he => by simp at he, fun id i x h1 h2 h3 h4 => ?_, List.Pairwise.nil⟩
  have h2 : (nowI L v L.length id).isSome = false := h2
  rw [h1] at h2
  exact absurd h2 (by simp)
theorem nowI_id {L : List Row} {v id : Int} {i : Nat} {x : Row} (h : nowI L v L.length id = some (i : Int)) (hx : L[i]? = some x) : x.id = id := by
  obtain ⟨j, e1, _, e2⟩ := nowI_some h
  have : i = j := by omega
  subst this
  obtain ⟨y, hy, hid, _⟩ := atP_some (id := id) (v := v) e2
  rw [hx] at hy
  cases hy
  exact hid
theorem Met.skip {L : List Row} {v : Int} {left : Int → Bool} {d : List Elt} (h : Met L v left d) {id : Int} {i : Nat} {x : Row} (hf : nowI L v L.length id = some (i : Int)) (hx : L[i]? = some x) (hg : x.gone = true) : Met L v (fun z => left z && !decide (z = id)) d := by
  refine ⟨fun e he => ?_, fun z k y h1 h2 h3 h4 => ?_, h.apart⟩
  · obtain ⟨k, h1, h2, h3, h4⟩ := h.from_ e he
    exact ⟨k, h1, h2, by show (left e.r.id && !decide (e.r.id = id)) = false; rw [h3]; rfl, h4⟩
  · have h2 : (left z && !decide (z = id)) = false := h2
    by_cases ez : z = id
    · subst ez
      rw [hf] at h1
      injection h1 with h1
      have : i = k := by omega
      subst this
      rw [hx] at h3
      cases h3
      rw [hg] at h4
      cases h4
    · exact h.all z k y h1 (by simpa [ez] using h2) h3 h4
theorem Met.add {L : List Row} {v : Int} {left : Int → Bool} {d : List Elt} (h : Met L v left d) {id : Int} {i : Nat} {x : Row} (hl : left id = true) (hf : nowI L v L.length id = some (i : Int)) (hx : L[i]? = some x) (hg : x.gone = false) {y : Elt} (hy : y.r = x) : Met L v (fun z => left z && !decide (z = id)) (d ++ [y]) := by
  have hid := nowI_id hf hx
  refine ⟨fun e he => ?_, fun z k u h1 h2 h3 h4 => ?_, ?_⟩
  · rcases List.mem_append.1 he with he | he
    · obtain ⟨k, h1, h2, h3, h4⟩ := h.from_ e he
      exact ⟨k, h1, h2, by show (left e.r.id && !decide (e.r.id = id)) = false; rw [h3]; rfl, h4⟩
    · rw [List.mem_singleton] at he
      subst he
      rw [hy]
      exact ⟨i, hx, by rw [hid]; exact hf, by show (left x.id && !decide (x.id = id)) = false; simp [hid], hg⟩
  · have h2 : (left z && !decide (z = id)) = false := h2
    by_cases ez : z = id
    · subst ez
      rw [hf] at h1
      injection h1 with h1
      have : i = k := by omega
      subst this
      rw [hx] at h3
      cases h3
      exact ⟨y, by simp, hy⟩
    · obtain ⟨e, he, e2⟩ := h.all z k u h1 (by simpa [ez] using h2) h3 h4
      exact ⟨e, List.mem_append_left _ he, e2⟩
  · rw [List.pairwise_append]
    refine ⟨h.apart, List.pairwise_singleton _ _, fun a ha b hb => ?_⟩
    rw [List.mem_singleton] at hb
    subst hb
    intro e
    obtain ⟨k, h1, h2, h3, h4⟩ := h.from_ a ha
    rw [e, hy, hid, hl] at h3
    cases h3
/-- What is there at a version, by rising ids. -/
structure AllIs (L : List Row) (v : Int) (R : List Row) : Prop where
  rise : R.Pairwise fun x y => x.id < y.id
  mem : ∀ x, x ∈ R ↔ ∃ i, L[i]? = some x ∧ atP L x.id v = some i ∧ x.gone = false
theorem rising_ext : ∀ {R R' : List Row}, R.Pairwise (fun x y => x.id < y.id) → R'.Pairwise (fun x y => x.id < y.id) → (∀ x, x ∈ R ↔ x ∈ R') → R = R' := by
  intro R R' h1 h2 h
  refine List.Perm.eq_of_pairwise (le := fun x y : Row => x.id < y.id) (fun a b _ _ ha hb => by omega) h1 h2 ?_
  exact (List.perm_ext_iff_of_nodup (h1.imp (fun {a b} hab e => by subst e; omega)) (h2.imp (fun {a b} hab e => by subst e; omega))).2 h
theorem AllIs.eq {L L' : List Row} {v v' : Int} {R R' : List Row} (h : AllIs L v R) (h' : AllIs L' v' R') (hm : ∀ x, (∃ i, L[i]? = some x ∧ atP L x.id v = some i ∧ x.gone = false) ↔ ∃ i, L'[i]? = some x ∧ atP L' x.id v' = some i ∧ x.gone = false) : R = R' :=
  rising_ext h.rise h'.rise (fun x => by rw [h.mem, h'.mem]; exact hm x)
theorem Met.is {L : List Row} {v : Int} {left : Int → Bool} {d d' : List Elt} (h : Met L v left d) (hl : ∀ id, left id = false) (hp : d'.Perm d) (hr : Rising d') : AllIs L v (d'.map Elt.r) := by
  refine ⟨?_, fun x => ?_⟩
  · rw [List.pairwise_map]
    have h1 : d'.Pairwise fun x y => x.r.id ≠ y.r.id := (hp.pairwise_iff (fun {a b} hab => fun e => hab e.symm)).2 h.apart
    exact (h1.and hr).imp (fun {a b} hab => by have := hab.1; have := hab.2; omega)
  · rw [List.mem_map]
    constructor
    · rintro ⟨e, he, rfl⟩
      obtain ⟨i, h1, h2, h3, h4⟩ := h.from_ e (hp.mem_iff.1 he)
      obtain ⟨j, e1, _, e2⟩ := nowI_some h2
      have : i = j := by omega
      subst this
      exact ⟨i, h1, e2, h4⟩
    · rintro ⟨i, h1, h2, h3⟩
      obtain ⟨e, he, e2⟩ := h.all x.id i x (by show (nowTo L v L.length x.id).map (fun i => (i : Int)) = _; rw [nowTo_all, h2]; rfl) (hl _) h1 h3
      exact ⟨e, hp.mem_iff.2 he, e2⟩
section
variable {Z : Nat → Prop} {w0 w w' : World} {g : Nat} {s : St}
set_option maxHeartbeats 2000000 in
set_option maxRecDepth 100000 in
theorem PX.all_gone (h : PX Z w0 w g s) (v : Int) (hk : s.known v = false) :
    Calls Try.prog 32 #[.pointer (some ⟨g, 0, none⟩), .int .u64 v] w fun e w' => e = .returned (.tuple #[.slice none 0 0, .int .i64 80]) ∧ PX Z w0 w' g s ∧ Below w.heap.size w w' := by
  have HX := Aside0.mk h
  have HK := Aside0.mk hk
  clear h hk
  go_enter Try.func32, Try.ntmps32
  go_wp2_with (go_at_call 45; (with_reducible refine (PX.known HX.out v).mono ?_); rintro e w1 ⟨rfl, hP, hb⟩; rw [HK.out]; have HP := Aside0.mk hP; have HB := Aside0.mk hb; clear hP hb)
  go_ret2
  exact ⟨rfl, HP.out, HB.out⟩
theorem OwnE.one {W W1 : World} {base b : Nat} {v : Value} {d : List Elt} (h : OwnE W base v d) (hO : Only (fun k => k = b) W W1) (hnc : NoCells W b) : OwnE W1 base v d :=
  h.move (fun k hk => hO.block k (h.lt k hk) (fun e => by
    subst e
    obtain ⟨c, hc⟩ := h.typed k hk
    exact hnc _ _ hc))
theorem RanI.few {w : World} {b r n : Nat} {f : Int → Option Int} {left : Int → Bool} {cnt : Nat} (h : RanI w b r n f left cnt) : cnt ≤ n := by
  obtain ⟨D, lf, ⟨es, clock, since, seen, c0, hbb, F, hs, hD, hrr, _, hc, _⟩, _⟩ := h
  rw [← hc]
  have e1 : (leftOf es seen).size = (es.toList.filter fun e => !seen.contains e.born).length := by
    unfold leftOf
    rw [← Array.toList_filter, Array.length_toList]
  rw [e1]
  have h1 := List.length_filter_le (fun e : MapEntry => !seen.contains e.born) es.toList
  have h2 : es.toList.length = es.size := Array.length_toList
  omega
def AllAns (w w' : World) (e : Ending) (s : St) (v : Int) : Prop := ∃ a d, e = .returned (.tuple #[a, .int .i64 0]) ∧ OwnE w' w.heap.size a d ∧ (∀ x ∈ d, EltOk w' w.heap.size x) ∧ AllIs s.L v (d.map Elt.r)
set_option maxHeartbeats 16000000 in
set_option maxRecDepth 100000 in
theorem PX.all_known (h : PX Z w0 w g s) (hs : s.Small) (hf : s.Fit) (v : Int) (hk : s.known v = true) :
    Calls Try.prog 32 #[.pointer (some ⟨g, 0, none⟩), .int .u64 v] w fun e w' => AllAns w w' e s v ∧ PX Z w0 w' g s ∧ Below w.heap.size w w' := by
  have hu2 := Try.underlying98
  have hu3 := Try.underlying102
  have hu4 := Try.underlying54
  have hmm := @run_makeMap Try.prog
  have HX := Aside0.mk h
  have HF := Aside0.mk hf
  have HS := Aside0.mk hs
  have HK := Aside0.mk hk
  have HLL := Aside0.mk h.rows
  obtain ⟨aoL, capL, yl0, hrd, -⟩ := h.reads
  have HY0 := Aside0.mk yl0
  have HRD := Aside0.mk hrd
  clear h hs hf hk yl0 hrd
  go_enter Try.func32, Try.ntmps32
  go_wp2_with (go_at_call 45; (with_reducible refine (PX.known HX.out v).mono ?_); rintro e w1 ⟨rfl, -, hb⟩; rw [HK.out]; have HB1 := Aside0.mk hb; have HM1 := Aside0.mk (MapI.new w1); have yl := pw_cell_below (bel_alloc hb (.map #[] 0)) HY0.out; clear hb)
  have HB0 := Aside0.mk (bel_alloc HB1.out (.map #[] 0))
  have HMB := Aside0.mk HB1.out.size
  obtain ⟨mb, hmb⟩ : ∃ z, w1.heap.size = z := ⟨_, rfl⟩
  rw [hmb] at HM1 HMB ⊢
  clear hmb HB1 yl
  go_loopg [22] s.L.length (fun gk v22 wr => ∃ (j : Nat), v22 = .int .i64 j ∧ Aside0 (j ≤ s.L.length ∧ s.L.length - j ≤ gk) ∧ Aside0 (Below w.heap.size w wr) ∧ Aside0 (MapI wr mb j (nowI s.L v j)))
  case atStart => exact ⟨0, rfl, ⟨by omega, by omega⟩, HB0, HM1⟩
  case round =>
    clear HB0 HM1
    obtain ⟨j, rfl, HJ, HB, HM⟩ := hrel
    by_cases hj : j < s.L.length
    · have q2 : decide ((j : Int) < (s.L.length : Int)) = true := decide_eq_true (by omega)
      have q2' : (j : Int) < (s.L.length : Int) := by omega
      obtain ⟨x, hx⟩ : ∃ x, s.L[j]? = some x := ⟨_, List.getElem?_eq_getElem hj⟩
      obtain ⟨adL, A1, c1, A2, c2, eL, hr⟩ := (HRD.out.below HB.out).at hx
      have y0 := hr.y0
      have y1 := hr.y1
      have y2 := hr.y2
      have y3 := hr.y3
      have y4 := hr.y4
      have HXX := Aside0.mk hx
      have HJJ := Aside0.mk hj
      have HEL := Aside0.mk eL
      subst eL
      clear hx hj hr
      have HB3 := Aside0.mk (bel_alloc HB.out (.cells #[.int .u64 x.v, .bool x.gone, .int .u32 x.id, .slice A1 x.vec.length c1, .slice A2 x.tags.length c2] 102))
      have HM3 := Aside0.mk (HM.out.below (below_alloc (Below.refl _ _) (.cells #[.int .u64 x.v, .bool x.gone, .int .u32 x.id, .slice A1 x.vec.length c1, .slice A2 x.tags.length c2] 102)))
      cases q3 : decide (x.v ≤ v) with
      | true =>
        go_wp2_with (at_mapUpdate; refine put_I rfl _ _ _ rfl _ j _ rfl HM3.out (by have := HLL.out; have := HJJ.out; omega) _ _ rfl rfl (HF.out x (List.mem_of_getElem? HXX.out)) (wf_i64 (by have := HLL.out; have := HJJ.out; omega)) ?_; intro w7 hm hO; have HM7 := Aside0.mk hm; have HB7 := Aside0.mk (hO.below_of HB3.out (fun i hi => by subst hi; exact HMB.out)); clear hm hO)
        obtain ⟨gk, rfl⟩ : ∃ m, gk = m + 1 := ⟨gk - 1, by have := HJ.out; have := HJJ.out; omega⟩
        go_roundg gk
        case measure => omega
        case rel => exact ⟨j + 1, congrArg (Value.int .i64) (by have := HLL.out; have := HJJ.out; unfold wrap64; omega), ⟨by have := HJ.out; have := HJJ.out; omega, by have := HJ.out; have := HJJ.out; omega⟩, HB7, ⟨by rw [nowI_fit HXX.out (of_decide_eq_true q3)]; exact HM7.out⟩⟩
      | false =>
        go_wp2
        obtain ⟨gk, rfl⟩ : ∃ m, gk = m + 1 := ⟨gk - 1, by have := HJ.out; have := HJJ.out; omega⟩
        go_roundg gk
        case measure => omega
        case rel => exact ⟨j + 1, congrArg (Value.int .i64) (by have := HLL.out; have := HJJ.out; unfold wrap64; omega), ⟨by have := HJ.out; have := HJJ.out; omega, by have := HJ.out; have := HJJ.out; omega⟩, HB3, ⟨by rw [nowI_unfit HXX.out (of_decide_eq_false q3)]; exact HM3.out.mono (by omega)⟩⟩
    · have q2 : decide ((j : Int) < (s.L.length : Int)) = false := decide_eq_false (by omega)
      have q2' : (j < s.L.length) = False := eq_false hj
      have q2'' : decide (j < s.L.length) = false := decide_eq_false hj
      have hje : j = s.L.length := by have := HJ.out; omega
      subst hje
      clear hj HJ
      go_wp2_with (at_range; refine range_I rfl _ rfl _ _ _ rfl HM.out ?_; intro w8 cnt0 hr hb; have HR8 := Aside0.mk hr; have HB8 := Aside0.mk (bel_trans HB.out hb); clear hr hb)
      go_frame
      have HRB := Aside0.mk HB.out.size
      obtain ⟨rb, hrb⟩ : ∃ z, wr.heap.size = z := ⟨_, rfl⟩
      rw [hrb] at HR8 HRB ⊢
      clear hrb q2 q2' q2''
      go_loopg [9] cnt0 (fun gk3 v9 wr3 => ∃ (cnt : Nat) (left : Int → Bool) (d : List Elt) (A : Option Addr) (c : Nat), v9 = .slice A d.length c ∧ Aside0 (cnt ≤ gk3 ∧ d.length + cnt ≤ 1000000) ∧ Aside0 (Below w.heap.size w wr3) ∧ Aside0 (RanI wr3 mb rb s.L.length (nowI s.L v s.L.length) left cnt) ∧ Aside0 (Met s.L v left d) ∧ Aside0 (OwnE wr3 w.heap.size (.slice A d.length c) d) ∧ Aside0 (∀ e ∈ d, EltOk wr3 w.heap.size e))
      case atStart => exact ⟨cnt0, _, [], none, 0, rfl, ⟨Nat.le_refl _, by have h1 := HR8.out.few; have h2 := HLL.out; show 0 + cnt0 ≤ 1000000; omega⟩, HB8, HR8, ⟨Met.start _ _⟩, ⟨OwnE.nil _ _⟩, ⟨fun e he => by simp at he⟩⟩
      case round =>
        obtain ⟨cnt, left, d, A, c, rfl, HCN, HB9, HR9, HN9, HO9, HE9⟩ := hrel
        go_wp2_with (first | (at_next; refine next_I rfl _ rfl _ _ _ _ _ _ rfl HR9.out (fun h0 hl => ?_) (fun id ci w9 cnt9 hl hf hr hlt hO hen => ?_); rotate_left; obtain ⟨jj, rfl, hjl, -⟩ := nowI_some hf; obtain ⟨x, hx⟩ : ∃ x, s.L[jj]? = some x := ⟨_, List.getElem?_eq_getElem hjl⟩; have hB10 := hO.below_of HB9.out (fun i hi => by subst hi; exact HRB.out); obtain ⟨adL, A1, c1, A2, c2, eL, hrw⟩ := (HRD.out.below hB10).at hx; have yl := pw_cell_below hB10 HY0.out; have HPT := Aside0.mk (hrw.parts (PX.small HX.out HS.out hx)); have x1 := hrw.y1; have x2 := hrw.y2; have x3 := hrw.z3; have x4 := hrw.z4; have HB10 := Aside0.mk hB10; have HO10 := Aside0.mk (HO9.out.one hO HR9.out.nocells); have HE10 := Aside0.mk (fun e he => (HE9.out e he).one hO HR9.out.nocells); have HR10 := Aside0.mk hr; have HXX := Aside0.mk hx; have HFF := Aside0.mk hf; have HLF := Aside0.mk hl; have HLT := Aside0.mk hlt; have HJL := Aside0.mk hjl; have q5 : (jj : Int) < (s.L.length : Int) := (by omega); have HEL := Aside0.mk eL; subst eL; clear hB10 hrw hO hr hx hf hl hlt hjl; cases hgo : x.gone) | (go_at_call 48; (with_reducible refine (sortE w.heap.size _ d _ HO9.out (by have := HCN.out; omega)).mono ?_); rintro e w12 ⟨rfl, hO, d2, hp, hri, ho⟩; have HB12 := Aside0.mk (hO.below_of HB9.out (fun k hk => HO9.out.base k hk)); have HO12 := Aside0.mk ho; have HE12 := Aside0.mk (fun e he => (HE9.out e (hp.mem_iff.1 he)).app hO (fun k hk => HO9.out.typed k hk)); have HAL := Aside0.mk (HN9.out.is hl hp hri); have HLEN := Aside0.mk hp.length_eq; clear hO hp hri ho) | (go_at_call 43; (with_reducible refine (own_calls x A1 c1 A2 c2 _ HPT.out).mono ?_); rintro e w11 ⟨⟨v1, v2, rfl, r1, r2⟩, hb⟩; obtain ⟨a1, d1, rfl⟩ := Kd.R_slice r1; obtain ⟨a2, d2, rfl⟩ := Kd.R_slice r2; have HY := Aside0.mk (show EltOk w11 w.heap.size ⟨x, a1, d1, a2, d2⟩ from ⟨Kd.R_lower r1 HB10.out.size, Kd.R_lower r2 HB10.out.size⟩); have HB11 := Aside0.mk (bel_trans HB10.out hb); have HO11 := Aside0.mk (HO10.out.below hb); have HE11 := Aside0.mk (fun e he => (HE10.out e he).below hb); have HR11 := Aside0.mk (HR10.out.only (Only.of_below (S := fun _ => False) hb) (fun h => h) (fun h => h)); clear r1 r2 hb) | (at_builtin; refine app_E rfl (.tmp 52) (.tmp 62) rfl w.heap.size _ d ⟨x, a1, d1, a2, d2⟩ [.int .u32 x.id, .slice a1 x.vec.length d1, .slice a2 x.tags.length d2] rfl rfl rfl HO11.out (by have := HCN.out; omega) HB11.out.size ?_; intro v13 w13 ho hO; have HBA := below_alloc (Below.refl w11.heap.size w11) (.cells #[.int .u32 x.id, .slice a1 x.vec.length d1, .slice a2 x.tags.length d2] 54); have hO8 := HO11.out.below HBA; obtain ⟨D13, hD13⟩ : ∃ z, d ++ [⟨x, a1, d1, a2, d2⟩] = z := ⟨_, rfl⟩; rw [hD13] at ho; obtain ⟨A13, c13, rfl, -⟩ := ho.slice; have HD13 := Aside0.mk hD13; have HO13 := Aside0.mk ho; have HB13 := Aside0.mk (hO.below_of (bel_trans HB11.out HBA) (fun k hk => HO11.out.base k hk)); have HR13 := Aside0.mk ((HR11.out.only (Only.of_below (S := fun _ => False) HBA) (fun h => h) (fun h => h)).only hO (fun e => by obtain ⟨c, hc⟩ := hO8.typed _ e; exact (HR11.out.only (Only.of_below (S := fun _ => False) HBA) (fun h => h) (fun h => h)).map.nocells _ _ hc) (fun e => by obtain ⟨c, hc⟩ := hO8.typed _ e; exact (HR11.out.only (Only.of_below (S := fun _ => False) HBA) (fun h => h) (fun h => h)).nocells _ _ hc)); have HE13 := Aside0.mk (show ∀ e ∈ D13, EltOk w13 w.heap.size e by rw [← hD13]; intro e he; rcases List.mem_append.1 he with he | he; exact ((HE11.out e he).below HBA).app hO (fun k hk => hO8.typed k hk); rw [List.mem_singleton] at he; subst he; exact (HY.out.below HBA).app hO (fun k hk => hO8.typed k hk)); clear ho hO HBA hO8 hD13) | go_in)
        · obtain ⟨gk, rfl⟩ : ∃ m, gk = m + 1 := ⟨gk - 1, by have := HCN.out; have := HLT.out; omega⟩
          go_roundg gk
          case measure => omega
          case rel => exact ⟨cnt9, _, D13, A13, c13, rfl, ⟨by have := HCN.out; have := HLT.out; omega, by have h1 := HCN.out; have h2 := HLT.out; have h3 : D13.length = d.length + 1 := (by rw [← HD13.out, List.length_append]; rfl); omega⟩, HB13, HR13, ⟨by rw [← HD13.out]; exact HN9.out.add HLF.out HFF.out HXX.out hgo rfl⟩, HO13, HE13⟩
        · obtain ⟨gk, rfl⟩ : ∃ m, gk = m + 1 := ⟨gk - 1, by have := HCN.out; have := HLT.out; omega⟩
          go_roundg gk
          case measure => omega
          case rel => exact ⟨cnt9, _, d, A, c, rfl, ⟨by have := HCN.out; have := HLT.out; omega, by have := HCN.out; have := HLT.out; omega⟩, HB10, HR10, ⟨HN9.out.skip HFF.out HXX.out hgo⟩, HO10, HE10⟩
        · go_ret2
          exact ⟨⟨_, d2, rfl, HO12.out, HE12.out, HAL.out⟩, HX.out.below HB12.out, HB12.out⟩
end
end Go.Proofs.Ytjbakaplcjkniaa.Pa
