/- Texts of this claim,one behind the other: words,walks,plain laws. No condition. -/
import Derived.Test.YtofmlajanopniaaPk1
import Derived.Test.YtofmlajanopniaaSort
import Derived.Shelf.SlSortCmp.NoneTotal
import Derived.Laws.StructEq
import Derived.WalkSpells
import Derived.Laws.AppendOwnNone
import Derived.Test.YtofmlajanopniaaPk2
import Derived.BigRegion
import Derived.Maps.AppendAt
import Derived.Deep.RegionHeld3
import Derived.Laws.OwnMore
import Derived.Laws.IdiomCopy
set_option linter.unusedVariables false
set_option linter.unusedSimpArgs false
namespace Go.Proofs.Ytofmlajanopniaa.Tk
open Go.RowKit Go.Proofs.YtofmlajanopniaaW.PrintWords Go.Proofs.Ytofmlajanopniaa.Q
instance : Inhabited H := ⟨⟨0,0⟩⟩
def cmpH (a b : H) : Int := if ltH a b = true then -1 else if a.f0 = b.f0 ∧ a.f1 = b.f1 then 0 else 1
theorem cmp_eq {a b : H} (h : ltH a b = false) (h2 : a.f0 = b.f0 ∧ a.f1 = b.f1) : cmpH a b = 0 := by unfold cmpH;rw [h,if_neg (by simp),if_pos h2]
theorem cmp_gt {a b : H} (h : ltH a b = false) (h2 : ¬ (a.f0 = b.f0 ∧ a.f1 = b.f1)) : cmpH a b = 1 := by unfold cmpH;rw [h,if_neg (by simp),if_neg h2]
set_option maxHeartbeats 2000000 in
set_option maxRecDepth 100000 in
theorem cmp_calls (a b : H) (w : World) :
  Calls Try.prog 94 #[.agg #[.int .i64 a.f0,.int .u32 a.f1],.agg #[.int .i64 b.f0,.int .u32 b.f1]] w fun e w' => e = .returned (.int .i64 (cmpH a b)) ∧ w' = (((w.alloc (boxH a)).alloc (boxH b)).alloc (boxH a)).alloc (boxH b) := by
 have hu := Try.underlying58
 have hlc := fun W => less_calls a.f0 a.f1 b.f0 b.f1 W
 obtain ⟨l,hl⟩ : ∃ l,ltH a b = l := ⟨_,rfl⟩
 have hle : ltH ⟨a.f0,a.f1⟩ ⟨b.f0,b.f1⟩ = l := hl
 rw [hle] at hlc
 have HL := Aside0.mk hl
 clear hl hle
 cases l with
 | true =>
  go_enter Try.func94,Try.ntmps94
  go_wp2_with ((go_at_call 48;(with_reducible refine (hlc _).mono ?_);rintro e w3 ⟨rfl,rfl⟩))
  go_ret
  exact ⟨by unfold cmpH;rw [HL.out];rfl,rfl⟩
 | false =>
  by_cases h0 : a.f0 = b.f0
  ·have e0 : (a.f0 == b.f0) = true := beq_iff_eq.2 h0
   by_cases h1 : a.f1 = b.f1
   ·have e1 : (a.f1 == b.f1) = true := beq_iff_eq.2 h1
    have HE := Aside0.mk (show a.f0 = b.f0 ∧ a.f1 = b.f1 from ⟨h0,h1⟩)
    clear h0 h1
    go_enter Try.func94,Try.ntmps94
    go_wp2_with ((go_at_call 48;(with_reducible refine (hlc _).mono ?_);rintro e w3 ⟨rfl,rfl⟩))
    go_ret
    exact ⟨congrArg (fun z => Ending.returned (Value.int .i64 z)) (cmp_eq HL.out HE.out).symm,rfl⟩
   ·have e1 : (a.f1 == b.f1) = false := beq_eq_false_iff_ne.2 h1
    have HE := Aside0.mk (show ¬ (a.f0 = b.f0 ∧ a.f1 = b.f1) from fun x => h1 x.2)
    clear h0 h1
    go_enter Try.func94,Try.ntmps94
    go_wp2_with ((go_at_call 48;(with_reducible refine (hlc _).mono ?_);rintro e w3 ⟨rfl,rfl⟩))
    go_ret
    exact ⟨congrArg (fun z => Ending.returned (Value.int .i64 z)) (cmp_gt HL.out HE.out).symm,rfl⟩
  ·have e0 : (a.f0 == b.f0) = false := beq_eq_false_iff_ne.2 h0
   have HE := Aside0.mk (show ¬ (a.f0 = b.f0 ∧ a.f1 = b.f1) from fun x => h0 x.1)
   clear h0
   go_enter Try.func94,Try.ntmps94
   go_wp2_with ((go_at_call 48;(with_reducible refine (hlc _).mono ?_);rintro e w3 ⟨rfl,rfl⟩))
   go_ret
   exact ⟨congrArg (fun z => Ending.returned (Value.int .i64 z)) (cmp_gt HL.out HE.out).symm,rfl⟩
theorem ltH_irrefl (a : H) : ltH a a = false := by simp [ltH]
theorem ltH_iff (a b : H) : ltH a b = true ↔ a.f0 < b.f0 ∨ (a.f0 = b.f0 ∧ a.f1 < b.f1) := by simp [ltH]
theorem ltH_no (a b : H) : ltH a b = false ↔ ¬ (a.f0 < b.f0 ∨ (a.f0 = b.f0 ∧ a.f1 < b.f1)) := by rw [← ltH_iff];simp
theorem ltOf_cmp : Go.Proofs.ltOf cmpH = ltH := by
 funext a b
 unfold Go.Proofs.ltOf cmpH
 cases h : ltH a b with
 | true => simp
 | false => by_cases h2 : a.f0 = b.f0 ∧ a.f1 = b.f1 <;> simp [h2]
theorem swo : Go.Sort.SWO ltH where
 irrefl := ltH_irrefl
 trans x y z h1 h2 := by rw [ltH_iff] at *;omega
 ntrans x y z h1 h2 := by rw [ltH_no] at *;omega
theorem ltH_total (x y : H) (h1 : ltH x y = false) (h2 : ltH y x = false) : x = y := by
 rw [ltH_no] at h1 h2
 cases x;cases y
 simp only [S58.mk.injEq] at *
 omega
def sortH (A : List H) : List H := A.mergeSort fun x y => !ltH y x
theorem sortH_perm (A : List H) : (sortH A).Perm A := List.mergeSort_perm A _
theorem sortH_len (A : List H) : (sortH A).length = A.length := List.length_mergeSort A
theorem isAgg_hit : ∀ w,(isAgg 58).run Try.prog w = .ok true w := fun w => by kernel_rfl
theorem sizeOf_hit : ∀ w,(Go.sizeOf 58).run Try.prog w = .ok 2 w := fun w => by kernel_rfl
theorem flat_get (A : List H) (t : Nat) (h : t < A.length * 2) : (cellsOf A)[t]? = some (Go.Sort.flatK enc 2 A.toArray)[t]! := by
 rw [Go.Sort.get_flatK enc 2 _ t (by simpa using h)]
 have hi : t / 2 < A.length := by omega
 obtain ⟨g0,g1⟩ := cellsOf_get A (t / 2) hi
 have e : A.toArray[t / 2]! = A[t / 2] := by simp [hi]
 rw [e]
 rcases Nat.mod_two_eq_zero_or_one t with hm | hm
 ·have ht : t / 2 * 2 = t := by omega
  rw [ht] at g0
  rw [hm,g0]
  rfl
 ·have ht : t / 2 * 2 + 1 = t := by omega
  rw [ht] at g1
  rw [hm,g1]
  rfl
theorem holds_of_row {w : World} {r cap : Nat} {A : List H} (h : RowAt w r cap A) : Go.Sort.HoldsK enc 2 w r 0 A.toArray := by
 intro t ht
 have ht' : t < A.length * 2 := by simpa using ht
 have hf := flat_get A t ht'
 obtain ⟨rest,hb,hl⟩ := h.out
 have hc := cellsOf_len A
 refine ⟨?_,blk_frozen hb _⟩
 rw [Nat.zero_add,blk_cell hb,List.getElem?_toArray,List.getElem?_append_left (by omega)]
 exact hf
theorem put_row {w : World} {r cap n : Nat} {A B : List H} {os : Array Obj} (h : RowAt w r cap A) (hAB : B.length = A.length) : RowAt (Go.Proofs.sortWorldK enc 2 w r 0 n B.toArray os) r cap B := by
 obtain ⟨rest,hb,hl⟩ := h.out
 have hr := blk_lt hb
 have hc := cellsOf_len A
 have hc2 := cellsOf_len B
 refine ⟨rest, ?_,by rw [List.length_append] at *;omega⟩
 have h1 : (Go.Sort.putRowK enc 2 (Go.Sort.ahead w n) r 0 B.toArray).heap[r]? = some (.cells (Go.Sort.putCells id 0 (Go.Sort.flatK enc 2 B.toArray) (cellsOf A ++ rest).toArray) 58 (0,0)) := by
  simp only [Go.Sort.putRowK,Go.Sort.putRow,Go.Sort.mapBlock,Go.Sort.ahead,Array.getElem?_modify,hb]
  simp [Go.Sort.onCells]
 have h2 : Go.Sort.putCells id 0 (Go.Sort.flatK enc 2 B.toArray) (cellsOf A ++ rest).toArray = (cellsOf B ++ rest).toArray := by
  apply Array.ext_getElem?
  intro t
  simp only [Go.Sort.putCells,Array.getElem?_mapIdx,List.getElem?_toArray,Nat.zero_le,true_and,Nat.zero_add,Nat.sub_zero,Go.Sort.size_flatK,List.size_toArray]
  by_cases ht : t < B.length * 2
  ·rw [List.getElem?_append_left (by omega),List.getElem?_append_left (by omega),flat_get B t ht,flat_get A t (by omega)]
   simp [ht]
  ·rw [List.getElem?_append_right (by omega),List.getElem?_append_right (by omega),hc,hc2,hAB]
   have ht' : ¬ t < A.length * 2 := by omega
   cases hre : rest[t - A.length * 2]? <;> simp [ht',hAB]
 rw [h2] at h1
 show (Go.Sort.grow _ os).heap[r]? = _
 have hsz : r < (Go.Sort.putRowK enc 2 (Go.Sort.ahead w n) r 0 B.toArray).heap.size := blk_lt h1
 simp only [Go.Sort.grow]
 rw [Array.getElem?_append_left hsz]
 exact h1
theorem only_sort (w : World) (r n : Nat) (B : List H) (os : Array Obj) : Only (· = r) w (Go.Proofs.sortWorldK enc 2 w r 0 n B.toArray os) := by
 refine ⟨rfl,rfl,rfl, ?_,fun k hk hs => ?_⟩
 ·simp [Go.Proofs.sortWorldK,Go.Sort.grow,Go.Sort.putRowK,Go.Sort.putRow,Go.Sort.mapBlock,Go.Sort.ahead]
 ·simp only [Go.Proofs.sortWorldK,Go.Sort.grow,Go.Sort.putRowK,Go.Sort.putRow,Go.Sort.mapBlock,Go.Sort.ahead]
  rw [Array.getElem?_append_left (by simpa using hk),Array.getElem?_modify,if_neg (fun e => hs e.symm)]
theorem enters_cmp : ∀ args w,(callFunc 94 args).run Try.prog w = .ok (.enter 94 args) w := Go.Proofs.enters_of Try.func94 (by kernel_rfl) rfl
theorem cmp_lays (blk off size : Nat) (w : World) : Go.Proofs.CmpLays Try.prog 94 #[] enc 2 cmpH blk off size w := by
 intro m os dk hs x y
 refine (cmp_calls x y _).mono fun e w' ⟨he,hw⟩ => ⟨he,0,#[boxH x,boxH y,boxH x,boxH y], ?_⟩
 rw [hw,Go.Sort.alloc_eq_grow,Go.Sort.alloc_eq_grow,Go.Sort.alloc_eq_grow,Go.Sort.alloc_eq_grow,Go.Sort.grow_grow,Go.Sort.grow_grow,Go.Sort.grow_grow]
 rfl
theorem sort_calls (r cap : Nat) (A : List H) (w : World) (h : RowAt w r cap A) (hl : A.length ≤ 1000000) :
  Calls Try.prog 80 #[.slice (some ⟨r,0,none⟩) A.length cap,.func (.func 94) #[] #[]] w fun e w' => e = .returned (.tuple #[]) ∧ Only (· = r) w w' ∧ RowAt w' r cap (sortH A) := by
 have hs : A.toArray.size = A.length := by simp
 have hc := Go.Proofs.AnyQ.slices_SortFunc_total Try.sortHit 2 isAgg_hit sizeOf_hit enc (fun _ => rfl) (fun x => hit_one x) cmpH (by rw [ltOf_cmp];exact swo) 94 #[] r 0 cap A.toArray w enters_cmp (cmp_lays r 0 _ w) (holds_of_row h) h.lt (by rw [hs];omega) (by rw [ltOf_cmp];exact ltH_total)
 rw [hs] at hc
 refine hc.mono fun e w' ⟨he,n,os,hw⟩ => ?_
 rw [ltOf_cmp] at hw
 subst hw
 exact ⟨he,only_sort w r n (sortH A) os,put_row h (sortH_len A)⟩
end Go.Proofs.Ytofmlajanopniaa.Tk
namespace Go.Proofs.Ytofmlajanopniaa.Tk
open Go.RowKit Go.Proofs.YtofmlajanopniaaW.PrintWords Go.Proofs.YtofmlajanopniaaW.PrintLast Go.Proofs.YtofmlajanopniaaW.PrintMore Go.Proofs.Ytofmlajanopniaa.Q
attribute [local go_sem] max2_int min2_int max_two min_two
def ReadsH (w : World) (ao : Option Addr) (cap : Nat) (A : List H) : Prop :=
 A.length ≤ cap ∧ ((ao = none ∧ A = [] ∧ cap = 0) ∨ ∃ ad,ao = some ad ∧ ∀ j u,(cellsOf A)[j]? = some u → w.cell? (ad.add j) = some u)
theorem cells_one {A : List H} : ∀ u ∈ cellsOf A,u.oneCell' = true := by
 intro u hu
 obtain ⟨h,_,hh⟩ := List.mem_flatMap.1 hu
 exact hit_one h u hh
theorem info_hit2 : ∃ i,Try.prog.info? 58 = some i ∧ i.zero = some (.agg #[.int .i64 0,.int .u32 0]) ∧ i.size = 2 ∧ i.bytes = 16 := by
 obtain ⟨i0,hi,hzz⟩ := Option.map_eq_some_iff.1 info_hit
 simp only [Prod.mk.injEq] at hzz
 exact ⟨i0,hi,hzz⟩
set_option maxHeartbeats 2000000 in
set_option maxRecDepth 100000 in
theorem clone_nil (w : World) :
  Calls Try.prog 79 #[.slice none 0 0] w fun e w' => e = .returned (.slice none 0 0) ∧ w' = w := by
 have q22 : ∀ (w : World) (a : Option Addr) (n c n' c' : Nat),(binOp .eql 50 (.slice a n c) (.slice none n' c')).run Try.prog w = .ok (.bool a.isNone) w := fun w a n c n' c' => Lib.run_eql_slice_nil w _ _ a n c n' c' Try.underlying50
 go_enter Try.func79,Try.ntmps79
 go_wp2
 go_ret
 exact ⟨rfl,rfl⟩
theorem own_empty (w : World) : (w.alloc (.cells #[] 58)).ownsRow w.heap.size 58 2 (.slice (some ⟨w.heap.size,0,none⟩) 0 0) 0 [] :=
 ⟨rfl,.inr ⟨w.heap.size,0,#[],rfl,Nat.le_refl _,heap_alloc_new w _,Nat.le_refl _,by unfold maxLen;omega,rfl,rfl⟩⟩
set_option maxHeartbeats 2000000 in
set_option maxRecDepth 100000 in
theorem clone_some (ad : Addr) (cap : Nat) (A : List H) (w : World) (hl : A.length ≤ 1000000) (hr : ∀ j u,(cellsOf A)[j]? = some u → w.cell? (ad.add j) = some u) :
  Calls Try.prog 79 #[.slice (some ad) A.length cap] w fun e w' => (∃ v,e = .returned v ∧ w'.ownsRow w.heap.size 58 2 v A.length (cellsOf A)) ∧ Below w.heap.size w w' := by
 obtain ⟨i0,hi,hz,hs,hb⟩ := info_hit2
 have hu2 := Try.underlying50
 have HR := Aside0.mk hr
 have HI := Aside0.mk hi
 clear hr hi
 have q22 : ∀ (w : World) (a : Option Addr) (n c n' c' : Nat),(binOp .eql 50 (.slice a n c) (.slice none n' c')).run Try.prog w = .ok (.bool a.isNone) w := fun w a n c n' c' => Lib.run_eql_slice_nil w _ _ a n c n' c' Try.underlying50
 go_enter Try.func79,Try.ntmps79
 go_wp2_with (at_builtin;go_must (refine wpList_append_own _ rfl _ _ _ rfl w.heap.size 58 i0 (.agg #[.int .i64 0,.int .u32 0]) 2 16 hu2 HI.out hz hs hb rfl (by decide) (.slice (some ⟨w.heap.size,0,none⟩) 0 0) 0 [] rfl ?c1 ad A.length cap (cellsOf A) rfl (cellsOf_len A) ?c2 cells_one ?c3 ?c4 ?c5 ?_))
 case c1 => exact own_empty w
 case c2 => exact fun j u hu => pw_cell_below (below_alloc (Below.refl _ _) _) (HR.out j u hu)
 case c3 => unfold maxLen;omega
 case c4 => omega
 case c5 => simp
 intro v' w2 hown hg hne
 have hb2 := pw_below_grown (below_alloc (Below.refl w.heap.size w) (.cells #[] 58)) _ (by simp) hg (fun k hk => by simp only [Value.ownBlock,Option.some.injEq] at hk;omega)
 have HOW := Aside0.mk hown
 have HB2 := Aside0.mk hb2
 clear hown hg hne hb2
 go_wp2
 go_ret
 exact ⟨⟨v',rfl,HOW.out⟩,HB2.out⟩
def OwnH (w : World) (base : Nat) (v : Value) (A : List H) : Prop := w.ownsRow base 58 2 v A.length (cellsOf A)
theorem OwnH.weaken {w : World} {b b' : Nat} {v : Value} {A : List H} (h : OwnH w b v A) (hb : b' ≤ b) : OwnH w b' v A := own_weaken h hb
theorem OwnH.row {w : World} {b : Nat} {v : Value} {A : List H} (h : OwnH w b v A) : (v = .slice none 0 0 ∧ A = []) ∨ ∃ r cap,v = .slice (some ⟨r,0,none⟩) A.length cap ∧ b ≤ r ∧ cap ≤ maxLen ∧ RowAt w r cap A := by
 rcases h.2 with ⟨rfl,h0⟩ | ⟨g,cap,cur,rfl,hb,hh,h1,h2,h3,h4⟩
 ·exact .inl ⟨rfl,List.length_eq_zero_iff.1 h0⟩
 ·refine .inr ⟨g,cap,rfl,hb,h2,cur.toList.drop (A.length * 2), ?_, ?_⟩
  ·have e : cellsOf A ++ cur.toList.drop (A.length * 2) = cur.toList := by rw [← h4,List.take_append_drop]
   rw [e,hh]
  ·have e : cellsOf A ++ cur.toList.drop (A.length * 2) = cur.toList := by rw [← h4,List.take_append_drop]
   rw [e,Array.length_toList,h3]
theorem RowAt.own {w : World} {r cap b : Nat} {A : List H} (h : RowAt w r cap A) (hc : cap ≤ maxLen) (hb : b ≤ r) : OwnH w b (.slice (some ⟨r,0,none⟩) A.length cap) A := by
 have hle := h.le
 obtain ⟨rest,hb',hl⟩ := h.out
 exact ⟨cellsOf_len A,.inr ⟨r,cap,_,rfl,hb,hb',hle,hc,by simpa using hl,by rw [← cellsOf_len A];simp⟩⟩
theorem RowAt.reads {w : World} {r cap : Nat} {A : List H} (h : RowAt w r cap A) : ∀ j u,(cellsOf A)[j]? = some u → w.cell? ((⟨r,0,none⟩ : Addr).add j) = some u := by
 intro j u hu
 obtain ⟨rest,hb,hl⟩ := h.out
 rw [add_plain,blk_cell hb,List.getElem?_toArray,List.getElem?_append_left (List.getElem?_eq_some_iff.1 hu).1]
 exact hu
theorem clone_calls (ao : Option Addr) (cap : Nat) (A : List H) (w : World) (hl : A.length ≤ 1000000) (hr : ReadsH w ao cap A) :
  Calls Try.prog 79 #[.slice ao A.length cap] w fun e w' => (∃ v,e = .returned v ∧ OwnH w' w.heap.size v A) ∧ Below w.heap.size w w' := by
 rcases hr.2 with ⟨rfl,rfl,rfl⟩ | ⟨ad,rfl,hr2⟩
 ·exact (clone_nil w).mono fun e w' ⟨he,hw⟩ => ⟨⟨_,he,by subst hw;exact own_nil _ _ _ _⟩,by subst hw;exact Below.refl _ _⟩
 ·exact (clone_some ad cap A w hl hr2)
theorem Best.reads {w : World} {S : Nat → Prop} {g k : Nat} {A : List H} (h : Best w S g k A) : ∃ ao cap,w.heap[g]? = some (.cells #[.int .i64 k,.slice ao A.length cap] 127 (0,0)) ∧ ReadsH w ao cap A := by
 obtain ⟨v,hg,ho,hv⟩ := h.at_
 rcases OwnH.row ho with ⟨rfl,rfl⟩ | ⟨r,cap,rfl,_,hc,hr⟩
 ·exact ⟨none,0,hg,by simp,.inl ⟨rfl,rfl,rfl⟩⟩
 ·exact ⟨some ⟨r,0,none⟩,cap,hg,hr.le,.inr ⟨_,rfl,hr.reads⟩⟩
theorem sort_own (b : Nat) (v : Value) (A : List H) (w : World) (h : OwnH w b v A) (hl : A.length ≤ 1000000) :
  Calls Try.prog 80 #[v,.func (.func 94) #[] #[]] w fun e w' => e = .returned (.tuple #[]) ∧ Only (fun k => v.ownBlock = some k) w w' ∧ OwnH w' b v (sortH A) := by
 rcases h.row with ⟨rfl,rfl⟩ | ⟨r,cap,rfl,hb,hc,hr⟩
 ·refine (Go.Proofs.AnyF.slices_SortFunc_none Try.sortHit none 0 _ w).mono fun e w' ⟨he,hw⟩ => ?_
  subst hw
  exact ⟨he,Only.refl _ _,by have : sortH [] = [] := List.length_eq_zero_iff.1 (sortH_len []);rw [this];exact own_nil _ _ _ _⟩
 ·refine (sort_calls r cap A w hr hl).mono fun e w' ⟨he,hO,hR⟩ => ⟨he,hO.mono (fun k hk => by subst hk;rfl), ?_⟩
  have := hR.own hc hb
  rw [sortH_len] at this
  exact this
set_option maxHeartbeats 2000000 in
set_option maxRecDepth 100000 in
theorem order_calls (w : World) : Calls Try.prog 81 #[] w fun e w' => e = .returned (.func (.func 94) #[] #[]) ∧ w' = w := by
 go_enter Try.func81,Try.ntmps81
 go_wp2
 go_ret
 exact ⟨rfl,rfl⟩
set_option maxHeartbeats 2000000 in
set_option maxRecDepth 100000 in
theorem list_calls (S : Nat → Prop) (g k : Nat) (A : List H) (w : World) (hB : Best w S g k A) :
  Calls Try.prog 52 #[.pointer (some ⟨g,0,none⟩)] w fun e w' => (∃ v,e = .returned v ∧ OwnH w' w.heap.size v (sortH A)) ∧ Below w.heap.size w w' := by
 obtain ⟨ao,cap,hg,hr⟩ := hB.reads
 have hl : A.length ≤ 1000000 := by have := hB.hk;have := hB.hA;omega
 have c1 : w.cell? ⟨g,1,none⟩ = some (.slice ao A.length cap) := by rw [blk_cell hg];rfl
 have HR := Aside0.mk hr
 have HL := Aside0.mk hl
 clear hg hB hr hl
 go_enter Try.func52,Try.ntmps52
 go_wp2_with (first | (go_at_call 79;(with_reducible refine (clone_calls _ _ A _ HL.out HR.out).mono ?_);rintro e w1 ⟨⟨v,rfl,hv⟩,hb⟩;have HV := Aside0.mk hv;have HB := Aside0.mk hb;clear hv hb) | (go_at_call 81;(with_reducible refine (order_calls _).mono ?_);rintro e w2 ⟨rfl,rfl⟩) | (go_at_call 80;(with_reducible refine (sort_own _ v A _ HV.out HL.out).mono ?_);rintro e w3 ⟨rfl,hO,hv⟩;have HV3 := Aside0.mk hv;have HO := Aside0.mk hO;clear hv hO))
 go_ret
 refine ⟨⟨v,rfl,HV3.out⟩, ?_⟩
 have hO := HO.out
 have hB := HB.out
 exact ⟨hO.os.trans hB.os,hO.tape.trans hB.tape,hO.output.trans hB.output,Nat.le_trans hB.size hO.size,fun i hi => (hO.block i (Nat.lt_of_lt_of_le hi hB.size) (fun e => by have := own_base HV.out i e;omega)).trans (hB.block i hi)⟩
end Go.Proofs.Ytofmlajanopniaa.Tk
namespace Go.Proofs.Ytofmlajanopniaa.Tk
open Go.RowKit Go.Proofs.YtofmlajanopniaaW.PrintWords Go.Proofs.YtofmlajanopniaaW.PrintLast Go.Proofs.YtofmlajanopniaaW.PrintMore Go.Proofs.Ytofmlajanopniaa.Q
attribute [local go_sem] max2_int min2_int max_two min_two
theorem ReadsH.below {w w1 : World} {ao : Option Addr} {cap : Nat} {A : List H} (h : ReadsH w ao cap A) (hb : Below w.heap.size w w1) : ReadsH w1 ao cap A := by
 refine ⟨h.1,h.2.imp id (fun ⟨ad,e,hr⟩ => ⟨ad,e,fun j u hu => pw_cell_below hb (hr j u hu)⟩)⟩
theorem OwnH.slice {w : World} {b : Nat} {v : Value} {A : List H} (h : OwnH w b v A) : ∃ ao cap,v = .slice ao A.length cap ∧ A.length ≤ cap := by
 rcases h.row with ⟨rfl,rfl⟩ | ⟨r,cap,rfl,_,_,hr⟩
 ·exact ⟨none,0,rfl,by simp⟩
 ·exact ⟨_,cap,rfl,hr.le⟩
theorem cellsOf_take (A : List H) (m : Nat) : cellsOf (A.take m) = (cellsOf A).take (m * 2) := by
 induction A generalizing m with
 | nil => simp [cellsOf]
 | cons a A ih =>
  cases m with
  | zero => simp [cellsOf]
  | succ m =>
   have := ih m
   simp only [cellsOf] at *
   rw [List.take_succ_cons,List.flatMap_cons,this,List.flatMap_cons]
   have e : (m + 1) * 2 = m * 2 + 1 + 1 := by omega
   rw [e]
   simp [enc]
theorem OwnH.take {w : World} {b cap m : Nat} {ao : Option Addr} {A : List H} (h : OwnH w b (.slice ao A.length cap) A) (hm : m ≤ A.length) : OwnH w b (.slice ao m cap) (A.take m) := by
 have hl : (A.take m).length = m := by simp;omega
 rcases h.2 with ⟨he,h0⟩ | ⟨g,cap',cur,he,hb,hh,h1,h2,h3,h4⟩
 ·have : m = 0 := by omega
  subst this
  simp only [Value.slice.injEq] at he
  obtain ⟨rfl,_,rfl⟩ := he
  exact own_nil _ _ _ _
 ·simp only [Value.slice.injEq] at he
  obtain ⟨rfl,_,rfl⟩ := he
  refine ⟨by rw [cellsOf_len],.inr ⟨g,cap,cur,by rw [hl],hb,hh,by omega,h2,h3, ?_⟩⟩
  rw [cellsOf_take,← h4,hl,List.take_take]
  congr 1
  omega
def mergeH (a b : List H) (k : Int) : List H := (sortH (a ++ b)).take (max 0 (min k (a ++ b).length)).toNat
theorem only_below {S : Nat → Prop} {b : Nat} {w w1 w2 : World} (hB : Below b w w1) (hb : b ≤ w.heap.size) (hO : Only S w1 w2) (hs : ∀ i,S i → b ≤ i) : Below b w w2 :=
 ⟨hO.os.trans hB.os,hO.tape.trans hB.tape,hO.output.trans hB.output,Nat.le_trans hB.size hO.size,fun i hi => (hO.block i (Nat.lt_of_lt_of_le (Nat.lt_of_lt_of_le hi hb) hB.size) (fun e => by have := hs i e;omega)).trans (hB.block i hi)⟩
theorem merged {w : World} {b m L cap : Nat} {ao : Option Addr} {A B : List H} {k : Int} (h : OwnH w b (.slice ao L cap) (sortH (A ++ B))) (hL : (A ++ B).length = L) (hm : m = (max 0 (min k L)).toNat) : OwnH w b (.slice ao m cap) (mergeH A B k) := by
 subst hL
 have h' : OwnH w b (.slice ao (sortH (A ++ B)).length cap) (sortH (A ++ B)) := by rw [sortH_len];exact h
 have := h'.take (m := m) (by rw [sortH_len];omega)
 unfold mergeH
 rw [← hm]
 exact this
set_option maxHeartbeats 4000000 in
set_option maxRecDepth 100000 in
theorem merge_some (ao : Option Addr) (ca : Nat) (A : List H) (bd : Addr) (cb : Nat) (B : List H) (k : Int) (w : World) (hl : A.length ≤ 400000) (hl2 : B.length ≤ 400000) (hr : ReadsH w ao ca A)
  (hb : ∀ j u,(cellsOf B)[j]? = some u → w.cell? (bd.add j) = some u) :
  Calls Try.prog 54 #[.slice ao A.length ca,.slice (some bd) B.length cb,.int .i64 k] w fun e w' => (∃ v,e = .returned v ∧ OwnH w' w.heap.size v (mergeH A B k)) ∧ Below w.heap.size w w' := by
 obtain ⟨i0,hi,hz,hs,hby⟩ := info_hit2
 have hu2 := Try.underlying50
 have HR := Aside0.mk hr
 have HBR := Aside0.mk hb
 have HI := Aside0.mk hi
 clear hr hb hi
 obtain ⟨L,hL⟩ : ∃ L,(A ++ B).length = L := ⟨_,rfl⟩
 have hL2 : A.length + B.length = L := by rw [← hL,List.length_append]
 have HLL := Aside0.mk hL
 clear hL
 go_enter Try.func54,Try.ntmps54
 go_wp2_with (first | (go_at_call 79;(with_reducible refine (clone_calls _ _ A _ (by omega) HR.out).mono ?_);rintro e w1 ⟨⟨v,rfl,hv⟩,hb⟩;have HV := Aside0.mk hv;have HB := Aside0.mk hb;clear hv hb) | (at_builtin;refine wpList_append_own _ rfl _ _ _ rfl w.heap.size 58 i0 (.agg #[.int .i64 0,.int .u32 0]) 2 16 hu2 HI.out hz hs hby rfl (by decide) v A.length (cellsOf A) rfl HV.out bd B.length cb (cellsOf B) rfl (cellsOf_len B) (fun j u hu => pw_cell_below HB.out (HBR.out j u hu)) cells_one (by unfold maxLen;omega) (by omega) HB.out.size ?_;intro v2 w2 hown hg hne;have HO2 := Aside0.mk (show OwnH w2 w.heap.size v2 (A ++ B) by unfold OwnH;rw [cellsOf_append,List.length_append];exact hown);have HB2 := Aside0.mk (pw_below_grown HB.out _ HB.out.size hg (fun k hk => own_base HV.out k hk));clear hown hg hne;obtain ⟨a2,c2,rfl,hc2⟩ := HO2.out.slice;rw [HLL.out] at HO2 hc2 ⊢) | (go_at_call 81;(with_reducible refine (order_calls _).mono ?_);rintro e w3 ⟨rfl,rfl⟩) | (go_at_call 80;(with_reducible refine (sort_own _ _ (A ++ B) _ HO2.out (by rw [HLL.out];omega)).mono ?_);rintro e w4 ⟨rfl,hO,hv⟩;have HV4 := Aside0.mk hv;have HB4 := Aside0.mk (only_below HB2.out (Nat.le_refl _) hO (fun i hi => own_base HO2.out i hi));clear hv hO))
 all_goals
  have hm := HLL.out
  go_ret
  exact ⟨⟨_,rfl,merged HV4.out HLL.out (by omega)⟩,HB4.out⟩
set_option maxHeartbeats 4000000 in
set_option maxRecDepth 100000 in
theorem merge_nil (ao : Option Addr) (ca : Nat) (A : List H) (k : Int) (w : World) (hl : A.length ≤ 400000) (hr : ReadsH w ao ca A) :
  Calls Try.prog 54 #[.slice ao A.length ca,   .slice none 0 0,.int .i64 k] w fun e w' => (∃ v,e = .returned v ∧ OwnH w' w.heap.size v (mergeH A [] k)) ∧ Below w.heap.size w w' := by
 obtain ⟨i0,hi,hz,hs,hby⟩ := info_hit2
 have hu2 := Try.underlying50
 have HR := Aside0.mk hr
 have HI := Aside0.mk hi
 clear hr hi
 obtain ⟨L,hL⟩ : ∃ L,(A ++ []).length = L := ⟨_,rfl⟩
 have hL2 : A.length ≤ L ∧ L ≤ A.length := by rw [← hL,List.append_nil];omega
 have HLL := Aside0.mk hL
 clear hL
 go_enter Try.func54,Try.ntmps54
 go_wp2_with (first | (go_at_call 79;(with_reducible refine (clone_calls _ _ A _ (by omega) HR.out).mono ?_);rintro e w1 ⟨⟨v,rfl,hv⟩,hb⟩;have HV := Aside0.mk hv;have HB := Aside0.mk hb;clear hv hb) | (at_builtin;refine wpList_append_own_none rfl _ _ _ rfl w.heap.size 58 i0 2 hu2 HI.out v A.length (cellsOf A) rfl HV.out rfl ?_;have HO2 := Aside0.mk (show OwnH w1 w.heap.size v (A ++ []) by rw [List.append_nil];exact HV.out);have HB2 := Aside0.mk HB.out;obtain ⟨a2,c2,rfl,hc2⟩ := HO2.out.slice;rw [HLL.out] at HO2 hc2 ⊢) | (go_at_call 81;(with_reducible refine (order_calls _).mono ?_);rintro e w3 ⟨rfl,rfl⟩) | (go_at_call 80;(with_reducible refine (sort_own _ _ (A ++ []) _ HO2.out (by rw [HLL.out];omega)).mono ?_);rintro e w4 ⟨rfl,hO,hv⟩;have HV4 := Aside0.mk hv;have HB4 := Aside0.mk (only_below HB2.out (Nat.le_refl _) hO (fun i hi => own_base HO2.out i hi));clear hv hO))
 all_goals
  have hm := HLL.out
  go_ret
  exact ⟨⟨_,rfl,merged HV4.out HLL.out (by omega)⟩,HB4.out⟩
theorem merge_calls (ao : Option Addr) (ca : Nat) (A : List H) (bo : Option Addr) (cb : Nat) (B : List H) (k : Int) (w : World) (hl : A.length ≤ 400000) (hl2 : B.length ≤ 400000) (hr : ReadsH w ao ca A) (hb : ReadsH w bo cb B) :
  Calls Try.prog 54 #[.slice ao A.length ca,.slice bo B.length cb,.int .i64 k] w fun e w' => (∃ v,e = .returned v ∧ OwnH w' w.heap.size v (mergeH A B k)) ∧ Below w.heap.size w w' := by
 rcases hb.2 with ⟨rfl,rfl,rfl⟩ | ⟨bd,rfl,h2⟩
 ·exact merge_nil ao ca A k w hl hr
 ·exact merge_some ao ca A bd cb B k w hl hl2 hr h2
end Go.Proofs.Ytofmlajanopniaa.Tk
namespace Go.Proofs.Ytofmlajanopniaa.Tk
open Go.RowKit Go.Proofs.YtofmlajanopniaaW.PrintWords Go.Proofs.Ytofmlajanopniaa.Q
def leH (a b : H) : Bool := !ltH b a
theorem leH_yes {a b : H} : leH a b = true ↔ ltH b a = false := by simp [leH]
theorem leH_iff {a b : H} : leH a b = true ↔ a.f0 < b.f0 ∨ (a.f0 = b.f0 ∧ a.f1 ≤ b.f1) := by
 rw [leH_yes,ltH_no];omega
theorem leH_trans (a b c : H) (h1 : leH a b = true) (h2 : leH b c = true) : leH a c = true := by
 rw [leH_iff] at *;omega
theorem leH_total (a b : H) : (leH a b || leH b a) = true := by
 rw [Bool.or_eq_true,leH_iff,leH_iff];omega
theorem leH_anti (a b : H) (h1 : leH a b = true) (h2 : leH b a = true) : a = b := ltH_total a b (leH_yes.1 h2) (leH_yes.1 h1)
theorem ltH_le {a b : H} (h : ltH a b = true) : leH a b = true := by rw [leH_iff];rw [ltH_iff] at h;omega
def SortedH (A : List H) : Prop := A.Pairwise (fun a b => leH a b = true)
theorem sortH_sorted (A : List H) : SortedH (sortH A) := List.pairwise_mergeSort leH_trans leH_total A
theorem sorted_eq {A B : List H} (hA : SortedH A) (hB : SortedH B) (h : A.Perm B) : A = B := List.Perm.eq_of_pairwise (fun a b _ _ => leH_anti a b) hA hB h
theorem sortH_eq {A B : List H} (hB : SortedH B) (h : B.Perm A) : sortH A = B := sorted_eq (sortH_sorted A) hB ((sortH_perm A).trans h.symm)
theorem sortH_congr {A B : List H} (h : A.Perm B) : sortH A = sortH B := sorted_eq (sortH_sorted A) (sortH_sorted B) ((sortH_perm A).trans (h.trans (sortH_perm B).symm))
theorem SortedH.take {A : List H} (h : SortedH A) (k : Nat) : SortedH (A.take k) := List.Pairwise.sublist (List.take_sublist k A) h
theorem sortH_nil : sortH [] = [] := List.length_eq_zero_iff.1 (sortH_len [])
def intoL : List H → H → List H
 | [],h => [h]
 | a :: l,h => if ltH h a = true then h :: a :: l else a :: intoL l h
theorem intoL_perm (l : List H) (h : H) : (intoL l h).Perm (h :: l) := by
 induction l with
 | nil => exact List.Perm.refl _
 | cons a l ih =>
  simp only [intoL]
  split
  ·exact List.Perm.refl _
  ·exact (ih.cons a).trans (List.Perm.swap h a l)
theorem intoL_len (l : List H) (h : H) : (intoL l h).length = l.length + 1 := by rw [(intoL_perm l h).length_eq];rfl
theorem intoL_sorted {l : List H} (hl : SortedH l) (h : H) : SortedH (intoL l h) := by
 induction l with
 | nil => exact List.pairwise_singleton _ _
 | cons a l ih =>
  simp only [intoL]
  have ⟨h1,h2⟩ := List.pairwise_cons.1 hl
  split
  ·rename_i hlt
   refine List.pairwise_cons.2 ⟨fun b hb => ?_,hl⟩
   rcases List.mem_cons.1 hb with rfl | hb
   ·exact ltH_le hlt
   ·exact leH_trans _ _ _ (ltH_le hlt) (h1 b hb)
  ·rename_i hlt
   refine List.pairwise_cons.2 ⟨fun b hb => ?_,ih h2⟩
   rcases List.mem_cons.1 ((intoL_perm l h).mem_iff.1 hb) with rfl | hb
   ·exact leH_yes.2 (by simpa using hlt)
   ·exact h1 b hb
theorem into_sort (A : List H) (h : H) : intoL (sortH A) h = sortH (A ++ [h]) :=
 (sortH_eq (intoL_sorted (sortH_sorted A) h) ((intoL_perm _ h).trans (((sortH_perm A).cons h).trans (List.perm_append_singleton h A).symm))).symm
theorem intoL_all {l : List H} {h : H} (hl : ∀ a ∈ l,ltH h a = false) : intoL l h = l ++ [h] := by
 induction l with
 | nil => rfl
 | cons a l ih =>
  simp only [intoL]
  rw [hl a List.mem_cons_self,if_neg (by simp),ih (fun b hb => hl b (List.mem_cons_of_mem _ hb))]
  rfl
theorem intoL_last {l : List H} {h m : H} (hm : ltH h m = true) : intoL (l ++ [m]) h = intoL l h ++ [m] := by
 induction l with
 | nil => simp [intoL,hm]
 | cons a l ih =>
  simp only [List.cons_append,intoL]
  split
  ·rfl
  ·rw [ih];rfl
/-! ### the heap -/
def Heap (A : List H) : Prop := ∀ i,0 < i → i < A.length → ltH (rdH A ((i - 1) / 2)) (rdH A i) = false
theorem rdH_get {A : List H} {i : Nat} (h : i < A.length) : rdH A i = A[i] := by simp [rdH,List.getD_eq_getElem?_getD,List.getElem?_eq_getElem h]
theorem swap_perm {A : List H} {p i : Nat} (hp : p < A.length) (hi : i < A.length) : (swapL A p i).Perm A := by
 unfold swapL
 rw [rdH_get hp,rdH_get hi]
 exact List.set_set_perm hp hi
theorem rdH_swap {A : List H} {p i : Nat} (hp : p < A.length) (hi : i < A.length) (j : Nat) : rdH (swapL A p i) j = if j = i then rdH A p else if j = p then rdH A i else rdH A j := by
 unfold swapL
 simp only [rdH,List.getD_eq_getElem?_getD,List.getElem?_set,List.length_set]
 by_cases h1 : j = i
 ·subst h1;simp [hi]
 ·rw [if_neg (fun e => h1 e.symm),if_neg h1]
  by_cases h2 : j = p
  ·subst h2;simp [hp]
  ·rw [if_neg (fun e => h2 e.symm),if_neg h2]
def UpAt (A : List H) (i : Nat) : Prop :=
 (∀ j,0 < j → j < A.length → j ≠ i → ltH (rdH A ((j - 1) / 2)) (rdH A j) = false) ∧
 (∀ j,0 < j → j < A.length → (j - 1) / 2 = i → 0 < i → ltH (rdH A ((i - 1) / 2)) (rdH A j) = false)
theorem up_heap (f : Nat) : ∀ (A : List H) (i : Nat),i < f → i < A.length → UpAt A i → Heap (upL f A i) ∧ (upL f A i).Perm A := by
 induction f with
 | zero => intro A i h;omega
 | succ f ih =>
  intro A i hf hi hU
  simp only [upL]
  split
  ·rename_i h0
   exact ⟨fun j h1 h2 => hU.1 j h1 h2 (by omega),List.Perm.refl _⟩
  rename_i h0
  have hp : (i - 1) / 2 < A.length := by omega
  split
  ·rename_i hlt
   have hUp : UpAt (swapL A ((i - 1) / 2) i) ((i - 1) / 2) := by
    refine ⟨fun j h1 h2 h3 => ?_,fun j h1 h2 h3 h4 => ?_⟩
    ·rw [swapL_len] at h2
     rw [rdH_swap hp hi,rdH_swap hp hi]
     by_cases hj : j = i
     ·subst hj
      rw [if_neg (by omega),if_pos rfl,if_pos rfl]
      exact leH_yes.1 (ltH_le hlt)
     ·rw [if_neg hj,if_neg h3]
      by_cases hk : (j - 1) / 2 = i
      ·rw [if_pos hk]
       exact hU.2 j h1 h2 hk (by omega)
      ·rw [if_neg hk]
       have h5 := hU.1 j h1 h2 hj
       split
       ·rename_i hk2
        rw [hk2] at h5
        rw [ltH_iff] at hlt;rw [ltH_no] at *;omega
       ·exact h5
    ·rw [swapL_len] at h2
     rw [rdH_swap hp hi,rdH_swap hp hi,if_neg (by omega),if_neg (by omega)]
     have h6 := hU.1 ((i - 1) / 2) h4 hp (by omega)
     split
     ·exact h6
     ·rw [if_neg (by omega)]
      rename_i hj
      have h5 := hU.1 j h1 h2 hj
      rw [h3] at h5
      rw [ltH_no] at *;omega
   have := ih (swapL A ((i - 1) / 2) i) ((i - 1) / 2) (by omega) (by rw [swapL_len];exact hp) hUp
   exact ⟨this.1,this.2.trans (swap_perm hp hi)⟩
  ·rename_i hlt
   refine ⟨fun j h1 h2 => ?_,List.Perm.refl _⟩
   by_cases hj : j = i
   ·subst hj;simpa using hlt
   ·exact hU.1 j h1 h2 hj
theorem kid_lt {A : List H} {i : Nat} (h : ¬ A.length ≤ 2 * i + 1) : kid A i < A.length ∧ 0 < kid A i ∧ (kid A i - 1) / 2 = i := by
 unfold kid
 split
 ·omega
 ·omega
theorem kid_max {A : List H} {i j : Nat} (hj : j < A.length) (h0 : 0 < j) (hp : (j - 1) / 2 = i) : ltH (rdH A (kid A i)) (rdH A j) = false := by
 have hj2 : j = 2 * i + 1 ∨ j = 2 * i + 2 := by omega
 unfold kid
 split
 ·rename_i h
  rcases hj2 with rfl | rfl
  ·exact leH_yes.1 (ltH_le h.2)
  ·exact ltH_irrefl _
 ·rename_i h
  rcases hj2 with rfl | rfl
  ·exact ltH_irrefl _
  ·cases hc : ltH (rdH A (2 * i + 1)) (rdH A (2 * i + 2)) with
   | false => rfl
   | true => exact absurd ⟨hj,hc⟩ h
def DownAt (A : List H) (i : Nat) : Prop :=
 (∀ j,0 < j → j < A.length → (j - 1) / 2 ≠ i → ltH (rdH A ((j - 1) / 2)) (rdH A j) = false) ∧
 (∀ j,0 < j → j < A.length → (j - 1) / 2 = i → 0 < i → ltH (rdH A ((i - 1) / 2)) (rdH A j) = false)
theorem down_heap (f : Nat) : ∀ (A : List H) (i : Nat),A.length < f + i → i < A.length → DownAt A i → Heap (downL f A i) ∧ (downL f A i).Perm A := by
 induction f with
 | zero => intro A i h h2;omega
 | succ f ih =>
  intro A i hf hi hD
  simp only [downL]
  split
  ·rename_i h0
   exact ⟨fun j h1 h2 => hD.1 j h1 h2 (by omega),List.Perm.refl _⟩
  rename_i h0
  obtain ⟨hc,hc0,hcp⟩ := kid_lt h0
  split
  ·rename_i hlt
   have hDn : DownAt (swapL A i (kid A i)) (kid A i) := by
    refine ⟨fun j h1 h2 h3 => ?_,fun j h1 h2 h3 h4 => ?_⟩
    ·rw [swapL_len] at h2
     rw [rdH_swap hi hc,rdH_swap hi hc,if_neg h3]
     by_cases hk : (j - 1) / 2 = i
     ·rw [if_pos hk]
      split
      ·exact leH_yes.1 (ltH_le hlt)
      ·rw [if_neg (by omega)]
       exact kid_max h2 h1 hk
     ·rw [if_neg hk,if_neg (by rintro rfl;exact hk hcp)]
      split
      ·rename_i hj
       have hji : j = i := hj
       have := hD.2 (kid A i) hc0 hc hcp (by omega)
       rw [hji]
       exact this
      ·rename_i hj
       exact hD.1 j h1 h2 hk
    ·rw [swapL_len] at h2
     rw [rdH_swap hi hc,rdH_swap hi hc,hcp,if_neg (by omega),if_pos rfl,if_neg (by omega),if_neg (by omega)]
     have := hD.1 j h1 h2 (by omega)
     rw [h3] at this
     exact this
   have := ih (swapL A i (kid A i)) (kid A i) (by rw [swapL_len];omega) (by rw [swapL_len];exact hc) hDn
   exact ⟨this.1,this.2.trans (swap_perm hi hc)⟩
  ·rename_i hlt
   refine ⟨fun j h1 h2 => ?_,List.Perm.refl _⟩
   by_cases hj : (j - 1) / 2 = i
   ·have := kid_max h2 h1 hj
    have hlt' : ltH (rdH A i) (rdH A (kid A i)) = false := by simpa using hlt
    rw [hj,ltH_no] at *
    omega
   ·exact hD.1 j h1 h2 hj
theorem heap_max {A : List H} (h : Heap A) (i : Nat) (hi : i < A.length) : ltH (rdH A 0) (rdH A i) = false := by
 induction i using Nat.strongRecOn with
 | _ i ih =>
  rcases Nat.eq_zero_or_pos i with rfl | h0
  ·exact ltH_irrefl _
  ·have h1 := ih ((i - 1) / 2) (by omega) (by omega)
   have h2 := h i h0 hi
   rw [ltH_no] at *;omega
theorem heap_top {a : H} {A : List H} (h : Heap (a :: A)) : ∀ b ∈ A,leH b a = true := by
 intro b hb
 obtain ⟨i,hi,rfl⟩ := List.getElem_of_mem hb
 have := heap_max h (i + 1) (by simpa using hi)
 rw [rdH_get (by simp),rdH_get (by simpa using hi)] at this
 exact leH_yes.2 (by simpa using this)
theorem heap_sort {a : H} {A : List H} (h : Heap (a :: A)) : sortH (a :: A) = sortH A ++ [a] := by
 refine sortH_eq (List.pairwise_append.2 ⟨sortH_sorted A,List.pairwise_singleton _ _,fun x hx y hy => ?_⟩) ((List.perm_append_singleton a _).trans ((sortH_perm A).cons a))
 rw [List.mem_singleton.1 hy]
 exact heap_top h x ((sortH_perm A).mem_iff.1 hx)
theorem heap_nil : Heap [] := fun i _ h => by simp at h
theorem put_heap {k : Nat} {A : List H} {h : H} (hA : Heap A) (hk : A.length ≤ k) : Heap (putL k A h) ∧ (putL k A h).length ≤ k ∧ sortH (putL k A h) = (intoL (sortH A) h).take k := by
 unfold putL
 split
 ·rename_i hlt
  have hU : UpAt (A ++ [h]) A.length := by
   refine ⟨fun j h1 h2 h3 => ?_,fun j h1 h2 h3 h4 => ?_⟩
   ·have h2' : j < A.length := by simp at h2;omega
    have := hA j h1 h2'
    rw [rdH_get (by omega),rdH_get h2'] at this
    rw [rdH_get (by simp;omega),rdH_get (by simp;omega),List.getElem_append_left (by omega),List.getElem_append_left h2']
    exact this
   ·have h2' : j ≤ A.length := by simp at h2;omega
    omega
  have := up_heap (A.length + 1) (A ++ [h]) A.length (by omega) (by simp) hU
  refine ⟨this.1,by rw [upL_len];simp;omega, ?_⟩
  rw [sortH_congr this.2,← into_sort,List.take_of_length_le (by rw [intoL_len,sortH_len];omega)]
 rename_i hge
 have hAk : A.length = k := by omega
 cases A with
 | nil =>
  have : k = 0 := by simpa using hAk.symm
  subst this
  simp [sortH_nil,heap_nil]
 | cons a A =>
  have h0 : rdH (a :: A) 0 = a := rfl
  rw [h0]
  split
  ·rename_i hlt
   have hD : DownAt ((a :: A).set 0 h) 0 := by
    refine ⟨fun j h1 h2 h3 => ?_,fun j h1 h2 h3 h4 => by omega⟩
    have h2' : j < (a :: A).length := by simpa using h2
    have := hA j h1 h2'
    rw [rdH_get (by omega),rdH_get h2'] at this
    rw [rdH_get (by simp at *;omega),rdH_get (by simpa using h2'),List.getElem_set_ne (by omega),List.getElem_set_ne (by omega)]
    exact this
   have := down_heap ((a :: A).length + 1) ((a :: A).set 0 h) 0 (by simp) (by simp) hD
   refine ⟨this.1,by rw [downL_len];simpa using hk, ?_⟩
   rw [sortH_congr this.2,heap_sort hA,intoL_last hlt.2,List.take_append_of_le_length (by rw [intoL_len,sortH_len];simp at hAk;omega),List.take_of_length_le (by rw [intoL_len,sortH_len];simp at hAk;omega),into_sort]
   exact sortH_congr (List.perm_append_singleton h A).symm
  ·rename_i hlt
   have hlt' : ltH h a = false := by
    cases hc : ltH h a with
    | false => rfl
    | true => exact absurd ⟨by simp at hAk;omega,hc⟩ hlt
   refine ⟨hA,hk, ?_⟩
   rw [intoL_all (fun b hb => ?_),List.take_append_of_le_length (by rw [sortH_len];omega),List.take_of_length_le (by rw [sortH_len];omega)]
   have hb' := (sortH_perm _).mem_iff.1 hb
   rcases List.mem_cons.1 hb' with rfl | hb'
   ·exact hlt'
   ·have := heap_top hA b hb'
    rw [leH_iff] at this
    rw [ltH_no] at *
    omega
theorem heap_worst {A : List H} (hA : Heap A) (h : 0 < A.length) : (sortH A).getLast? = some (rdH A 0) := by
 cases A with
 | nil => simp at h
 | cons a A => rw [heap_sort hA];simp;rfl
/-! ### the least k of a list -/
end Go.Proofs.Ytofmlajanopniaa.Tk
namespace Go.Proofs.Ytofmlajanopniaa.Tk
open Go.RowKit Go.Proofs.YtofmlajanopniaaW.PrintWords Go.Proofs.YtofmlajanopniaaW.PrintLast Go.Proofs.YtofmlajanopniaaW.PrintMore Go.Proofs.Ytofmlajanopniaa.Q
theorem wrap_small {n : Int} (h0 : 0 ≤ n) (h1 : n < 9223372036854775807) : wrap64 n = n := by unfold wrap64;omega
theorem hit_ext {a b : H} (h0 : a.f0 = b.f0) (h1 : a.f1 = b.f1) : a = b := by cases a;cases b;simp at *;exact ⟨h0,h1⟩
theorem same_l0 (l : List H) (hl : l.length ≤ 1000000) : ∀ (m i : Nat),l.length - i < m → i ≤ l.length → lodestarref02_Same.l0 m l l (i : Int) = some true := by
 intro m
 induction m with
 | zero => intro i h0;omega
 | succ m ih =>
  intro i h0 hi
  simp only [lodestarref02_Same.l0]
  by_cases hc : i < l.length
  ·have e1 : wrap64 ((i : Int) + 1) = ((i + 1 : Nat) : Int) := by rw [wrap_small (by omega) (by omega)];omega
   rw [if_pos (by omega),if_pos (by omega),if_pos (by omega),if_neg (by simp),e1]
   exact ih (i + 1) (by omega) (by omega)
  ·rw [if_neg (by omega)]
theorem same_f (l : List H) (hl : l.length ≤ 1000000) : lodestarref02_Same.f (l.length + 1) l l = some true := by
 unfold lodestarref02_Same.f
 rw [if_pos rfl]
 exact same_l0 l hl (l.length + 1) 0 (by omega) (by omega)
/-! ### in memory -/
theorem cells_at {A : List H} {i : Nat} {h : H} (hi : A[i]? = some h) : (cellsOf A)[i * 2]? = some (.int .i64 h.f0) ∧ (cellsOf A)[i * 2 + 1]? = some (.int .u32 h.f1) := by
 obtain ⟨h1,rfl⟩ := List.getElem?_eq_some_iff.1 hi
 exact cellsOf_get A i h1
theorem ReadsH.C {w : World} {ao : Option Addr} {cap : Nat} {A : List H} (h : ReadsH w ao cap A) (hl : A.length ≤ 1000000) : Kd.C k58 w ao A.length A := by
 refine ⟨rfl,by omega,fun h0 => ?_⟩
 rcases h.2 with ⟨_,rfl,_⟩ | ⟨ad,rfl,hr⟩
 ·simp at h0
 ·refine ⟨ad,rfl,fun j p hj => ⟨enc p,rfl,k58_mk w p,fun i u hu => ?_⟩⟩
  obtain ⟨g0,g1⟩ := cells_at hj
  match i,hu with
  | 0,hu => rw [← hu];exact hr (j * 2) _ g0
  | 1,hu => rw [← hu];exact hr (j * 2 + 1) _ g1
theorem OwnH.reads {w : World} {b : Nat} {v : Value} {A : List H} (h : OwnH w b v A) : ∃ ao cap,v = .slice ao A.length cap ∧ ReadsH w ao cap A := by
 rcases h.row with ⟨rfl,rfl⟩ | ⟨r,cap,rfl,_,_,hr⟩
 ·exact ⟨none,0,rfl,by simp,.inl ⟨rfl,rfl,rfl⟩⟩
 ·exact ⟨_,cap,rfl,hr.le,.inr ⟨_,rfl,hr.reads⟩⟩
end Go.Proofs.Ytofmlajanopniaa.Tk
namespace Go.Proofs.Ytofmlajanopniaa.Tk
open Go.RowKit Go.Proofs.YtofmlajanopniaaW.PrintWords Go.Proofs.YtofmlajanopniaaW.PrintLast Go.Proofs.YtofmlajanopniaaW.PrintMore Go.Proofs.Ytofmlajanopniaa.Q
def Kept (w : World) (S : Nat → Prop) (g k : Nat) (L : List H) : Prop := ∃ A,Best w S g k A ∧ Heap A ∧ sortH A = L
section
variable {w w1 : World} {S T : Nat → Prop} {g k : Nat} {L : List H}
theorem Kept.keep (h : Kept w S g k L) (hO : Only T w w1) (hd : ∀ i,S i → ¬ T i) : Kept w1 S g k L := by
 obtain ⟨A,hB,hH,hL⟩ := h
 exact ⟨A,hB.keep hO hd,hH,hL⟩
theorem Kept.below (h : Kept w S g k L) (hb : Below w.heap.size w w1) : Kept w1 S g k L := by
 obtain ⟨A,hB,hH,hL⟩ := h
 exact ⟨A,hB.below hb,hH,hL⟩
theorem Kept.grow (h : Kept w S g k L) (hs : ∀ i,S i → T i) (ht : ∀ i,T i → i < w.heap.size) : Kept w T g k L := by
 obtain ⟨A,hB,hH,hL⟩ := h
 exact ⟨A,hB.grow hs ht,hH,hL⟩
theorem Kept.lt (h : Kept w S g k L) : ∀ i,S i → i < w.heap.size := by
 obtain ⟨A,hB,hH,hL⟩ := h
 exact hB.lt
theorem Kept.len (h : Kept w S g k L) : L.length ≤ k ∧ k ≤ 256 := by
 obtain ⟨A,hB,hH,rfl⟩ := h
 rw [sortH_len]
 exact ⟨hB.hA,hB.hk⟩
end
def putK (k : Nat) (L : List H) (h : H) : List H := (intoL L h).take k
theorem kput_calls (S : Nat → Prop) (g k : Nat) (L : List H) (d i : Int) (w : World) (hB : Kept w S g k L) :
  Calls Try.prog 47 #[.pointer (some ⟨g,0,none⟩),.agg #[.int .i64 d,.int .u32 i]] w fun e w' => e = .returned (.tuple #[]) ∧ Only S w w' ∧ Kept w' (ext S w w') g k (putK k L ⟨d,i⟩) := by
 obtain ⟨A,hB,hH,rfl⟩ := hB
 refine (put_calls S g k A ⟨d,i⟩ w hB).mono fun e w' ⟨he,hO,hb⟩ => ⟨he,hO,_,hb, ?_⟩
 have := put_heap (h := ⟨d,i⟩) hH hB.hA
 exact ⟨this.1,this.2.2⟩
theorem knew_calls (a : Int) (w : World) :
  Calls Try.prog 45 #[.int .i64 a] w fun e w' => e = .returned (.pointer (some ⟨w.heap.size,0,none⟩)) ∧ Below w.heap.size w w' ∧ Kept w' (fresh w w') w.heap.size (clamp a) [] :=
 (new_calls a w).mono fun e w' ⟨he,hb,hB⟩ => ⟨he,hb,[],hB,heap_nil,sortH_nil⟩
theorem klist_calls (S : Nat → Prop) (g k : Nat) (L : List H) (w : World) (hB : Kept w S g k L) :
  Calls Try.prog 52 #[.pointer (some ⟨g,0,none⟩)] w fun e w' => (∃ v,e = .returned v ∧ OwnH w' w.heap.size v L) ∧ Below w.heap.size w w' := by
 obtain ⟨A,hB,hH,rfl⟩ := hB
 exact list_calls S g k A w hB
def worstH (L : List H) : H := L.getLastD ⟨0,0⟩
theorem kworst_calls (S : Nat → Prop) (g k : Nat) (L : List H) (w : World) (hB : Kept w S g k L) :
  Calls Try.prog 50 #[.pointer (some ⟨g,0,none⟩)] w fun e w' => e = .returned (.tuple #[.agg #[.int .i64 (worstH L).f0,.int .u32 (worstH L).f1],.bool (decide (L.length = k))]) ∧ Below w.heap.size w w' := by
 obtain ⟨A,hB,hH,rfl⟩ := hB
 rcases Nat.eq_zero_or_pos A.length with h0 | h0
 ·have : A = [] := List.length_eq_zero_iff.1 h0
  subst this
  rw [sortH_nil]
  exact worst_none S g k _ w hB rfl
 ·have h1 := heap_worst hH h0
  have h2 : worstH (sortH A) = rdH A 0 := by
   unfold worstH
   rw [List.getLastD_eq_getLast?,h1]
   rfl
  rw [h2,sortH_len]
  exact worst_some S g k A _ w hB h0 rfl
/-! ### the reference -/
theorem OwnH.C {w : World} {b : Nat} {v : Value} {A : List H} (h : OwnH w b v A) (hl : A.length ≤ 1000000) : ∃ ao cap,v = .slice ao A.length cap ∧ A.length ≤ cap ∧ Kd.C k58 w ao A.length A := by
 obtain ⟨ao,cap,e,hr⟩ := h.reads
 exact ⟨ao,cap,e,hr.1,hr.C hl⟩
theorem rsame_calls (ao bo : Option Addr) (ca cb n m : Nat) (L M : List H) (w : World) (hLM : L = M) (hn : n = L.length) (hm : m = M.length) (h : ReadsH w ao ca L) (h2 : ReadsH w bo cb M) (hl : L.length ≤ 1000000) :
  Calls Try.prog 20 #[.slice ao n ca,.slice bo m cb] w fun e w' => e = .returned (.bool true) ∧ Below w.heap.size w w' := by
 subst hLM hn hm
 exact (lodestarref02_Same.calls _ ao ca L bo cb L true w (h.C hl) h.1 (h2.C hl) h2.1 (same_f L hl)).mono fun e w' ⟨he,hb⟩ => ⟨he,hb.below⟩
theorem rsame_own (b1 b2 : Nat) (v1 v2 : Value) (L M : List H) (w : World) (hLM : L = M) (h : OwnH w b1 v1 L) (h2 : OwnH w b2 v2 M) (hl : L.length ≤ 1000000) :
  Calls Try.prog 20 #[v1,v2] w fun e w' => e = .returned (.bool true) ∧ Below w.heap.size w w' := by
 obtain ⟨ao,ca,rfl,hr⟩ := h.reads
 obtain ⟨bo,cb,rfl,hr2⟩ := h2.reads
 exact rsame_calls ao bo ca cb _ _ L M w hLM rfl rfl hr hr2 hl
theorem OwnH.below {w w1 : World} {b : Nat} {v : Value} {A : List H} (h : OwnH w b v A) (hb : Below w.heap.size w w1) : OwnH w1 b v A := pw_own_below h hb
theorem OwnH.only {w w1 : World} {b : Nat} {v : Value} {A : List H} {S : Nat → Prop} (h : OwnH w b v A) (hO : Only S w w1) (hs : ∀ i,S i → v.ownBlock ≠ some i) : OwnH w1 b v A :=
 own_move h (fun i hi => hO.block i (own_lt h i hi) (fun x => hs i x hi))
theorem Only.below_of {S : Nat → Prop} {w0 w w1 : World} (h : Only S w w1) (hb : Below w0.heap.size w0 w) (hs : ∀ i,S i → w0.heap.size ≤ i) : Below w0.heap.size w0 w1 :=
 ⟨h.os.trans hb.os,h.tape.trans hb.tape,h.output.trans hb.output,Nat.le_trans hb.size h.size,fun i hi => (h.block i (Nat.lt_of_lt_of_le hi hb.size) (fun x => by have := hs i x;omega)).trans (hb.block i hi)⟩
theorem bel_trans {a b c : World} (h1 : Below a.heap.size a b) (h2 : Below b.heap.size b c) : Below a.heap.size a c :=
 ⟨h2.os.trans h1.os,h2.tape.trans h1.tape,h2.output.trans h1.output,Nat.le_trans h1.size h2.size,fun i hi => (h2.block i (Nat.lt_of_lt_of_le hi h1.size)).trans (h1.block i hi)⟩
theorem bel_alloc {a b : World} (h1 : Below a.heap.size a b) (o : Obj) : Below a.heap.size a (b.alloc o) := bel_trans h1 (below_alloc (Below.refl _ _) o)
theorem own_lit (w : World) (A : List H) (n : Nat) (h : A.length = n) (hn : n ≤ 1000) : OwnH (w.alloc (.cells (cellsOf A).toArray 58)) w.heap.size (.slice (some ⟨w.heap.size,0,none⟩) n n) A := by
 subst h
 exact ⟨cellsOf_len A,.inr ⟨w.heap.size,A.length,_,rfl,Nat.le_refl _,heap_alloc_new w _,Nat.le_refl _,by unfold maxLen;omega,by simp [cellsOf_len],by rw [← cellsOf_len A];simp⟩⟩
end Go.Proofs.Ytofmlajanopniaa.Tk
namespace Go.Proofs.Ytofmlajanopniaa.Tk
open Go.RowKit Go.Proofs.YtofmlajanopniaaW.PrintWords Go.Proofs.YtofmlajanopniaaW.PrintLast Go.Proofs.YtofmlajanopniaaW.PrintMore Go.Proofs.Ytofmlajanopniaa.Q
end Go.Proofs.Ytofmlajanopniaa.Tk
namespace Go.Proofs.Ytofmlajanopniaa.Tk
open Go.RowKit Go.Proofs.YtofmlajanopniaaW.PrintWords Go.Proofs.YtofmlajanopniaaW.PrintLast Go.Proofs.YtofmlajanopniaaW.PrintMore Go.Proofs.Ytofmlajanopniaa.Q
theorem max2_M (k k' : IntKind) (x y : Int) : Builtin.max2 (.int k x) (.int k' y) = pure (.int k (max x y)) := by
 rw [max2_int]
 congr 2
 by_cases h : x < y
 ·rw [if_pos h];omega
 ·rw [if_neg h];omega
theorem min2_M (k k' : IntKind) (x y : Int) : Builtin.min2 (.int k x) (.int k' y) = pure (.int k (min x y)) := by
 rw [min2_int]
 congr 2
 by_cases h : y < x
 ·rw [if_pos h];omega
 ·rw [if_neg h];omega
attribute [local go_sem] max2_M min2_M max_two min_two
def putAll (k : Nat) (l : List H) : List H := l.foldl (putK k) []
theorem putAll_snoc (k : Nat) (l : List H) (h : H) : putAll k (l ++ [h]) = putK k (putAll k l) h := by simp [putAll]
theorem ReadsH.at {w : World} {ao : Option Addr} {cap : Nat} {A : List H} (h : ReadsH w ao cap A) {i : Nat} (hi : i < A.length) :
  ∃ ad x,ao = some ad ∧ A[i]? = some x ∧ w.cell? (ad.add (i * 2)) = some (.int .i64 x.f0) ∧ w.cell? ⟨(ad.add (i * 2)).block,(ad.add (i * 2)).off + 1,none⟩ = some (.int .u32 x.f1) := by
 rcases h.2 with ⟨_,rfl,_⟩ | ⟨ad,rfl,hr⟩
 ·simp at hi
 ·obtain ⟨g0,g1⟩ := cellsOf_get A i hi
  refine ⟨ad,A[i],rfl,List.getElem?_eq_getElem hi,hr _ _ g0, ?_⟩
  have := hr _ _ g1
  have e := add_field ad (i * 2) 1 (by omega)
  rw [e] at this
  exact this
theorem OwnH.last {w : World} {b n : Nat} {c : Nat} {ao : Option Addr} {L : List H} (h : OwnH w b (.slice ao n c) L) (hn : L.length = n) (h0 : 0 < n) :
  ∃ r,ao = some ⟨r,0,none⟩ ∧ r < w.heap.size ∧ w.cell? ⟨r,(n - 1) * 2,none⟩ = some (.int .i64 (worstH L).f0) ∧ w.cell? ⟨r,(n - 1) * 2 + 1,none⟩ = some (.int .u32 (worstH L).f1) := by
 subst hn
 have hw : worstH L = L[L.length - 1]'(by omega) := by
  unfold worstH
  rw [List.getLastD_eq_getLast?,List.getLast?_eq_getElem?,List.getElem?_eq_getElem (by omega)]
  rfl
 rcases h.row with ⟨_,rfl⟩ | ⟨r,cap,e,_,_,hr⟩
 ·simp at h0
 ·simp only [Value.slice.injEq] at e
  obtain ⟨g0,g1,_,_⟩ := hr.cells (L.length - 1) (by omega)
  exact ⟨r,e.1,hr.lt,by rw [hw];exact g0,by rw [hw];exact g1⟩
end Go.Proofs.Ytofmlajanopniaa.Tk
namespace Go.Proofs.Ytofmlajanopniaa.Fl
open Go.RowKit Go.Proofs.YtofmlajanopniaaW.PrintWords Go.Proofs.YtofmlajanopniaaW.PrintLast Go.Proofs.YtofmlajanopniaaW.PrintMore Go.Proofs.Ytofmlajanopniaa.Tk
theorem str_at {w : World} {A : Option Addr} {l : List ByteArray} (h : Kd.string.C w A l.length l) {i : Nat} (hi : i < l.length) : ∃ ad x,A = some ad ∧ l[i]? = some x ∧ w.cell? (ad.add i) = some (.string x) := by
 obtain ⟨ad,e,hc⟩ := h.2.2 (by omega)
 obtain ⟨cs,h1,h2,h3⟩ := hc i _ (List.getElem?_eq_getElem hi)
 have h2' : cs = [.string l[i]] := h2
 subst h2'
 have := h3 0 _ rfl
 have e2 : i * Kd.string.sz + 0 = i := by show i * 1 + 0 = i;omega
 rw [e2] at this
 exact ⟨ad,l[i],e,List.getElem?_eq_getElem hi,this⟩
set_option maxHeartbeats 4000000 in
set_option maxRecDepth 100000 in
theorem indexFunc_calls (m : FuncId) (he : ∀ args w,(callFunc m args).run Try.prog w = .ok (.enter m args) w) (cap : Value) (pr : ByteArray → Bool) (Inv : World → Prop) (hInv : ∀ W W',Inv W → Below W.heap.size W W' → Inv W')
  (A : Option Addr) (c : Nat) (l : List ByteArray) (hf : ∀ x ∈ l, ∀ W,Inv W → Calls Try.prog m #[.string x,cap] W fun e W' => e = .returned (.bool (pr x)) ∧ Below W.heap.size W W')
  (w : World) (hc : Kd.string.C w A l.length l) (hl : l.length ≤ 100000) (h0 : Inv w) :
  Calls Try.prog 112 #[.slice A l.length c,.func (.func m) #[] #[cap]] w fun e w' => (∃ r : Int,e = .returned (.int .i64 r) ∧ l.any pr = decide (0 ≤ r)) ∧ Below w.heap.size w w' := by
 have HC := Aside0.mk hc
 have HF := Aside0.mk hf
 have HI := Aside0.mk hInv
 have HI0 := Aside0.mk h0
 have HL := Aside0.mk hl
 clear hc hf hInv h0 hl
 go_enter Try.func112,Try.ntmps112
 go_wp2
 go_loopg [8] l.length (fun gk v8 wr => ∃ (i : Nat),v8 = .int .i64 i ∧ Aside0 (i ≤ l.length ∧ l.length - i ≤ gk) ∧ Aside0 ((l.take i).any pr = false) ∧ Aside0 (Below w.heap.size w wr))
 case atStart => exact ⟨0,rfl,⟨by omega,by omega⟩,⟨by simp⟩,⟨Below.refl _ _⟩⟩
 case round =>
  obtain ⟨i,rfl,HJ,HN,HB⟩ := hrel
  by_cases hi : i < l.length
  ·have hl := HL.out
   have q1 : decide ((i : Int) < (l.length : Int)) = true := decide_eq_true (by omega)
   have q2 : (i : Int) < (l.length : Int) := by omega
   obtain ⟨ad,x,rfl,hx,c0⟩ := str_at HC.out hi
   have hin : wrap64 ((i : Int) + 1) = ((i + 1 : Nat) : Int) := by rw [Tk.wrap_small (by omega) (by omega)];omega
   replace c0 := pw_cell_below HB.out c0
   have HX := Aside0.mk hx
   have HI2 := Aside0.mk hi
   have HM := Aside0.mk (List.mem_of_getElem? hx)
   obtain ⟨r,hr⟩ : ∃ r,pr x = r := ⟨_,rfl⟩
   have HR := Aside0.mk hr
   clear hi hl hx hr
   cases r with
   | true =>
    go_wp2_with (first | ((with_reducible refine (HF.out x HM.out _ (HI.out _ _ HI0.out HB.out)).mono ?_);rintro e w3 ⟨rfl,hb⟩;rw [HR.out];have HB3 := Aside0.mk (bel_trans HB.out hb);clear hb) | fail)
    go_ret
    exact ⟨⟨i,rfl,by rw [List.any_eq_true.2 ⟨x,HM.out,HR.out⟩];exact (decide_eq_true (by omega)).symm⟩,HB3.out⟩
   | false =>
    go_wp2_with (first | ((with_reducible refine (HF.out x HM.out _ (HI.out _ _ HI0.out HB.out)).mono ?_);rintro e w3 ⟨rfl,hb⟩;rw [HR.out];have HB3 := Aside0.mk (bel_trans HB.out hb);clear hb) | fail)
    obtain ⟨gk,rfl⟩ : ∃ m,gk = m + 1 := ⟨gk - 1,by have := HJ.out;have := HI2.out;omega⟩
    go_roundg gk
    case measure => omega
    case rel =>
     refine ⟨i + 1,congrArg (Value.int .i64) hin,⟨by have := HJ.out;have := HI2.out;omega⟩,⟨?_⟩,HB3⟩
     obtain ⟨hi,hx⟩ := List.getElem?_eq_some_iff.1 HX.out
     rw [List.take_succ_eq_append_getElem hi,List.any_append,HN.out,hx]
     simp [HR.out]
  ·have q1 : decide ((i : Int) < (l.length : Int)) = false := decide_eq_false (by omega)
   have q2 : decide (i < l.length) = false := decide_eq_false hi
   have q3 : (i < l.length) = False := eq_false hi
   have hT : l.take i = l := List.take_of_length_le (by omega)
   have hn := HN.out
   rw [hT] at hn
   have HN2 := Aside0.mk hn
   clear hT hn hi
   go_wp2
   go_ret
   exact ⟨⟨-1,rfl,by rw [HN2.out];rfl⟩,HB.out⟩
end Go.Proofs.Ytofmlajanopniaa.Fl
namespace Go.Proofs.Ytofmlajanopniaa.Fl
open Go.RowKit Go.Proofs.YtofmlajanopniaaW.PrintWords Go.Proofs.YtofmlajanopniaaW.PrintLast Go.Proofs.YtofmlajanopniaaW.PrintMore Go.Proofs.Ytofmlajanopniaa.Tk Go.Proofs.Ytofmlajanopniaa.E
def hasB (l : List ByteArray) (t : ByteArray) : Bool := l.any fun x => decide (t.toList = x.toList)
theorem rdOf_get {l : List ByteArray} {i : Nat} (h : i < l.length) : rdOf ByteArray.empty l (i : Int) = l[i] := by simp [rdOf,List.getD_eq_getElem?_getD,List.getElem?_eq_getElem h]
theorem index_l0 (l : List ByteArray) (t : ByteArray) (hl : l.length ≤ 1000000) : ∀ (m i : Nat),l.length - i < m → i ≤ l.length →
  ∃ r,slices_Index_string_string.l0 m l t (l.length : Int) (i : Int) = some r ∧ decide (r ≥ 0) = hasB (l.drop i) t := by
 intro m
 induction m with
 | zero => intro i h0;omega
 | succ m ih =>
  intro i h0 hi
  simp only [slices_Index_string_string.l0]
  by_cases hc : i < l.length
  ·have e1 : wrap64 ((i : Int) + 1) = ((i + 1 : Nat) : Int) := by rw [Tk.wrap_small (by omega) (by omega)];omega
   have hd : l.drop i = l[i] :: l.drop (i + 1) := List.drop_eq_getElem_cons hc
   have k1 : (i : Int) < (l.length : Int) := by omega
   have k0 : (0 : Int) ≤ (i : Int) := by omega
   rw [if_pos k1,if_pos k0,if_pos k1,rdOf_get hc,e1,hd]
   by_cases hx : t.toList = l[i].toList
   ·rw [if_pos hx]
    exact ⟨_,rfl,by simp only [hasB,List.any_cons,hx,decide_true,Bool.true_or];exact decide_eq_true (by omega)⟩
   ·rw [if_neg hx]
    obtain ⟨r,h1,h2⟩ := ih (i + 1) (by omega) (by omega)
    exact ⟨r,h1,by rw [h2];simp only [hasB,List.any_cons,hx,decide_false,Bool.false_or]⟩
  ·rw [if_neg (by omega)]
   have : l.drop i = [] := List.drop_eq_nil_of_le (by omega)
   rw [this]
   exact ⟨_,rfl,by simp [hasB]⟩
theorem contains_f (l : List ByteArray) (t : ByteArray) (hl : l.length ≤ 1000000) : slices_Contains_string_string.f (l.length + 1) l t = some (hasB l t) := by
 obtain ⟨r,h1,h2⟩ := index_l0 l t hl (l.length + 1) 0 (by omega) (by omega)
 unfold slices_Contains_string_string.f slices_Index_string_string.f
 have e : ((0 : Nat) : Int) = 0 := rfl
 rw [e] at h1
 rw [h1]
 simp only [Option.bind_some,h2,List.drop_zero]
theorem contains_calls (A : Option Addr) (c : Nat) (l : List ByteArray) (t : ByteArray) (w : World) (h : Kd.string.C w A l.length l) (hc : l.length ≤ c) (hl : l.length ≤ 1000000) :
  Calls Try.prog 96 #[.slice A l.length c,.string t] w fun e w' => e = .returned (.bool (hasB l t)) ∧ Below w.heap.size w w' :=
 (slices_Contains_string_string.calls _ A c l t _ w h hc (contains_f l t hl)).mono fun e w' ⟨he,hb⟩ => ⟨he,hb.below⟩
end Go.Proofs.Ytofmlajanopniaa.Fl
namespace Go.Proofs.Ytofmlajanopniaa.Fl
open Go.RowKit Go.Proofs.YtofmlajanopniaaW.PrintWords Go.Proofs.YtofmlajanopniaaW.PrintLast Go.Proofs.YtofmlajanopniaaW.PrintMore Go.Proofs.Ytofmlajanopniaa.Tk Go.Proofs.Ytofmlajanopniaa.E
def BoxS (W : World) (b : Nat) (l : List ByteArray) : Prop := ∃ A c,W.cell? ⟨b,0,none⟩ = some (.slice A l.length c) ∧ l.length ≤ c ∧ Kd.string.C W A l.length l
theorem BoxS.below {W W' : World} {b : Nat} {l : List ByteArray} (h : BoxS W b l) (hb : Below W.heap.size W W') : BoxS W' b l := by
 obtain ⟨A,c,h1,h2,h3⟩ := h
 exact ⟨A,c,pw_cell_below hb h1,h2,Kd.C_below h3 hb⟩
set_option maxHeartbeats 4000000 in
set_option maxRecDepth 100000 in
theorem has_calls (b : Nat) (l : List ByteArray) (t : ByteArray) (w : World) (h : BoxS w b l) (hl : l.length ≤ 100000) :
  Calls Try.prog 95 #[.string t,.pointer (some ⟨b,0,none⟩)] w fun e w' => e = .returned (.bool (hasB l t)) ∧ Below w.heap.size w w' := by
 obtain ⟨A,c,h1,h2,h3⟩ := h
 have HC := Aside0.mk (show l.length ≤ c ∧ l.length ≤ 1000000 by omega)
 have HS := Aside0.mk h3
 clear h2 h3 hl
 go_enter Try.func95,Try.ntmps95
 go_wp2_with ((go_at_call 96;(with_reducible refine (contains_calls A c l t _ HS.out HC.out.1 HC.out.2).mono ?_);rintro e w1 ⟨rfl,hb⟩;have HB := Aside0.mk hb;clear hb))
 go_ret
 exact ⟨rfl,HB.out⟩
theorem enters_has : ∀ args w,(callFunc 95 args).run Try.prog w = .ok (.enter 95 args) w := Go.Proofs.enters_of Try.func95 (by kernel_rfl) rfl
theorem enters_lacks : ∀ args w,(callFunc 97 args).run Try.prog w = .ok (.enter 97 args) w := Go.Proofs.enters_of Try.func97 (by kernel_rfl) rfl
def BoxF (W : World) (g b : Nat) (l : List ByteArray) : Prop := W.cell? ⟨g,0,none⟩ = some (.func (.func 95) #[] #[.pointer (some ⟨b,0,none⟩)]) ∧ BoxS W b l
theorem BoxF.below {W W' : World} {g b : Nat} {l : List ByteArray} (h : BoxF W g b l) (hb : Below W.heap.size W W') : BoxF W' g b l := ⟨pw_cell_below hb h.1,h.2.below hb⟩
set_option maxHeartbeats 4000000 in
set_option maxRecDepth 100000 in
theorem lacks_calls (g b : Nat) (l : List ByteArray) (t : ByteArray) (w : World) (h : BoxF w g b l) (hl : l.length ≤ 100000) :
  Calls Try.prog 97 #[.string t,.pointer (some ⟨g,0,none⟩)] w fun e w' => e = .returned (.bool (!hasB l t)) ∧ Below w.heap.size w w' := by
 obtain ⟨h1,h2⟩ := h
 have HS := Aside0.mk h2
 have HL := Aside0.mk hl
 clear h2 hl
 go_enter Try.func97,Try.ntmps97
 go_wp2_with ((go_at_call 95;(with_reducible refine (has_calls b l t _ HS.out HL.out).mono ?_);rintro e w1 ⟨rfl,hb⟩;have HB := Aside0.mk hb;clear hb))
 go_ret
 exact ⟨rfl,HB.out⟩
set_option maxHeartbeats 4000000 in
set_option maxRecDepth 100000 in
theorem containsFunc_calls (m : FuncId) (he : ∀ args w,(callFunc m args).run Try.prog w = .ok (.enter m args) w) (cap : Value) (pr : ByteArray → Bool) (Inv : World → Prop) (hInv : ∀ W W',Inv W → Below W.heap.size W W' → Inv W')
  (A : Option Addr) (c : Nat) (l : List ByteArray) (hf : ∀ x ∈ l, ∀ W,Inv W → Calls Try.prog m #[.string x,cap] W fun e W' => e = .returned (.bool (pr x)) ∧ Below W.heap.size W W')
  (w : World) (hc : Kd.string.C w A l.length l) (hl : l.length ≤ 100000) (h0 : Inv w) :
  Calls Try.prog 98 #[.slice A l.length c,.func (.func m) #[] #[cap]] w fun e w' => e = .returned (.bool (l.any pr)) ∧ Below w.heap.size w w' := by
 have H := Aside0.mk (indexFunc_calls m he cap pr Inv hInv A c l hf w hc hl h0)
 clear hf hInv hc hl h0
 go_enter Try.func98,Try.ntmps98
 go_wp2_with ((go_at_call 112;(with_reducible refine H.out.mono ?_);rintro e w1 ⟨⟨r,rfl,hr⟩,hb⟩;have HB := Aside0.mk hb;have HR := Aside0.mk hr;clear hb hr))
 go_ret
 exact ⟨congrArg (fun z => Ending.returned (Value.bool z)) HR.out.symm,HB.out⟩
end Go.Proofs.Ytofmlajanopniaa.Fl
namespace Go.Proofs.Ytofmlajanopniaa.Fl
open Go.RowKit Go.Proofs.YtofmlajanopniaaW.PrintWords Go.Proofs.YtofmlajanopniaaW.PrintLast Go.Proofs.YtofmlajanopniaaW.PrintMore Go.Proofs.Ytofmlajanopniaa.Tk Go.Proofs.Ytofmlajanopniaa.E
def matchB (fa fn fo l : List ByteArray) : Bool := !(fa.any (fun t => !hasB l t) || fo.any (hasB l)) && (decide (fn.length = 0) || fn.any (hasB l))
structure Boxes (W : World) (n : Nat) (A0 : Option Addr) (c0 : Nat) (f0 : List ByteArray) (A1 : Option Addr) (c1 : Nat) (f1 : List ByteArray) (A2 : Option Addr) (c2 : Nat) (f2 : List ByteArray) (l : List ByteArray) : Prop where
 a0 : W.cell? ⟨n,0,none⟩ = some (.slice A0 f0.length c0)
 a1 : W.cell? ⟨n,1,none⟩ = some (.slice A1 f1.length c1)
 a2 : W.cell? ⟨n,2,none⟩ = some (.slice A2 f2.length c2)
 k0 : Kd.string.C W A0 f0.length f0
 k1 : Kd.string.C W A1 f1.length f1
 k2 : Kd.string.C W A2 f2.length f2
 bf : BoxF W (n + 1 + 1) (n + 1) l
theorem Boxes.below {W W' : World} {n : Nat} {A0 : Option Addr} {c0 : Nat} {f0 : List ByteArray} {A1 : Option Addr} {c1 : Nat} {f1 : List ByteArray} {A2 : Option Addr} {c2 : Nat} {f2 : List ByteArray} {l : List ByteArray}
  (h : Boxes W n A0 c0 f0 A1 c1 f1 A2 c2 f2 l) (hb : Below W.heap.size W W') : Boxes W' n A0 c0 f0 A1 c1 f1 A2 c2 f2 l :=
 ⟨pw_cell_below hb h.a0,pw_cell_below hb h.a1,pw_cell_below hb h.a2,Kd.C_below h.k0 hb,Kd.C_below h.k1 hb,Kd.C_below h.k2 hb,h.bf.below hb⟩
theorem boxes_new (w : World) (A0 : Option Addr) (c0 : Nat) (f0 : List ByteArray) (A1 : Option Addr) (c1 : Nat) (f1 : List ByteArray) (A2 : Option Addr) (c2 : Nat) (f2 : List ByteArray) (A3 : Option Addr) (c3 : Nat) (l : List ByteArray)
  (h0 : Kd.string.C w A0 f0.length f0) (h1 : Kd.string.C w A1 f1.length f1) (h2 : Kd.string.C w A2 f2.length f2) (h3 : Kd.string.C w A3 l.length l) (hc3 : l.length ≤ c3) :
  Boxes (((w.alloc (.cells #[.slice A0 f0.length c0,.slice A1 f1.length c1,.slice A2 f2.length c2] 68)).alloc (.cells #[.slice A3 l.length c3] 24)).alloc (.cells #[.func (.func 95) #[] #[.pointer (some ⟨w.heap.size + 1,0,none⟩)]] 147)) w.heap.size A0 c0 f0 A1 c1 f1 A2 c2 f2 l := by
 have b1 := below_alloc (Below.refl w.heap.size w) (.cells #[.slice A0 f0.length c0,.slice A1 f1.length c1,.slice A2 f2.length c2] 68)
 have g1 := heap_alloc_new w (.cells #[.slice A0 f0.length c0,.slice A1 f1.length c1,.slice A2 f2.length c2] 68)
 have s1 : (w.alloc (.cells #[.slice A0 f0.length c0,.slice A1 f1.length c1,.slice A2 f2.length c2] 68)).heap.size = w.heap.size + 1 := World.size_alloc _ _
 generalize w.alloc (.cells #[.slice A0 f0.length c0,.slice A1 f1.length c1,.slice A2 f2.length c2] 68) = w1 at *
 have b2 := below_alloc (Below.refl w1.heap.size w1) (.cells #[.slice A3 l.length c3] 24)
 have g2 := heap_alloc_new w1 (.cells #[.slice A3 l.length c3] 24)
 have s2 : (w1.alloc (.cells #[.slice A3 l.length c3] 24)).heap.size = w1.heap.size + 1 := World.size_alloc _ _
 generalize w1.alloc (.cells #[.slice A3 l.length c3] 24) = w2 at *
 have b3 := below_alloc (Below.refl w2.heap.size w2) (.cells #[.func (.func 95) #[] #[.pointer (some ⟨w.heap.size + 1,0,none⟩)]] 147)
 have g3 := heap_alloc_new w2 (.cells #[.func (.func 95) #[] #[.pointer (some ⟨w.heap.size + 1,0,none⟩)]] 147)
 generalize w2.alloc (.cells #[.func (.func 95) #[] #[.pointer (some ⟨w.heap.size + 1,0,none⟩)]] 147) = w3 at *
 have b13 := bel_trans b2 b3
 have b03 := bel_trans b1 b13
 have e1 : w3.heap[w.heap.size]? = some (.cells #[.slice A0 f0.length c0,.slice A1 f1.length c1,.slice A2 f2.length c2] 68 (0,0)) := (b13.block _ (by omega)).trans g1
 have e2 : w3.heap[w.heap.size + 1]? = some (.cells #[.slice A3 l.length c3] 24 (0,0)) := by rw [s1] at g2;exact (b3.block _ (by omega)).trans g2
 have e3 : w3.heap[w.heap.size + 1 + 1]? = some (.cells #[.func (.func 95) #[] #[.pointer (some ⟨w.heap.size + 1,0,none⟩)]] 147 (0,0)) := by rw [s2,s1] at g3;exact g3
 exact ⟨by rw [blk_cell e1];rfl,by rw [blk_cell e1];rfl,by rw [blk_cell e1];rfl,Kd.C_below h0 b03,Kd.C_below h1 b03,Kd.C_below h2 b03,by rw [blk_cell e3];rfl,A3,c3,by rw [blk_cell e2];rfl,hc3,Kd.C_below h3 b03⟩
end Go.Proofs.Ytofmlajanopniaa.Fl
namespace Go.Proofs.Ytofmlajanopniaa.Fl
open Go.RowKit Go.Proofs.YtofmlajanopniaaW.PrintWords Go.Proofs.YtofmlajanopniaaW.PrintLast Go.Proofs.YtofmlajanopniaaW.PrintMore Go.Proofs.Ytofmlajanopniaa.Tk Go.Proofs.Ytofmlajanopniaa.E
theorem BoxF.s {W : World} {g b : Nat} {l : List ByteArray} (h : BoxF W g b l) : BoxS W b l := h.2
set_option maxHeartbeats 8000000 in
set_option maxRecDepth 100000 in
theorem match_walk (A0 : Option Addr) (c0 : Nat) (f0 : List ByteArray) (A1 : Option Addr) (c1 : Nat) (f1 : List ByteArray) (A2 : Option Addr) (c2 : Nat) (f2 : List ByteArray) (A3 : Option Addr) (c3 : Nat) (l : List ByteArray) (w : World)
  (h0 : Kd.string.C w A0 f0.length f0) (h1 : Kd.string.C w A1 f1.length f1) (h2 : Kd.string.C w A2 f2.length f2) (h3 : Kd.string.C w A3 l.length l) (hc3 : l.length ≤ c3)
  (l0 : f0.length ≤ 100000) (l1 : f1.length ≤ 100000) (l2 : f2.length ≤ 100000) (l3 : l.length ≤ 100000) (r0 r1 r2 : Bool) (hr0 : f0.any (fun t => !hasB l t) = r0) (hr1 : f1.any (hasB l) = r1) (hr2 : f2.any (hasB l) = r2) (e1 : ((f1.length : Int) == 0) = decide (f1.length = 0)) :
  Calls Try.prog 83 #[.agg #[.slice A0 f0.length c0,.slice A1 f1.length c1,.slice A2 f2.length c2],.slice A3 l.length c3] w fun e w' => e = .returned (.bool (!(r0 || r2) && (decide (f1.length = 0) || r1))) ∧ Below w.heap.size w w' := by
 have HB0 := Aside0.mk (boxes_new w A0 c0 f0 A1 c1 f1 A2 c2 f2 A3 c3 l h0 h1 h2 h3 hc3)
 have HL0 := Aside0.mk l0
 have HL1 := Aside0.mk l1
 have HL2 := Aside0.mk l2
 have HL3 := Aside0.mk l3
 have HR0 := Aside0.mk hr0
 have HR1 := Aside0.mk hr1
 have HR2 := Aside0.mk hr2
 have HBW := Aside0.mk (bel_alloc (bel_alloc (below_alloc (Below.refl w.heap.size w) (.cells #[.slice A0 f0.length c0,.slice A1 f1.length c1,.slice A2 f2.length c2] 68)) (.cells #[.slice A3 l.length c3] 24)) (.cells #[.func (.func 95) #[] #[.pointer (some ⟨w.heap.size + 1,0,none⟩)]] 147))
 obtain ⟨z,hz⟩ : ∃ z,decide (f1.length = 0) = z := ⟨_,rfl⟩
 rw [hz] at e1 ⊢
 clear h0 h1 h2 h3 hc3 l0 l1 l2 l3 hr0 hr1 hr2 hz
 cases r0 <;> cases r2 <;> cases z <;> (
  go_enter Try.func83,Try.ntmps83
  go_wp2_with (first | (go_at_call 98;(first | (have := HB5;(with_reducible refine (containsFunc_calls 95 enters_has _ (hasB l) (fun W => BoxF W (w.heap.size + 1 + 1) (w.heap.size + 1) l) (fun _ _ h hb => h.below hb) _ _ f1 (fun x _ W hI => has_calls _ l x W hI.s HL3.out) _ HB5.out.k1 HL1.out HB5.out.bf).mono ?_);rintro e w6 ⟨rfl,hb⟩;rw [HR1.out];have HB6 := Aside0.mk (HB5.out.below hb);have HW6 := Aside0.mk (bel_trans HW5.out hb);clear hb) | (have := HB4;(with_reducible refine (containsFunc_calls 95 enters_has _ (hasB l) (fun W => BoxF W (w.heap.size + 1 + 1) (w.heap.size + 1) l) (fun _ _ h hb => h.below hb) _ _ f2 (fun x _ W hI => has_calls _ l x W hI.s HL3.out) _ HB4.out.k2 HL2.out HB4.out.bf).mono ?_);rintro e w5 ⟨rfl,hb⟩;rw [HR2.out];have HB5 := Aside0.mk (HB4.out.below hb);have HW5 := Aside0.mk (bel_trans HW4.out hb);clear x0 x1 x2 x3;have y0 := HB5.out.a0;have y1 := HB5.out.a1;have y2 := HB5.out.a2;have y3 := HB5.out.bf.1;clear hb) | ((with_reducible refine (containsFunc_calls 97 enters_lacks _ (fun t => !hasB l t) (fun W => BoxF W (w.heap.size + 1 + 1) (w.heap.size + 1) l) (fun _ _ h hb => h.below hb) _ _ f0 (fun x _ W hI => lacks_calls _ _ l x W hI HL3.out) _ HB0.out.k0 HL0.out HB0.out.bf).mono ?_);rintro e w4 ⟨rfl,hb⟩;rw [HR0.out];have HB4 := Aside0.mk (HB0.out.below hb);have HW4 := Aside0.mk (bel_trans HBW.out hb);have x0 := HB4.out.a0;have x1 := HB4.out.a1;have x2 := HB4.out.a2;have x3 := HB4.out.bf.1;clear hb))))
  all_goals
   go_ret
   exact ⟨rfl,by first | exact HW6.out | exact HW5.out | exact HW4.out⟩)
theorem match_calls (A0 : Option Addr) (c0 : Nat) (f0 : List ByteArray) (A1 : Option Addr) (c1 : Nat) (f1 : List ByteArray) (A2 : Option Addr) (c2 : Nat) (f2 : List ByteArray) (A3 : Option Addr) (c3 : Nat) (l : List ByteArray) (w : World)
  (h0 : Kd.string.C w A0 f0.length f0) (h1 : Kd.string.C w A1 f1.length f1) (h2 : Kd.string.C w A2 f2.length f2) (h3 : Kd.string.C w A3 l.length l) (hc3 : l.length ≤ c3)
  (l0 : f0.length ≤ 100000) (l1 : f1.length ≤ 100000) (l2 : f2.length ≤ 100000) (l3 : l.length ≤ 100000) :
  Calls Try.prog 83 #[.agg #[.slice A0 f0.length c0,.slice A1 f1.length c1,.slice A2 f2.length c2],.slice A3 l.length c3] w fun e w' => e = .returned (.bool (matchB f0 f1 f2 l)) ∧ Below w.heap.size w w' :=
 match_walk A0 c0 f0 A1 c1 f1 A2 c2 f2 A3 c3 l w h0 h1 h2 h3 hc3 l0 l1 l2 l3 _ _ _ rfl rfl rfl (by by_cases h : f1.length = 0 <;> simp [h])
end Go.Proofs.Ytofmlajanopniaa.Fl
namespace Go.Proofs.Ytofmlajanopniaa.Fl
open Go.RowKit Go.Proofs.YtofmlajanopniaaW.PrintWords Go.Proofs.YtofmlajanopniaaW.PrintLast Go.Proofs.YtofmlajanopniaaW.PrintMore Go.Proofs.Ytofmlajanopniaa.Q Go.Proofs.Ytofmlajanopniaa.E
def fixvec_Dist.f (k : Nat) (a0 : Int) (l1 : List Int) (l2 : List Int) : Option (Int × Bool) :=
 if a0 > 1 then some (0,false) else
 (fixvec_Check.f k l1 (l1.length : Int)).bind fun t =>
 if t = 0 then
  (fixvec_Check.f k l2 (l1.length : Int)).bind fun u =>
  if u = 0 then
   if a0 = 0 then (fixvec_square.f k l1 l2).bind fun s => some (s,true)
   else if a0 = 1 then (fixvec_minus.f k l1 l2).bind fun s => some (s,true) else none
  else some (0,false)
 else some (0,false)
theorem fixvec_Dist.mono : ∀ a0 a1 a2 k,LeO (fixvec_Dist.f k a0 a1 a2) (fixvec_Dist.f (k + 1) a0 a1 a2) := by
 intro a0 a1 a2 k
 unfold fixvec_Dist.f
 repeat' first
   | exact fixvec_Check.mono _ _ _
   | exact fixvec_square.mono _ _ _
   | exact fixvec_minus.mono _ _ _
   | exact LeO.refl _
   | refine LeO.ite ?_ ?_
   | refine LeO.bind ?_ (fun _ => ?_)
set_option maxHeartbeats 2000000 in
theorem fixvec_Dist.calls_big (a0 : Int) (A1 : Option Addr) (c1 : Nat) (l1 : List Int) (A2 : Option Addr) (c2 : Nat) (l2 : List Int) (w : World) (h : a0 > 1) :
  Calls Try.prog 76 #[.int .u8 a0,.slice A1 l1.length c1,.slice A2 l2.length c2] w fun e w' => e = .returned (.tuple #[.int .i64 0,.bool false]) ∧ Below w.heap.size w w' := by
 have h1 : decide (1 < a0) = true := decide_eq_true h
 clear h
 go_enter Try.func76,Try.ntmps76
 go_wp2
 go_ret2
 exact ⟨rfl,Below.refl _ _⟩
set_option maxHeartbeats 2000000 in
theorem fixvec_Dist.calls_no1 (k : Nat) (a0 : Int) (A1 : Option Addr) (c1 : Nat) (l1 : List Int) (A2 : Option Addr) (c2 : Nat) (l2 : List Int) (w : World) (t : Int)
  (hr1 : Kd.C (Kd.int .i32) w A1 l1.length l1) (hc1 : l1.length ≤ c1) (h : ¬ a0 > 1) (h1 : fixvec_Check.f k l1 (l1.length : Int) = some t) (ht : ¬ t = 0) :
  Calls Try.prog 76 #[.int .u8 a0,.slice A1 l1.length c1,.slice A2 l2.length c2] w fun e w' => e = .returned (.tuple #[.int .i64 0,.bool false]) ∧ Below w.heap.size w w' := by
 have H1 := Aside0.mk h1
 have HR1 := Aside0.mk hr1
 have HC1 := Aside0.mk hc1
 clear h1 hr1 hc1
 have h1 : decide (1 < a0) = false := decide_eq_false h
 have h2 : (t != 0) = true := bne_iff_ne.mpr ht
 clear h ht
 go_enter Try.func76,Try.ntmps76
 go_wp2_with ((go_at_call 89;(with_reducible refine (fixvec_Check.calls k _ _ l1 _ _ _ HR1.out HC1.out H1.out).mono ?_);rintro e w1 ⟨rfl,hd⟩;have HB := Aside0.mk hd.below;clear hd))
 go_ret2
 exact ⟨rfl,HB.out⟩
set_option maxHeartbeats 2000000 in
theorem fixvec_Dist.calls_no2 (k : Nat) (a0 : Int) (A1 : Option Addr) (c1 : Nat) (l1 : List Int) (A2 : Option Addr) (c2 : Nat) (l2 : List Int) (w : World) (t : Int)
  (hr1 : Kd.C (Kd.int .i32) w A1 l1.length l1) (hc1 : l1.length ≤ c1) (hr2 : Kd.C (Kd.int .i32) w A2 l2.length l2) (hc2 : l2.length ≤ c2)
  (h : ¬ a0 > 1) (h1 : fixvec_Check.f k l1 (l1.length : Int) = some 0) (h2 : fixvec_Check.f k l2 (l1.length : Int) = some t) (ht : ¬ t = 0) :
  Calls Try.prog 76 #[.int .u8 a0,.slice A1 l1.length c1,.slice A2 l2.length c2] w fun e w' => e = .returned (.tuple #[.int .i64 0,.bool false]) ∧ Below w.heap.size w w' := by
 have H1 := Aside0.mk h1
 have H2 := Aside0.mk h2
 have HR1 := Aside0.mk hr1
 have HC1 := Aside0.mk hc1
 have HR2 := Aside0.mk hr2
 have HC2 := Aside0.mk hc2
 clear h1 h2 hr1 hc1 hr2 hc2
 have h1 : decide (1 < a0) = false := decide_eq_false h
 have h2 : (t != 0) = true := bne_iff_ne.mpr ht
 clear h ht
 go_enter Try.func76,Try.ntmps76
 go_wp2_with (first | (go_at_call 89;(with_reducible refine (fixvec_Check.calls k _ _ l1 _ _ _ HR1.out HC1.out H1.out).mono ?_);rintro e w1 ⟨rfl,hd⟩;have HB := Aside0.mk hd.below;clear hd) | (go_at_call 89;(with_reducible refine (fixvec_Check.calls k _ _ l2 _ _ _ (Kd.C_below HR2.out HB.out) HC2.out H2.out).mono ?_);rintro e w2 ⟨rfl,hd⟩;have HB2 := Aside0.mk (below_then HB.out HB.out.size hd.below);clear hd))
 go_ret2
 exact ⟨rfl,HB2.out⟩
set_option maxHeartbeats 2000000 in
theorem fixvec_Dist.calls_sq (k : Nat) (A1 : Option Addr) (c1 : Nat) (l1 : List Int) (A2 : Option Addr) (c2 : Nat) (l2 : List Int) (w : World) (s : Int)
  (hr1 : Kd.C (Kd.int .i32) w A1 l1.length l1) (hc1 : l1.length ≤ c1) (hr2 : Kd.C (Kd.int .i32) w A2 l2.length l2) (hc2 : l2.length ≤ c2)
  (h1 : fixvec_Check.f k l1 (l1.length : Int) = some 0) (h2 : fixvec_Check.f k l2 (l1.length : Int) = some 0) (h3 : fixvec_square.f k l1 l2 = some s) :
  Calls Try.prog 76 #[.int .u8 0,.slice A1 l1.length c1,.slice A2 l2.length c2] w fun e w' => e = .returned (.tuple #[.int .i64 s,.bool true]) ∧ Below w.heap.size w w' := by
 have H1 := Aside0.mk h1
 have H2 := Aside0.mk h2
 have H3 := Aside0.mk h3
 have HR1 := Aside0.mk hr1
 have HR2 := Aside0.mk hr2
 have HC1 := Aside0.mk hc1
 have HC2 := Aside0.mk hc2
 clear h1 h2 h3 hr1 hr2 hc1 hc2
 go_enter Try.func76,Try.ntmps76
 go_wp2_with (first | (go_at_call 89;(with_reducible refine (fixvec_Check.calls k _ _ l1 _ _ _ HR1.out HC1.out H1.out).mono ?_);rintro e w1 ⟨rfl,hd⟩;have HB := Aside0.mk hd.below;clear hd) | (go_at_call 89;(with_reducible refine (fixvec_Check.calls k _ _ l2 _ _ _ (Kd.C_below HR2.out HB.out) HC2.out H2.out).mono ?_);rintro e w2 ⟨rfl,hd⟩;have HB2 := Aside0.mk (below_then HB.out HB.out.size hd.below);clear hd) | (go_at_call 90;have HB3 := Aside0.mk (HB2.out.alloc HB2.out.size (Obj.cells #[Value.func (Fn.func 90) #[] #[],Value.func (Fn.func 91) #[] #[]] 143));(with_reducible refine (fixvec_square.calls k _ _ l1 _ _ l2 _ _ (Kd.C_below HR1.out HB3.out) HC1.out (Kd.C_below HR2.out HB3.out) HC2.out H3.out).mono ?_);rintro e w3 ⟨rfl,hd⟩;have HB4 := Aside0.mk (below_then HB3.out HB3.out.size hd.below);clear hd))
 go_ret2
 exact ⟨rfl,HB4.out⟩
set_option maxHeartbeats 2000000 in
theorem fixvec_Dist.calls_mi (k : Nat) (A1 : Option Addr) (c1 : Nat) (l1 : List Int) (A2 : Option Addr) (c2 : Nat) (l2 : List Int) (w : World) (s : Int)
  (hr1 : Kd.C (Kd.int .i32) w A1 l1.length l1) (hc1 : l1.length ≤ c1) (hr2 : Kd.C (Kd.int .i32) w A2 l2.length l2) (hc2 : l2.length ≤ c2)
  (h1 : fixvec_Check.f k l1 (l1.length : Int) = some 0) (h2 : fixvec_Check.f k l2 (l1.length : Int) = some 0) (h3 : fixvec_minus.f k l1 l2 = some s) :
  Calls Try.prog 76 #[.int .u8 1,.slice A1 l1.length c1,.slice A2 l2.length c2] w fun e w' => e = .returned (.tuple #[.int .i64 s,.bool true]) ∧ Below w.heap.size w w' := by
 have H1 := Aside0.mk h1
 have H2 := Aside0.mk h2
 have H3 := Aside0.mk h3
 have HR1 := Aside0.mk hr1
 have HR2 := Aside0.mk hr2
 have HC1 := Aside0.mk hc1
 have HC2 := Aside0.mk hc2
 clear h1 h2 h3 hr1 hr2 hc1 hc2
 go_enter Try.func76,Try.ntmps76
 go_wp2_with (first | (go_at_call 89;(with_reducible refine (fixvec_Check.calls k _ _ l1 _ _ _ HR1.out HC1.out H1.out).mono ?_);rintro e w1 ⟨rfl,hd⟩;have HB := Aside0.mk hd.below;clear hd) | (go_at_call 89;(with_reducible refine (fixvec_Check.calls k _ _ l2 _ _ _ (Kd.C_below HR2.out HB.out) HC2.out H2.out).mono ?_);rintro e w2 ⟨rfl,hd⟩;have HB2 := Aside0.mk (below_then HB.out HB.out.size hd.below);clear hd) | (go_at_call 91;have HB3 := Aside0.mk (HB2.out.alloc HB2.out.size (Obj.cells #[Value.func (Fn.func 90) #[] #[],Value.func (Fn.func 91) #[] #[]] 143));(with_reducible refine (fixvec_minus.calls k _ _ l1 _ _ l2 _ _ (Kd.C_below HR1.out HB3.out) HC1.out (Kd.C_below HR2.out HB3.out) HC2.out H3.out).mono ?_);rintro e w3 ⟨rfl,hd⟩;have HB4 := Aside0.mk (below_then HB3.out HB3.out.size hd.below);clear hd))
 go_ret2
 exact ⟨rfl,HB4.out⟩
theorem fixvec_Dist.calls (k : Nat) (a0 : Int) (A1 : Option Addr) (c1 : Nat) (l1 : List Int) (A2 : Option Addr) (c2 : Nat) (l2 : List Int) (r1 : Int) (r2 : Bool) (w : World) (hr1 : Kd.C (Kd.int .i32) w A1 l1.length l1) (hc1 : l1.length ≤ c1) (hr2 : Kd.C (Kd.int .i32) w A2 l2.length l2) (hc2 : l2.length ≤ c2) (h : fixvec_Dist.f k a0 l1 l2 = some (r1,r2)) :
  Calls Try.prog 76 #[.int .u8 a0,.slice A1 l1.length c1,.slice A2 l2.length c2] w fun e w' => e = .returned (.tuple #[.int .i64 r1,.bool r2]) ∧ Below w.heap.size w w' := by
 unfold fixvec_Dist.f at h
 by_cases hb : a0 > 1
 ·rw [if_pos hb] at h
  cases h
  exact fixvec_Dist.calls_big a0 A1 c1 l1 A2 c2 l2 w hb
 rw [if_neg hb] at h
 obtain ⟨t,h1,h⟩ := Option.bind_eq_some_iff.mp h
 by_cases ht : t = 0
 ·subst ht
  rw [if_pos rfl] at h
  obtain ⟨u,h2,h⟩ := Option.bind_eq_some_iff.mp h
  by_cases hu : u = 0
  ·subst hu
   rw [if_pos rfl] at h
   by_cases h00 : a0 = 0
   ·subst h00
    rw [if_pos rfl] at h
    obtain ⟨s,h3,h⟩ := Option.bind_eq_some_iff.mp h
    cases h
    exact fixvec_Dist.calls_sq k A1 c1 l1 A2 c2 l2 w _ hr1 hc1 hr2 hc2 h1 h2 h3
   ·rw [if_neg h00] at h
    by_cases h01 : a0 = 1
    ·subst h01
     rw [if_pos rfl] at h
     obtain ⟨s,h3,h⟩ := Option.bind_eq_some_iff.mp h
     cases h
     exact fixvec_Dist.calls_mi k A1 c1 l1 A2 c2 l2 w _ hr1 hc1 hr2 hc2 h1 h2 h3
    ·rw [if_neg h01] at h
     cases h
  ·rw [if_neg hu] at h
   cases h
   exact fixvec_Dist.calls_no2 k a0 A1 c1 l1 A2 c2 l2 w u hr1 hc1 hr2 hc2 hb h1 h2 hu
 ·rw [if_neg ht] at h
  cases h
  exact fixvec_Dist.calls_no1 k a0 A1 c1 l1 A2 c2 l2 w t hr1 hc1 hb h1 ht
theorem w64 {x : Int} (h0 : -9223372036854775808 ≤ x) (h1 : x ≤ 9223372036854775807) : wrap64 x = x := by unfold wrap64;omega
theorem rd_at (l : List Int) (i : Nat) (h : i < l.length) : rd l (i : Int) = l[i] := by simp [rd,h]
theorem drop_at (l : List Int) (i : Nat) (h : i < l.length) : l.drop i = rd l (i : Int) :: l.drop (i + 1) := by
 rw [rd_at l i h];exact List.drop_eq_getElem_cons h
def okp (x : Int) : Prop := -1048576 ≤ x ∧ x ≤ 1048576
instance (x : Int) : Decidable (okp x) := by unfold okp;exact inferInstance
def chk (l : List Int) (dim : Int) : Int := if dim < 1 ∨ dim > 16 ∨ (l.length : Int) ≠ dim then 10 else if ∀ x ∈ l,okp x then 0 else 11

theorem check_l (l : List Int) (hl : l.length ≤ 140737488351232) (d : Nat) : ∀ (k i : Nat),i ≤ l.length → l.length - i = d → d < k →
  fixvec_Check.l0 k l (l.length : Int) (i : Int) = some (if ∀ x ∈ l.drop i,okp x then 0 else 11) := by
 induction d with
 | zero =>
  intro k i hi hd hk
  obtain ⟨k,rfl⟩ : ∃ m,k = m + 1 := ⟨k - 1,by omega⟩
  simp only [fixvec_Check.l0]
  rw [if_neg (by omega),List.drop_eq_nil_of_le (by omega)]
  simp
 | succ d ih =>
  intro k i hi hd hk
  obtain ⟨k,rfl⟩ : ∃ m,k = m + 1 := ⟨k - 1,by omega⟩
  have h1 := ih k (i + 1) (by omega) (by omega) (by omega)
  simp only [fixvec_Check.l0]
  rw [if_pos (by omega),if_pos (by omega),if_pos (by omega),drop_at l i (by omega),w64 (by omega) (by omega)]
  by_cases ha : rd l (i : Int) < -1048576
  ·rw [if_pos ha,if_neg]
   intro h
   have := (h _ (List.mem_cons_self)).1
   omega
  ·rw [if_neg ha]
   by_cases hb : rd l (i : Int) > 1048576
   ·rw [if_pos hb,if_neg]
    intro h
    have := (h _ (List.mem_cons_self)).2
    omega
   ·rw [if_neg hb]
    have h2 : ((i : Int) + 1) = ((i + 1 : Nat) : Int) := by omega
    rw [h2,h1]
    congr 1
    simp only [List.forall_mem_cons]
    have h3 : okp (rd l (i : Int)) := ⟨by omega,by omega⟩
    simp [h3]
theorem check_f (l : List Int) (dim : Int) (k : Nat) (hk : l.length + 2 ≤ k) : fixvec_Check.f k l dim = some (chk l dim) := by
 obtain ⟨k,rfl⟩ : ∃ m,k = m + 1 := ⟨k - 1,by omega⟩
 unfold fixvec_Check.f chk
 by_cases h1 : dim < 1
 ·rw [if_pos h1];simp [fixvec_Check.j0,h1]
 ·rw [if_neg h1]
  by_cases h2 : dim > 16
  ·rw [if_pos h2];simp [fixvec_Check.j0,h2]
  ·rw [if_neg h2]
   by_cases h3 : (l.length : Int) = dim
   ·have := check_l l (by omega) l.length k 0 (by omega) (by omega) (by omega)
    simp only [fixvec_Check.j0,h3,bne_self_eq_false,Bool.false_eq_true,if_false]
    rw [h3] at this
    simp only [List.drop_zero,Int.natCast_zero] at this
    rw [this]
    simp [h1,h2]
   ·have : ((l.length : Int) != dim) = true := bne_iff_ne.mpr h3
    simp [fixvec_Check.j0,this,h3]
def sqs : List Int → List Int → Int
 | a :: l,b :: m => (a - b) * (a - b) + sqs l m
 | _,_ => 0
def prs : List Int → List Int → Int
 | a :: l,b :: m => a * b + prs l m
 | _,_ => 0
theorem sq_le {d B : Int} (h0 : -B ≤ d) (h1 : d ≤ B) : d * d ≤ B * B := by
 have h := Int.mul_nonneg (show 0 ≤ B - d by omega) (show 0 ≤ B + d by omega)
 have e : (B - d) * (B + d) = B * B - d * d := by grind
 omega
theorem sq_nonneg (d : Int) : 0 ≤ d * d := by
 rcases Int.le_total 0 d with h | h
 ·exact Int.mul_nonneg h h
 ·exact Int.mul_nonneg_of_nonpos_of_nonpos h h
theorem mul_bd {a b B : Int} (ha0 : -B ≤ a) (ha1 : a ≤ B) (hb0 : -B ≤ b) (hb1 : b ≤ B) : -(B * B) ≤ a * b ∧ a * b ≤ B * B := by
 have h1 := Int.mul_nonneg (show 0 ≤ B - a by omega) (show 0 ≤ B + b by omega)
 have h2 := Int.mul_nonneg (show 0 ≤ B + a by omega) (show 0 ≤ B - b by omega)
 have h3 := Int.mul_nonneg (show 0 ≤ B - a by omega) (show 0 ≤ B - b by omega)
 have h4 := Int.mul_nonneg (show 0 ≤ B + a by omega) (show 0 ≤ B + b by omega)
 have e1 : (B - a) * (B + b) + (B + a) * (B - b) = 2 * (B * B) - 2 * (a * b) := by grind
 have e2 : (B - a) * (B - b) + (B + a) * (B + b) = 2 * (B * B) + 2 * (a * b) := by grind
 constructor <;> omega
def both (l m : List Int) : Prop := 1 ≤ l.length ∧ l.length ≤ 16 ∧ m.length = l.length ∧ (∀ x ∈ l,okp x) ∧ ∀ x ∈ m,okp x
theorem okp_rd {l : List Int} (h : ∀ x ∈ l,okp x) {i : Nat} (hi : i < l.length) : okp (rd l (i : Int)) := by
 rw [rd_at l i hi];exact h _ (List.getElem_mem hi)
theorem square_l (l m : List Int) (h : both l m) (d : Nat) : ∀ (k i : Nat) (s : Int),i ≤ l.length → l.length - i = d → d < k → 0 ≤ s → s ≤ i * 4398046511104 →
  fixvec_square.l0 k m s l (l.length : Int) (i : Int) = some (s + sqs (l.drop i) (m.drop i)) := by
 obtain ⟨b1,b2,b3,b4,b5⟩ := h
 induction d with
 | zero =>
  intro k i s hi hd hk _ _
  obtain ⟨k,rfl⟩ : ∃ m,k = m + 1 := ⟨k - 1,by omega⟩
  simp only [fixvec_square.l0]
  rw [if_neg (by omega),List.drop_eq_nil_of_le (by omega)]
  simp [sqs]
 | succ d ih =>
  intro k i s hi hd hk hs0 hs1
  obtain ⟨k,rfl⟩ : ∃ m,k = m + 1 := ⟨k - 1,by omega⟩
  have ha := okp_rd b4 (i := i) (by omega)
  have hb := okp_rd b5 (i := i) (by omega)
  rw [drop_at l i (by omega),drop_at m i (by omega)]
  simp only [fixvec_square.l0]
  generalize rd l (i : Int) = x at *
  generalize rd m (i : Int) = y at *
  unfold okp at ha hb
  have h3 := sq_le (d := x - y) (B := 2097152) (by omega) (by omega)
  have h4 := sq_nonneg (x - y)
  rw [if_pos (by omega),if_pos (by omega),if_pos (by omega),if_pos (by omega),w64 (x := x) (by omega) (by omega),w64 (x := y) (by omega) (by omega),w64 (x := x - y) (by omega) (by omega),w64 (x := (x - y) * (x - y)) (by omega) (by omega),w64 (x := s + (x - y) * (x - y)) (by omega) (by omega),w64 (x := (i : Int) + 1) (by omega) (by omega)]
  have h2 : ((i : Int) + 1) = ((i + 1 : Nat) : Int) := by omega
  rw [h2,ih k (i + 1) _ (by omega) (by omega) (by omega) (by omega) (by omega)]
  simp only [sqs]
  congr 1
  omega
theorem square_f (l m : List Int) (h : both l m) (k : Nat) (hk : 17 ≤ k) : fixvec_square.f k l m = some (sqs l m) := by
 have := square_l l m h l.length k 0 0 (by omega) (by omega) (by have := h.2.1;omega) (by omega) (by omega)
 unfold fixvec_square.f
 simp only [List.drop_zero,Int.natCast_zero,Int.zero_add] at this
 exact this
theorem minus_l (l m : List Int) (h : both l m) (d : Nat) : ∀ (k i : Nat) (s : Int),i ≤ l.length → l.length - i = d → d < k → -(i * 1099511627776) ≤ s → s ≤ i * 1099511627776 →
  fixvec_minus.l0 k m s l (l.length : Int) (i : Int) = some (s - prs (l.drop i) (m.drop i)) := by
 obtain ⟨b1,b2,b3,b4,b5⟩ := h
 induction d with
 | zero =>
  intro k i s hi hd hk _ _
  obtain ⟨k,rfl⟩ : ∃ m,k = m + 1 := ⟨k - 1,by omega⟩
  simp only [fixvec_minus.l0]
  rw [if_neg (by omega),List.drop_eq_nil_of_le (by omega)]
  simp [prs]
 | succ d ih =>
  intro k i s hi hd hk hs0 hs1
  obtain ⟨k,rfl⟩ : ∃ m,k = m + 1 := ⟨k - 1,by omega⟩
  have ha := okp_rd b4 (i := i) (by omega)
  have hb := okp_rd b5 (i := i) (by omega)
  rw [drop_at l i (by omega),drop_at m i (by omega)]
  simp only [fixvec_minus.l0]
  generalize rd l (i : Int) = x at *
  generalize rd m (i : Int) = y at *
  unfold okp at ha hb
  have h3 := mul_bd (a := x) (b := y) (B := 1048576) (by omega) (by omega) (by omega) (by omega)
  rw [if_pos (by omega),if_pos (by omega),if_pos (by omega),if_pos (by omega),w64 (x := x) (by omega) (by omega),w64 (x := y) (by omega) (by omega),w64 (x := x * y) (by omega) (by omega),w64 (x := s - x * y) (by omega) (by omega),w64 (x := (i : Int) + 1) (by omega) (by omega)]
  have h2 : ((i : Int) + 1) = ((i + 1 : Nat) : Int) := by omega
  rw [h2,ih k (i + 1) _ (by omega) (by omega) (by omega) (by omega) (by omega)]
  simp only [prs]
  congr 1
  omega
theorem minus_f (l m : List Int) (h : both l m) (k : Nat) (hk : 17 ≤ k) : fixvec_minus.f k l m = some (-prs l m) := by
 have := minus_l l m h l.length k 0 0 (by omega) (by omega) (by have := h.2.1;omega) (by omega) (by omega)
 unfold fixvec_minus.f
 simp only [List.drop_zero,Int.natCast_zero,Int.zero_sub] at this
 exact this
instance (l m : List Int) : Decidable (both l m) := by unfold both;exact inferInstance
theorem chk_own (l : List Int) : chk l (l.length : Int) = 0 ↔ 1 ≤ l.length ∧ l.length ≤ 16 ∧ ∀ x ∈ l,okp x := by
 unfold chk
 by_cases h : (l.length : Int) < 1 ∨ (l.length : Int) > 16 ∨ (l.length : Int) ≠ l.length
 ·rw [if_pos h];constructor
  ·intro h;omega
  ·rintro ⟨_,_,_⟩;omega
 ·rw [if_neg h]
  by_cases h2 : ∀ x ∈ l,okp x
  ·rw [if_pos h2];exact ⟨fun _ => ⟨by omega,by omega,h2⟩,fun _ => rfl⟩
  ·rw [if_neg h2];exact ⟨fun h => by omega,fun h => absurd h.2.2 h2⟩
theorem chk_other (l m : List Int) (h : 1 ≤ l.length ∧ l.length ≤ 16) : chk m (l.length : Int) = 0 ↔ m.length = l.length ∧ ∀ x ∈ m,okp x := by
 unfold chk
 by_cases h1 : (l.length : Int) < 1 ∨ (l.length : Int) > 16 ∨ (m.length : Int) ≠ l.length
 ·rw [if_pos h1];constructor
  ·intro h;omega
  ·rintro ⟨_,_⟩;omega
 ·rw [if_neg h1]
  by_cases h2 : ∀ x ∈ m,okp x
  ·rw [if_pos h2];exact ⟨fun _ => ⟨by omega,h2⟩,fun _ => rfl⟩
  ·rw [if_neg h2];exact ⟨fun h => by omega,fun h => absurd h.2 h2⟩
def dist (a0 : Int) (l m : List Int) : Int × Bool := if a0 ≤ 1 ∧ both l m then (if a0 = 0 then sqs l m else -prs l m,true) else (0,false)
theorem dist_f (a0 : Int) (h0 : 0 ≤ a0) (l m : List Int) (k : Nat) (hk : l.length + m.length + 17 ≤ k) : fixvec_Dist.f k a0 l m = some (dist a0 l m) := by
 unfold fixvec_Dist.f dist
 by_cases h1 : a0 > 1
 ·rw [if_pos h1,if_neg (by omega)]
 ·rw [if_neg h1,check_f l _ k (by omega)]
  simp only [Option.bind_some]
  by_cases c1 : chk l (l.length : Int) = 0
  ·rw [if_pos c1,check_f m _ k (by omega)]
   simp only [Option.bind_some]
   have c := (chk_own l).1 c1
   by_cases c2 : chk m (l.length : Int) = 0
   ·have d := (chk_other l m ⟨c.1,c.2.1⟩).1 c2
    have b : both l m := ⟨c.1,c.2.1,d.1,c.2.2,d.2⟩
    have hc : a0 ≤ 1 ∧ both l m := ⟨by omega,b⟩
    rw [if_pos c2,if_pos hc]
    by_cases h2 : a0 = 0
    ·rw [if_pos h2,if_pos h2,square_f l m b k (by omega)];rfl
    ·rw [if_neg h2,if_neg h2,if_pos (show a0 = 1 by omega),minus_f l m b k (by omega)];rfl
   ·rw [if_neg c2,if_neg]
    rintro ⟨_,b⟩
    exact c2 ((chk_other l m ⟨b.1,b.2.1⟩).2 ⟨b.2.2.1,b.2.2.2.2⟩)
  ·rw [if_neg c1,if_neg]
   rintro ⟨_,b⟩
   exact c1 ((chk_own l).2 ⟨b.1,b.2.1,b.2.2.2.1⟩)
end Go.Proofs.Ytofmlajanopniaa.Fl
namespace Go.Proofs.Ytofmlajanopniaa.Li
open Go.RowKit Go.Proofs.YtofmlajanopniaaW.PrintWords Go.Proofs.Ytofmlajanopniaa.Q Go.Proofs.Ytofmlajanopniaa.Tk
structure Nd where
 id : Int
 vec : List Int
 tags : List ByteArray
 fr : Int
 un : Int
 links : List (List Int)
structure Gr where
 m : Int
 l : List Nd
def Gr.lk (s : Gr) (i : Int) : List (List Int) := if 0 ≤ i then ((s.l[i.toNat]?).map Nd.links).getD [] else []
def Gr.vec (s : Gr) (i : Int) : List Int := ((s.l[i.toNat]?).map Nd.vec).getD []
def Gr.there (s : Gr) (i lv : Int) : Bool := decide (0 ≤ lv) && decide (lv < ((s.lk i).length : Int))
def Gr.at_ (s : Gr) (i lv : Int) : List Int := ((s.lk i)[lv.toNat]?).getD []
def Gr.far (s : Gr) (q : List Int) (i : Int) : Int := (Fl.dist s.m q (s.vec i)).1
def Gr.hit (s : Gr) (q : List Int) (i : Int) : H := ⟨s.far q i,i⟩
theorem lk_nat {s : Gr} {i : Nat} {n : Nd} (h : s.l[i]? = some n) : s.lk (i : Int) = n.links := by
 unfold Gr.lk
 rw [if_pos (by omega),show ((i : Int)).toNat = i by omega,h]
 rfl
theorem vec_nat {s : Gr} {i : Nat} {n : Nd} (h : s.l[i]? = some n) : s.vec (i : Int) = n.vec := by
 unfold Gr.vec
 rw [show ((i : Int)).toNat = i by omega,h]
 rfl
theorem there_iff {s : Gr} {i lv : Int} : s.there i lv = true ↔ ∃ (k j : Nat) (n : Nd),i = (k : Int) ∧ lv = (j : Int) ∧ s.l[k]? = some n ∧ j < n.links.length := by
 unfold Gr.there
 rw [Bool.and_eq_true,decide_eq_true_eq,decide_eq_true_eq]
 constructor
 ·rintro ⟨h1,h2⟩
  by_cases hi : 0 ≤ i
  ·obtain ⟨k,rfl⟩ : ∃ k : Nat,i = (k : Int) := ⟨i.toNat,by omega⟩
   obtain ⟨j,rfl⟩ : ∃ j : Nat,lv = (j : Int) := ⟨lv.toNat,by omega⟩
   cases hn : s.l[k]? with
   | none =>
    unfold Gr.lk at h2
    rw [if_pos hi,show ((k : Int)).toNat = k by omega,hn] at h2
    simp at h2
    omega
   | some n =>
    rw [lk_nat hn] at h2
    exact ⟨k,j,n,rfl,rfl,hn,by omega⟩
  ·unfold Gr.lk at h2
   rw [if_neg hi] at h2
   simp at h2
   omega
 ·rintro ⟨k,j,n,rfl,rfl,hn,hj⟩
  rw [lk_nat hn]
  exact ⟨by omega,by omega⟩
theorem there_range {s : Gr} {i lv : Int} (h : s.there i lv = true) : 0 ≤ i ∧ i < (s.l.length : Int) ∧ 0 ≤ lv := by
 obtain ⟨k,j,n,rfl,rfl,hn,hj⟩ := there_iff.1 h
 have := (List.getElem?_eq_some_iff.1 hn).1
 omega
/-! ### Near -/
def nearStep (s : Gr) (D : List Int) (i : Int) : List Int := if (s.there i 0 && !D.contains i) = true then D ++ [i] else D
def nearD (s : Gr) (L : List Int) : List Int := L.foldl (nearStep s) []
def nearG (s : Gr) (q L : List Int) : List H := sortH ((nearD s L).map (s.hit q))
theorem near_step_mem {s : Gr} {D : List Int} {i j : Int} : j ∈ nearStep s D i ↔ j ∈ D ∨ (j = i ∧ s.there i 0 = true) := by
 unfold nearStep
 split
 ·next h =>
  rw [Bool.and_eq_true] at h
  rw [List.mem_append,List.mem_singleton]
  constructor
  ·rintro (h1 | h1)
   ·exact .inl h1
   ·exact .inr ⟨h1,h.1⟩
  ·rintro (h1 | h1)
   ·exact .inl h1
   ·exact .inr h1.1
 ·next h =>
  constructor
  ·intro h1;exact .inl h1
  ·rintro (h1 | ⟨rfl,h2⟩)
   ·exact h1
   ·rw [h2] at h
    simp at h
    exact h
theorem near_step_nodup {s : Gr} {D : List Int} (h : D.Nodup) (i : Int) : (nearStep s D i).Nodup := by
 unfold nearStep
 split
 ·next hc =>
  rw [Bool.and_eq_true] at hc
  have hn : i ∉ D := by simpa using hc.2
  rw [List.nodup_append]
  refine ⟨h,by simp,fun a ha b hb e => ?_⟩
  rw [List.mem_singleton] at hb
  subst hb;subst e
  exact hn ha
 ·exact h
theorem nearD_nodup (s : Gr) (L : List Int) : (nearD s L).Nodup := by
 unfold nearD
 suffices h : ∀ (D : List Int),D.Nodup → (L.foldl (nearStep s) D).Nodup from h [] List.nodup_nil
 induction L with
 | nil => intro D hD;exact hD
 | cons a L ih => intro D hD;exact ih _ (near_step_nodup hD a)
theorem mem_nearD {s : Gr} {L : List Int} {i : Int} : i ∈ nearD s L ↔ i ∈ L ∧ s.there i 0 = true := by
 unfold nearD
 suffices h : ∀ (D : List Int),i ∈ L.foldl (nearStep s) D ↔ i ∈ D ∨ (i ∈ L ∧ s.there i 0 = true) by
  have := h []
  simpa using this
 induction L with
 | nil => intro D;simp
 | cons a L ih =>
  intro D
  rw [List.foldl_cons,ih,near_step_mem,List.mem_cons]
  constructor
  ·rintro ((h | ⟨rfl,h⟩) | ⟨h1,h2⟩)
   ·exact .inl h
   ·exact .inr ⟨.inl rfl,h⟩
   ·exact .inr ⟨.inr h1,h2⟩
  ·rintro (h | ⟨rfl | h1,h2⟩)
   ·exact .inl (.inl h)
   ·exact .inl (.inr ⟨rfl,h2⟩)
   ·exact .inr ⟨h1,h2⟩
theorem hits_nodup {s : Gr} {q D : List Int} (h : D.Nodup) : (D.map (s.hit q)).Nodup := by
 rw [List.Nodup,List.pairwise_map]
 exact h.imp (fun {a b} hab e => hab (congrArg S58.f1 e))
theorem near_nodup (s : Gr) (q L : List Int) : (nearG s q L).Nodup := (sortH_perm _).nodup_iff.2 (hits_nodup (nearD_nodup s L))
theorem near_sorted (s : Gr) (q L : List Int) : SortedH (nearG s q L) := sortH_sorted _
theorem mem_near {s : Gr} {q L : List Int} {h : H} : h ∈ nearG s q L ↔ ∃ i,i ∈ L ∧ s.there i 0 = true ∧ s.hit q i = h := by
 unfold nearG
 rw [(sortH_perm _).mem_iff,List.mem_map]
 constructor
 ·rintro ⟨i,h1,h2⟩
  exact ⟨i,(mem_nearD.1 h1).1,(mem_nearD.1 h1).2,h2⟩
 ·rintro ⟨i,h1,h2,h3⟩
  exact ⟨i,mem_nearD.2 ⟨h1,h2⟩,h3⟩
instance decH : DecidableEq H := fun a b => if h : a.f0 = b.f0 ∧ a.f1 = b.f1 then isTrue (hit_ext h.1 h.2) else isFalse (fun e => h ⟨congrArg S58.f0 e,congrArg S58.f1 e⟩)
def compactL : List H → List H
 | [] => []
 | [a] => [a]
 | a :: b :: l => if a = b then compactL (b :: l) else a :: compactL (b :: l)
theorem compactL_cc (a b : H) (l : List H) : compactL (a :: b :: l) = if a = b then compactL (b :: l) else a :: compactL (b :: l) := by rw [compactL]
theorem mem_compact : ∀ {l : List H} {x : H},x ∈ compactL l ↔ x ∈ l
 | [],x => Iff.rfl
 | [a],x => Iff.rfl
 | a :: b :: l,x => by
  rw [compactL_cc]
  split
  ·next h =>
   subst h
   rw [mem_compact (l := a :: l)]
   simp
  ·rw [List.mem_cons,mem_compact (l := b :: l),List.mem_cons (b := a)]
theorem compact_strict : ∀ {l : List H},SortedH l → (compactL l).Pairwise (fun a b => ltH a b = true)
 | [],_ => List.Pairwise.nil
 | [a],_ => List.pairwise_singleton _ _
 | a :: b :: l,h => by
  obtain ⟨h1,h2⟩ := List.pairwise_cons.1 h
  rw [compactL_cc]
  split
  ·exact compact_strict (l := b :: l) h2
  ·next hab =>
   refine List.pairwise_cons.2 ⟨fun x hx => ?_,compact_strict (l := b :: l) h2⟩
   have hx2 := mem_compact.1 hx
   have hlt : ltH a b = true := by
    rcases Bool.eq_false_or_eq_true (ltH a b) with e | e
    ·exact e
    ·exact absurd (leH_anti a b (h1 b List.mem_cons_self) (leH_yes.2 e)) hab
   rcases List.mem_cons.1 hx2 with rfl | hx3
   ·exact hlt
   ·have := (List.pairwise_cons.1 h2).1 x hx3
    rw [leH_iff] at this
    rw [ltH_iff] at hlt ⊢
    omega
theorem strict_sorted {l : List H} (h : l.Pairwise (fun a b => ltH a b = true)) : SortedH l := h.imp (fun {a b} hab => ltH_le hab)
theorem strict_nodup {l : List H} (h : l.Pairwise (fun a b => ltH a b = true)) : l.Nodup := h.imp (fun {a b} hab e => by subst e;rw [ltH_iff] at hab;omega)
theorem near_compact (s : Gr) (q L : List Int) : compactL (sortH ((L.filter (fun i => s.there i 0)).map (s.hit q))) = nearG s q L := by
 have hs := compact_strict (sortH_sorted ((L.filter (fun i => s.there i 0)).map (s.hit q)))
 refine sorted_eq (strict_sorted hs) (near_sorted s q L) ((List.perm_ext_iff_of_nodup (strict_nodup hs) (near_nodup s q L)).2 (fun h => ?_))
 rw [mem_compact,(sortH_perm _).mem_iff,List.mem_map,mem_near]
 constructor
 ·rintro ⟨i,h1,h2⟩
  rw [List.mem_filter] at h1
  exact ⟨i,h1.1,h1.2,h2⟩
 ·rintro ⟨i,h1,h2,h3⟩
  exact ⟨i,List.mem_filter.2 ⟨h1,h2⟩,h3⟩
/-! ### Choose -/
def blocked (s : Gr) (taken : List Int) (h : H) : Bool := taken.any (fun t => decide (s.far (s.vec t) h.f1 < h.f0))
def chooseStep (s : Gr) (most : Int) (st : List Int × List Int) (h : H) : List Int × List Int := if (blocked s st.1 h || decide (most ≤ (st.1.length : Int))) = true then (st.1,st.2 ++ [h.f1]) else (st.1 ++ [h.f1],st.2)
def choose2 (s : Gr) (most : Int) (near : List H) : List Int × List Int := near.foldl (chooseStep s most) ([],[])
def chooseG (s : Gr) (q L : List Int) (most : Int) : List Int := ((choose2 s most (nearG s q L)).1 ++ (choose2 s most (nearG s q L)).2).take most.toNat
theorem choose2_snoc (s : Gr) (most : Int) (near : List H) (h : H) : choose2 s most (near ++ [h]) = chooseStep s most (choose2 s most near) h := by unfold choose2;rw [List.foldl_append];rfl
theorem choose2_len (s : Gr) (most : Int) (near : List H) : (choose2 s most near).1.length + (choose2 s most near).2.length = near.length ∧ ((choose2 s most near).1.length : Int) ≤ max 0 most := by
 unfold choose2
 suffices h : ∀ (st : List Int × List Int),((st.1.length : Int) ≤ max 0 most) → (near.foldl (chooseStep s most) st).1.length + (near.foldl (chooseStep s most) st).2.length = st.1.length + st.2.length + near.length ∧ ((near.foldl (chooseStep s most) st).1.length : Int) ≤ max 0 most by
  have := h ([],[]) (by simp;omega)
  simpa using this
 induction near with
 | nil => intro st h;exact ⟨rfl,h⟩
 | cons a near ih =>
  intro st h
  rw [List.foldl_cons]
  have h2 : (((chooseStep s most st a).1.length : Nat) : Int) ≤ max 0 most ∧ (chooseStep s most st a).1.length + (chooseStep s most st a).2.length = st.1.length + st.2.length + 1 := by
   unfold chooseStep
   split
   ·refine ⟨h, ?_⟩
    simp only [List.length_append,List.length_singleton]
    omega
   ·next hc =>
    simp only [Bool.or_eq_true,decide_eq_true_eq,not_or] at hc
    simp only [List.length_append,List.length_singleton]
    omega
  obtain ⟨e1,e2⟩ := ih _ h2.1
  refine ⟨?_,e2⟩
  rw [e1,h2.2,List.length_cons]
  omega
theorem choose_passed (s : Gr) (most : Int) {near : List H} (hn : (near.map S58.f1).Nodup) : (choose2 s most near).2 = (near.map S58.f1).filter (fun i => !(choose2 s most near).1.contains i) ∧ ∀ i,i ∈ (choose2 s most near).1 → i ∈ near.map S58.f1 := by
 suffices h : ∀ (near pre : List H),((pre ++ near).map S58.f1).Nodup → (∀ i,i ∈ (choose2 s most pre).1 → i ∈ pre.map S58.f1) → (choose2 s most pre).2 = (pre.map S58.f1).filter (fun i => !(choose2 s most pre).1.contains i) →
   (choose2 s most (pre ++ near)).2 = ((pre ++ near).map S58.f1).filter (fun i => !(choose2 s most (pre ++ near)).1.contains i) ∧ ∀ i,i ∈ (choose2 s most (pre ++ near)).1 → i ∈ (pre ++ near).map S58.f1 by
  have := h near [] (by simpa using hn) (fun i hi => by simp [choose2] at hi) (by simp [choose2])
  simpa using this
 intro near
 induction near with
 | nil => intro pre _ h1 h2;rw [List.append_nil];exact ⟨h2,h1⟩
 | cons a near ih =>
  intro pre hd h1 h2
  have e : pre ++ a :: near = (pre ++ [a]) ++ near := by simp
  rw [e] at hd ⊢
  have hnot : a.f1 ∉ pre.map S58.f1 := by
   intro hm
   rw [List.append_assoc,List.map_append,List.nodup_append] at hd
   exact hd.2.2 _ hm a.f1 (by simp) rfl
  have hnt : a.f1 ∉ (choose2 s most pre).1 := fun hm => hnot (h1 _ hm)
  refine ih (pre ++ [a]) hd ?_ ?_
  ·intro i hi
   rw [choose2_snoc] at hi
   unfold chooseStep at hi
   rw [List.map_append,List.mem_append]
   split at hi
   ·exact .inl (h1 i hi)
   ·rcases List.mem_append.1 hi with hi | hi
    ·exact .inl (h1 i hi)
    ·rw [List.mem_singleton] at hi;subst hi;exact .inr (by simp)
  ·rw [choose2_snoc]
   unfold chooseStep
   split
   ·show (choose2 s most pre).2 ++ [a.f1] = _
    rw [List.map_append,List.filter_append,← h2]
    congr 1
    simp [hnt]
   ·show (choose2 s most pre).2 = _
    rw [List.map_append,List.filter_append,h2]
    have e1 : (pre.map S58.f1).filter (fun i => !((choose2 s most pre).1 ++ [a.f1]).contains i) = (pre.map S58.f1).filter (fun i => !(choose2 s most pre).1.contains i) := by
     refine List.filter_congr (fun i hi => ?_)
     have hne : i ≠ a.f1 := fun e => hnot (e ▸ hi)
     simp [hne]
    rw [e1]
    simp
theorem near_ids {s : Gr} {q L : List Int} : ((nearG s q L).map S58.f1).Nodup := by
 rw [List.Nodup,List.pairwise_map]
 refine (near_nodup s q L).imp_of_mem (fun {a b} ha hb hab e => hab ?_)
 obtain ⟨i,_,_,rfl⟩ := mem_near.1 ha
 obtain ⟨j,_,_,rfl⟩ := mem_near.1 hb
 have e2 : i = j := e
 rw [e2]
theorem choose_near {s : Gr} {q L : List Int} {most : Int} {i : Int} (h : i ∈ chooseG s q L most) : i ∈ L ∧ s.there i 0 = true := by
 have hm := List.mem_of_mem_take h
 obtain ⟨h1,h2⟩ := choose_passed s most (near := nearG s q L) near_ids
 have h3 : i ∈ (nearG s q L).map S58.f1 := by
  rcases List.mem_append.1 hm with hm | hm
  ·exact h2 i hm
  ·rw [h1] at hm;exact (List.mem_filter.1 hm).1
 obtain ⟨x,hx,rfl⟩ := List.mem_map.1 h3
 obtain ⟨j,e1,e2,rfl⟩ := mem_near.1 hx
 exact ⟨e1,e2⟩
theorem choose_nodup {s : Gr} {q L : List Int} {most : Int} : (chooseG s q L most).Nodup := by
 obtain ⟨h1,h2⟩ := choose_passed s most (near := nearG s q L) near_ids
 have hT : ((choose2 s most (nearG s q L)).1).Nodup := by
  suffices h : ∀ (near pre : List H),((pre ++ near).map S58.f1).Nodup → (∀ i,i ∈ (choose2 s most pre).1 → i ∈ pre.map S58.f1) → (choose2 s most pre).1.Nodup → (choose2 s most (pre ++ near)).1.Nodup by
   have := h (nearG s q L) [] (by simpa using near_ids) (fun i hi => by simp [choose2] at hi) (by simp [choose2])
   simpa using this
  intro near
  induction near with
  | nil => intro pre _ _ h;rw [List.append_nil];exact h
  | cons a near ih =>
   intro pre hd h1 h2
   have e : pre ++ a :: near = (pre ++ [a]) ++ near := by simp
   rw [e] at hd ⊢
   have hnot : a.f1 ∉ pre.map S58.f1 := by
    intro hm
    rw [List.append_assoc,List.map_append,List.nodup_append] at hd
    exact hd.2.2 _ hm a.f1 (by simp) rfl
   refine ih (pre ++ [a]) hd ?_ ?_
   ·intro i hi
    rw [choose2_snoc] at hi
    unfold chooseStep at hi
    rw [List.map_append,List.mem_append]
    split at hi
    ·exact .inl (h1 i hi)
    ·rcases List.mem_append.1 hi with hi | hi
     ·exact .inl (h1 i hi)
     ·rw [List.mem_singleton] at hi;subst hi;exact .inr (by simp)
   ·rw [choose2_snoc]
    unfold chooseStep
    split
    ·exact h2
    ·show ((choose2 s most pre).1 ++ [a.f1]).Nodup
     rw [List.nodup_append]
     refine ⟨h2,by simp,fun x hx y hy e => ?_⟩
     rw [List.mem_singleton] at hy
     subst hy;subst e
     exact hnot (h1 _ hx)
 have hall : ((choose2 s most (nearG s q L)).1 ++ (choose2 s most (nearG s q L)).2).Nodup := by
  rw [List.nodup_append]
  refine ⟨hT, ?_,fun a ha b hb e => ?_⟩
  ·rw [h1];exact near_ids.filter _
  ·subst e
   rw [h1,List.mem_filter] at hb
   simp at hb
   exact hb.2 ha
 exact hall.sublist (List.take_sublist _ _)
theorem choose_len {s : Gr} {q L : List Int} {most : Int} : ((chooseG s q L most).length : Int) ≤ max 0 most := by
 unfold chooseG
 rw [List.length_take]
 omega
end Go.Proofs.Ytofmlajanopniaa.Li
namespace Go.Proofs.Ytofmlajanopniaa.Li
open Go.RowKit Go.Proofs.YtofmlajanopniaaW.PrintWords Go.Proofs.Ytofmlajanopniaa.Q Go.Proofs.Ytofmlajanopniaa.Tk
/-! ### Ops -/
def clampL (lv : Int) : Nat := (max 0 (min lv 4)).toNat
def Gr.add (s : Gr) (id : Int) (vec : List Int) (tags : List ByteArray) (lv v : Int) : Gr := ⟨s.m,s.l ++ [⟨id,vec,tags,v,0,List.replicate (clampL lv + 1) []⟩]⟩
def setUn (n : Nd) (v : Int) : Nd := { n with un := v }
def Gr.until_ (s : Gr) (i : Nat) (v : Int) : Gr := ⟨s.m,match s.l[i]? with | some n => s.l.set i (setUn n v) | none => s.l⟩
def setLk (n : Nd) (lv : Nat) (ls : List Int) : Nd := { n with links := n.links.set lv ls }
def Gr.setL (s : Gr) (i lv : Nat) (ls : List Int) : Gr := ⟨s.m,match s.l[i]? with | some n => s.l.set i (setLk n lv ls) | none => s.l⟩
def linked (s : Gr) (a b lv most : Int) : List Int :=
 let l2 := if (s.at_ a lv).contains b then s.at_ a lv else s.at_ a lv ++ [b]
 if most < (l2.length : Int) then chooseG s (s.vec a) l2 most else l2
def Gr.link (s : Gr) (a b lv most : Int) : Bool × Gr := if (!s.there a lv || !s.there b lv || a == b) = true then (false,s) else (true,s.setL a.toNat lv.toNat (linked s a b lv most))
structure Good (s : Gr) : Prop where
 lv1 : ∀ (i : Nat) (n : Nd),s.l[i]? = some n → 1 ≤ n.links.length ∧ n.links.length ≤ 5
 to_ : ∀ (i : Nat) (n : Nd) (j : Nat) (ls : List Int),s.l[i]? = some n → n.links[j]? = some ls → (∀ t ∈ ls,s.there t (j : Int) = true ∧ t ≠ (i : Int)) ∧ ls.Nodup
theorem Good.nil (m : Int) : Good ⟨m,[]⟩ := ⟨fun i n h => by simp at h,fun i n j ls h => by simp at h⟩
theorem there_zero {s : Gr} (h : Good s) {i : Nat} (hi : i < s.l.length) : s.there (i : Int) 0 = true := by
 obtain ⟨n,hn⟩ : ∃ n,s.l[i]? = some n := ⟨_,List.getElem?_eq_getElem hi⟩
 exact there_iff.2 ⟨i,0,n,rfl,rfl,hn,by have := (h.lv1 i n hn).1;omega⟩
theorem there_zero_iff {s : Gr} (h : Good s) {i : Int} : s.there i 0 = true ↔ 0 ≤ i ∧ i < (s.l.length : Int) := by
 constructor
 ·intro h1;exact ⟨(there_range h1).1,(there_range h1).2.1⟩
 ·rintro ⟨h1,h2⟩
  have := there_zero h (i := i.toNat) (by omega)
  rwa [show ((i.toNat : Nat) : Int) = i by omega] at this
theorem at_nat {s : Gr} {i j : Nat} {n : Nd} {ls : List Int} (h : s.l[i]? = some n) (hj : n.links[j]? = some ls) : s.at_ (i : Int) (j : Int) = ls := by
 unfold Gr.at_
 rw [lk_nat h,show ((j : Int)).toNat = j by omega,hj]
 rfl
theorem there_same {s t : Gr} (h : ∀ k : Nat,(t.l[k]?).map (fun n => n.links.length) = (s.l[k]?).map (fun n => n.links.length)) (i lv : Int) : t.there i lv = s.there i lv := by
 have e : ((t.lk i).length : Int) = ((s.lk i).length : Int) := by
  unfold Gr.lk
  split
  ·have := h i.toNat
   cases e1 : t.l[i.toNat]? with
   | none => cases e2 : s.l[i.toNat]? with
    | none => rfl
    | some n => rw [e1,e2] at this;simp at this
   | some m => cases e2 : s.l[i.toNat]? with
    | none => rw [e1,e2] at this;simp at this
    | some n => rw [e1,e2] at this;simp at this;simp [this]
  ·rfl
 unfold Gr.there
 rw [e]
theorem setL_len {s : Gr} {i lv : Nat} {ls : List Int} (k : Nat) : ((s.setL i lv ls).l[k]?).map (fun n => n.links.length) = (s.l[k]?).map (fun n => n.links.length) := by
 unfold Gr.setL
 cases hn : s.l[i]? with
 | none => rfl
 | some n =>
  show ((s.l.set i (setLk n lv ls))[k]?).map _ = _
  rw [List.getElem?_set]
  by_cases e : i = k
  ·subst e
   rw [if_pos rfl,if_pos (List.getElem?_eq_some_iff.1 hn).1,hn]
   simp [setLk]
  ·rw [if_neg e]
theorem until_len {s : Gr} {i : Nat} {v : Int} (k : Nat) : ((s.until_ i v).l[k]?).map (fun n => n.links) = (s.l[k]?).map (fun n => n.links) := by
 unfold Gr.until_
 cases hn : s.l[i]? with
 | none => rfl
 | some n =>
  show ((s.l.set i (setUn n v))[k]?).map _ = _
  rw [List.getElem?_set]
  by_cases e : i = k
  ·subst e
   rw [if_pos rfl,if_pos (List.getElem?_eq_some_iff.1 hn).1,hn]
   rfl
  ·rw [if_neg e]
theorem Good.add {s : Gr} (h : Good s) (id : Int) (vec : List Int) (tags : List ByteArray) (lv v : Int) : Good (s.add id vec tags lv v) := by
 have hup : ∀ {i lv2 : Int},s.there i lv2 = true → (s.add id vec tags lv v).there i lv2 = true := fun {i lv2} hi => by
  obtain ⟨k,j,n,rfl,rfl,hn,hj⟩ := there_iff.1 hi
  exact there_iff.2 ⟨k,j,n,rfl,rfl,by show (s.l ++ _)[k]? = _;rw [List.getElem?_append_left (List.getElem?_eq_some_iff.1 hn).1];exact hn,hj⟩
 have hcase : ∀ {i : Nat} {n : Nd},(s.add id vec tags lv v).l[i]? = some n → s.l[i]? = some n ∨ n.links = List.replicate (clampL lv + 1) [] := fun {i n} hn => by
  have hn : (s.l ++ [_])[i]? = some n := hn
  by_cases hi : i < s.l.length
  ·rw [List.getElem?_append_left hi] at hn;exact .inl hn
  ·rw [List.getElem?_append_right (by omega)] at hn
   have := (List.getElem?_eq_some_iff.1 hn).1
   have e : i - s.l.length = 0 := by simp at this;omega
   rw [e] at hn
   cases hn
   exact .inr rfl
 refine ⟨fun i n hn => ?_,fun i n j ls hn hj => ?_⟩
 ·rcases hcase hn with h1 | h1
  ·exact h.lv1 i n h1
  ·rw [h1,List.length_replicate];unfold clampL;omega
 ·rcases hcase hn with h1 | h1
  ·obtain ⟨e1,e2⟩ := h.to_ i n j ls h1 hj
   exact ⟨fun t ht => ⟨hup (e1 t ht).1,(e1 t ht).2⟩,e2⟩
  ·rw [h1] at hj
   have := List.eq_of_mem_replicate (List.mem_of_getElem? hj)
   subst this
   exact ⟨fun t ht => by simp at ht,List.nodup_nil⟩
theorem Good.until_ {s : Gr} (h : Good s) (i : Nat) (v : Int) : Good (s.until_ i v) := by
 have hl := fun k => until_len (s := s) (i := i) (v := v) k
 have hth := there_same (s := s) (t := s.until_ i v) (fun k => by have := congrArg (Option.map List.length) (hl k);simpa [Option.map_map,Function.comp_def] using this)
 have hget : ∀ {k : Nat} {n : Nd},(s.until_ i v).l[k]? = some n → ∃ n',s.l[k]? = some n' ∧ n'.links = n.links := fun {k n} hn => by
  have := hl k
  rw [hn] at this
  cases e : s.l[k]? with
  | none => rw [e] at this;simp at this
  | some n' => rw [e] at this;simp at this;exact ⟨n',rfl,this.symm⟩
 refine ⟨fun k n hn => ?_,fun k n j ls hn hj => ?_⟩
 ·obtain ⟨n',h1,h2⟩ := hget hn
  rw [← h2];exact h.lv1 k n' h1
 ·obtain ⟨n',h1,h2⟩ := hget hn
  rw [← h2] at hj
  obtain ⟨e1,e2⟩ := h.to_ k n' j ls h1 hj
  exact ⟨fun t ht => by rw [hth];exact e1 t ht,e2⟩
theorem linked_good {s : Gr} (h : Good s) {a b lv most : Int} (ha : s.there a lv = true) (hb : s.there b lv = true) (hne : a ≠ b) : (∀ t ∈ linked s a b lv most,s.there t lv = true ∧ t ≠ a) ∧ (linked s a b lv most).Nodup ∧ (∀ t ∈ linked s a b lv most,t = b ∨ t ∈ s.at_ a lv) := by
 obtain ⟨k,j,n,rfl,rfl,hn,hj⟩ := there_iff.1 ha
 obtain ⟨ls,hls⟩ : ∃ ls,n.links[j]? = some ls := ⟨_,List.getElem?_eq_getElem hj⟩
 obtain ⟨e1,e2⟩ := h.to_ k n j ls hn hls
 have hat := at_nat hn hls
 unfold linked
 rw [hat]
 generalize hl2 : (if ls.contains b = true then ls else ls ++ [b]) = l2
 have g1 : ∀ t ∈ l2,s.there t (j : Int) = true ∧ t ≠ (k : Int) := by
  intro t ht
  rw [← hl2] at ht
  split at ht
  ·exact e1 t ht
  ·rcases List.mem_append.1 ht with ht | ht
   ·exact e1 t ht
   ·rw [List.mem_singleton] at ht;subst ht;exact ⟨hb,fun e => hne e.symm⟩
 have g2 : l2.Nodup := by
  rw [← hl2]
  split
  ·exact e2
  ·next hc =>
   rw [List.nodup_append]
   refine ⟨e2,by simp,fun x hx y hy e => ?_⟩
   rw [List.mem_singleton] at hy
   subst hy;subst e
   exact hc (List.contains_iff_mem.2 hx)
 have g3 : ∀ t ∈ l2,t = b ∨ t ∈ ls := by
  intro t ht
  rw [← hl2] at ht
  split at ht
  ·exact .inr ht
  ·rcases List.mem_append.1 ht with ht | ht
   ·exact .inr ht
   ·rw [List.mem_singleton] at ht;exact .inl ht
 dsimp only
 split
 ·exact ⟨fun t ht => g1 t (choose_near ht).1,choose_nodup,fun t ht => g3 t (choose_near ht).1⟩
 ·exact ⟨g1,g2,g3⟩
theorem Good.link {s : Gr} (h : Good s) (a b lv most : Int) : Good (s.link a b lv most).2 := by
 unfold Gr.link
 split
 ·exact h
 ·next hc =>
  simp only [Bool.or_eq_true,Bool.not_eq_true',beq_iff_eq,not_or,Bool.not_eq_false] at hc
  obtain ⟨⟨ha,hb⟩,hne⟩ := hc
  obtain ⟨g1,g2,_⟩ := linked_good h (most := most) ha hb hne
  obtain ⟨k,j,n,rfl,rfl,hn,hj⟩ := there_iff.1 ha
  rw [show ((k : Int)).toNat = k by omega,show ((j : Int)).toNat = j by omega]
  generalize hLS : linked s (k : Int) b (j : Int) most = LS at g1 g2 ⊢
  have hth := there_same (s := s) (t := s.setL k j LS) (fun i => setL_len i)
  have hget : ∀ {i : Nat} {m : Nd},(s.setL k j LS).l[i]? = some m → (i = k ∧ m = setLk n j LS) ∨ s.l[i]? = some m := fun {i m} hm => by
   unfold Gr.setL at hm
   rw [hn] at hm
   have hm : (s.l.set k (setLk n j LS))[i]? = some m := hm
   rw [List.getElem?_set] at hm
   by_cases e : k = i
   ·subst e
    rw [if_pos rfl,if_pos (List.getElem?_eq_some_iff.1 hn).1] at hm
    injection hm with hm
    exact .inl ⟨rfl,hm.symm⟩
   ·rw [if_neg e] at hm;exact .inr hm
  refine ⟨fun i m hm => ?_,fun i m jj ls hm hjj => ?_⟩
  ·rcases hget hm with ⟨rfl,rfl⟩ | h1
   ·show 1 ≤ (n.links.set j LS).length ∧ (n.links.set j LS).length ≤ 5
    rw [List.length_set];exact h.lv1 _ n hn
   ·exact h.lv1 i m h1
  ·rcases hget hm with ⟨rfl,rfl⟩ | h1
   ·have hjj : (n.links.set j LS)[jj]? = some ls := hjj
    rw [List.getElem?_set] at hjj
    by_cases e : j = jj
    ·subst e
     rw [if_pos rfl,if_pos hj] at hjj
     injection hjj with hjj
     subst hjj
     exact ⟨fun t ht => by rw [hth];exact g1 t ht,g2⟩
    ·rw [if_neg e] at hjj
     obtain ⟨e1,e2⟩ := h.to_ i n jj ls hn hjj
     exact ⟨fun t ht => by rw [hth];exact e1 t ht,e2⟩
   ·obtain ⟨e1,e2⟩ := h.to_ i m jj ls h1 hjj
    exact ⟨fun t ht => by rw [hth];exact e1 t ht,e2⟩
/-! ### Walks -/
structure Wk where
 met : List Int
 waits : List H
 best : List H
def lateH (W : Nat) (best : List H) (h : H) : Bool := decide (best.length = W) && ltH (worstH best) h
def goodH (W : Nat) (best : List H) (h : H) : Bool := !decide (best.length = W) || ltH h (worstH best)
def startN (s : Gr) (q : List Int) (lv : Int) (W : Nat) (k : Wk) (i : Int) : Wk := if (s.there i lv && !k.met.contains i) = true then ⟨k.met ++ [i],intoL k.waits (s.hit q i),putK W k.best (s.hit q i)⟩ else k
def stepN (s : Gr) (q : List Int) (lv : Int) (W : Nat) (k : Wk) (i : Int) : Wk :=
 if (k.met.contains i || !s.there i lv) = true then k
 else if goodH W k.best (s.hit q i) = true then ⟨k.met ++ [i],intoL k.waits (s.hit q i),putK W k.best (s.hit q i)⟩
 else ⟨k.met ++ [i],k.waits,k.best⟩
def nextG (s : Gr) (at_ lv : Int) : List Int := s.at_ at_ lv ++ (if lv = 0 then [at_ - 1,at_ + 1] else [])
def walkL (s : Gr) (q : List Int) (lv : Int) (W : Nat) : Nat → Wk → List H
 | 0,k => k.best
 | f + 1,k => match k.waits with
  | [] => k.best
  | c :: rest => if lateH W k.best c = true then k.best else walkL s q lv W f ((nextG s c.f1 lv).foldl (stepN s q lv W) ⟨k.met,rest,k.best⟩)
def widthW (width : Int) : Nat := (max 1 (min width 256)).toNat
def walk0 (s : Gr) (q from_ : List Int) (lv : Int) (W : Nat) : Wk := from_.foldl (startN s q lv W) ⟨[],[],[]⟩
def walkG (s : Gr) (q from_ : List Int) (width lv : Int) : List H := walkL s q lv (widthW width) (s.l.length + 1) (walk0 s q from_ lv (widthW width))
def gaugeW (s : Gr) (k : Wk) : Int := (k.waits.length : Int) + (s.l.length : Int) - (k.met.length : Int)
/-! ### The least of those that wait -/
def selTo (V : List H) : Nat → Nat
 | 0 => 0
 | j + 1 => if ltH (rdH V j) (rdH V (selTo V j)) = true then j else selTo V j
theorem sel_lt {V : List H} (h : V ≠ []) : ∀ j,j ≤ V.length → selTo V j < V.length
 | 0,_ => List.length_pos_iff.2 h
 | j + 1,hj => by
  unfold selTo
  split
  ·omega
  ·exact sel_lt h j (by omega)
theorem ltH_trans {a b c : H} (h1 : ltH a b = true) (h2 : ltH b c = true) : ltH a c = true := by rw [ltH_iff] at *;omega
theorem sel_min {V : List H} : ∀ j, ∀ i,i < j → ltH (rdH V i) (rdH V (selTo V j)) = false
 | 0,i,hi => by omega
 | j + 1,i,hi => by
  unfold selTo
  split
  ·next h =>
   by_cases e : i = j
   ·subst e
    rw [← Bool.not_eq_true,ltH_iff]
    omega
   ·have := sel_min (V := V) j i (by omega)
    rw [← Bool.not_eq_true] at this ⊢
    exact fun h2 => this (ltH_trans h2 h)
  ·next h =>
   by_cases e : i = j
   ·subst e;simpa using h
   ·exact sel_min j i (by omega)
theorem sort_sel {V : List H} (h : V ≠ []) : sortH V = rdH V (selTo V V.length) :: sortH (V.eraseIdx (selTo V V.length)) := by
 have hk := sel_lt h V.length (Nat.le_refl _)
 generalize hs : selTo V V.length = k at hk ⊢
 have hc : rdH V k = V[k] := rdH_get hk
 refine sorted_eq (sortH_sorted V) (List.pairwise_cons.2 ⟨fun x hx => ?_,sortH_sorted _⟩) ?_
 ·have hx2 : x ∈ V := (List.eraseIdx_sublist V k).subset ((sortH_perm _).mem_iff.1 hx)
  obtain ⟨i,hi,rfl⟩ := List.getElem_of_mem hx2
  have := sel_min (V := V) V.length i hi
  rw [hs,rdH_get hi] at this
  exact leH_yes.2 this
 ·rw [hc]
  refine (sortH_perm V).trans (List.Perm.trans ?_ ((sortH_perm _).symm.cons _))
  rw [List.eraseIdx_eq_take_drop_succ]
  have e : V = V.take k ++ V[k] :: V.drop (k + 1) := by rw [List.getElem_cons_drop,List.take_append_drop]
  exact (List.Perm.of_eq e).trans List.perm_middle
end Go.Proofs.Ytofmlajanopniaa.Li
namespace Go.Proofs.Ytofmlajanopniaa.Li
open Go.RowKit Go.Proofs.YtofmlajanopniaaW.PrintWords Go.Proofs.YtofmlajanopniaaW.PrintLast Go.Proofs.YtofmlajanopniaaW.PrintMore Go.Proofs.Ytofmlajanopniaa.Q Go.Proofs.Ytofmlajanopniaa.Tk
theorem blk_type {w : World} {k t t2 : Nat} {c c2 : Array Value} {f f2 : Nat × Nat} (h : w.heap[k]? = some (.cells c t f)) (h2 : w.heap[k]? = some (.cells c2 t2 f2)) : t = t2 := by
 rw [h] at h2;injection h2 with h2;injection h2
theorem own_set_at {w : World} {base : Nat} {e : TypeId} {size n : Nat} {v : Value} {inner : List Value} (h : w.ownsRow base e size v n inner) {r : Nat} (hr : v.ownBlock = some r) (j : Nat) (u : Value) : (w.setCell ⟨r,j,none⟩ u).ownsRow base e size v n (inner.set j u) := by
 obtain ⟨h1,h2⟩ := h
 refine ⟨by rw [List.length_set];exact h1, ?_⟩
 rcases h2 with ⟨rfl,h0⟩ | ⟨g,cap,cur,rfl,hb,hh,hc1,hc2,hc3,hc4⟩
 ·cases hr
 ·injection hr with hr
  have hr : g = r := hr
  subst hr
  refine .inr ⟨g,cap,_,rfl,hb,blk_set hh j u,hc1,hc2,by rw [Array.size_setIfInBounds];exact hc3, ?_⟩
  rw [Array.toList_setIfInBounds,List.take_set,hc4]
/-! ### Frames -/
def Keeps (F : Nat → Prop) (w w' : World) : Prop := ∀ k c t,F k → w.heap[k]? = some (.cells c t (0,0)) → t ≠ 37 → t ≠ 84 → w'.heap[k]? = w.heap[k]?
theorem Keeps.below {F : Nat → Prop} {w w' : World} (h : Below w.heap.size w w') : Keeps F w w' := fun k c t _ hk _ _ => h.block k (blk_lt hk)
theorem R_keeps {α : Type} {d : Kd α} {e : Nat} {w w' : World} {base : Nat} {F ok : Nat → Prop} {v : Value} {xs : List α} (h : d.R e w base ok v xs) (hF : ∀ k,ok k → F k) (hK : Keeps F w w') (ht : ∀ q,q ∈ e :: d.E → q ≠ 37 ∧ q ≠ 84) : d.R e w' base ok v xs := by
 refine Kd.R_mono (Kd.R_step (w1 := w') (Kd.R_bound h) (fun k hk _ => ?_)) (fun k hk => hk.1)
 obtain ⟨hk0,_,_,q,hq,cells,hc⟩ := hk
 exact hK k cells q (hF k hk0) hc (ht q hq).1 (ht q hq).2
theorem ty_int : ∀ q,q ∈ 3 :: (Kd.int .i64).E → q ≠ 37 ∧ q ≠ 84 := by
 intro q hq
 have hq : q ∈ [3] := hq
 have e : q = 3 := by simpa using hq
 subst e
 exact ⟨by decide,by decide⟩
theorem ty_vec : ∀ q,q ∈ 21 :: (Kd.int .i32).E → q ≠ 37 ∧ q ≠ 84 := by
 intro q hq
 have hq : q ∈ [21] := hq
 have e : q = 21 := by simpa using hq
 subst e
 exact ⟨by decide,by decide⟩
theorem ty_str : ∀ q,q ∈ 9 :: Kd.string.E → q ≠ 37 ∧ q ≠ 84 := by
 intro q hq
 have hq : q ∈ [9] := hq
 have e : q = 9 := by simpa using hq
 subst e
 exact ⟨by decide,by decide⟩
/-! ### Nodes -/
section
variable {w w' : World} {base : Nat} {F F' : Nat → Prop} {T T' : Nat → Nat → Prop} {φ φ' : Nat → Nat × Nat} {ψ ψ' : Nat → Nat}
abbrev IntL (w : World) (base : Nat) (F : Nat → Prop) (φ : Nat → Nat × Nat) (i j : Nat) (u : Value) (l : List Int) : Prop := (Kd.int .i64).R 3 w base (fun k => F k ∧ φ k = (i,j)) u l
def LkR (w : World) (base : Nat) (F : Nat → Prop) (T : Nat → Nat → Prop) (φ : Nat → Nat × Nat) (ψ : Nat → Nat) (i : Nat) (r : Nat) (cap : Nat) (ls : List (List Int)) : Prop :=
 base ≤ r ∧ F r ∧ ψ r = i ∧ ls.length ≤ cap ∧ ∃ cells : Array Value,w.heap[r]? = some (.cells cells 40 (0,0)) ∧ ∀ j l,ls[j]? = some l → ∃ u,cells[j]? = some u ∧ (T i j → IntL w base F φ i j u l)
structure NdR (w : World) (base : Nat) (F : Nat → Prop) (T : Nat → Nat → Prop) (φ : Nat → Nat × Nat) (ψ : Nat → Nat) (i : Nat) (n : Nd) (A1 : Option Addr) (c1 : Nat) (A2 : Option Addr) (c2 : Nat) (r cap : Nat) : Prop where
 vec : (Kd.int .i32).R 21 w base F (.slice A1 n.vec.length c1) n.vec
 tags : Kd.string.R 9 w base F (.slice A2 n.tags.length c2) n.tags
 lk : LkR w base F T φ ψ i r cap n.links
def NdC (n : Nd) (A1 : Option Addr) (c1 : Nat) (A2 : Option Addr) (c2 : Nat) (r cap : Nat) : List Value := [.int .u32 n.id,.slice A1 n.vec.length c1,.slice A2 n.tags.length c2,.int .u64 n.fr,.int .u64 n.un,.slice (some ⟨r,0,none⟩) n.links.length cap]
def NdAt (w : World) (base : Nat) (F : Nat → Prop) (T : Nat → Nat → Prop) (φ : Nat → Nat × Nat) (ψ : Nat → Nat) (i : Nat) (n : Nd) (cs : List Value) : Prop := ∃ A1 c1 A2 c2 r cap,cs = NdC n A1 c1 A2 c2 r cap ∧ NdR w base F T φ ψ i n A1 c1 A2 c2 r cap
theorem LkR.keeps {i r cap : Nat} {ls : List (List Int)} (h : LkR w base F T φ ψ i r cap ls) (hK : Keeps F w w') : LkR w' base F T φ ψ i r cap ls := by
 obtain ⟨h1,h2,h3,h4,cells,h5,h6⟩ := h
 refine ⟨h1,h2,h3,h4,cells,(hK r _ _ h2 h5 (by decide) (by decide)).trans h5,fun j l hj => ?_⟩
 obtain ⟨u,e1,e2⟩ := h6 j l hj
 exact ⟨u,e1,fun ht => R_keeps (e2 ht) (fun k hk => hk.1) hK ty_int⟩
theorem NdR.keeps {i : Nat} {n : Nd} {A1 : Option Addr} {c1 : Nat} {A2 : Option Addr} {c2 r cap : Nat} (h : NdR w base F T φ ψ i n A1 c1 A2 c2 r cap) (hK : Keeps F w w') : NdR w' base F T φ ψ i n A1 c1 A2 c2 r cap :=
 ⟨R_keeps h.vec (fun _ hk => hk) hK ty_vec,R_keeps h.tags (fun _ hk => hk) hK ty_str,h.lk.keeps hK⟩
theorem LkR.mono {i r cap : Nat} {ls : List (List Int)} (h : LkR w base F T φ ψ i r cap ls) (hF : ∀ k,F k → F' k) (hφ : ∀ k,F k → φ' k = φ k) (hψ : ∀ k,F k → ψ' k = ψ k) (hT : ∀ j,T' i j → T i j) : LkR w base F' T' φ' ψ' i r cap ls := by
 obtain ⟨h1,h2,h3,h4,cells,h5,h6⟩ := h
 refine ⟨h1,hF r h2,(hψ r h2).trans h3,h4,cells,h5,fun j l hj => ?_⟩
 obtain ⟨u,e1,e2⟩ := h6 j l hj
 exact ⟨u,e1,fun ht => Kd.R_mono (e2 (hT j ht)) (fun k hk => ⟨hF k hk.1,(hφ k hk.1).trans hk.2⟩)⟩
theorem NdR.mono {i : Nat} {n : Nd} {A1 : Option Addr} {c1 : Nat} {A2 : Option Addr} {c2 r cap : Nat} (h : NdR w base F T φ ψ i n A1 c1 A2 c2 r cap) (hF : ∀ k,F k → F' k) (hφ : ∀ k,F k → φ' k = φ k) (hψ : ∀ k,F k → ψ' k = ψ k) (hT : ∀ j,T' i j → T i j) : NdR w base F' T' φ' ψ' i n A1 c1 A2 c2 r cap :=
 ⟨Kd.R_mono h.vec hF,Kd.R_mono h.tags hF,h.lk.mono hF hφ hψ hT⟩
theorem NdC_one (n : Nd) (A1 : Option Addr) (c1 : Nat) (A2 : Option Addr) (c2 r cap : Nat) : (NdC n A1 c1 A2 c2 r cap).length = 6 ∧ ∀ u ∈ NdC n A1 c1 A2 c2 r cap,u.oneCell' = true := by
 refine ⟨rfl,fun u hu => ?_⟩
 unfold NdC at hu
 simp at hu
 rcases hu with rfl | rfl | rfl | rfl | rfl | rfl <;> rfl
end
/-! ### The graph -/
structure GM (w0 w : World) (g : Nat) (F : Nat → Prop) (T : Nat → Nat → Prop) (φ : Nat → Nat × Nat) (ψ : Nat → Nat) (vL : Value) (s : Gr) : Prop where
 box : w.heap[g]? = some (.cells #[.int .u8 s.m,vL] 84 (0,0))
 gF : F g
 low : ∀ k,F k → w0.heap.size ≤ k ∧ k < w.heap.size
 vF : ∀ k,vL.ownBlock = some k → F k
 row : ∃ inner,w.ownsRow w0.heap.size 37 6 vL s.l.length inner ∧ ∀ i n,s.l[i]? = some n → NdAt w w0.heap.size F T φ ψ i n ((inner.drop (i * 6)).take 6)
 at0 : Below w0.heap.size w0 w
def all2 : Nat → Nat → Prop := fun _ _ => True
def GT (w0 w : World) (g : Nat) (F : Nat → Prop) (T : Nat → Nat → Prop) (s : Gr) : Prop := ∃ φ ψ vL,GM w0 w g F T φ ψ vL s
abbrev GX (w0 w : World) (g : Nat) (F : Nat → Prop) (s : Gr) : Prop := GT w0 w g F all2 s
section
variable {w0 w w' : World} {g : Nat} {F F' : Nat → Prop} {T T' : Nat → Nat → Prop} {φ : Nat → Nat × Nat} {ψ : Nat → Nat} {vL : Value} {s : Gr}
theorem GM.same (h : GM w0 w g F T φ ψ vL s) (hm : ∀ k,F k → w'.heap[k]? = w.heap[k]?) (hs : w.heap.size ≤ w'.heap.size) (hB : Below w0.heap.size w0 w') : GM w0 w' g F T φ ψ vL s := by
 obtain ⟨inner,h1,h2⟩ := h.row
 refine ⟨(hm g h.gF).trans h.box,h.gF,fun k hk => ⟨(h.low k hk).1,Nat.lt_of_lt_of_le (h.low k hk).2 hs⟩,h.vF,⟨inner,own_move h1 (fun k hk => hm k (h.vF k hk)),fun i n hn => ?_⟩,hB⟩
 obtain ⟨A1,c1,A2,c2,r,cap,e,hN⟩ := h2 i n hn
 exact ⟨A1,c1,A2,c2,r,cap,e,hN.keeps (fun k c t hk hc _ _ => hm k hk)⟩
theorem GT.same (h : GT w0 w g F T s) (hm : ∀ k,F k → w'.heap[k]? = w.heap[k]?) (hs : w.heap.size ≤ w'.heap.size) (hB : Below w0.heap.size w0 w') : GT w0 w' g F T s := by
 obtain ⟨φ,ψ,vL,h⟩ := h
 exact ⟨φ,ψ,vL,h.same hm hs hB⟩
theorem GT.at0 (h : GT w0 w g F T s) : Below w0.heap.size w0 w := by obtain ⟨φ,ψ,vL,h⟩ := h;exact h.at0
theorem GT.low (h : GT w0 w g F T s) : ∀ k,F k → w0.heap.size ≤ k ∧ k < w.heap.size := by obtain ⟨φ,ψ,vL,h⟩ := h;exact h.low
theorem GT.below (h : GT w0 w g F T s) (hb : Below w.heap.size w w') : GT w0 w' g F T s := h.same (fun k hk => hb.block k (h.low k hk).2) hb.size (bel_trans h.at0 hb)
theorem GT.beside (h : GT w0 w g F T s) {S : Nat → Prop} (hO : Only S w w') (hd : ∀ k,F k → ¬ S k) (hl : ∀ k,S k → w0.heap.size ≤ k) : GT w0 w' g F T s := h.same (fun k hk => hO.block k (h.low k hk).2 (hd k hk)) hO.size (hO.below_of h.at0 hl)
structure NodeAt (w : World) (ad : Addr) (i : Nat) (n : Nd) (A1 : Option Addr) (c1 : Nat) (A2 : Option Addr) (c2 r cap : Nat) : Prop where
 y0 : w.cell? (ad.add (i * 6)) = some (.int .u32 n.id)
 y1 : w.cell? ⟨(ad.add (i * 6)).block,(ad.add (i * 6)).off + 1,none⟩ = some (.slice A1 n.vec.length c1)
 y2 : w.cell? ⟨(ad.add (i * 6)).block,(ad.add (i * 6)).off + 2,none⟩ = some (.slice A2 n.tags.length c2)
 y3 : w.cell? ⟨(ad.add (i * 6)).block,(ad.add (i * 6)).off + 3,none⟩ = some (.int .u64 n.fr)
 y4 : w.cell? ⟨(ad.add (i * 6)).block,(ad.add (i * 6)).off + 4,none⟩ = some (.int .u64 n.un)
 y5 : w.cell? ⟨(ad.add (i * 6)).block,(ad.add (i * 6)).off + 5,none⟩ = some (.slice (some ⟨r,0,none⟩) n.links.length cap)
 fit1 : n.vec.length ≤ c1
 vec : Kd.C (Kd.int .i32) w A1 n.vec.length n.vec
 fit2 : n.tags.length ≤ c2
 tags : Kd.C Kd.string w A2 n.tags.length n.tags
 fit3 : n.links.length ≤ cap
theorem NodeAt.below {ad : Addr} {i : Nat} {n : Nd} {A1 : Option Addr} {c1 : Nat} {A2 : Option Addr} {c2 r cap : Nat} (h : NodeAt w ad i n A1 c1 A2 c2 r cap) (hb : Below w.heap.size w w') : NodeAt w' ad i n A1 c1 A2 c2 r cap :=
 ⟨pw_cell_below hb h.y0,pw_cell_below hb h.y1,pw_cell_below hb h.y2,pw_cell_below hb h.y3,pw_cell_below hb h.y4,pw_cell_below hb h.y5,h.fit1,Kd.C_below h.vec hb,h.fit2,Kd.C_below h.tags hb,h.fit3⟩
def ListAt (w : World) (r j : Nat) (l : List Int) : Prop := ∃ A c,w.cell? ⟨r,j,none⟩ = some (.slice A l.length c) ∧ l.length ≤ c ∧ Kd.C (Kd.int .i64) w A l.length l
theorem ListAt.below {r j : Nat} {l : List Int} (h : ListAt w r j l) (hb : Below w.heap.size w w') : ListAt w' r j l := by
 obtain ⟨A,c,h1,h2,h3⟩ := h
 exact ⟨A,c,pw_cell_below hb h1,h2,Kd.C_below h3 hb⟩
theorem GM.node (h : GM w0 w g F T φ ψ vL s) : ∃ ao cap,vL = .slice ao s.l.length cap ∧ s.l.length ≤ cap ∧ ∀ i n,s.l[i]? = some n → ∃ ad A1 c1 A2 c2 r cl,ao = some ad ∧ NodeAt w ad i n A1 c1 A2 c2 r cl ∧ ∀ j l,n.links[j]? = some l → T i j → ListAt w r j l := by
 obtain ⟨inner,h1,h2⟩ := h.row
 rcases h1.2 with ⟨rfl,h0⟩ | ⟨r,cap,cur,rfl,hb,hh,hc1,hc2,hc3,hc4⟩
 ·refine ⟨none,0,by rw [h0],by omega,fun i n hn => ?_⟩
  have := (List.getElem?_eq_some_iff.1 hn).1
  omega
 ·refine ⟨_,cap,rfl,hc1,fun i n hn => ?_⟩
  obtain ⟨A1,c1,A2,c2,r2,cl,e,hN⟩ := h2 i n hn
  have hlt := (List.getElem?_eq_some_iff.1 hn).1
  have hin : ∀ j,j < 6 → w.cell? ⟨r,i * 6 + j,none⟩ = ((inner.drop (i * 6)).take 6)[j]? := by
   intro j hj
   rw [blk_cell hh,List.getElem?_take,if_pos hj,List.getElem?_drop,← hc4,List.getElem?_take,if_pos (by omega),Array.getElem?_toList]
  have e2 : ((⟨r,0,none⟩ : Addr).add (i * 6)) = ⟨r,i * 6,none⟩ := by rw [add_plain]
  have g1 := Kd.R_reads' hN.vec
  have g2 := Kd.R_reads' hN.tags
  obtain ⟨k1,k2,k3,k4,cells,k5,k6⟩ := hN.lk
  refine ⟨_,A1,c1,A2,c2,r2,cl,rfl,⟨?_, ?_, ?_, ?_, ?_, ?_,g1.2.1,g1.2.2,g2.2.1,g2.2.2,k4⟩,fun j l hj ht => ?_⟩
  ·have h0 := hin 0 (by omega);rw [e] at h0;rw [e2];exact h0
  ·have h0 := hin 1 (by omega);rw [e] at h0;rw [e2];exact h0
  ·have h0 := hin 2 (by omega);rw [e] at h0;rw [e2];exact h0
  ·have h0 := hin 3 (by omega);rw [e] at h0;rw [e2];exact h0
  ·have h0 := hin 4 (by omega);rw [e] at h0;rw [e2];exact h0
  ·have h0 := hin 5 (by omega);rw [e] at h0;rw [e2];exact h0
  ·obtain ⟨u,hu,hI⟩ := k6 j l hj
   obtain ⟨A,c,rfl,hl,hC⟩ := Kd.R_reads (hI ht)
   exact ⟨A,c,(blk_cell k5 j).trans hu,hl,hC⟩
theorem GT.reads (h : GT w0 w g F T s) : ∃ ao cap,w.heap[g]? = some (.cells #[.int .u8 s.m,.slice ao s.l.length cap] 84 (0,0)) ∧ s.l.length ≤ cap ∧ ∀ i n,s.l[i]? = some n → ∃ ad A1 c1 A2 c2 r cl,ao = some ad ∧ NodeAt w ad i n A1 c1 A2 c2 r cl ∧ ∀ j l,n.links[j]? = some l → T i j → ListAt w r j l := by
 obtain ⟨φ,ψ,vL,h⟩ := h
 obtain ⟨ao,cap,rfl,hl,hn⟩ := h.node
 exact ⟨ao,cap,h.box,hl,hn⟩
end
end Go.Proofs.Ytofmlajanopniaa.Li
namespace Go.Proofs.Ytofmlajanopniaa.Li
open Go.RowKit Go.Proofs.YtofmlajanopniaaW.PrintWords Go.Proofs.YtofmlajanopniaaW.PrintLast Go.Proofs.YtofmlajanopniaaW.PrintMore Go.Proofs.Ytofmlajanopniaa.Q Go.Proofs.Ytofmlajanopniaa.Tk
theorem six_set {l : List Value} {i j : Nat} (hj : j < 6) (u : Value) : ((l.set (i * 6 + j) u).drop (i * 6)).take 6 = ((l.drop (i * 6)).take 6).set j u := by
 rw [List.drop_set,if_neg (by omega),List.take_set,show i * 6 + j - i * 6 = j by omega]
theorem six_far {l : List Value} {i j k : Nat} (hj : j < 6) (h : k ≠ i) (u : Value) : ((l.set (i * 6 + j) u).drop (k * 6)).take 6 = (l.drop (k * 6)).take 6 := by
 rw [List.drop_set]
 by_cases hc : i * 6 + j < k * 6
 ·rw [if_pos hc]
 ·rw [if_neg hc,List.take_set,List.set_eq_of_length_le]
  rw [List.length_take]
  omega
section
variable {w0 w w' : World} {g : Nat} {F F' : Nat → Prop} {T T' : Nat → Nat → Prop} {φ φ' : Nat → Nat × Nat} {ψ ψ' : Nat → Nat} {vL : Value} {s : Gr}
theorem GM.mono (h : GM w0 w g F T φ ψ vL s) (hF : ∀ k,F k → F' k) (hl : ∀ k,F' k → w0.heap.size ≤ k ∧ k < w.heap.size) (hφ : ∀ k,F k → φ' k = φ k) (hψ : ∀ k,F k → ψ' k = ψ k) (hT : ∀ i j,T' i j → T i j) : GM w0 w g F' T' φ' ψ' vL s := by
 obtain ⟨inner,h1,h2⟩ := h.row
 refine ⟨h.box,hF g h.gF,hl,fun k hk => hF k (h.vF k hk),⟨inner,h1,fun i n hn => ?_⟩,h.at0⟩
 obtain ⟨A1,c1,A2,c2,r,cap,e,hN⟩ := h2 i n hn
 exact ⟨A1,c1,A2,c2,r,cap,e,hN.mono hF hφ hψ (hT i)⟩
theorem GM.rowB (h : GM w0 w g F T φ ψ vL s) {rb : Nat} (hr : vL.ownBlock = some rb) : ∃ c,w.heap[rb]? = some (.cells c 37 (0,0)) := by
 obtain ⟨inner,h1,_⟩ := h.row
 exact own_typed h1 rb hr
theorem GM.until_ (h : GM w0 w g F T φ ψ vL s) {i rb : Nat} {n : Nd} (hn : s.l[i]? = some n) (hr : vL.ownBlock = some rb) (v : Int) : GM w0 (w.setCell ⟨rb,i * 6 + 4,none⟩ (.int .u64 v)) g F T φ ψ vL (s.until_ i v) := by
 obtain ⟨inner,h1,h2⟩ := h.row
 obtain ⟨cc,hcc⟩ := h.rowB hr
 have hfar : ∀ k,k ≠ rb → (w.setCell ⟨rb,i * 6 + 4,none⟩ (.int .u64 v)).heap[k]? = w.heap[k]? := fun k hk => Below.heap_setCell w ⟨rb,i * 6 + 4,none⟩ _ k hk
 have hK : Keeps F w (w.setCell ⟨rb,i * 6 + 4,none⟩ (.int .u64 v)) := fun k c t _ hc ht _ => hfar k (fun e => by subst e;exact ht (blk_type hc hcc))
 have hlen : (s.until_ i v).l.length = s.l.length := by unfold Gr.until_;rw [hn];exact List.length_set
 have hil := (List.getElem?_eq_some_iff.1 hn).1
 refine ⟨(hfar g (fun e => by subst e;exact absurd (blk_type h.box hcc) (by decide))).trans h.box,h.gF,fun k hk => ⟨(h.low k hk).1,by rw [World.size_setCell];exact (h.low k hk).2⟩,h.vF,⟨inner.set (i * 6 + 4) (.int .u64 v),by rw [hlen];exact own_set_at h1 hr _ _,fun k m hm => ?_⟩,below_set h.at0 (h.low rb (h.vF rb hr)).1⟩
 have hm' : (s.l.set i (setUn n v))[k]? = some m := by unfold Gr.until_ at hm;rw [hn] at hm;exact hm
 rw [List.getElem?_set] at hm'
 by_cases e : i = k
 ·subst e
  rw [if_pos rfl,if_pos hil] at hm'
  injection hm' with hm'
  subst hm'
  obtain ⟨A1,c1,A2,c2,r,cap,e,hN⟩ := h2 i n hn
  refine ⟨A1,c1,A2,c2,r,cap, ?_, ?_⟩
  ·rw [six_set (by omega),e]
   rfl
  ·have := hN.keeps hK
   exact ⟨this.vec,this.tags,this.lk⟩
 ·rw [if_neg e] at hm'
  obtain ⟨A1,c1,A2,c2,r,cap,e2,hN⟩ := h2 k m hm'
  exact ⟨A1,c1,A2,c2,r,cap,by rw [six_far (by omega) (fun x => e x.symm)];exact e2,hN.keeps hK⟩
theorem GM.own (h : GM w0 w g F T φ ψ vL s) {i : Nat} {n : Nd} (hn : s.l[i]? = some n) : ∃ rb cap,vL = .slice (some ⟨rb,0,none⟩) s.l.length cap ∧ ∃ A1 c1 A2 c2 r cl,NodeAt w ⟨rb,0,none⟩ i n A1 c1 A2 c2 r cl := by
 obtain ⟨ao,cap,e,_,hnode⟩ := h.node
 obtain ⟨ad,A1,c1,A2,c2,r,cl,rfl,hN,_⟩ := hnode i n hn
 obtain ⟨inner,h1,_⟩ := h.row
 rcases h1.2 with ⟨e2,h0⟩ | ⟨r2,cap2,cur,e2,_⟩
 ·rw [e] at e2;cases e2
 ·rw [e] at e2
  injection e2 with e3
  injection e3 with e3
  subst e3
  exact ⟨r2,cap,e,A1,c1,A2,c2,r,cl,hN⟩
theorem NodeAt.p4 {rb i : Nat} {n : Nd} {A1 : Option Addr} {c1 : Nat} {A2 : Option Addr} {c2 r cap : Nat} (h : NodeAt w ⟨rb,0,none⟩ i n A1 c1 A2 c2 r cap) : w.cell? ⟨rb,i * 6 + 4,none⟩ = some (.int .u64 n.un) := by
 have := h.y4
 rw [add_plain] at this
 exact this
theorem NodeAt.p5 {rb i : Nat} {n : Nd} {A1 : Option Addr} {c1 : Nat} {A2 : Option Addr} {c2 r cap : Nat} (h : NodeAt w ⟨rb,0,none⟩ i n A1 c1 A2 c2 r cap) : w.cell? ⟨rb,i * 6 + 5,none⟩ = some (.slice (some ⟨r,0,none⟩) n.links.length cap) := by
 have := h.y5
 rw [add_plain] at this
 exact this
def but (a lv : Nat) : Nat → Nat → Prop := fun i j => ¬ (i = a ∧ j = lv)
theorem GM.six (h : GM w0 w g F T φ ψ vL s) {rb : Nat} (hr : vL.ownBlock = some rb) {inner : List Value} (h1 : w.ownsRow w0.heap.size 37 6 vL s.l.length inner) {i j : Nat} (hi : i < s.l.length) (hj : j < 6) : w.cell? ⟨rb,i * 6 + j,none⟩ = ((inner.drop (i * 6)).take 6)[j]? := by
 rcases h1.2 with ⟨rfl,h0⟩ | ⟨r,cap,cur,rfl,hb,hh,hc1,hc2,hc3,hc4⟩
 ·cases hr
 ·injection hr with hr
  have hr : r = rb := hr
  subst hr
  rw [blk_cell hh,List.getElem?_take,if_pos hj,List.getElem?_drop,← hc4,List.getElem?_take,if_pos (by omega),Array.getElem?_toList]
theorem GM.store {a lv : Nat} (h : GM w0 w g F (but a lv) φ ψ vL s) {n : Nd} (hn : s.l[a]? = some n) {rb : Nat} (hr : vL.ownBlock = some rb) {r cap : Nat} (hy : w.cell? ⟨rb,a * 6 + 5,none⟩ = some (.slice (some ⟨r,0,none⟩) n.links.length cap)) (hlv : lv < n.links.length) {u : Value} {ls : List Int} (hu : IntL w w0.heap.size F φ a lv u ls) : GM w0 (w.setCell ⟨r,lv,none⟩ u) g F all2 φ ψ vL (s.setL a lv ls) := by
 obtain ⟨inner,h1,h2⟩ := h.row
 obtain ⟨B1,d1,B2,d2,r',cap',e,hN⟩ := h2 a n hn
 have hal := (List.getElem?_eq_some_iff.1 hn).1
 have hrr : r = r' ∧ cap = cap' := by
  rw [h.six hr h1 hal (by omega),e] at hy
  have hy : Value.slice (some ⟨r',0,none⟩) n.links.length cap' = .slice (some ⟨r,0,none⟩) n.links.length cap := by
   unfold NdC at hy
   simpa using hy
  injection hy with e1 _ e3
  injection e1 with e1
  injection e1 with e1
  exact ⟨e1.symm,e3.symm⟩
 obtain ⟨rfl,rfl⟩ := hrr
 obtain ⟨k1,k2,k3,k4,cells,k5,k6⟩ := hN.lk
 have hfar : ∀ k,k ≠ r → (w.setCell ⟨r,lv,none⟩ u).heap[k]? = w.heap[k]? := fun k hk => Below.heap_setCell w ⟨r,lv,none⟩ u k hk
 have hne : ∀ {k t : Nat} {c : Array Value},w.heap[k]? = some (.cells c t (0,0)) → t ≠ 40 → k ≠ r := fun {k t c} hk ht e => by subst e;exact ht (blk_type hk k5)
 have hR : ∀ {i j : Nat} {u2 : Value} {l2 : List Int},IntL w w0.heap.size F φ i j u2 l2 → IntL (w.setCell ⟨r,lv,none⟩ u) w0.heap.size F φ i j u2 l2 := fun {i j u2 l2} hi => Kd.R_set hi k5 (fun q hq => by have hq : q ∈ [3] := hq;have e : q = 3 := (by simpa using hq);subst e;decide) lv u
 have hV : ∀ {v2 : Value} {l2 : List Int},(Kd.int .i32).R 21 w w0.heap.size F v2 l2 → (Kd.int .i32).R 21 (w.setCell ⟨r,lv,none⟩ u) w0.heap.size F v2 l2 := fun {v2 l2} hi => Kd.R_set hi k5 (fun q hq => by have hq : q ∈ [21] := hq;have e : q = 21 := (by simpa using hq);subst e;decide) lv u
 have hS : ∀ {v2 : Value} {l2 : List ByteArray},Kd.string.R 9 w w0.heap.size F v2 l2 → Kd.string.R 9 (w.setCell ⟨r,lv,none⟩ u) w0.heap.size F v2 l2 := fun {v2 l2} hi => Kd.R_set hi k5 (fun q hq => by have hq : q ∈ [9] := hq;have e : q = 9 := (by simpa using hq);subst e;decide) lv u
 have hlen : (s.setL a lv ls).l.length = s.l.length := by unfold Gr.setL;rw [hn];exact List.length_set
 refine ⟨(hfar g (hne h.box (by decide))).trans h.box,h.gF,fun k hk => ⟨(h.low k hk).1,by rw [World.size_setCell];exact (h.low k hk).2⟩,h.vF,⟨inner,by rw [hlen];exact own_move h1 (fun k hk => by obtain ⟨c,hc⟩ := own_typed h1 k hk;exact hfar k (hne hc (by decide))),fun i m hm => ?_⟩,below_set h.at0 k1⟩
 have hm' : (s.l.set a (setLk n lv ls))[i]? = some m := by unfold Gr.setL at hm;rw [hn] at hm;exact hm
 rw [List.getElem?_set] at hm'
 by_cases ei : a = i
 ·subst ei
  rw [if_pos rfl,if_pos hal] at hm'
  injection hm' with hm'
  subst hm'
  refine ⟨B1,d1,B2,d2,r,cap, ?_,hV hN.vec,hS hN.tags,k1,k2,k3, ?_,_,blk_set k5 lv u,fun j l hj => ?_⟩
  ·rw [e]
   unfold NdC setLk
   dsimp only
   rw [List.length_set]
  ·show (n.links.set lv ls).length ≤ cap
   rw [List.length_set];exact k4
  ·have hj' : (n.links.set lv ls)[j]? = some l := hj
   rw [List.getElem?_set] at hj'
   by_cases ej : lv = j
   ·subst ej
    rw [if_pos rfl,if_pos hlv] at hj'
    injection hj' with hj'
    subst hj'
    obtain ⟨l0,hl0⟩ : ∃ l0,n.links[lv]? = some l0 := ⟨_,List.getElem?_eq_getElem hlv⟩
    obtain ⟨u0,hu0,_⟩ := k6 lv l0 hl0
    refine ⟨u, ?_,fun _ => hR hu⟩
    have hc := (Array.getElem?_eq_some_iff.1 hu0).1
    simp [hc]
   ·rw [if_neg ej] at hj'
    obtain ⟨u0,hu0,hI⟩ := k6 j l hj'
    refine ⟨u0, ?_,fun _ => hR (hI (fun hc => ej hc.2.symm))⟩
    rw [Array.getElem?_setIfInBounds,if_neg ej]
    exact hu0
 ·rw [if_neg ei] at hm'
  obtain ⟨C1,f1,C2,f2,r2,cap2,e2,hN2⟩ := h2 i m hm'
  obtain ⟨m1,m2,m3,m4,cells2,m5,m6⟩ := hN2.lk
  have hr2 : r2 ≠ r := fun e => by subst e;exact ei (k3.symm.trans m3)
  exact ⟨C1,f1,C2,f2,r2,cap2,e2,hV hN2.vec,hS hN2.tags,m1,m2,m3,m4,cells2,(hfar r2 hr2).trans m5,fun j l hj => by
   obtain ⟨u0,hu0,hI⟩ := m6 j l hj
   exact ⟨u0,hu0,fun _ => hR (hI (fun hc => ei hc.1.symm))⟩⟩
/-! ### A node more -/
abbrev zeroNode : Value := .agg #[.int .u32 0,.slice none 0 0,.slice none 0 0,.int .u64 0,.int .u64 0,.slice none 0 0]
theorem info_node : (Try.prog.info? 37).map (fun i => (i.zero,i.size,i.bytes)) = some (some zeroNode,6,96) := by kernel_rfl
def RowN (w : World) (base : Nat) (F : Nat → Prop) (T : Nat → Nat → Prop) (φ : Nat → Nat × Nat) (ψ : Nat → Nat) (v : Value) (l : List Nd) : Prop := ∃ inner,w.ownsRow base 37 6 v l.length inner ∧ ∀ i n,l[i]? = some n → NdAt w base F T φ ψ i n ((inner.drop (i * 6)).take 6)
theorem run_append_N (ty : TypeId) {base : Nat} (l : List Nd) (hrow : RowN w base F T φ ψ vL l) (n : Nd) (A1 : Option Addr) (c1 : Nat) (A2 : Option Addr) (c2 r cap p : Nat) (hp : w.heap[p]? = some (.cells (NdC n A1 c1 A2 c2 r cap).toArray 37 (0,0)))
  (hN : NdR w base F T φ ψ l.length n A1 c1 A2 c2 r cap) (hl : l.length ≤ 100000) (hb : base ≤ w.heap.size) :
  ∃ v1 w1,(Builtin.append_ #[46,46] ty #[vL,.slice (some ⟨p,0,none⟩) 1 1]).run Try.prog w = .ok v1 w1 ∧ RowN w1 base F T φ ψ v1 (l ++ [n]) ∧ Only (fun i => vL.ownBlock = some i) w w1 ∧ (v1.ownBlock = vL.ownBlock ∨ v1.ownBlock = some w.heap.size) := by
 obtain ⟨i0,hi,hzz⟩ := Option.map_eq_some_iff.1 info_node
 simp only [Prod.mk.injEq] at hzz
 obtain ⟨hz,hsz,hby⟩ := hzz
 obtain ⟨inner,h1,h2⟩ := hrow
 have hc6 := NdC_one n A1 c1 A2 c2 r cap
 generalize hcs : NdC n A1 c1 A2 c2 r cap = cs at hp hc6
 obtain ⟨v1,w1,hrun,hown,hgr,hne,hat⟩ := run_append_own_at (P := Try.prog) w base 46 ty 37 i0 _ 6 96 Try.underlying46 hi hz hsz hby rfl (by omega) vL l.length inner h1 ⟨p,0,none⟩ 1 1 cs (by rw [hc6.1])
  (fun j u hu => by rw [add_plain,blk_cell hp,List.getElem?_toArray];simpa using hu) hc6.2 (by unfold maxLen;omega) (by omega) hb
 have hO : Only (fun i => vL.ownBlock = some i) w w1 := Only.of_grown hgr (fun k hk => hk)
 have hK : Keeps F w w1 := fun k c t _ hc ht _ => hO.block k (blk_lt hc) (fun e => by obtain ⟨c2,hc2⟩ := own_typed h1 k e;exact ht (blk_type hc hc2))
 have hil : inner.length = l.length * 6 := h1.1
 refine ⟨v1,w1,hrun,⟨inner ++ cs,by rw [List.length_append];exact hown,fun j x hx => ?_⟩,hO,hat⟩
 by_cases hj : j < l.length
 ·rw [List.getElem?_append_left hj] at hx
  have e : ((inner ++ cs).drop (j * 6)).take 6 = (inner.drop (j * 6)).take 6 := by
   rw [List.drop_append_of_le_length (by omega),List.take_append_of_le_length (by rw [List.length_drop];omega)]
  rw [e]
  obtain ⟨B1,d1,B2,d2,r2,cap2,e2,hN2⟩ := h2 j x hx
  exact ⟨B1,d1,B2,d2,r2,cap2,e2,hN2.keeps hK⟩
 ·rw [List.getElem?_append_right (by omega)] at hx
  have hj0 : j - l.length = 0 := by
   have := (List.getElem?_eq_some_iff.1 hx).1
   simp at this;omega
  have hje : j = l.length := by omega
  rw [hj0] at hx
  cases hx
  have e : ((inner ++ cs).drop (j * 6)).take 6 = cs := by
   rw [List.drop_append,List.drop_eq_nil_of_le (by omega),List.nil_append,show j * 6 - inner.length = 0 by omega,List.drop_zero,List.take_of_length_le (by rw [hc6.1];exact Nat.le_refl _)]
  rw [e]
  subst hje
  exact ⟨A1,c1,A2,c2,r,cap,hcs.symm,hN.keeps hK⟩
theorem GM.added (h : GM w0 w g F T φ ψ vL s) {v1 : Value} {w1 : World} {n : Nd} (hO : Only (fun i => vL.ownBlock = some i) w w1) (hr : RowN w1 w0.heap.size F T φ ψ v1 (s.l ++ [n])) (hv : v1.ownBlock = vL.ownBlock ∨ v1.ownBlock = some w.heap.size) (hlt : ∀ k,v1.ownBlock = some k → k < w1.heap.size) :
  GM w0 (w1.setCell ⟨g,1,none⟩ v1) g (fun k => F k ∨ (w.heap.size ≤ k ∧ k < w1.heap.size)) T φ ψ v1 ⟨s.m,s.l ++ [n]⟩ := by
 obtain ⟨inner,h1,h2⟩ := hr
 have hnb : ∀ {k t : Nat} {c : Array Value},w.heap[k]? = some (.cells c t (0,0)) → t ≠ 37 → w1.heap[k]? = w.heap[k]? := fun {k t c} hk ht => hO.block k (blk_lt hk) (fun e => by
  obtain ⟨inner0,h0,_⟩ := h.row
  obtain ⟨c2,hc2⟩ := own_typed h0 k e
  exact ht (blk_type hk hc2))
 have hb : w1.heap[g]? = _ := (hnb h.box (by decide)).trans h.box
 have hfar : ∀ k,k ≠ g → (w1.setCell ⟨g,1,none⟩ v1).heap[k]? = w1.heap[k]? := fun k hk => Below.heap_setCell w1 ⟨g,1,none⟩ _ k hk
 have hK : Keeps F w1 (w1.setCell ⟨g,1,none⟩ v1) := fun k c t _ hc _ ht => hfar k (fun e => by subst e;exact ht (blk_type hc hb))
 have hB1 : Below w0.heap.size w0 w1 := hO.below_of h.at0 (fun k hk => (h.low k (h.vF k hk)).1)
 refine ⟨blk_put hb 1 _ rfl,.inl h.gF,fun k hk => ?_,fun k hk => ?_,⟨inner,own_move h1 (fun k hk => hfar k (fun e => by subst e;obtain ⟨c,hc⟩ := own_typed h1 _ hk;exact absurd (blk_type hc hb) (by decide))),fun i m hm => ?_⟩,below_set hB1 (h.low g h.gF).1⟩
 ·rw [World.size_setCell]
  rcases hk with hk | hk
  ·exact ⟨(h.low k hk).1,Nat.lt_of_lt_of_le (h.low k hk).2 hO.size⟩
  ·exact ⟨Nat.le_trans h.at0.size hk.1,hk.2⟩
 ·have hl := hlt k hk
  rcases hv with hv | hv
  ·exact .inl (h.vF k (hv ▸ hk))
  ·rw [hv] at hk
   injection hk with hk
   exact .inr ⟨by omega,hl⟩
 ·obtain ⟨B1,d1,B2,d2,r2,cap2,e2,hN2⟩ := h2 i m hm
  refine ⟨B1,d1,B2,d2,r2,cap2,e2, ?_⟩
  exact (hN2.keeps hK).mono (fun k hk => .inl hk) (fun _ _ => rfl) (fun _ _ => rfl) (fun _ ht => ht)
end
end Go.Proofs.Ytofmlajanopniaa.Li
namespace Go.Proofs.Ytofmlajanopniaa.Li
open Go.RowKit Go.Proofs.YtofmlajanopniaaW.PrintWords Go.Proofs.YtofmlajanopniaaW.PrintLast Go.Proofs.YtofmlajanopniaaW.PrintMore Go.Proofs.Ytofmlajanopniaa.Q Go.Proofs.Ytofmlajanopniaa.Tk
def hit.T1 : Bool × List (List Nat × List Nat) := (true,[([],[]),([0],[0]),([1],[1]),([2],[2]),([],[]),([],[]),([5],[5]),([6],[6]),([7],[7]),([],[]),([8,9],[8,9]),([10],[10]),([11],[11]),([12],[12]),([3,4,13],[3,4,13]),([14],[14]),([15],[15]),([15],[15]),([16,14,0,1,2,3,4,5,6,7,8,9,10,11,12,13,14,15,16],[16]),([17,18,0,1,2,3,4,5,6,7,8,9,10,11,12,13,14,15,16,17,18],[17])])
def hit.B1 : List Nat := [0,1,3,7,0,0,32,96,224,0,992,2016,4064,8160,16383,32767,65535,65535,131071,524287]
theorem hit.tab1 : rtab .any (opsOf Try.f46 1) = hit.T1 := by kernel_rfl
theorem hit.bits1 : waitsOk hit.T1.2 hit.B1 = true := by kernel_rfl
section
variable {w0 w w' : World} {g : Nat} {F F' : Nat → Prop} {T : Nat → Nat → Prop} {s : Gr}
theorem gnew_calls (m : Int) (w : World) : Calls Try.prog 12 #[.int .u8 m] w fun e w' => e = .returned (.pointer (some ⟨w.heap.size,0,none⟩)) ∧ w' = w.alloc (.cells #[.int .u8 m,.slice none 0 0] 84) := by
 have hu := Try.underlying84
 go_enter Try.func12,Try.ntmps12
 go_wp2
 go_ret
 exact ⟨rfl,rfl⟩
theorem GT.new (hB : Below w0.heap.size w0 w) (m : Int) : GT w0 (w.alloc (.cells #[.int .u8 m,.slice none 0 0] 84)) w.heap.size (fun k => k = w.heap.size) T ⟨m,[]⟩ :=
 ⟨fun _ => (0,0),fun _ => 0,.slice none 0 0,heap_alloc_new w _,rfl,(fun k hk => by subst hk;exact ⟨hB.size,by rw [World.size_alloc];omega⟩),(fun k hk => by cases hk),⟨[],own_nil _ _ _ _,fun i n hn => by simp at hn⟩,bel_alloc hB _⟩
set_option maxHeartbeats 2000000 in
set_option maxRecDepth 100000 in
theorem GT.len_ (h : GT w0 w g F T s) : Calls Try.prog 18 #[.pointer (some ⟨g,0,none⟩)] w fun e w' => e = .returned (.int .i64 s.l.length) ∧ Below w.heap.size w w' := by
 have hu := Try.underlying84
 obtain ⟨ao,cap,hb,_,_⟩ := h.reads
 have y1 := (blk_cell hb 1).trans rfl
 clear h hb
 go_enter Try.func18,Try.ntmps18
 go_wp2
 go_ret
 exact ⟨rfl,Below.refl _ _⟩
theorem there_no {i lv : Int} (h : s.there i lv = true → False) : s.there i lv = false := by
 cases e : s.there i lv with
 | true => exact (h e).elim
 | false => rfl
set_option maxHeartbeats 4000000 in
set_option maxRecDepth 100000 in
theorem GT.there_ (h : GT w0 w g F T s) (i lv : Int) : Calls Try.prog 35 #[.pointer (some ⟨g,0,none⟩),.int .i64 i,.int .i64 lv] w fun e w' => e = .returned (.bool (s.there i lv)) ∧ Below w.heap.size w w' := by
 have hu := Try.underlying84
 have hu2 := Try.underlying37
 obtain ⟨ao,cap,hb,_,hn⟩ := h.reads
 have y1 := (blk_cell hb 1).trans rfl
 have HN := Aside0.mk hn
 clear h hb hn
 by_cases h0 : 0 ≤ i
 ·by_cases h1 : i < (s.l.length : Int)
  ·obtain ⟨k,rfl⟩ : ∃ k : Nat,i = (k : Int) := ⟨i.toNat,by omega⟩
   obtain ⟨n,hk⟩ : ∃ n,s.l[k]? = some n := ⟨_,List.getElem?_eq_getElem (by omega)⟩
   obtain ⟨ad,A1,c1,A2,c2,r,cl,hao,hN,_⟩ := HN.out k n hk
   subst hao
   have y5 := hN.y5
   have q0 : decide ((0 : Int) ≤ (k : Int)) = true := decide_eq_true h0
   have q1 : decide ((k : Int) < (s.l.length : Int)) = true := decide_eq_true h1
   have q1' : k < s.l.length := by omega
   have q1'' : decide (k < s.l.length) = true := decide_eq_true q1'
   have HE := Aside0.mk (show s.there (k : Int) lv = (decide (0 ≤ lv) && decide (lv < (n.links.length : Int))) by unfold Gr.there;rw [lk_nat hk])
   rw [HE.out]
   clear hN
   by_cases h2 : 0 ≤ lv
   ·have q2 : decide (0 ≤ lv) = true := decide_eq_true h2
    clear h0 h1 h2 hk
    go_enter Try.func35,Try.ntmps35
    go_wp2
    go_ret
    refine ⟨?_,Below.refl _ _⟩
    rw [q2]
    rfl
   ·have q2 : decide (0 ≤ lv) = false := decide_eq_false h2
    clear h0 h1 h2 hk
    go_enter Try.func35,Try.ntmps35
    go_wp2
    go_ret
    refine ⟨?_,Below.refl _ _⟩
    rw [q2]
    rfl
  ·have q0 : decide (0 ≤ i) = true := decide_eq_true h0
   have q1 : decide (i < (s.l.length : Int)) = false := decide_eq_false h1
   have HE := Aside0.mk (there_no (s := s) (i := i) (lv := lv) (fun e => h1 (there_range e).2.1))
   rw [HE.out]
   clear h0 h1
   go_enter Try.func35,Try.ntmps35
   go_wp2
   go_ret
   exact ⟨rfl,Below.refl _ _⟩
 ·have q0 : decide (0 ≤ i) = false := decide_eq_false h0
  have HE := Aside0.mk (there_no (s := s) (i := i) (lv := lv) (fun e => h0 (there_range e).1))
  rw [HE.out]
  clear h0
  go_enter Try.func35,Try.ntmps35
  go_wp2
  go_ret
  exact ⟨rfl,Below.refl _ _⟩
theorem setUn_l {i : Nat} {v : Int} : (s.until_ i v).l.length = s.l.length := by
 unfold Gr.until_
 cases s.l[i]? with
 | none => rfl
 | some n => exact List.length_set
set_option maxHeartbeats 4000000 in
set_option maxRecDepth 100000 in
theorem GT.until_yes (h : GT w0 w g F T s) (i : Nat) (v : Int) (hi : s.there (i : Int) 0 = true) : Calls Try.prog 40 #[.pointer (some ⟨g,0,none⟩),.int .i64 i,.int .u64 v] w fun e w' => e = .returned (.bool true) ∧ GT w0 w' g F T (s.until_ i v) ∧ Only F w w' := by
 have hu := Try.underlying84
 have hu2 := Try.underlying37
 have HX := Aside0.mk h
 have HI := Aside0.mk hi
 obtain ⟨k,j,n,hk, -,hn, -⟩ := there_iff.1 hi
 have hke : k = i := by omega
 subst hke
 have HNN := Aside0.mk hn
 have q1 : (k : Int) < (s.l.length : Int) := by have := (List.getElem?_eq_some_iff.1 hn).1;omega
 clear h hi hk hn
 go_enter Try.func40,Try.ntmps40
 go_wp2_with (go_at_call 35;(with_reducible refine (HX.out.there_ k 0).mono ?_);rintro e w1 ⟨rfl,hb⟩;rw [HI.out];have HB := Aside0.mk hb;obtain ⟨φ,ψ,vL,hG⟩ := HX.out.below hb;obtain ⟨rb,cap,rfl,hsix⟩ := hG.own HNN.out;have HG := Aside0.mk hG;have y1 := (blk_cell hG.box 1).trans rfl;obtain ⟨B1,d1,B2,d2,r2,cap2,hy⟩ := hsix;have y4 := hy.p4;have fz : ∀ j,w1.frozen? ⟨rb,j,none⟩ = false := (fun j => by obtain ⟨c,hc⟩ := HG.out.rowB rfl;exact blk_frozen hc j);clear hb hG hy)
 have HU := Aside0.mk (HG.out.until_ HNN.out rfl v)
 go_ret
 exact ⟨rfl,⟨_,_,_,HU.out⟩,(Only.of_below HB.out).then_ (((Only.refl F w1).set ⟨rb,k * 6 + 4,none⟩ _ (HG.out.vF rb rfl))) (fun i hi _ => hi)⟩
set_option maxHeartbeats 4000000 in
set_option maxRecDepth 100000 in
theorem GT.hit_ (h : GT w0 w g F T s) (hm : 0 ≤ s.m) (A : Option Addr) (c : Nat) (q : List Int) (hq : Kd.C (Kd.int .i32) w A q.length q) (hqc : q.length ≤ c) (i : Nat) (hi : i < s.l.length) (hl : s.l.length ≤ 100000) :
  Calls Try.prog 46 #[.pointer (some ⟨g,0,none⟩),.slice A q.length c,.int .i64 i] w fun e w' => e = .returned (.agg #[.int .i64 (s.far q i),.int .u32 i]) ∧ Below w.heap.size w w' := by
 have hu := Try.underlying84
 have hu2 := Try.underlying37
 have hu3 := Try.underlying58
 have hu4 := Try.underlying26
 have hb1 := below_alloc (Below.refl w.heap.size w) (.cells #[.int .i64 0,.int .u32 0] 58)
 have HBX := Aside0.mk (heap_alloc_new w (.cells #[.int .i64 0,.int .u32 0] 58))
 have HB0 := Aside0.mk hb1
 have HX := Aside0.mk (h.below hb1)
 have HQ := Aside0.mk (Kd.C_below hq hb1)
 have HQC := Aside0.mk hqc
 obtain ⟨n,hn⟩ : ∃ n,s.l[i]? = some n := ⟨_,List.getElem?_eq_getElem hi⟩
 have HNN := Aside0.mk hn
 have q1 : (i : Int) < (s.l.length : Int) := by omega
 have HM := Aside0.mk hm
 obtain ⟨D,hD⟩ : ∃ z,Fl.dist s.m q n.vec = z := ⟨_,rfl⟩
 have HD := Aside0.mk hD
 have HFAR := Aside0.mk (show s.far q (i : Int) = D.1 by unfold Gr.far;rw [vec_nat hn,hD])
 rw [HFAR.out]
 have HW := Aside0.mk (show (i : Int) % 4294967296 = (i : Int) by omega)
 clear h hb1 hq hqc hn hm hD hi hl
 go_enter Try.func46,Try.ntmps46
 go_wp2
 obtain ⟨wb,hwb⟩ : ∃ z,w.alloc (.cells #[.int .i64 0,.int .u32 0] 58) = z := ⟨_,rfl⟩
 rw [hwb] at HBX HB0 HX HQ ⊢
 have HB := Aside0.mk (bel_trans HB0.out (below_drew (Below.refl _ _)))
 have HBY := Aside0.mk (blk_below HBX.out (below_drew (Below.refl _ _)))
 have HXD := Aside0.mk (HX.out.below (below_drew (Below.refl _ _)))
 have HQD := Aside0.mk (Kd.C_below HQ.out (below_drew (Below.refl _ _)))
 clear HB0 HBX HX HQ hwb
 obtain ⟨ao,cap,hb, -,hnode⟩ := HXD.out.reads
 obtain ⟨ad,A1,c1,A2,c2,r,cl,hao,hN, -⟩ := hnode i n HNN.out
 subst hao
 have HGB := Aside0.mk hb
 have HN := Aside0.mk hN
 clear hb hnode hN
 refine start_ (n := 20) (S := fun w' => w'.cell? ⟨g,0,none⟩ = some (.int .u8 s.m) ∧ w'.cell? ⟨g,1,none⟩ = some (.slice (some ad) s.l.length cap) ∧ w'.cell? ⟨(ad.add (i * 6)).block,(ad.add (i * 6)).off + 1,none⟩ = some (.slice A1 n.vec.length c1)) (ds := []) (mB_ 20 0) (by kernel_rfl) rfl rfl ⟨((blk_cell HGB.out 0).trans rfl),((blk_cell HGB.out 1).trans rfl),HN.out.y1⟩ (fun hHeld => ?_)
 refine with_tabW hit.tab1 hit.bits1 (fun HT_ HW_ => ?_)
 generalize wb.drew = wd at HB HBY HXD HQD HGB HN hHeld ⊢
 iterate 8 (refine pn_ 0 [(0,10,1),(1,11,3),(2,12,7),(4,14,23),(5,15,55),(6,16,119),(7,17,247),(9,19,759)] (v := ?_) (a' := ?_) rfl rfl rfl HT_.out (by kernel_rfl) (Or.inl ⟨by rfl, ?_⟩) ?_ ?_;rotate_left;(· intro w';go_simp;with_reducible rfl);rotate_left;(· simp only [Act.put,sT_,sZ_,sS_,i64_w,i32_w];rfl))
 iterate 2 (refine tn_ 759 [(3,13,767),(8,18,1023)] (v := ?_) (a' := ?_) rfl rfl rfl HT_.out HW_.out (by kernel_rfl) (Or.inl ⟨by rfl, ?_⟩) hHeld ?_ ?_;rotate_left;(· rintro w' ⟨s0,s1,s2⟩;go_simp;with_reducible rfl);rotate_left;(· simp only [Act.put,sT_,sZ_,sS_,i64_w,i32_w];rfl))
 iterate 3 (refine pn_ 1023 [(10,20,2047),(11,21,4095),(12,22,8191)] (v := ?_) (a' := ?_) rfl rfl rfl HT_.out (by kernel_rfl) (Or.inl ⟨by rfl, ?_⟩) ?_ ?_;rotate_left;(· intro w';go_simp;with_reducible rfl);rotate_left;(· simp only [Act.put,sT_,sZ_,sS_,i64_w,i32_w];rfl))
 refine tn_ 8191 [(13,23,16383)] (v := ?_) (a' := ?_) rfl rfl rfl HT_.out HW_.out (by kernel_rfl) (Or.inl ⟨by rfl, ?_⟩) hHeld ?_ ?_;rotate_left;(· rintro w' ⟨s0,s1,s2⟩;go_simp;with_reducible rfl);rotate_left;(· simp only [Act.put,sT_,sZ_,sS_,i64_w,i32_w];rfl)
 refine one_ (i := 14) (N := some 24) (mB_ 20 32767) rfl rfl (one_of HT_.out (by kernel_rfl)) (by decide) (fun K hK => ?_)
 refine goes_ Try.func76 (by kernel_rfl) rfl #[.int .u8 s.m,.slice A q.length c,.slice A1 n.vec.length c1] (by rfl) rfl rfl (by simp only [List.map_toArray,List.map_cons,List.map_nil];rfl) ?_
 with_reducible refine (Fl.fixvec_Dist.calls (q.length + n.vec.length + 17) s.m A c q A1 c1 n.vec D.1 D.2 _ HQD.out HQC.out HN.out.vec HN.out.fit1 (by rw [Fl.dist_f s.m HM.out q n.vec _ (Nat.le_refl _),HD.out])).mono ?_
 rintro e w2 ⟨rfl,hb⟩
 refine ⟨_,rfl, ?_⟩
 have HB2 := Aside0.mk (bel_trans HB.out hb)
 have HY2 := Aside0.mk (blk_below HBY.out hb)
 have HG2 := Aside0.mk (blk_below HGB.out hb)
 have HN2 := Aside0.mk (HN.out.below hb)
 clear hb
 refine hK.out _ _ ⟨((blk_cell HG2.out 0).trans rfl),((blk_cell HG2.out 1).trans rfl),HN2.out.y1⟩ (fun hHeld => ?_)
 clear hK K
 refine norm_ (a' := ?_) ?_ ?_
 rotate_left
 ·show Act.put _ (some 24) _ = _
  simp only [Act.put,sT_,sZ_,sS_,i64_w,i32_w]
  rfl
 iterate 5 (refine pn_ 32767 [(15,9,65535),(16,25,131071),(17,26,262143),(18,7,524287),(19,8,1048575)] (v := ?_) (a' := ?_) rfl rfl rfl HT_.out (by kernel_rfl) (Or.inl ⟨by rfl, ?_⟩) ?_ ?_;rotate_left;(· intro w';go_simp;with_reducible rfl);rotate_left;(· simp only [Act.put,sT_,sZ_,sS_,i64_w,i32_w];rfl))
 refine done_ (done_of HT_.out (by kernel_rfl)) ?_
 clear hHeld
 have z0 := (blk_cell HY2.out 0).trans rfl
 have z1 := (blk_cell HY2.out 1).trans rfl
 have fz : ∀ j,w2.frozen? ⟨w.heap.size,j,none⟩ = false := fun j => blk_frozen HY2.out j
 go_wp2
 rw [HW.out]
 refine bodyPost_ret (results_cell_row rfl _ _ w.heap.size 58 #[.int .i64 D.1,.int .u32 i] (0,0) _ rfl (blk_put (blk_put HY2.out 0 _ rfl) 1 _ rfl) Try.underlying58 rfl (by kernel_rfl)) rfl ?_
 exact ⟨rfl,below_set (below_set HB2.out (Nat.le_refl _)) (Nat.le_refl _)⟩
end
end Go.Proofs.Ytofmlajanopniaa.Li
namespace Go.Proofs.Ytofmlajanopniaa.Li
open Go.RowKit Go.Proofs.YtofmlajanopniaaW.PrintWords Go.Proofs.YtofmlajanopniaaW.PrintLast Go.Proofs.YtofmlajanopniaaW.PrintMore Go.Proofs.Ytofmlajanopniaa.Q Go.Proofs.Ytofmlajanopniaa.Tk

theorem RowAt.take_ {w : World} {r cap : Nat} {A : List H} (h : Tk.RowAt w r cap A) (k : Nat) : Tk.RowAt w r cap (A.take k) := by
 obtain ⟨rest,hb,hl⟩ := h.out
 refine ⟨cellsOf (A.drop k) ++ rest, ?_, ?_⟩
 ·rw [← List.append_assoc,← cellsOf_append,List.take_append_drop];exact hb
 ·rw [← List.append_assoc,← cellsOf_append,List.take_append_drop];exact hl
theorem cellsOf_drop (A : List H) (k j : Nat) : (cellsOf (A.drop k))[j]? = (cellsOf A)[k * 2 + j]? ∨ A.length < k := by
 by_cases hk : A.length < k
 ·exact .inr hk
 ·left
  have e : cellsOf A = cellsOf (A.take k) ++ cellsOf (A.drop k) := by rw [← cellsOf_append,List.take_append_drop]
  rw [e,List.getElem?_append_right (by rw [cellsOf_len,List.length_take];omega),cellsOf_len,List.length_take,show k * 2 + j - min k A.length * 2 = j by omega]
section
variable {ops : Array Oper} {rest : List Oper} {o : Oper} {a : Act} {w : World} {K : Act → World → Prop} {Q : Exit → Act → World → Prop} {E : Prop}
set_option maxRecDepth 100000 in
theorem run_fits (ty : TypeId) {r n m c cap : Nat} {A B : List H} {ad : Addr} (hn : n = A.length) (hm : m = B.length) (hr : Tk.RowAt w r cap A) (hB : ∀ j u,(cellsOf B)[j]? = some u → w.cell? (ad.add j) = some u) (hroom : n + m ≤ cap) (hc : cap ≤ maxLen) :
  ∃ w',(Builtin.append_ #[50,50] ty #[.slice (some ⟨r,0,none⟩) n cap,.slice (some ad) m c]).run Try.prog w = .ok (.slice (some ⟨r,0,none⟩) (n + m) cap) w' ∧ Tk.RowAt w' r cap (A ++ B) ∧ Only (fun i => i = r) w w' := by
 subst hn hm
 obtain ⟨i0,hi,hz,hsz,hby⟩ := info_hit2
 have hu2 := Try.underlying50
 have ho : w.ownsRow 0 58 2 (.slice (some ⟨r,0,none⟩) A.length cap) A.length (cellsOf A) := hr.own hc (Nat.zero_le _)
 obtain ⟨w',hrun,hown,hg⟩ := run_append_fits (P := Try.prog) w 0 50 ty 58 i0 2 hu2 hi hsz r A.length cap (cellsOf A) ho ad B.length c (cellsOf B) (cellsOf_len B) hB cells_one hroom
 refine ⟨w',hrun, ?_,Only.of_grown hg (fun k hk => by injection hk with hk;exact hk.symm)⟩
 have ho2 : OwnH w' 0 (.slice (some ⟨r,0,none⟩) (A ++ B).length cap) (A ++ B) := by unfold OwnH;rw [cellsOf_append,List.length_append];exact hown
 rcases ho2.row with ⟨e,_⟩ | ⟨r2,cap2,e,_,_,hR⟩
 ·cases e
 ·injection e with e1 _ e3
  injection e1 with e1
  injection e1 with e1
  subst e1;subst e3
  exact hR
theorem step_fits (hgd : o.guard = none) (s x : Operand) (ho : o.op = .call { callee := .builtin .append,args := #[s,x],argTypes := #[50,50] }) {r n m c cap : Nat} {A B : List H} {ad : Addr} (hs : a.eval s = .slice (some ⟨r,0,none⟩) n cap) (hx : a.eval x = .slice (some ad) m c)
  (hn : n = A.length) (hm : m = B.length) (hr : Tk.RowAt w r cap A) (hB : ∀ j u,(cellsOf B)[j]? = some u → w.cell? (ad.add j) = some u) (hroom : n + m ≤ cap) (hc : cap ≤ maxLen)
  (h : ∀ w',Tk.RowAt w' r cap (A ++ B) → Only (fun i => i = r) w w' → K (a.put o.dst (.slice (some ⟨r,0,none⟩) (n + m) cap)) w') : if Region.wanted o (yielded ops a.tmps) = true then Oper.wp Try.prog o a w K Q else E := by
 obtain ⟨w',hrun,h1,h2⟩ := run_fits o.type (c := c) hn hm hr hB hroom hc
 rw [if_pos (by simp [Region.wanted,hgd])]
 unfold Oper.wp execOp
 simp only [ho,resolve,invoke,builtin,Sem.run_bind,Sem.run_pure,Result.andThen_ok,List.map_toArray,List.map_cons,List.map_nil,hs,hx,hrun]
 exact h w' h1 h2
theorem zeroHit (w : World) : (zeroValue 58).run Try.prog w = .ok (.agg #[.int .i64 0,.int .u32 0]) w := by kernel_rfl
theorem run_clear_H (ty : TypeId) {r k n c cap : Nat} {A : List H} (hr : Tk.RowAt w r cap A) (hk : k ≤ A.length) (hn : k + n ≤ cap) :
  ∃ w',(Builtin.clear_ #[50] ty #[.slice (some ⟨r,k * 2,none⟩) n c]).run Try.prog w = .ok (.tuple #[]) w' ∧ Tk.RowAt w' r cap (A.take k) ∧ Only (fun i => i = r) w w' := by
 rcases Nat.eq_zero_or_pos n with h0 | h0
 ·subst h0
  exact ⟨w,by simp [Builtin.clear_,run_underlying Try.underlying50],RowAt.take_ hr k,Only.refl _ _⟩
 ·obtain ⟨rest,hb,hl⟩ := hr.out
  obtain ⟨L,hL⟩ : ∃ z,(Builtin.zeroCells (Value.agg #[.int .i64 0,.int .u32 0]).cells n).toList = z := ⟨_,rfl⟩
  have hLl : L.length = n * 2 := by
   rw [← hL,Array.length_toList,size_zeroCells]
   rfl
  have hL1 : ∀ v ∈ L,v.oneCell' = true := by
   intro v hv
   rw [← hL] at hv
   simp [Builtin.zeroCells] at hv
   obtain ⟨i,_,rfl⟩ := hv
   have : i % 2 = 0 ∨ i % 2 = 1 := by omega
   rcases this with e | e <;> simp [Value.cells,e,Value.oneCell']
  have hsz : (cellsOf A ++ rest).toArray.size = cap * 2 := by rw [List.size_toArray];exact hl
  have hcell : ∀ j,j < L.length → (w.cell? ⟨r,k * 2 + 0 + j,none⟩).isSome = true := fun j hj => by
   rw [blk_cell hb]
   exact Option.isSome_iff_exists.2 ⟨_,Array.getElem?_eq_getElem (by rw [hsz];omega)⟩
  have hst := run_storeCells_cells (P := Try.prog) r (k * 2) L 0 w hcell (fun j _ => blk_frozen hb _) hL1
  obtain ⟨cur',g1,g2,g3⟩ := setCells_row L (k * 2 + 0) w _ hb (by rw [hsz];omega)
  refine ⟨w.setCells r (k * 2 + 0) L, ?_, ?_, ?_⟩
  ·obtain ⟨m,rfl⟩ : ∃ m,n = m + 1 := ⟨n - 1,by omega⟩
   have hu2 := Try.underlying50
   simp [Builtin.clear_,run_underlying hu2,zeroHit,hL,hst]
  ·have e : cur'.toList = cellsOf (A.take k) ++ (L ++ (cellsOf A ++ rest).drop (k * 2 + 0 + L.length)) := by
    rw [g3]
    show (cellsOf A ++ rest).take (k * 2 + 0) ++ L ++ (cellsOf A ++ rest).drop (k * 2 + 0 + L.length) = _
    have e1 : (cellsOf A ++ rest).take (k * 2 + 0) = cellsOf (A.take k) := by
     have e2 : cellsOf A = cellsOf (A.take k) ++ cellsOf (A.drop k) := by rw [← cellsOf_append,List.take_append_drop]
     rw [e2,List.append_assoc,List.take_append_of_le_length (by rw [cellsOf_len,List.length_take];omega),List.take_of_length_le (by rw [cellsOf_len,List.length_take];omega)]
    rw [e1,List.append_assoc]
   refine ⟨L ++ (cellsOf A ++ rest).drop (k * 2 + 0 + L.length), ?_, ?_⟩
   ·rw [g1,← e]
   ·rw [← e,Array.length_toList,g2,hsz]
  ·obtain ⟨e1,e2,e3,e4⟩ := setCells_same r L (k * 2 + 0) w
   exact ⟨e1,e2,e3,by rw [e4];exact Nat.le_refl _,fun i hi hn => setCells_far L (k * 2 + 0) i hn⟩
end
end Go.Proofs.Ytofmlajanopniaa.Li
namespace Go.Proofs.Ytofmlajanopniaa.Li
open Go.RowKit Go.Proofs.YtofmlajanopniaaW.PrintWords Go.Proofs.YtofmlajanopniaaW.PrintLast Go.Proofs.YtofmlajanopniaaW.PrintMore Go.Proofs.Ytofmlajanopniaa.Q Go.Proofs.Ytofmlajanopniaa.Tk
def del.T5 : Bool × List (List Nat × List Nat) := (true,[([],[]),([],[]),([0,1],[0,1]),([],[]),([],[]),([3,4],[3,4]),([2,5],[2,5]),([6,6,0,1,2,3,4,5,6],[0,3,6])])
def del.B5 : List Nat := [0,0,3,0,0,24,63,127]
theorem del.tab5 : rtab .any (opsOf Try.f49 5) = del.T5 := by kernel_rfl
theorem del.bits5 : waitsOk del.T5.2 del.B5 = true := by kernel_rfl
theorem add_off (r a j : Nat) : (⟨r,a,none⟩ : Addr).add j = ⟨r,a + j,none⟩ := by unfold Addr.add;split <;> simp_all
set_option maxHeartbeats 4000000 in
set_option maxRecDepth 100000 in
theorem delete_calls (r cap k k1 m : Nat) (A : List H) (w : World) (h : Tk.RowAt w r cap A) (hm : A.length = m + k1) (hk : k1 = k + 1) (hc : cap ≤ maxLen) (hl : A.length ≤ 100000) :
  Calls Try.prog 49 #[.slice (some ⟨r,0,none⟩) A.length cap,.int .i64 k,.int .i64 k1] w fun e w' => e = .returned (.slice (some ⟨r,0,none⟩) (k + m) cap) ∧ Tk.RowAt w' r cap (A.eraseIdx k) ∧ Only (fun i => i = r) w w' := by
 have hle := h.le
 have HR := Aside0.mk h
 have HC := Aside0.mk hc
 have HM := Aside0.mk (show k < A.length ∧ k + 1 + m = A.length ∧ A.length ≤ cap ∧ A.length ≤ 100000 by omega)
 have q1 : decide ((k : Int) = (k1 : Int)) = false := decide_eq_false (by omega)
 have q1' : ((k : Int) == (k1 : Int)) = false := by rw [beq_eq_false_iff_ne];omega
 have q2 : k ≤ cap := by omega
 have q3 : k1 ≤ cap := by omega
 have q4 : k ≤ k1 := by omega
 have q5 : k1 ≤ A.length := by omega
 have q6 : A.length ≤ cap := by omega
 have q7 : (k : Int) ≤ (k1 : Int) := by omega
 have q8 : (k1 : Int) ≤ (A.length : Int) := by omega
 have q9 : (A.length : Int) ≤ (cap : Int) := by omega
 have HK1 := Aside0.mk hk
 have q10 : (A.length = k) = False := eq_false (by omega)
 have q11 : (k1 ≤ k) = False := eq_false (by omega)
 have q12 : (k = k1) = False := eq_false (by omega)
 by_cases hcap : cap = k1
 ·have HM0 := Aside0.mk (show A.length = k1 ∧ cap = k1 ∧ m = 0 by omega)
  have q13 : (cap = k1) = True := eq_true hcap
  clear h hc hl hle hm hk hcap
  go_enter Try.func49,Try.ntmps49
  go_wp2
  have HRD := Aside0.mk (HR.out.below (w1 := w.drew) rfl)
  have HBd := Aside0.mk (below_drew (Below.refl w.heap.size w))
  refine start_ (n := 8) (S := fun w' => True) (ds := []) (mB_ 8 0) (by kernel_rfl) rfl rfl trivial (fun hHeld => ?_)
  refine with_tabW del.tab5 del.bits5 (fun HT_ HW_ => ?_)
  generalize w.drew = wd at HRD HBd ⊢
  iterate 6 (refine pn_ 0 [(0,20,1),(1,21,3),(2,22,7),(3,23,15),(4,24,31),(5,25,63)] (v := ?_) (a' := ?_) rfl rfl rfl HT_.out (by kernel_rfl) (Or.inl ⟨by rfl, ?_⟩) ?_ ?_;rotate_left;(· intro w';go_simp;with_reducible rfl);rotate_left;(· simp only [Act.put,sT_,sZ_,sS_,i64_w,i32_w];rfl))
  refine one_ (i := 6) (N := some 26) (mB_ 8 127) rfl rfl (one_of HT_.out (by kernel_rfl)) (by decide) (fun K hK => ?_)
  refine step_fits rfl (.tmp 22) (.tmp 25) rfl (A := A.take k) (B := A.drop k1) (m := A.length - k1) rfl rfl (by rw [List.length_take];have := HM.out;omega) (by rw [List.length_drop]) (RowAt.take_ HRD.out k) (fun j u hu => ?_) (by have := HM.out;omega) HC.out ?_
  ·have := HM0.out
   rw [List.drop_eq_nil_of_le (by omega)] at hu
   simp [cellsOf] at hu
  intro w2 hr2 hO2
  obtain ⟨N,hN⟩ : ∃ z,k + (A.length - k1) = z := ⟨_,rfl⟩
  rw [hN]
  have HN := Aside0.mk (show N = k + m ∧ N < A.length by have := HM.out;have := HK1.out;omega)
  obtain ⟨B,hB⟩ : ∃ z,A.eraseIdx k = z := ⟨_,rfl⟩
  have HBE := Aside0.mk hB
  have HR2 := Aside0.mk (show Tk.RowAt w2 r cap B by rw [← hB,List.eraseIdx_eq_take_drop_succ,← HK1.out];exact hr2)
  have HBL := Aside0.mk (show B.length = N by rw [← hB,List.length_eraseIdx_of_lt HM.out.1];have := HM.out;have := HK1.out;omega)
  have HO2 := Aside0.mk hO2
  have q14 : N ≤ A.length := by have := HN.out;omega
  have q15 : N ≤ cap := by have := HN.out;have := HM.out;omega
  have q16 : (cap = N) = False := eq_false (by have := HN.out;have := HM.out;omega)
  clear hr2 hO2 hN hB
  refine hK.out _ _ trivial (fun hHeld => ?_)
  clear hK K
  refine norm_ (a' := ?_) ?_ ?_
  rotate_left
  ·show Act.put _ (some 26) _ = _
   simp only [Act.put,sT_,sZ_,sS_,i64_w,i32_w]
   rfl
  refine pn_ 127 [(7,0,255)] (v := ?_) (a' := ?_) rfl rfl rfl HT_.out (by kernel_rfl) (Or.inl ⟨by rfl, ?_⟩) ?_ ?_;rotate_left;(· intro w';go_simp;with_reducible rfl);rotate_left;(· simp only [Act.put,sT_,sZ_,sS_,i64_w,i32_w];rfl)
  refine done_ (done_of HT_.out (by kernel_rfl)) ?_
  go_wp2
  obtain ⟨w3,hrun,h3,hO3⟩ := run_clear_H 0 (c := cap - N) (n := A.length - N) HR2.out (k := N) (by rw [HBL.out];exact Nat.le_refl _) (by have := HM.out;have := HN.out;omega)
  rw [hrun]
  rw [List.take_of_length_le (by rw [HBL.out];exact Nat.le_refl _)] at h3
  have HR3 := Aside0.mk h3
  have HO3 := Aside0.mk hO3
  clear hrun h3 hO3
  simp only [Result.andThen,Oper.upon]
  go_wp2
  go_ret
  rw [HBE.out]
  exact ⟨by rw [← HN.out.1];rfl,HR3.out,((Only.of_below HBd.out).then_ HO2.out (fun i hi _ => hi)).then_ HO3.out (fun i hi _ => hi)⟩
 ·have q13 : (cap = k1) = False := eq_false hcap
  clear h hc hl hle hm hk hcap
  go_enter Try.func49,Try.ntmps49
  go_wp2
  have HRD := Aside0.mk (HR.out.below (w1 := w.drew) rfl)
  have HBd := Aside0.mk (below_drew (Below.refl w.heap.size w))
  refine start_ (n := 8) (S := fun w' => True) (ds := []) (mB_ 8 0) (by kernel_rfl) rfl rfl trivial (fun hHeld => ?_)
  refine with_tabW del.tab5 del.bits5 (fun HT_ HW_ => ?_)
  generalize w.drew = wd at HRD HBd ⊢
  iterate 6 (refine pn_ 0 [(0,20,1),(1,21,3),(2,22,7),(3,23,15),(4,24,31),(5,25,63)] (v := ?_) (a' := ?_) rfl rfl rfl HT_.out (by kernel_rfl) (Or.inl ⟨by rfl, ?_⟩) ?_ ?_;rotate_left;(· intro w';go_simp;with_reducible rfl);rotate_left;(· simp only [Act.put,sT_,sZ_,sS_,i64_w,i32_w];rfl))
  refine one_ (i := 6) (N := some 26) (mB_ 8 127) rfl rfl (one_of HT_.out (by kernel_rfl)) (by decide) (fun K hK => ?_)
  refine step_fits rfl (.tmp 22) (.tmp 25) rfl (A := A.take k) (B := A.drop k1) (m := A.length - k1) rfl rfl (by rw [List.length_take];have := HM.out;omega) (by rw [List.length_drop]) (RowAt.take_ HRD.out k) (fun j u hu => ?_) (by have := HM.out;omega) HC.out ?_
  ·have hd := cellsOf_drop A k1 j
   rcases hd with hd | hd
   ·rw [hd] at hu
    have := HRD.out.reads _ _ hu
    rw [add_plain] at this
    rw [add_off]
    exact this
   ·have := HM.out;omega
  intro w2 hr2 hO2
  obtain ⟨N,hN⟩ : ∃ z,k + (A.length - k1) = z := ⟨_,rfl⟩
  rw [hN]
  have HN := Aside0.mk (show N = k + m ∧ N < A.length by have := HM.out;have := HK1.out;omega)
  obtain ⟨B,hB⟩ : ∃ z,A.eraseIdx k = z := ⟨_,rfl⟩
  have HBE := Aside0.mk hB
  have HR2 := Aside0.mk (show Tk.RowAt w2 r cap B by rw [← hB,List.eraseIdx_eq_take_drop_succ,← HK1.out];exact hr2)
  have HBL := Aside0.mk (show B.length = N by rw [← hB,List.length_eraseIdx_of_lt HM.out.1];have := HM.out;have := HK1.out;omega)
  have HO2 := Aside0.mk hO2
  have q14 : N ≤ A.length := by have := HN.out;omega
  have q15 : N ≤ cap := by have := HN.out;have := HM.out;omega
  have q16 : (cap = N) = False := eq_false (by have := HN.out;have := HM.out;omega)
  clear hr2 hO2 hN hB
  refine hK.out _ _ trivial (fun hHeld => ?_)
  clear hK K
  refine norm_ (a' := ?_) ?_ ?_
  rotate_left
  ·show Act.put _ (some 26) _ = _
   simp only [Act.put,sT_,sZ_,sS_,i64_w,i32_w]
   rfl
  refine pn_ 127 [(7,0,255)] (v := ?_) (a' := ?_) rfl rfl rfl HT_.out (by kernel_rfl) (Or.inl ⟨by rfl, ?_⟩) ?_ ?_;rotate_left;(· intro w';go_simp;with_reducible rfl);rotate_left;(· simp only [Act.put,sT_,sZ_,sS_,i64_w,i32_w];rfl)
  refine done_ (done_of HT_.out (by kernel_rfl)) ?_
  go_wp2
  obtain ⟨w3,hrun,h3,hO3⟩ := run_clear_H 0 (c := cap - N) (n := A.length - N) HR2.out (k := N) (by rw [HBL.out];exact Nat.le_refl _) (by have := HM.out;have := HN.out;omega)
  rw [hrun]
  rw [List.take_of_length_le (by rw [HBL.out];exact Nat.le_refl _)] at h3
  have HR3 := Aside0.mk h3
  have HO3 := Aside0.mk hO3
  clear hrun h3 hO3
  simp only [Result.andThen,Oper.upon]
  go_wp2
  go_ret
  rw [HBE.out]
  exact ⟨by rw [← HN.out.1];rfl,HR3.out,((Only.of_below HBd.out).then_ HO2.out (fun i hi _ => hi)).then_ HO3.out (fun i hi _ => hi)⟩
end Go.Proofs.Ytofmlajanopniaa.Li
namespace Go.Proofs.Ytofmlajanopniaa.Li
open Go.RowKit Go.Proofs.YtofmlajanopniaaW.PrintWords Go.Proofs.YtofmlajanopniaaW.PrintLast Go.Proofs.YtofmlajanopniaaW.PrintMore Go.Proofs.Ytofmlajanopniaa.Q Go.Proofs.Ytofmlajanopniaa.Tk
def cmp.T6 : Bool × List (List Nat × List Nat) := (true,[([],[]),([],[]),([0,1],[0,1]),([2],[2]),([],[]),([],[]),([5],[5]),([4,6],[4,6]),([7],[7]),([3,8],[3,8])])
def cmp.B6 : List Nat := [0,0,3,7,0,0,32,112,240,511]
theorem cmp.tab6 : rtab .any (opsOf Try.f53 6) = cmp.T6 := by kernel_rfl
theorem cmp.bits6 : waitsOk cmp.T6.2 cmp.B6 = true := by kernel_rfl
def cmp.T11 : Bool × List (List Nat × List Nat) := (true,[([],[]),([],[]),([0,1],[0,1]),([2],[2]),([],[]),([],[]),([5],[5]),([4,6],[4,6]),([7],[7]),([3,8],[3,8])])
def cmp.B11 : List Nat := [0,0,3,7,0,0,32,112,240,511]
theorem cmp.tab11 : rtab .any (opsOf Try.f53 11) = cmp.T11 := by kernel_rfl
theorem cmp.bits11 : waitsOk cmp.T11.2 cmp.B11 = true := by kernel_rfl
def flatTo (A : List H) (k : Nat) : Prop := ∀ j,j + 1 < k → rdH A (j + 1) ≠ rdH A j
theorem compact_snoc2 : ∀ (L : List H) (a b : H),compactL (L ++ [a,b]) = if b = a then compactL (L ++ [a]) else compactL (L ++ [a]) ++ [b]
 | [],a,b => by
  rw [List.nil_append,List.nil_append,compactL_cc]
  by_cases h : a = b
  ·subst h;simp [compactL]
  ·rw [if_neg h,if_neg (fun e => h e.symm)];simp [compactL]
 | [x],a,b => by
  have ih := compact_snoc2 [] a b
  rw [List.nil_append,List.nil_append] at ih
  show compactL (x :: a :: [b]) = if b = a then compactL (x :: a :: []) else compactL (x :: a :: []) ++ [b]
  rw [compactL_cc x a [b],compactL_cc x a [],ih]
  by_cases h : b = a <;> by_cases h2 : x = a <;> simp [h,h2]
 | x :: y :: L,a,b => by
  have ih := compact_snoc2 (y :: L) a b
  show compactL (x :: y :: (L ++ [a,b])) = if b = a then compactL (x :: y :: (L ++ [a])) else compactL (x :: y :: (L ++ [a])) ++ [b]
  rw [compactL_cc,compactL_cc,show (y :: (L ++ [a,b])) = (y :: L) ++ [a,b] from rfl,ih]
  show _ = if b = a then if x = y then compactL (y :: (L ++ [a])) else x :: compactL (y :: (L ++ [a])) else (if x = y then compactL (y :: (L ++ [a])) else x :: compactL (y :: (L ++ [a]))) ++ [b]
  by_cases h : b = a <;> by_cases h2 : x = y <;> simp [h,h2]
theorem take_snoc {A : List H} {k : Nat} (h : k < A.length) : A.take (k + 1) = A.take k ++ [rdH A k] := by
 have : rdH A k = A[k] := by simp [rdH,h]
 rw [this];exact (List.take_append_getElem h).symm
theorem compact_step {A : List H} {k : Nat} (h : k + 1 < A.length) : compactL (A.take (k + 2)) = if rdH A (k + 1) = rdH A k then compactL (A.take (k + 1)) else compactL (A.take (k + 1)) ++ [rdH A (k + 1)] := by
 rw [take_snoc h,take_snoc (by omega : k < A.length),List.append_assoc]
 exact compact_snoc2 _ _ _
theorem compact_flat {A : List H} : ∀ {k : Nat},k ≤ A.length → flatTo A k → compactL (A.take k) = A.take k
 | 0,_,_ => rfl
 | 1,h,_ => by rw [take_snoc (by omega : 0 < A.length)];simp [compactL]
 | k + 2,h,hf => by
  have ih := compact_flat (k := k + 1) (by omega) (fun j hj => hf j (by omega))
  rw [compact_step (by omega),if_neg (hf k (by omega)),ih,take_snoc (by omega : k + 1 < A.length)]
theorem compact_le : ∀ (L : List H),(compactL L).length ≤ L.length
 | [] => Nat.le_refl _
 | [_] => Nat.le_refl _
 | a :: b :: L => by
  rw [compactL_cc]
  have := compact_le (b :: L)
  split <;> simp at * <;> omega
theorem rd_set_ne {A : List H} {q i : Nat} {x : H} (h : q ≠ i) : rdH (A.set q x) i = rdH A i := by
 unfold rdH
 simp only [List.getD_eq_getElem?_getD]
 rw [List.getElem?_set_ne h]
def sameH (a b : H) : Bool := (a.f0 == b.f0) && (a.f1 == b.f1)
theorem sameH_iff {a b : H} : sameH a b = true ↔ a = b := by
 unfold sameH
 rw [Bool.and_eq_true,beq_iff_eq,beq_iff_eq]
 constructor
 ·rintro ⟨h1,h2⟩;cases a;cases b;simp_all
 ·rintro rfl;exact ⟨rfl,rfl⟩
theorem same_if {α : Type} (f : Bool → α) (a b : H) : (if a.f0 = b.f0 then if a.f1 = b.f1 then f true else f false else f false) = f (sameH a b) := by
 unfold sameH
 by_cases h0 : a.f0 = b.f0
 ·by_cases h1 : a.f1 = b.f1
  ·rw [if_pos h0,if_pos h1,beq_iff_eq.2 h0,beq_iff_eq.2 h1];rfl
  ·rw [if_pos h0,if_neg h1,beq_eq_false_iff_ne.2 h1,Bool.and_false]
 ·rw [if_neg h0,beq_eq_false_iff_ne.2 h0];rfl
set_option maxHeartbeats 4000000 in
set_option maxRecDepth 100000 in
theorem compact_row (r cap : Nat) (A : List H) (w : World) (h : Tk.RowAt w r cap A) (hc : cap ≤ maxLen) (hl : A.length ≤ 100000) :
  Calls Try.prog 53 #[.slice (some ⟨r,0,none⟩) A.length cap] w fun e w' => e = .returned (.slice (some ⟨r,0,none⟩) (compactL A).length cap) ∧ Tk.RowAt w' r cap (compactL A) ∧ Only (fun i => i = r) w w' := by
 have hu := Try.underlying58
 have hle := h.le
 obtain ⟨n,hn⟩ : ∃ n,A.length = n := ⟨_,rfl⟩
 have HN := Aside0.mk hn
 rw [hn] at hle hl ⊢
 have HR := Aside0.mk h
 have HC := Aside0.mk hc
 have HL := Aside0.mk (And.intro hle hl)
 clear h hc hn
 by_cases h2 : n < 2
 ·have q1 : decide ((n : Int) < 2) = true := decide_eq_true (by omega)
  have q2 : decide (n < 2) = true := decide_eq_true h2
  have HT := Aside0.mk h2
  clear h2
  go_enter Try.func53,Try.ntmps53
  go_wp2
  go_ret
  have e : compactL A = A := by
   match A,HN.out with
   | [],_ => rfl
   | [a],_ => rfl
   | a :: b :: L,hh => have := HT.out;simp at hh;omega
  rw [e,HN.out]
  exact ⟨rfl,HR.out,Only.refl _ _⟩
 ·have q1 : decide ((n : Int) < 2) = false := decide_eq_false (by omega)
  have q2 : decide (n < 2) = false := decide_eq_false h2
  have HT := Aside0.mk h2
  have hnl : n ≤ 100000 := hl
  clear h2 hl hle
  go_enter Try.func53,Try.ntmps53
  go_wp2
  go_loopg [3] n (fun gk si wr => ∃ k : Nat,si = .int .i64 k ∧ Aside0 (1 ≤ k ∧ k ≤ n ∧ n - k ≤ gk) ∧ Aside0 (flatTo A k) ∧ Aside0 (Only (fun i => i = r) w wr) ∧ Aside0 (Tk.RowAt wr r cap A))
  case atStart => exact ⟨1,rfl,⟨by have := HT.out;omega⟩,⟨fun j hj => by omega⟩,⟨Only.refl _ _⟩,HR⟩
  case round =>
   obtain ⟨k,rfl,HK,HF,HO,HRr⟩ := hrel
   by_cases hk : k < n
   ·obtain ⟨j,hj⟩ : ∃ j,k = j + 1 := ⟨k - 1,by have := HK.out;omega⟩
    have ekj : (k : Int) - 1 = (j : Int) := by omega
    have q3 : (k : Int) < (n : Int) := by omega
    have q4 : (j : Int) < (n : Int) := by omega
    have q5 : j < n := by omega
    have ewj : wrap64 (j : Int) = (j : Int) := by unfold wrap64;omega
    have HJ := Aside0.mk hj
    clear hj
    go_wp2
    have HRD := Aside0.mk (HRr.out.below (w1 := wr.drew) rfl)
    have HOD := Aside0.mk (HO.out.below (below_drew (Below.refl wr.heap.size wr)))
    obtain ⟨c0,c1, -, -⟩ := HRD.out.rd k (by have := HN.out;omega)
    obtain ⟨d0,d1, -, -⟩ := HRD.out.rd j (by have := HN.out;omega)
    refine start_ (n := 10) (S := fun w' => w'.cell? ⟨r,k * 2,none⟩ = some (.int .i64 (rdH A (k)).f0) ∧ w'.cell? ⟨r,k * 2 + 1,none⟩ = some (.int .u32 (rdH A (k)).f1) ∧ w'.cell? ⟨r,j * 2,none⟩ = some (.int .i64 (rdH A (j)).f0) ∧ w'.cell? ⟨r,j * 2 + 1,none⟩ = some (.int .u32 (rdH A (j)).f1)) (ds := []) (mB_ 10 0) (by kernel_rfl) rfl rfl ⟨c0,c1,d0,d1⟩ (fun hHeld => ?_)
    refine with_tabW cmp.tab6 cmp.bits6 (fun HT_ HW_ => ?_)
    clear HRr HO
    generalize wr.drew = wd at HRD HOD hHeld ⊢
    iterate 7 (refine pn_ 0 [(0,16,1),(1,17,3),(2,18,7),(4,20,23),(5,21,55),(6,22,119),(7,23,247)] (v := ?_) (a' := ?_) rfl rfl rfl HT_.out (by kernel_rfl) (Or.inl ⟨by rfl, ?_⟩) ?_ ?_;rotate_left;(· intro w';go_simp;with_reducible rfl);rotate_left;(· simp only [Act.put,sT_,sZ_,sS_,i64_w,i32_w];rfl))
    iterate 2 (refine tn_ 247 [(3,19,255),(8,24,511)] (v := ?_) (a' := ?_) rfl rfl rfl HT_.out HW_.out (by kernel_rfl) (Or.inl ⟨by rfl, ?_⟩) hHeld ?_ ?_;rotate_left;(· rintro w' ⟨s0,s1,s2,s3⟩;go_simp;with_reducible rfl);rotate_left;(· simp only [Act.put,sT_,sZ_,sS_,i64_w,i32_w];rfl))
    refine pure_ (i := 9) (N := some 25) (v := ?_) (a' := ?_) (mB_ 10 1023) rfl rfl (any_of HT_.out (by kernel_rfl)) (fun _ _ _ h => h) (Or.inl ⟨by rfl, ?_⟩) ?_ ?_
    rotate_left
    ·intro w'
     go_simp
     exact same_if (fun z => Result.ok (Next.value (Value.bool z)) w') _ _
    rotate_left
    ·simp only [Act.put,sT_,sZ_,sS_,i64_w,i32_w]
     rfl
    refine done_ (done_of HT_.out (by kernel_rfl)) ?_
    clear hHeld c0 c1 d0 d1
    obtain ⟨b,hb⟩ : ∃ z,sameH (rdH A k) (rdH A j) = z := ⟨_,rfl⟩
    rw [hb]
    have HBB := Aside0.mk hb
    clear hb
    cases b with
    | false =>
     have HKN := Aside0.mk hk
     clear hk
     go_wp2
     obtain ⟨gk,rfl⟩ : ∃ m,gk = m + 1 := ⟨gk - 1,by have := HK.out;have := HKN.out;omega⟩
     go_roundg gk
     case measure => omega
     case rel =>
      refine ⟨k + 1,by go_num,⟨by have := HK.out;have := HKN.out;omega⟩,⟨fun i hi => ?_⟩,HOD,HRD⟩
      by_cases hik : i + 1 < k
      ·exact HF.out i hik
      ·obtain rfl : i = j := by have := HJ.out;omega
       intro e
       rw [← HJ.out] at e
       have := sameH_iff.2 e
       rw [HBB.out] at this
       cases this
    | true =>
     have q6 : k ≤ cap := by have := HL.out;omega
     have q7 : k ≤ n := by omega
     have q8 : (cap = k) = False := eq_false (by have := HL.out;omega)
     have q9 : (k : Int) ≤ (n : Int) := by omega
     have q10 : (n : Int) ≤ (cap : Int) := by have := HL.out;omega
     obtain ⟨D,hD⟩ : ∃ z,n - k = z := ⟨_,rfl⟩
     obtain ⟨E,hE⟩ : ∃ z,cap - k = z := ⟨_,rfl⟩
     have HDE := Aside0.mk (show n = k + D ∧ cap = k + E ∧ 0 < D ∧ D ≤ E by have := HL.out;omega)
     have HAE := Aside0.mk (show rdH A k = rdH A j from sameH_iff.1 HBB.out)
     have HFk := HF
     have HOk := HOD
     have HRk := HRD
     clear HF HOD HRD hk HBB
     go_wp2
     clear hD hE q6 q7 q8 q9 q10 q3 q4 q5 ekj ewj
     go_loopg [3,5] n (fun gm v3 v5 wr => ∃ (m q : Nat) (M : List H),v3 = .int .i64 q ∧ v5 = .int .i64 m ∧ Aside0 (1 ≤ m ∧ m ≤ D ∧ D - m ≤ gm ∧ k ≤ q ∧ q + 1 ≤ k + m) ∧ Aside0 (M.length = n ∧ M.take q = compactL (A.take (k + m)) ∧ ∀ i,k + m ≤ i + 1 → rdH M i = rdH A i) ∧ Aside0 (Only (fun i => i = r) w wr) ∧ Aside0 (Tk.RowAt wr r cap M))
     case atStart =>
      refine ⟨1,k,A,rfl,rfl,⟨by have := HDE.out;omega⟩,⟨HN.out, ?_,fun i _ => rfl⟩,HOk,HRk⟩
      have hc := compact_step (A := A) (k := j) (by have := HN.out;have := HDE.out;have := HJ.out;omega)
      rw [show k + 1 = j + 2 by have := HJ.out;omega,hc,if_pos (by rw [← HJ.out];exact HAE.out),← HJ.out,compact_flat (by have := HN.out;have := HDE.out;omega) HFk.out]
     case round =>
      obtain ⟨m,q,M,rfl,rfl,HK2,HM,HO,HRr⟩ := hrel
      by_cases hm : m < D
      ·obtain ⟨j2,hj2⟩ : ∃ z,m = z + 1 := ⟨m - 1,by have := HK2.out;omega⟩
       have ekj : (m : Int) - 1 = (j2 : Int) := by omega
       have q3 : (m : Int) < (D : Int) := by omega
       have q4 : (j2 : Int) < (D : Int) := by omega
       have q5 : j2 < D := by omega
       have ewj : wrap64 (j2 : Int) = (j2 : Int) := by have := HDE.out;unfold wrap64;omega
       have HJ2 := Aside0.mk hj2
       have HMD := Aside0.mk hm
       have hml : m ≤ 100000 := by have := HL.out;have := HDE.out;omega
       clear hj2
       go_wp2
       have HRD := Aside0.mk (HRr.out.below (w1 := wr.drew) rfl)
       have HOD := Aside0.mk (HO.out.below (below_drew (Below.refl wr.heap.size wr)))
       obtain ⟨c0,c1, -, -⟩ := HRD.out.rd (k + m) (by have := HM.out;have := HDE.out;omega)
       obtain ⟨d0,d1, -, -⟩ := HRD.out.rd (k + j2) (by have := HM.out;have := HDE.out;omega)
       rw [Nat.add_mul] at c0 c1 d0 d1
       refine start_ (n := 10) (S := fun w' => w'.cell? ⟨r,k * 2 + m * 2,none⟩ = some (.int .i64 (rdH M (k + m)).f0) ∧ w'.cell? ⟨r,k * 2 + m * 2 + 1,none⟩ = some (.int .u32 (rdH M (k + m)).f1) ∧ w'.cell? ⟨r,k * 2 + j2 * 2,none⟩ = some (.int .i64 (rdH M (k + j2)).f0) ∧ w'.cell? ⟨r,k * 2 + j2 * 2 + 1,none⟩ = some (.int .u32 (rdH M (k + j2)).f1)) (ds := []) (mB_ 10 0) (by kernel_rfl) rfl rfl ⟨c0,c1,d0,d1⟩ (fun hHeld => ?_)
       refine with_tabW cmp.tab11 cmp.bits11 (fun HT_ HW_ => ?_)
       clear HRr HO
       generalize wr.drew = wd at HRD HOD hHeld ⊢
       iterate 7 (refine pn_ 0 [(0,35,1),(1,36,3),(2,37,7),(4,39,23),(5,40,55),(6,41,119),(7,42,247)] (v := ?_) (a' := ?_) rfl rfl rfl HT_.out (by kernel_rfl) (Or.inl ⟨by rfl, ?_⟩) ?_ ?_;rotate_left;(· intro w';go_simp;with_reducible rfl);rotate_left;(· simp only [Act.put,sT_,sZ_,sS_,i64_w,i32_w];rfl))
       iterate 2 (refine tn_ 247 [(3,38,255),(8,43,511)] (v := ?_) (a' := ?_) rfl rfl rfl HT_.out HW_.out (by kernel_rfl) (Or.inl ⟨by rfl, ?_⟩) hHeld ?_ ?_;rotate_left;(· rintro w' ⟨s0,s1,s2,s3⟩;go_simp;with_reducible rfl);rotate_left;(· simp only [Act.put,sT_,sZ_,sS_,i64_w,i32_w];rfl))
       refine pure_ (i := 9) (N := some 44) (v := ?_) (a' := ?_) (mB_ 10 1023) rfl rfl (any_of HT_.out (by kernel_rfl)) (fun _ _ _ h => h) (Or.inl ⟨by rfl, ?_⟩) ?_ ?_
       rotate_left
       ·intro w'
        go_simp
        exact same_if (fun z => Result.ok (Next.value (Value.bool (!z))) w') _ _
       rotate_left
       ·simp only [Act.put,sT_,sZ_,sS_,i64_w,i32_w]
        rfl
       refine done_ (done_of HT_.out (by kernel_rfl)) ?_
       clear hHeld c0 c1 d0 d1
       obtain ⟨b,hb⟩ : ∃ z,sameH (rdH M (k + m)) (rdH M (k + j2)) = z := ⟨_,rfl⟩
       rw [hb]
       have HBB := Aside0.mk hb
       clear hb
       cases b with
       | true =>
        have HEE := Aside0.mk (show rdH A (k + m) = rdH A (k + j2) by rw [← HM.out.2.2 (k + m) (by omega),← HM.out.2.2 (k + j2) (by have := HJ2.out;omega)];exact sameH_iff.1 HBB.out)
        clear hm
        go_wp2
        obtain ⟨gm,rfl⟩ : ∃ z,gk = z + 1 := ⟨gk - 1,by have := HK2.out;have := HMD.out;omega⟩
        go_roundg gm
        case measure => omega
        case rel =>
         refine ⟨m + 1,q,M,rfl,congrArg (Value.int .i64) (by omega),⟨by have := HK2.out;have := HMD.out;omega⟩,⟨HM.out.1, ?_,fun i hi => HM.out.2.2 i (by omega)⟩,HOD,HRD⟩
         have hc := compact_step (A := A) (k := k + j2) (by have := HN.out;have := HDE.out;have := HJ2.out;have := HMD.out;omega)
         have e1 : k + j2 + 1 = k + m := by have := HJ2.out;omega
         rw [show k + j2 + 2 = k + (m + 1) by have := HJ2.out;omega,e1,if_pos HEE.out] at hc
         rw [hc];exact HM.out.2.1
       | false =>
        have HEE := Aside0.mk (show ¬ rdH A (k + m) = rdH A (k + j2) by rw [← HM.out.2.2 (k + m) (by omega),← HM.out.2.2 (k + j2) (by have := HJ2.out;omega)];intro e;have := sameH_iff.2 e;rw [HBB.out] at this;cases this)
        have q6 : q < n := by have := HK2.out;have := HDE.out;omega
        have q7 : (q : Int) < (n : Int) := by omega
        have HQ := Aside0.mk q6
        obtain ⟨c0,c1, -, -⟩ := HRD.out.rd (k + m) (by have := HM.out;have := HDE.out;omega)
        rw [Nat.add_mul] at c0 c1
        obtain ⟨-, -,z0,z1⟩ := HRD.out.rd q (by rw [HM.out.1];exact q6)
        obtain ⟨-, -,y0,y1⟩ := HRD.out.rd q (by rw [HM.out.1];exact q6)
        obtain ⟨b0,b1, -, -⟩ := HRD.out.rd q (by rw [HM.out.1];exact q6)
        have hqn : q ≤ 100000 := by have := HL.out;omega
        clear hm
        go_wp2
        obtain ⟨gm,rfl⟩ : ∃ z,gk = z + 1 := ⟨gk - 1,by have := HK2.out;have := HMD.out;omega⟩
        go_roundg gm
        case measure => omega
        case rel =>
         refine ⟨m + 1,q + 1,M.set q (rdH M (k + m)),by go_num,congrArg (Value.int .i64) (by omega),⟨by have := HK2.out;have := HMD.out;omega⟩,⟨by rw [List.length_set];exact HM.out.1, ?_,fun i hi => ?_⟩, ?_, ?_⟩
         ·have hc := compact_step (A := A) (k := k + j2) (by have := HN.out;have := HDE.out;have := HJ2.out;have := HMD.out;omega)
          have e1 : k + j2 + 1 = k + m := by have := HJ2.out;omega
          rw [show k + j2 + 2 = k + (m + 1) by have := HJ2.out;omega,e1,if_neg HEE.out] at hc
          rw [hc,← HM.out.2.1,← HM.out.2.2 (k + m) (by omega),take_snoc (by rw [List.length_set,HM.out.1];exact HQ.out),List.take_set_of_le (Nat.le_refl q)]
          simp [rdH,HM.out.1,HQ.out]
         ·rw [← HM.out.2.2 i (by omega)]
          exact rd_set_ne (by have := HK2.out;omega)
         ·exact ⟨(HOD.out.set ⟨r,q * 2,none⟩ _ rfl).set ⟨r,q * 2 + 1,none⟩ _ rfl⟩
         ·exact ⟨HRD.out.set q (rdH M (k + m)) (by rw [HM.out.1];exact HQ.out)⟩
      ·have q3 : decide ((m : Int) < (D : Int)) = false := decide_eq_false (by omega)
       have q4 : decide (m < D) = false := decide_eq_false (by omega)
       have HF2 := Aside0.mk (show M.take q = compactL A by rw [HM.out.2.1,List.take_of_length_le (by have := HN.out;have := HDE.out;have := HK2.out;omega)])
       have HQ := Aside0.mk (show q < n ∧ (compactL A).length = q by
        have h1 : q < n := by have := HK2.out;have := HDE.out;omega
        refine ⟨h1, ?_⟩
        rw [← HF2.out,List.length_take,HM.out.1];omega)
       have q6 : q ≤ cap := by have := HL.out;have := HQ.out;omega
       have q7 : q ≤ n := by have := HQ.out;omega
       have q8 : (cap = q) = False := eq_false (by have := HL.out;have := HQ.out;omega)
       have q9 : (q : Int) ≤ (n : Int) := by omega
       have q10 : (n : Int) ≤ (cap : Int) := by have := HL.out;omega
       have q11 : (q : Int) ≤ (cap : Int) := by have := HL.out;omega
       clear hm
       go_wp2
       obtain ⟨w3,hrun,h3,hO3⟩ := run_clear_H 0 (c := cap - q) (n := n - q) HRr.out (k := q) (by have := HM.out;have := HQ.out;omega) (by have := HL.out;have := HQ.out;omega)
       rw [hrun]
       rw [HF2.out] at h3
       have HR3 := Aside0.mk h3
       have HO3 := Aside0.mk hO3
       clear hrun h3 hO3
       simp only [Result.andThen,Oper.upon]
       go_wp2
       go_ret
       rw [HQ.out.2]
       exact ⟨rfl,HR3.out,HO.out.then_ HO3.out (fun i hi _ => hi)⟩
   ·have q3 : decide ((k : Int) < (n : Int)) = false := decide_eq_false (by omega)
    have q4 : decide (k < n) = false := decide_eq_false (by omega)
    have HK0 := Aside0.mk (show k = n by have := HK.out;omega)
    have HFn := Aside0.mk (show compactL A = A by have := compact_flat (A := A) (k := k) (by have := HN.out;have := HK.out;omega) HF.out;rwa [List.take_of_length_le (by have := HN.out;have := HK0.out;omega)] at this)
    clear hk
    go_wp2
    go_ret
    rw [HFn.out,HN.out]
    exact ⟨rfl,HRr.out,HO.out⟩
theorem compact_calls (b : Nat) (v : Value) (A : List H) (w : World) (h : OwnH w b v A) (hl : A.length ≤ 100000) :
  Calls Try.prog 53 #[v] w fun e w' => ∃ v',e = .returned v' ∧ OwnH w' b v' (compactL A) ∧ (∀ k,v'.ownBlock = some k → v.ownBlock = some k) ∧ Only (fun i => v.ownBlock = some i) w w' := by
 rcases h.row with ⟨rfl,rfl⟩ | ⟨r,cap,rfl,hb,hc,hr⟩
 ·have hh := Aside0.mk h
  clear h
  go_enter Try.func53,Try.ntmps53
  go_wp2
  go_ret
  exact ⟨_,rfl,hh.out,fun k hk => hk,Only.refl _ _⟩
 ·refine (compact_row r cap A w hr hc hl).mono fun e w' ⟨h1,h2,h3⟩ => ⟨_,h1,h2.own hc hb,fun k hk => hk,h3.mono (fun i hi => by subst hi;rfl)⟩
end Go.Proofs.Ytofmlajanopniaa.Li
namespace Go.Proofs.Ytofmlajanopniaa.Li
open Go.RowKit Go.Proofs.YtofmlajanopniaaW.PrintWords Go.Proofs.YtofmlajanopniaaW.PrintLast Go.Proofs.YtofmlajanopniaaW.PrintMore Go.Proofs.Ytofmlajanopniaa.Q Go.Proofs.Ytofmlajanopniaa.Tk

theorem app_H {ops : Array Oper} {rest : List Oper} {o : Oper} {a : Act} {w : World} {Q : Exit → Act → World → Prop} (hgd : o.guard = none) (s x : Operand)
  (ho : o.op = .call { callee := .builtin .append,args := #[s,x],argTypes := #[50,50] }) (base : Nat) (v : Value) (A B : List H) (ao : Option Addr) (n cap : Nat)
  (hs : a.eval s = v) (hx : a.eval x = .slice ao n cap) (hn : n = B.length) (hv : OwnH w base v A) (hr : ReadsH w ao cap B) (hl : A.length + B.length ≤ 1000000) (hb : base ≤ w.heap.size)
  (h : ∀ v' w',OwnH w' base v' (A ++ B) → Only (fun i => v.ownBlock = some i) w w' → wpList Try.prog ops Q rest (a.put o.dst v') w') : wpList Try.prog ops Q (o :: rest) a w := by
 subst hn
 obtain ⟨i0,hi,hz,hsz,hby⟩ := info_hit2
 have hu2 := Try.underlying50
 rcases hr.2 with ⟨rfl,rfl,rfl⟩ | ⟨ad,rfl,h2⟩
 ·refine wpList_append_own_none hgd s x _ ho base _ i0 2 hu2 hi v A.length (cellsOf A) hs hv hx ?_
  exact h v w (by rw [List.append_nil];exact hv) (Only.refl _ _)
 ·refine wpList_append_own _ hgd s x _ ho base _ i0 _ 2 16 hu2 hi hz hsz hby rfl (by omega) v A.length (cellsOf A) hs hv ad B.length cap (cellsOf B) hx (cellsOf_len B) h2 cells_one (by unfold maxLen;omega) (by omega) hb ?_
  intro v' w' hown hg hne
  exact h v' w' (by unfold OwnH;rw [cellsOf_append,List.length_append];exact hown) (Only.of_grown hg (fun k hk => hk))
theorem int_at {w : World} {A : Option Addr} {n : Nat} {L : List Int} (h : Kd.C (Kd.int .i64) w A n L) {i : Nat} (hi : i < L.length) : ∃ ad,A = some ad ∧ w.cell? (ad.add i) = some (.int .i64 L[i]) := by
 obtain ⟨h1,h2,h3⟩ := h
 obtain ⟨ad,rfl,h4⟩ := h3 (by omega)
 obtain ⟨cs,e1,e2,e3⟩ := h4 i L[i] (List.getElem?_eq_getElem hi)
 refine ⟨ad,rfl, ?_⟩
 have e : i * (Kd.int .i64).sz + 0 = i := by show i * 1 + 0 = i;omega
 have := e3 0 (.int .i64 L[i]) (by rw [e2];rfl)
 rwa [e] at this
theorem OwnH.R {w : World} {b : Nat} {v : Value} {A : List H} (h : OwnH w b v A) : ∃ ao cap,v = .slice ao A.length cap ∧ ReadsH w ao cap A := by
 rcases h.row with ⟨rfl,rfl⟩ | ⟨r,cap,rfl,_,hc,hr⟩
 ·exact ⟨none,0,rfl,by simp,.inl ⟨rfl,rfl,rfl⟩⟩
 ·exact ⟨some ⟨r,0,none⟩,cap,rfl,hr.le,.inr ⟨_,rfl,hr.reads⟩⟩
theorem merge_self (A : List H) : mergeH A [] A.length = sortH A := by
 unfold mergeH
 rw [List.append_nil,List.take_of_length_le (by rw [sortH_len];omega)]
theorem lit_reads (w : World) (A : List H) (n : Nat) (h : A.length = n) (hn : n ≤ 1000) : ReadsH (w.alloc (.cells (cellsOf A).toArray 58)) (some ⟨w.heap.size,0,none⟩) n A := by
 obtain ⟨ao,cap,e,hr⟩ := OwnH.R (own_lit w A n h hn)
 injection e with e1 e2 e3
 subst e1;subst e3
 exact hr
theorem merge_n (ao : Option Addr) (ca : Nat) (A : List H) (N : Nat) (w : World) (hN : A.length = N) (hl : N ≤ 100000) (hr : ReadsH w ao ca A) :
  Calls Try.prog 54 #[.slice ao N ca,.slice none 0 0,.int .i64 N] w fun e w' => (∃ v,e = .returned v ∧ OwnH w' w.heap.size v (sortH A)) ∧ Below w.heap.size w w' := by
 subst hN
 have := merge_calls ao ca A none 0 [] A.length w (by omega) (by simp) hr ⟨by simp,.inl ⟨rfl,rfl,rfl⟩⟩
 rw [merge_self] at this
 exact this
def thereH (s : Gr) (q L : List Int) : List H := (L.filter (fun i => s.there i 0)).map (s.hit q)
theorem thereH_snoc {s : Gr} {q L : List Int} {i : Nat} (hi : i < L.length) : thereH s q (L.take (i + 1)) = if s.there L[i] 0 = true then thereH s q (L.take i) ++ [s.hit q L[i]] else thereH s q (L.take i) := by
 unfold thereH
 rw [List.take_succ_eq_append_getElem hi,List.filter_append,List.filter_cons]
 split <;> simp
theorem thereH_len {s : Gr} {q L : List Int} : (thereH s q L).length ≤ L.length := by
 unfold thereH
 rw [List.length_map];exact List.length_filter_le _ _
section
variable {w0 w w' : World} {g : Nat} {F F' : Nat → Prop} {T : Nat → Nat → Prop} {s : Gr}
set_option maxHeartbeats 4000000 in
set_option maxRecDepth 100000 in
theorem GT.near_ (h : GT w0 w g F T s) (hm : 0 ≤ s.m) (A : Option Addr) (c : Nat) (q : List Int) (hq : Kd.C (Kd.int .i32) w A q.length q) (hqc : q.length ≤ c) (A2 : Option Addr) (c2 : Nat) (L : List Int) (hL : Kd.C (Kd.int .i64) w A2 L.length L) (hl : s.l.length ≤ 100000) (hLl : L.length ≤ 100000) :
  Calls Try.prog 21 #[.pointer (some ⟨g,0,none⟩),.slice A q.length c,.slice A2 L.length c2] w fun e w' => (∃ v,e = .returned v ∧ OwnH w' w.heap.size v (nearG s q L)) ∧ Below w.heap.size w w' := by
 have hu := Try.underlying58
 have HX := Aside0.mk h
 have HQ := Aside0.mk (And.intro hq hqc)
 have HL := Aside0.mk hL
 have HM := Aside0.mk (And.intro hm (And.intro hl hLl))
 clear h hq hqc hL hm hl
 go_enter Try.func21,Try.ntmps21
 go_wp2
 go_loopg [7,12] L.length (fun gk v7 v12 wr => ∃ i : Nat,v12 = .int .i64 i ∧ Aside0 (i ≤ L.length ∧ L.length - i ≤ gk) ∧ Aside0 (OwnH wr w.heap.size v7 (thereH s q (L.take i))) ∧ Aside0 (Below w.heap.size w wr))
 case atStart => exact ⟨0,rfl,⟨by omega⟩,⟨own_nil _ _ _ _⟩,⟨Below.refl _ _⟩⟩
 case round =>
  obtain ⟨i,rfl,HI,HV,HB⟩ := hrel
  by_cases hi : i < L.length
  ·have q3 : (i : Int) < (L.length : Int) := by omega
   obtain ⟨ad,rfl,c0⟩ := int_at (Kd.C_below HL.out HB.out) hi
   obtain ⟨x,hx⟩ : ∃ z,L[i] = z := ⟨_,rfl⟩
   rw [hx] at c0
   have HXI := Aside0.mk (show i < L.length ∧ (∀ hi : i < L.length,L[i] = x) from ⟨hi,fun _ => hx⟩)
   have hin : wrap64 ((i : Int) + 1) = ((i + 1 : Nat) : Int) := by unfold wrap64;omega
   have HS := Aside0.mk (show thereH s q (L.take (i + 1)) = if s.there x 0 = true then thereH s q (L.take i) ++ [s.hit q x] else thereH s q (L.take i) by rw [thereH_snoc hi,hx])
   clear hx hi
   obtain ⟨b,hb⟩ : ∃ z,s.there x 0 = z := ⟨_,rfl⟩
   have HBB := Aside0.mk hb
   rw [hb] at HS
   clear hb
   cases b with
   | false =>
    go_wp2_with (go_at_call 35;(with_reducible refine ((HX.out.below HB.out).there_ x 0).mono ?_);rintro e w1 ⟨rfl,hb⟩;rw [HBB.out];have HB1 := Aside0.mk hb;clear hb c0)
    obtain ⟨gm,rfl⟩ : ∃ z,gk = z + 1 := ⟨gk - 1,by have := HI.out;have := HXI.out.1;omega⟩
    go_roundg gm
    case measure => omega
    case rel =>
     refine ⟨i + 1,by go_num,⟨by have := HI.out;have := HXI.out.1;omega⟩,⟨?_⟩,⟨bel_trans HB.out HB1.out⟩⟩
     rw [HS.out]
     exact HV.out.below HB1.out
   | true =>
    obtain ⟨k,j,n,rfl, -,hn, -⟩ := there_iff.1 HBB.out
    have HKL := Aside0.mk ((List.getElem?_eq_some_iff.1 hn).1)
    clear hn
    go_wp2_with (first | (go_at_call 35;(with_reducible refine ((HX.out.below HB.out).there_ k 0).mono ?_);rintro e w1 ⟨rfl,hb⟩;rw [HBB.out];have HB1 := Aside0.mk (bel_trans HB.out hb);have HV1 := Aside0.mk (HV.out.below hb);clear hb c0) | (go_at_call 46;(with_reducible refine ((HX.out.below HB1.out).hit_ HM.out.1 A c q (Kd.C_below HQ.out.1 HB1.out) HQ.out.2 k HKL.out HM.out.2.1).mono ?_);rintro e w2 ⟨rfl,hb⟩;have HB2 := Aside0.mk (bel_trans HB1.out hb);have HV2 := Aside0.mk (HV1.out.below hb);clear hb) | (at_builtin;refine app_H rfl _ _ rfl w.heap.size _ (thereH s q (L.take i)) [s.hit q k] (some ⟨w2.heap.size,0,none⟩) 1 1 rfl rfl rfl (HV2.out.below (below_alloc (Below.refl _ _) _)) (lit_reads w2 [s.hit q k] 1 rfl (by omega)) (by have := thereH_len (s := s) (q := q) (L := L.take i);rw [List.length_take] at this;have := HM.out;simp only [List.length_cons,List.length_nil];omega) (by have := HB2.out.size;rw [World.size_alloc];omega) ?_;intro v3 w3 hv hO;have HV3 := Aside0.mk hv;have HB3 := Aside0.mk (hO.below_of (below_alloc HB2.out _) (fun i hi => own_base HV2.out i hi));clear hv hO))
    obtain ⟨gm,rfl⟩ : ∃ z,gk = z + 1 := ⟨gk - 1,by have := HI.out;have := HXI.out.1;omega⟩
    go_roundg gm
    case measure => omega
    case rel =>
     refine ⟨i + 1,by go_num,⟨by have := HI.out;have := HXI.out.1;omega⟩,⟨?_⟩,⟨HB3.out⟩⟩
     rw [HS.out,if_pos trivial]
     exact HV3.out
  ·have q3 : decide ((i : Int) < (L.length : Int)) = false := decide_eq_false (by omega)
   have HI0 := Aside0.mk (show i = L.length by have := HI.out;omega)
   obtain ⟨ao,cp,rfl,hr⟩ := OwnH.R HV.out
   rw [HI0.out,List.take_length] at hr HV ⊢
   obtain ⟨N,hN⟩ : ∃ z,(thereH s q L).length = z := ⟨_,rfl⟩
   have HN := Aside0.mk hN
   have HNL := Aside0.mk (show N ≤ 100000 by have := thereH_len (s := s) (q := q) (L := L);have := HM.out;omega)
   rw [hN]
   have HR := Aside0.mk hr
   clear hi hr hN
   go_wp2_with (first | (go_at_call 54;(with_reducible refine (merge_n ao cp (thereH s q L) N _ HN.out HNL.out HR.out).mono ?_);rintro e w1 ⟨⟨v1,rfl,hv⟩,hb⟩;have HB1 := Aside0.mk (bel_trans HB.out hb);have HV1 := Aside0.mk (hv.weaken HB.out.size);clear hb hv) | (go_at_call 53;(with_reducible refine (compact_calls w.heap.size v1 _ w1 HV1.out (by rw [sortH_len,HN.out];exact HNL.out)).mono ?_);rintro e w2 ⟨v2,rfl,hv, -,hO⟩;have HV2 := Aside0.mk hv;have HB2 := Aside0.mk (hO.below_of HB1.out (fun i hi => own_base HV1.out i hi));clear hv hO))
   go_ret
   refine ⟨⟨v2,rfl, ?_⟩,HB2.out⟩
   rw [← near_compact]
   exact HV2.out
end
end Go.Proofs.Ytofmlajanopniaa.Li
namespace Go.Proofs.Ytofmlajanopniaa.Li
open Go.RowKit Go.Proofs.YtofmlajanopniaaW.PrintWords Go.Proofs.YtofmlajanopniaaW.PrintLast Go.Proofs.YtofmlajanopniaaW.PrintMore Go.Proofs.Ytofmlajanopniaa.Q Go.Proofs.Ytofmlajanopniaa.Tk
def tst.T1 : Bool × List (List Nat × List Nat) := (true,[([],[]),([],[]),([1],[1]),([2],[2]),([3],[3]),([],[]),([4,5],[4,5]),([6],[6]),([7],[7]),([8],[8]),([],[]),([0,9,10],[0,9,10]),([11],[11]),([],[]),([13],[13]),([12,14],[12,14]),([15,11,0,1,2,3,4,5,6,7,8,9,10,11,12,13,14,15],[15])])
def tst.B1 : List Nat := [0,0,2,6,14,0,62,126,254,510,0,2047,4095,0,8192,32767,65535]
theorem tst.tab1 : rtab .any (opsOf Try.f64 1) = tst.T1 := by kernel_rfl
theorem tst.bits1 : waitsOk tst.T1.2 tst.B1 = true := by kernel_rfl
section
variable {P : Program} {ops : Array Oper} {Q : Exit → Act → World → Prop}
theorem goesV_ {oi : Oper} {N : Option Tmp} {a : Act} {w : World} {K : Act → World → Prop} {f : FuncId} {fn : Func} {o : Operand} {xs : Array Operand} {ts : Array TypeId} {bound caps : Array Value} (hf : P.funcs[f]? = some fn) (hname : (fn.name == "runtime.NumGoroutine") = false) (hb : fn.body.isSome = true) (args : Array Value)
  (hw : Region.wanted oi (yielded ops a.tmps) = true) (hN : oi.dst = N) (hop : oi.op = .call { callee := .value o,args := xs,argTypes := ts }) (ho : a.eval o = .func (.func f) bound caps) (hargs : bound ++ xs.map a.eval ++ caps = args)
  (h : Calls P f args w fun e w' => ∃ v,e = .returned v ∧ K (a.put N v) w') : if Region.wanted oi (yielded ops a.tmps) = true then Oper.wp P oi a w K Q else K (a.put N undef) w := by
 refine call_ f args hw hN ?_ h
 have he := enters_ hf hname hb args w
 unfold execOp
 simp [hop,resolve,Deferred.ofValue,invoke,ho,hargs,he]
end
structure ClB (W : World) (b11 b4 b14 b13 g : Nat) (x : H) : Prop where
 c0 : W.cell? ⟨b11,0,none⟩ = some (.func (.func 46) #[.pointer (some ⟨g,0,none⟩)] #[])
 c1 : W.cell? ⟨b4,0,none⟩ = some (.pointer (some ⟨g,0,none⟩))
 c2 : W.cell? ⟨b14,0,none⟩ = some (.int .i64 x.f1)
 c3 : W.cell? ⟨b13,0,none⟩ = some (.int .i64 x.f0)
theorem ClB.below {W W' : World} {b11 b4 b14 b13 g : Nat} {x : H} (h : ClB W b11 b4 b14 b13 g x) (hb : Below W.heap.size W W') : ClB W' b11 b4 b14 b13 g x :=
 ⟨pw_cell_below hb h.c0,pw_cell_below hb h.c1,pw_cell_below hb h.c2,pw_cell_below hb h.c3⟩
section
variable {w0 w w' : World} {g : Nat} {F F' : Nat → Prop} {T : Nat → Nat → Prop} {s : Gr}
set_option maxHeartbeats 4000000 in
set_option maxRecDepth 100000 in
theorem GT.test_ (h : GT w0 w g F T s) (hm : 0 ≤ s.m) (hl : s.l.length ≤ 100000) {b11 b4 b14 b13 : Nat} {d : Int} {i : Nat} (hB : ClB w b11 b4 b14 b13 g ⟨d,i⟩) (hi : i < s.l.length) (t : Nat) (ht : t < s.l.length) :
  Calls Try.prog 64 #[.int .i64 t,.pointer (some ⟨b11,0,none⟩),.pointer (some ⟨b4,0,none⟩),.pointer (some ⟨b14,0,none⟩),.pointer (some ⟨b13,0,none⟩)] w fun e w' => e = .returned (.bool (decide (s.far (s.vec t) i < d))) ∧ Below w.heap.size w w' := by
 have hu := Try.underlying84
 have hu2 := Try.underlying37
 have hu3 := Try.underlying58
 have hu4 := Try.underlying26
 have hfd : ∀ w : World,(Instr.field 58 (.agg #[.int .i64 (s.far (s.vec t) i),.int .u32 (i : Int)]) 0).run Try.prog w = .ok (.int .i64 (s.far (s.vec t) i)) w := fun _ => by kernel_rfl
 have HX := Aside0.mk h
 have HB0 := Aside0.mk hB
 have HM := Aside0.mk (And.intro hm (And.intro hl hi))
 obtain ⟨n,hn⟩ : ∃ n,s.l[t]? = some n := ⟨_,List.getElem?_eq_getElem ht⟩
 have HNN := Aside0.mk hn
 have q1 : (t : Int) < (s.l.length : Int) := by omega
 obtain ⟨D,hD⟩ : ∃ z,s.far n.vec i = z := ⟨_,rfl⟩
 have HD := Aside0.mk hD
 have HV := Aside0.mk (show s.vec (t : Int) = n.vec from vec_nat hn)
 rw [HV.out,HD.out] at hfd ⊢
 clear h hm hl hB hn hD hi ht
 go_enter Try.func64,Try.ntmps64
 go_wp2
 have HB := Aside0.mk (below_drew (Below.refl w.heap.size w))
 have HXD := Aside0.mk (HX.out.below (below_drew (Below.refl _ _)))
 have HCD := Aside0.mk (HB0.out.below (below_drew (Below.refl _ _)))
 obtain ⟨ao,cap,hb, -,hnode⟩ := HXD.out.reads
 obtain ⟨ad,A1,c1,A2,c2,r,cl,hao,hN, -⟩ := hnode t n HNN.out
 subst hao
 have HGB := Aside0.mk hb
 have HN := Aside0.mk hN
 clear hb hnode hN
 refine start_ (n := 17) (S := fun w' => w'.cell? ⟨g,1,none⟩ = some (.slice (some ad) s.l.length cap) ∧ w'.cell? ⟨(ad.add (t * 6)).block,(ad.add (t * 6)).off + 1,none⟩ = some (.slice A1 n.vec.length c1) ∧ w'.cell? ⟨b11,0,none⟩ = some (.func (.func 46) #[.pointer (some ⟨g,0,none⟩)] #[]) ∧ w'.cell? ⟨b4,0,none⟩ = some (.pointer (some ⟨g,0,none⟩)) ∧ w'.cell? ⟨b14,0,none⟩ = some (.int .i64 i) ∧ w'.cell? ⟨b13,0,none⟩ = some (.int .i64 d)) (ds := []) (mB_ 17 0) (by kernel_rfl) rfl rfl ⟨((blk_cell HGB.out 1).trans rfl),HN.out.y1,HCD.out.c0,HCD.out.c1,HCD.out.c2,HCD.out.c3⟩ (fun hHeld => ?_)
 refine with_tabW tst.tab1 tst.bits1 (fun HT_ HW_ => ?_)
 clear HX HB0
 generalize w.drew = wd at HB HXD HCD HGB HN hHeld ⊢
 iterate 2 (refine pn_ 0 [(5,12,32),(13,20,8224)] (v := ?_) (a' := ?_) rfl rfl rfl HT_.out (by kernel_rfl) (Or.inl ⟨by rfl, ?_⟩) ?_ ?_;rotate_left;(· intro w';go_simp;with_reducible rfl);rotate_left;(· simp only [Act.put,sT_,sZ_,sS_,i64_w,i32_w];rfl))
 iterate 2 (refine tn_ 8224 [(0,7,8225),(1,8,8227)] (v := ?_) (a' := ?_) rfl rfl rfl HT_.out HW_.out (by kernel_rfl) (Or.inl ⟨by rfl, ?_⟩) hHeld ?_ ?_;rotate_left;(· rintro w' ⟨s0,s1,s2,s3,s4,s5⟩;go_simp;with_reducible rfl);rotate_left;(· simp only [Act.put,sT_,sZ_,sS_,i64_w,i32_w];rfl))
 iterate 2 (refine pn_ 8227 [(2,9,8231),(3,10,8239)] (v := ?_) (a' := ?_) rfl rfl rfl HT_.out (by kernel_rfl) (Or.inl ⟨by rfl, ?_⟩) ?_ ?_;rotate_left;(· intro w';go_simp;with_reducible rfl);rotate_left;(· simp only [Act.put,sT_,sZ_,sS_,i64_w,i32_w];rfl))
 refine tn_ 8239 [(4,11,8255)] (v := ?_) (a' := ?_) rfl rfl rfl HT_.out HW_.out (by kernel_rfl) (Or.inl ⟨by rfl, ?_⟩) hHeld ?_ ?_;rotate_left;(· rintro w' ⟨s0,s1,s2,s3,s4,s5⟩;go_simp;with_reducible rfl);rotate_left;(· simp only [Act.put,sT_,sZ_,sS_,i64_w,i32_w];rfl)
 iterate 3 (refine pn_ 8255 [(6,13,8319),(7,14,8447),(8,15,8703)] (v := ?_) (a' := ?_) rfl rfl rfl HT_.out (by kernel_rfl) (Or.inl ⟨by rfl, ?_⟩) ?_ ?_;rotate_left;(· intro w';go_simp;with_reducible rfl);rotate_left;(· simp only [Act.put,sT_,sZ_,sS_,i64_w,i32_w];rfl))
 iterate 3 (refine tn_ 8703 [(9,16,9215),(10,17,10239),(14,21,26623)] (v := ?_) (a' := ?_) rfl rfl rfl HT_.out HW_.out (by kernel_rfl) (Or.inl ⟨by rfl, ?_⟩) hHeld ?_ ?_;rotate_left;(· rintro w' ⟨s0,s1,s2,s3,s4,s5⟩;go_simp;with_reducible rfl);rotate_left;(· simp only [Act.put,sT_,sZ_,sS_,i64_w,i32_w];rfl))
 refine one_ (i := 11) (N := some 18) (mB_ 17 28671) rfl rfl (one_of HT_.out (by kernel_rfl)) (by decide) (fun K hK => ?_)
 refine goesV_ Try.func46 (by kernel_rfl) rfl #[.pointer (some ⟨g,0,none⟩),.slice A1 n.vec.length c1,.int .i64 i] (by rfl) rfl rfl rfl (by simp only [List.map_toArray,List.map_cons,List.map_nil];rfl) ?_
 with_reducible refine (HXD.out.hit_ HM.out.1 A1 c1 n.vec HN.out.vec HN.out.fit1 i HM.out.2.2 HM.out.2.1).mono ?_
 rintro e w2 ⟨rfl,hb⟩
 rw [HD.out]
 refine ⟨_,rfl, ?_⟩
 have HB2 := Aside0.mk (bel_trans HB.out hb)
 have HG2 := Aside0.mk (blk_below HGB.out hb)
 have HN2 := Aside0.mk (HN.out.below hb)
 have HC2 := Aside0.mk (HCD.out.below hb)
 clear hb
 refine hK.out _ _ ⟨((blk_cell HG2.out 1).trans rfl),HN2.out.y1,HC2.out.c0,HC2.out.c1,HC2.out.c2,HC2.out.c3⟩ (fun hHeld => ?_)
 clear hK K
 refine norm_ (a' := ?_) ?_ ?_
 rotate_left
 ·show Act.put _ (some 18) _ = _
  simp only [Act.put,sT_,sZ_,sS_,i64_w,i32_w]
  rfl
 iterate 3 (refine pn_ 28671 [(12,19,32767),(15,22,65535),(16,6,131071)] (v := ?_) (a' := ?_) rfl rfl rfl HT_.out (by kernel_rfl) (Or.inl ⟨by rfl, ?_⟩) ?_ ?_;rotate_left;(· intro w';go_simp;with_reducible rfl);rotate_left;(· simp only [Act.put,sT_,sZ_,sS_,i64_w,i32_w];rfl))
 refine done_ (done_of HT_.out (by kernel_rfl)) ?_
 clear hHeld
 go_wp2
 go_ret
 exact ⟨rfl,HB2.out⟩
end
end Go.Proofs.Ytofmlajanopniaa.Li
namespace Go.Proofs.Ytofmlajanopniaa.Li
open Go.RowKit Go.Proofs.YtofmlajanopniaaW.PrintWords Go.Proofs.YtofmlajanopniaaW.PrintLast Go.Proofs.YtofmlajanopniaaW.PrintMore Go.Proofs.Ytofmlajanopniaa.Q Go.Proofs.Ytofmlajanopniaa.Tk

def OwnZ (w : World) (b : Nat) (v : Value) (L : List Int) : Prop := w.ownsRow b 3 1 v L.length (L.map (Value.int .i64))
section
variable {w w1 : World} {b b' : Nat} {v : Value} {L : List Int}
theorem OwnZ.nil (w : World) (b : Nat) : OwnZ w b (.slice none 0 0) [] := own_nil _ _ _ _
theorem OwnZ.below (h : OwnZ w b v L) (hb : Below w.heap.size w w1) : OwnZ w1 b v L := pw_own_below h hb
theorem OwnZ.weaken (h : OwnZ w b v L) (hb : b' ≤ b) : OwnZ w b' v L := own_weaken h hb
theorem OwnZ.only {S : Nat → Prop} (h : OwnZ w b v L) (hO : Only S w w1) (hs : ∀ k,v.ownBlock = some k → ¬ S k) : OwnZ w1 b v L := own_move h (fun k hk => hO.block k (own_lt h k hk) (hs k hk))
theorem OwnZ.R {ok : Nat → Prop} (h : OwnZ w b v L) (hok : ∀ k,v.ownBlock = some k → ok k) : (Kd.int .i64).R 3 w b ok v L := by
 refine ⟨hok,L.map (Value.int .i64),h,by show (L.map (Value.int .i64)).length = L.length * 1;rw [List.length_map];omega,fun j p hj => ?_⟩
 show ((L.map (Value.int .i64)).drop (j * 1)).take 1 = [.int .i64 p]
 obtain ⟨hl,rfl⟩ := List.getElem?_eq_some_iff.1 hj
 rw [Nat.mul_one,← List.map_drop,List.drop_eq_getElem_cons hl]
 rfl
theorem OwnZ.C (h : OwnZ w b v L) : ∃ ao cap,v = .slice ao L.length cap ∧ L.length ≤ cap ∧ Kd.C (Kd.int .i64) w ao L.length L := Kd.R_reads (h.R (ok := fun _ => True) (fun _ _ => trivial))
theorem OwnZ.C0 (h : OwnZ w b v L) : ∃ ao cap,v = .slice ao L.length cap ∧ (ao = none → cap = 0) ∧ Kd.C (Kd.int .i64) w ao L.length L := by
 obtain ⟨ao,cap,rfl,hl,hC⟩ := h.C
 refine ⟨ao,cap,rfl,fun e => ?_,hC⟩
 subst e
 rcases h.2 with ⟨he,h0⟩ | ⟨g,cap',cur,he,hb,hh,h1,h2,h3,h4⟩
 ·injection he
 ·injection he with e1;cases e1
theorem OwnZ.take {cap m : Nat} {ao : Option Addr} (h : OwnZ w b (.slice ao L.length cap) L) (hm : m ≤ L.length) : OwnZ w b (.slice ao m cap) (L.take m) := by
 have hl : (L.take m).length = m := by simp;omega
 unfold OwnZ
 rw [hl]
 rcases h.2 with ⟨he,h0⟩ | ⟨g,cap',cur,he,hb,hh,h1,h2,h3,h4⟩
 ·have : m = 0 := by omega
  subst this
  simp only [Value.slice.injEq] at he
  obtain ⟨rfl,_,rfl⟩ := he
  exact own_nil _ _ _ _
 ·simp only [Value.slice.injEq] at he
  obtain ⟨rfl,_,rfl⟩ := he
  refine ⟨by rw [List.length_map,hl];omega,.inr ⟨g,cap,cur,rfl,hb,hh,by omega,h2,h3, ?_⟩⟩
  rw [List.map_take,← h4,List.take_take]
  congr 1
  omega
end
theorem info_int : (Try.prog.info? 3).map (fun i => (i.zero,i.size,i.bytes)) = some (some (.int .i64 0),1,8) := by kernel_rfl
set_option maxRecDepth 100000 in
theorem app_Z {ops : Array Oper} {rest : List Oper} {o : Oper} {a : Act} {w : World} {Q : Exit → Act → World → Prop} (hgd : o.guard = none) (s x : Operand)
  (ho : o.op = .call { callee := .builtin .append,args := #[s,x],argTypes := #[40,40] }) (base : Nat) (v : Value) (A B : List Int) (ao : Option Addr) (n cap : Nat)
  (hs : a.eval s = v) (hx : a.eval x = .slice ao n cap) (hn : n = B.length) (hv : OwnZ w base v A) (hr : Kd.C (Kd.int .i64) w ao n B) (hc0 : ao = none → cap = 0) (hl : A.length + B.length ≤ 1000000) (hb : base ≤ w.heap.size)
  (h : ∀ v' w',OwnZ w' base v' (A ++ B) → Only (fun i => v.ownBlock = some i) w w' → (v'.ownBlock = v.ownBlock ∨ v'.ownBlock = some w.heap.size) → wpList Try.prog ops Q rest (a.put o.dst v') w') : wpList Try.prog ops Q (o :: rest) a w := by
 subst hn
 obtain ⟨i0,hi,hzz⟩ := Option.map_eq_some_iff.1 info_int
 simp only [Prod.mk.injEq] at hzz
 obtain ⟨hz,hsz,hby⟩ := hzz
 have hu2 := Try.underlying40
 cases B with
 | nil =>
  obtain ⟨h1,h2,h3⟩ := hr
  cases ao with
  | none =>
   have := hc0 rfl
   subst this
   refine wpList_append_own_none hgd s x _ ho base _ i0 1 hu2 hi v A.length _ hs hv hx ?_
   exact h v w (by rw [List.append_nil];exact hv) (Only.refl _ _) (.inl rfl)
  | some ad =>
   refine wpList_append_own_at _ hgd s x _ ho base _ i0 _ 1 8 hu2 hi hz hsz hby rfl (by omega) v A.length _ hs hv ad 0 cap [] hx rfl (fun j u hu => by simp at hu) (fun u hu => by simp at hu) (by unfold maxLen;omega) (by omega) hb ?_
   intro v' w' hown hg hne hat
   exact h v' w' (by rw [List.append_nil] at hown ⊢;exact hown) (Only.of_grown hg (fun k hk => hk)) hat
 | cons z B =>
  obtain ⟨ad,rfl,h4⟩ := hr.2.2 (by simp)
  refine wpList_append_own_at _ hgd s x _ ho base _ i0 _ 1 8 hu2 hi hz hsz hby rfl (by omega) v A.length _ hs hv ad _ cap ((z :: B).map (Value.int .i64)) hx (by rw [List.length_map];omega) (fun j u hu => ?_) (fun u hu => ?_) (by unfold maxLen;omega) (by omega) hb ?_
  ·rw [List.getElem?_map] at hu
   obtain ⟨p,hp,rfl⟩ := Option.map_eq_some_iff.1 hu
   obtain ⟨hl2,rfl⟩ := List.getElem?_eq_some_iff.1 hp
   obtain ⟨ad2,e,hc⟩ := int_at hr hl2
   injection e with e
   subst e
   exact hc
  ·obtain ⟨p, -,rfl⟩ := List.mem_map.1 hu
   rfl
  ·intro v' w' hown hg hne hat
   exact h v' w' (by unfold OwnZ;rw [List.length_append,List.map_append];exact hown) (Only.of_grown hg (fun k hk => hk)) hat
set_option maxHeartbeats 4000000 in
set_option maxRecDepth 100000 in
theorem indexZ_calls (m : FuncId) (he : ∀ args w,(callFunc m args).run Try.prog w = .ok (.enter m args) w) (k1 k2 k3 k4 : Value) (pr : Int → Bool) (Inv : World → Prop) (hInv : ∀ W W',Inv W → Below W.heap.size W W' → Inv W')
  (A : Option Addr) (c : Nat) (l : List Int) (hf : ∀ x ∈ l, ∀ W,Inv W → Calls Try.prog m #[.int .i64 x,k1,k2,k3,k4] W fun e W' => e = .returned (.bool (pr x)) ∧ Below W.heap.size W W')
  (w : World) (hc : (Kd.int .i64).C w A l.length l) (hl : l.length ≤ 100000) (h0 : Inv w) :
  Calls Try.prog 87 #[.slice A l.length c,.func (.func m) #[] #[k1,k2,k3,k4]] w fun e w' => (∃ r : Int,e = .returned (.int .i64 r) ∧ l.any pr = decide (0 ≤ r)) ∧ Below w.heap.size w w' := by
 have HC := Aside0.mk hc
 have HF := Aside0.mk hf
 have HI := Aside0.mk hInv
 have HI0 := Aside0.mk h0
 have HL := Aside0.mk hl
 clear hc hf hInv h0 hl
 go_enter Try.func87,Try.ntmps87
 go_wp2
 go_loopg [8] l.length (fun gk v8 wr => ∃ (i : Nat),v8 = .int .i64 i ∧ Aside0 (i ≤ l.length ∧ l.length - i ≤ gk) ∧ Aside0 ((l.take i).any pr = false) ∧ Aside0 (Below w.heap.size w wr))
 case atStart => exact ⟨0,rfl,⟨by omega,by omega⟩,⟨by simp⟩,⟨Below.refl _ _⟩⟩
 case round =>
  obtain ⟨i,rfl,HJ,HN,HB⟩ := hrel
  by_cases hi : i < l.length
  ·have hl := HL.out
   have q1 : decide ((i : Int) < (l.length : Int)) = true := decide_eq_true (by omega)
   have q2 : (i : Int) < (l.length : Int) := by omega
   obtain ⟨ad,rfl,c0⟩ := int_at HC.out hi
   obtain ⟨x,hx⟩ : ∃ z,l[i] = z := ⟨_,rfl⟩
   rw [hx] at c0
   have hin : wrap64 ((i : Int) + 1) = ((i + 1 : Nat) : Int) := by rw [Tk.wrap_small (by omega) (by omega)];omega
   replace c0 := pw_cell_below HB.out c0
   have HX := Aside0.mk (show l[i]? = some x by rw [← hx];exact List.getElem?_eq_getElem hi)
   have HI2 := Aside0.mk hi
   have HM := Aside0.mk (show x ∈ l by rw [← hx];exact List.getElem_mem hi)
   obtain ⟨r,hr⟩ : ∃ r,pr x = r := ⟨_,rfl⟩
   have HR := Aside0.mk hr
   clear hx hi hl hr
   cases r with
   | true =>
    go_wp2_with (first | ((with_reducible refine (HF.out x HM.out _ (HI.out _ _ HI0.out HB.out)).mono ?_);rintro e w3 ⟨rfl,hb⟩;rw [HR.out];have HB3 := Aside0.mk (bel_trans HB.out hb);clear hb) | fail)
    go_ret
    exact ⟨⟨i,rfl,by rw [List.any_eq_true.2 ⟨x,HM.out,HR.out⟩];exact (decide_eq_true (by omega)).symm⟩,HB3.out⟩
   | false =>
    go_wp2_with (first | ((with_reducible refine (HF.out x HM.out _ (HI.out _ _ HI0.out HB.out)).mono ?_);rintro e w3 ⟨rfl,hb⟩;rw [HR.out];have HB3 := Aside0.mk (bel_trans HB.out hb);clear hb) | fail)
    obtain ⟨gk,rfl⟩ : ∃ m,gk = m + 1 := ⟨gk - 1,by have := HJ.out;have := HI2.out;omega⟩
    go_roundg gk
    case measure => omega
    case rel =>
     refine ⟨i + 1,congrArg (Value.int .i64) hin,⟨by have := HJ.out;have := HI2.out;omega⟩,⟨?_⟩,HB3⟩
     obtain ⟨hi,hx⟩ := List.getElem?_eq_some_iff.1 HX.out
     rw [List.take_succ_eq_append_getElem hi,List.any_append,HN.out,hx]
     simp [HR.out]
  ·have q1 : decide ((i : Int) < (l.length : Int)) = false := decide_eq_false (by omega)
   have q2 : decide (i < l.length) = false := decide_eq_false hi
   have q3 : (i < l.length) = False := eq_false hi
   have hT : l.take i = l := List.take_of_length_le (by omega)
   have hn := HN.out
   rw [hT] at hn
   have HN2 := Aside0.mk hn
   clear hT hn hi
   go_wp2
   go_ret
   exact ⟨⟨-1,rfl,by rw [HN2.out];rfl⟩,HB.out⟩
set_option maxHeartbeats 4000000 in
set_option maxRecDepth 100000 in
theorem containsZ_calls (m : FuncId) (he : ∀ args w,(callFunc m args).run Try.prog w = .ok (.enter m args) w) (k1 k2 k3 k4 : Value) (pr : Int → Bool) (Inv : World → Prop) (hInv : ∀ W W',Inv W → Below W.heap.size W W' → Inv W')
  (A : Option Addr) (c : Nat) (l : List Int) (hf : ∀ x ∈ l, ∀ W,Inv W → Calls Try.prog m #[.int .i64 x,k1,k2,k3,k4] W fun e W' => e = .returned (.bool (pr x)) ∧ Below W.heap.size W W')
  (w : World) (hc : (Kd.int .i64).C w A l.length l) (hl : l.length ≤ 100000) (h0 : Inv w) :
  Calls Try.prog 63 #[.slice A l.length c,.func (.func m) #[] #[k1,k2,k3,k4]] w fun e w' => e = .returned (.bool (l.any pr)) ∧ Below w.heap.size w w' := by
 have H := Aside0.mk (indexZ_calls m he k1 k2 k3 k4 pr Inv hInv A c l hf w hc hl h0)
 clear hf hInv hc hl h0
 go_enter Try.func63,Try.ntmps63
 go_wp2_with ((go_at_call 87;(with_reducible refine H.out.mono ?_);rintro e w1 ⟨⟨r,rfl,hr⟩,hb⟩;have HB := Aside0.mk hb;have HR := Aside0.mk hr;clear hb hr))
 go_ret
 exact ⟨congrArg (fun z => Ending.returned (Value.bool z)) HR.out.symm,HB.out⟩
end Go.Proofs.Ytofmlajanopniaa.Li
namespace Go.Proofs.Ytofmlajanopniaa.Li
open Go.RowKit Go.Proofs.YtofmlajanopniaaW.PrintWords Go.Proofs.YtofmlajanopniaaW.PrintLast Go.Proofs.YtofmlajanopniaaW.PrintMore Go.Proofs.Ytofmlajanopniaa.Q Go.Proofs.Ytofmlajanopniaa.Tk
attribute [local go_sem] max2_int min2_int max_two min_two

theorem box4 (w : World) (g : Nat) : ((w.alloc (.cells #[.pointer (some ⟨g,0,none⟩)] 29)).alloc (.cells #[.func (.func 46) #[.pointer (some ⟨g,0,none⟩)] #[]] 94)).cell? ⟨w.heap.size,0,none⟩ = some (.pointer (some ⟨g,0,none⟩)) :=
 pw_cell_below (below_alloc (Below.refl _ _) _) ((blk_cell (heap_alloc_new w _) 0).trans rfl)
theorem box11 (w : World) (g : Nat) : ((w.alloc (.cells #[.pointer (some ⟨g,0,none⟩)] 29)).alloc (.cells #[.func (.func 46) #[.pointer (some ⟨g,0,none⟩)] #[]] 94)).cell? ⟨w.heap.size + 1,0,none⟩ = some (.func (.func 46) #[.pointer (some ⟨g,0,none⟩)] #[]) := by
 have := (blk_cell (heap_alloc_new (w.alloc (.cells #[.pointer (some ⟨g,0,none⟩)] 29)) (.cells #[.func (.func 46) #[.pointer (some ⟨g,0,none⟩)] #[]] 94)) 0).trans rfl
 rwa [World.size_alloc] at this
theorem boxes2 (w : World) (d : Int) (k : Nat) : ((w.alloc (.cells #[.int .i64 d,.int .u32 (k : Int)] 58)).alloc (.cells #[.int .i64 (k : Int)] 3)).cell? ⟨w.heap.size,0,none⟩ = some (.int .i64 d) ∧ ((w.alloc (.cells #[.int .i64 d,.int .u32 (k : Int)] 58)).alloc (.cells #[.int .i64 (k : Int)] 3)).cell? ⟨w.heap.size + 1,0,none⟩ = some (.int .i64 k) := by
 refine ⟨pw_cell_below (below_alloc (Below.refl _ _) _) ((blk_cell (heap_alloc_new w _) 0).trans rfl), ?_⟩
 have := (blk_cell (heap_alloc_new (w.alloc (.cells #[.int .i64 d,.int .u32 (k : Int)] 58)) (.cells #[.int .i64 (k : Int)] 3)) 0).trans rfl
 rwa [World.size_alloc] at this
theorem below_trans_alloc {w1 w2 : World} {o : Obj} (h : Below w1.heap.size w1 w2) : Below w1.heap.size w1 (w2.alloc o) := below_alloc h o
theorem two_step {w1 wr w2 w3 : World} {va vb vb' : Value} {La Lb : List Int} (hB : Below w1.heap.size w1 wr) (hA : OwnZ wr w1.heap.size va La) (hBv : OwnZ wr w1.heap.size vb Lb) (hD : ∀ k,va.ownBlock = some k → vb.ownBlock ≠ some k) (h2 : Below wr.heap.size wr w2) (hO : Only (fun i => vb.ownBlock = some i) w2 w3) (hat : vb'.ownBlock = vb.ownBlock ∨ vb'.ownBlock = some w2.heap.size) :
  OwnZ w3 w1.heap.size va La ∧ (∀ k,va.ownBlock = some k → vb'.ownBlock ≠ some k) ∧ Below w1.heap.size w1 w3 := by
 refine ⟨(hA.below h2).only hO (fun k hk => hD k hk),fun k hk e => ?_,hO.below_of (bel_trans hB h2) (fun i hi => own_base hBv i hi)⟩
 have := own_lt hA k hk
 rcases hat with h | h
 ·exact hD k hk (h ▸ e)
 ·rw [h] at e
  injection e with e
  have := h2.size
  omega
theorem lit_Z (w : World) (x : Int) : Kd.C (Kd.int .i64) (w.alloc (.cells #[.int .i64 x] 3)) (some ⟨w.heap.size,0,none⟩) 1 [x] := by
 refine ⟨rfl,by simp,fun _ => ⟨_,rfl,fun j p hj => ⟨[.int .i64 p],rfl,rfl,fun i u hu => ?_⟩⟩⟩
 match j,i,hj,hu with
 | 0,0,hj,hu =>
  cases hj
  cases hu
  have e : (0 : Nat) * (Kd.int .i64).sz + 0 = 0 := by omega
  rw [e,add_plain,blk_cell (heap_alloc_new w _)]
  rfl
theorem chosen {w : World} {b N cap m : Nat} {ao : Option Addr} {C : List Int} {most : Int} (h : OwnZ w b (.slice ao C.length cap) C) (hN : C.length = N) (hm : m = (max 0 (min most N)).toNat) : OwnZ w b (.slice ao m cap) (C.take most.toNat) := by
 have e : C.take m = C.take most.toNat := List.take_eq_take_iff.2 (by omega)
 rw [← e]
 exact h.take (by omega)
theorem near_len (s : Gr) (q L : List Int) : (nearG s q L).length ≤ L.length := by
 rw [← near_compact]
 refine Nat.le_trans (compact_le _) ?_
 rw [sortH_len,List.length_map];exact List.length_filter_le _ _
section
variable {w0 w w' : World} {g : Nat} {F F' : Nat → Prop} {T : Nat → Nat → Prop} {s : Gr}
theorem enters_test : ∀ args w,(callFunc 64 args).run Try.prog w = .ok (.enter 64 args) w := Go.Proofs.enters_of Try.func64 (by kernel_rfl) rfl
theorem GT.blocked_ {W : World} (h : GT w0 W g F T s) (hm : 0 ≤ s.m) (hl : s.l.length ≤ 100000) {b11 b4 b14 b13 : Nat} {d : Int} {k : Nat} (hB : ClB W b11 b4 b14 b13 g ⟨d,k⟩) (hk : k < s.l.length) (l : List Int) (hp : ∀ x ∈ l, ∃ t : Nat,x = t ∧ t < s.l.length) (A : Option Addr) (c : Nat) (hC : Kd.C (Kd.int .i64) W A l.length l) (hll : l.length ≤ 100000) :
  Calls Try.prog 63 #[.slice A l.length c,.func (.func 64) #[] #[.pointer (some ⟨b11,0,none⟩),.pointer (some ⟨b4,0,none⟩),.pointer (some ⟨b14,0,none⟩),.pointer (some ⟨b13,0,none⟩)]] W fun e w' => e = .returned (.bool (blocked s l ⟨d,k⟩)) ∧ Below W.heap.size W w' :=
 containsZ_calls _ enters_test _ _ _ _ (fun t => decide (s.far (s.vec t) k < d)) (fun W => GT w0 W g F T s ∧ ClB W b11 b4 b14 b13 g ⟨d,k⟩) (fun W W' hh hb => ⟨hh.1.below hb,hh.2.below hb⟩) A c l (fun x hx W hh => by
  obtain ⟨t,rfl,ht⟩ := hp x hx
  exact hh.1.test_ hm hl hh.2 hk t ht) W hC hll ⟨h,hB⟩
theorem taken_in {q L : List Int} {most : Int} {i : Nat} : ∀ x ∈ (choose2 s most ((nearG s q L).take i)).1, ∃ t : Nat,x = t ∧ t < s.l.length := by
 intro x hx
 have hn : (((nearG s q L).take i).map S58.f1).Nodup := by
  rw [List.map_take];exact near_ids.sublist (List.take_sublist _ _)
 have := (choose_passed s most hn).2 x hx
 obtain ⟨y,hy,rfl⟩ := List.mem_map.1 this
 obtain ⟨p, -,hp,rfl⟩ := mem_near.1 (List.mem_of_mem_take hy)
 obtain ⟨k,jj,n,rfl, -,hn, -⟩ := there_iff.1 hp
 exact ⟨k,rfl,(List.getElem?_eq_some_iff.1 hn).1⟩
theorem step_snoc {q L : List Int} {most : Int} {i : Nat} {h : H} (hx : (nearG s q L)[i]? = some h) : choose2 s most ((nearG s q L).take (i + 1)) = chooseStep s most (choose2 s most ((nearG s q L).take i)) h := by
 obtain ⟨hi,rfl⟩ := List.getElem?_eq_some_iff.1 hx
 rw [List.take_succ_eq_append_getElem hi,choose2_snoc]
set_option maxHeartbeats 4000000 in
set_option maxRecDepth 100000 in
theorem GT.choose_ (h : GT w0 w g F T s) (hm : 0 ≤ s.m) (A : Option Addr) (c : Nat) (q : List Int) (hq : Kd.C (Kd.int .i32) w A q.length q) (hqc : q.length ≤ c) (A2 : Option Addr) (c2 : Nat) (L : List Int) (hL : Kd.C (Kd.int .i64) w A2 L.length L) (hl : s.l.length ≤ 100000) (hLl : L.length ≤ 100000) (most : Int) :
  Calls Try.prog 32 #[.pointer (some ⟨g,0,none⟩),.slice A q.length c,.slice A2 L.length c2,.int .i64 most] w fun e w' => (∃ v,e = .returned v ∧ OwnZ w' w.heap.size v (chooseG s q L most)) ∧ Below w.heap.size w w' := by
 have hu := Try.underlying58
 have HX := Aside0.mk h
 have HQ := Aside0.mk (And.intro hq hqc)
 have HL := Aside0.mk hL
 have HM := Aside0.mk (And.intro hm (And.intro hl hLl))
 clear h hq hqc hL hm hl hLl
 go_enter Try.func32,Try.ntmps32
 go_wp2_with (go_at_call 21;(with_reducible refine ((HX.out.below (below_alloc (below_alloc (Below.refl _ _) _) _)).near_ HM.out.1 A c q (Kd.C_below HQ.out.1 (below_alloc (below_alloc (Below.refl _ _) _) _)) HQ.out.2 A2 c2 L (Kd.C_below HL.out (below_alloc (below_alloc (Below.refl _ _) _) _)) HM.out.2.1 HM.out.2.2).mono ?_);rintro e w1 ⟨⟨v1,rfl,hv⟩,hb⟩;have HB4 := Aside0.mk (pw_cell_below hb (box4 w g));have HB11 := Aside0.mk (pw_cell_below hb (box11 w g));have HB1 := Aside0.mk (bel_trans (below_alloc (below_alloc (Below.refl _ _) _) _) hb);have HS1 := Aside0.mk hb.size;obtain ⟨ao,cp,rfl,hr⟩ := OwnH.R hv;have HR := Aside0.mk hr;clear hb hv hr)
 rw [World.size_alloc] at HS1
 go_loopg [9,10,24] (nearG s q L).length (fun gk v9 v10 v24 wr => ∃ i : Nat,v24 = .int .i64 i ∧ Aside0 (i ≤ (nearG s q L).length ∧ (nearG s q L).length - i ≤ gk) ∧ Aside0 (OwnZ wr w1.heap.size v9 (choose2 s most ((nearG s q L).take i)).1) ∧ Aside0 (OwnZ wr w1.heap.size v10 (choose2 s most ((nearG s q L).take i)).2) ∧ Aside0 (∀ k,v9.ownBlock = some k → v10.ownBlock ≠ some k) ∧ Aside0 (Below w1.heap.size w1 wr))
 case atStart => exact ⟨0,rfl,⟨by omega⟩,⟨OwnZ.nil _ _⟩,⟨OwnZ.nil _ _⟩,⟨fun k hk => by cases hk⟩,⟨Below.refl _ _⟩⟩
 case round =>
  obtain ⟨i,rfl,HI,HV9,HV10,HD,HB⟩ := hrel
  obtain ⟨st,hst⟩ : ∃ z,choose2 s most ((nearG s q L).take i) = z := ⟨_,rfl⟩
  rw [hst] at HV9 HV10
  have HST := Aside0.mk hst
  clear hst
  have HLN := Aside0.mk (near_len s q L)
  by_cases hi : i < (nearG s q L).length
  ·have q3 : (i : Int) < ((nearG s q L).length : Int) := by omega
   have q4 : decide (i < (nearG s q L).length) = true := decide_eq_true hi
   obtain ⟨ad,x,rfl,hx,c0,c1⟩ := HR.out.at hi
   obtain ⟨p,hpL,hp,hxe⟩ := mem_near.1 (List.mem_of_getElem? hx)
   obtain ⟨k,jj,n,rfl, -,hn, -⟩ := there_iff.1 hp
   obtain ⟨d,hd⟩ : ∃ z,s.far q (k : Int) = z := ⟨_,rfl⟩
   have hx2 : (⟨d,k⟩ : H) = x := by rw [← hxe,← hd];rfl
   subst hx2
   have HKL := Aside0.mk ((List.getElem?_eq_some_iff.1 hn).1)
   have HXI := Aside0.mk (And.intro hi hx)
   have hin : wrap64 ((i : Int) + 1) = ((i + 1 : Nat) : Int) := by have := HLN.out;have := HM.out;unfold wrap64;omega
   replace c0 := pw_cell_below HB.out c0
   replace c1 := pw_cell_below HB.out c1
   obtain ⟨ao9,cp9,rfl,hc9,hC9⟩ := HV9.out.C0
   have HC9 := Aside0.mk (And.intro hc9 hC9)
   clear hx hpL hp hxe hn hd hi hc9 hC9
   have hwk : wrap64 (k : Int) = (k : Int) := by have := HKL.out;have := HM.out;unfold wrap64;omega
   have BA := fun o1 o2 => below_alloc (below_alloc (Below.refl wr.heap.size wr) o1) o2
   have HG := Aside0.mk (bel_trans HB1.out HB.out)
   have HCB := Aside0.mk (show ClB ((wr.alloc (.cells #[.int .i64 d,.int .u32 (k : Int)] 58)).alloc (.cells #[.int .i64 (k : Int)] 3)) (w.heap.size + 1) w.heap.size (wr.heap.size + 1) wr.heap.size g ⟨d,k⟩ from ⟨pw_cell_below (BA _ _) (pw_cell_below HB.out HB11.out),pw_cell_below (BA _ _) (pw_cell_below HB.out HB4.out),(boxes2 wr d k).2,(boxes2 wr d k).1⟩)
   have HIN := Aside0.mk (show ∀ x ∈ st.1, ∃ t : Nat,x = t ∧ t < s.l.length by rw [← HST.out];exact taken_in)
   have HLL := Aside0.mk (show st.1.length + st.2.length = i by rw [← HST.out,(choose2_len s most _).1,List.length_take];have := HXI.out.1;omega)
   have HSN := Aside0.mk (show choose2 s most ((nearG s q L).take (i + 1)) = chooseStep s most st ⟨d,k⟩ by rw [step_snoc HXI.out.2,HST.out])
   have HBA := Aside0.mk (BA)
   obtain ⟨b,hb⟩ : ∃ z,blocked s st.1 ⟨d,k⟩ = z := ⟨_,rfl⟩
   have HBB := Aside0.mk hb
   obtain ⟨b2,hb2⟩ : ∃ z,decide (most ≤ (st.1.length : Int)) = z := ⟨_,rfl⟩
   have HB2B := Aside0.mk hb2
   have HST2 := Aside0.mk (show chooseStep s most st ⟨d,k⟩ = if (b || b2) = true then (st.1,st.2 ++ [(k : Int)]) else (st.1 ++ [(k : Int)],st.2) by rw [← hb,← hb2];rfl)
   clear hb BA
   cases b with
   | true =>
    go_wp2_with (first | (go_at_call 63;(with_reducible refine (GT.blocked_ (HX.out.below (bel_trans HG.out (HBA.out _ _))) HM.out.1 HM.out.2.1 HCB.out HKL.out st.1 HIN.out ao9 cp9 (Kd.C_below HC9.out.2 (HBA.out _ _)) (by have := HLL.out;have := HXI.out.1;have := HLN.out;have := HM.out;omega)).mono ?_);rintro e w2 ⟨rfl,hb⟩;rw [HBB.out];have HB2 := Aside0.mk (bel_trans (HBA.out _ _) hb);have HZ14 := Aside0.mk (pw_cell_below hb (boxes2 wr d k).2);clear hb;have z14 := HZ14.out) | (at_builtin;refine app_Z rfl _ _ rfl w1.heap.size _ st.2 [(k : Int)] (some ⟨w2.heap.size,0,none⟩) 1 1 rfl rfl rfl (HV10.out.below (below_trans_alloc HB2.out)) (lit_Z w2 k) (fun e => by cases e) (by have := HLL.out;have := HXI.out.1;have := HLN.out;have := HM.out;simp only [List.length_cons,List.length_nil];omega) (by rw [World.size_alloc];have := HB.out.size;have := HB2.out.size;omega) ?_;intro v3 w3 hv hO hat;have HV3 := Aside0.mk hv;have HT3 := Aside0.mk (two_step HB.out HV9.out HV10.out HD.out (below_trans_alloc HB2.out) hO hat);clear hv hO hat))
    obtain ⟨gm,rfl⟩ : ∃ z,gk = z + 1 := ⟨gk - 1,by have := HI.out;have := HXI.out.1;omega⟩
    go_roundg gm
    case measure => omega
    case rel =>
     have hs : choose2 s most ((nearG s q L).take (i + 1)) = _ := HSN.out.trans HST2.out
     refine ⟨i + 1,by go_num,⟨by have := HI.out;have := HXI.out.1;omega⟩,⟨?_⟩,⟨?_⟩,⟨?_⟩,⟨HT3.out.2.2⟩⟩
     ·rw [hs];exact HT3.out.1
     ·rw [hs];exact HV3.out
     ·exact HT3.out.2.1
   | false =>
    cases b2 with
    | true =>
     go_wp2_with (first | (go_at_call 63;(with_reducible refine (GT.blocked_ (HX.out.below (bel_trans HG.out (HBA.out _ _))) HM.out.1 HM.out.2.1 HCB.out HKL.out st.1 HIN.out ao9 cp9 (Kd.C_below HC9.out.2 (HBA.out _ _)) (by have := HLL.out;have := HXI.out.1;have := HLN.out;have := HM.out;omega)).mono ?_);rintro e w2 ⟨rfl,hb⟩;rw [HBB.out];have HB2 := Aside0.mk (bel_trans (HBA.out _ _) hb);have HZ14 := Aside0.mk (pw_cell_below hb (boxes2 wr d k).2);clear hb;have z14 := HZ14.out) | (at_builtin;refine app_Z rfl _ _ rfl w1.heap.size _ st.2 [(k : Int)] (some ⟨w2.heap.size,0,none⟩) 1 1 rfl rfl rfl (HV10.out.below (below_trans_alloc HB2.out)) (lit_Z w2 k) (fun e => by cases e) (by have := HLL.out;have := HXI.out.1;have := HLN.out;have := HM.out;simp only [List.length_cons,List.length_nil];omega) (by rw [World.size_alloc];have := HB.out.size;have := HB2.out.size;omega) ?_;intro v3 w3 hv hO hat;have HV3 := Aside0.mk hv;have HT3 := Aside0.mk (two_step HB.out HV9.out HV10.out HD.out (below_trans_alloc HB2.out) hO hat);clear hv hO hat))
     obtain ⟨gm,rfl⟩ : ∃ z,gk = z + 1 := ⟨gk - 1,by have := HI.out;have := HXI.out.1;omega⟩
     go_roundg gm
     case measure => omega
     case rel =>
      have hs : choose2 s most ((nearG s q L).take (i + 1)) = _ := HSN.out.trans HST2.out
      refine ⟨i + 1,by go_num,⟨by have := HI.out;have := HXI.out.1;omega⟩,⟨?_⟩,⟨?_⟩,⟨?_⟩,⟨HT3.out.2.2⟩⟩
      ·rw [hs];exact HT3.out.1
      ·rw [hs];exact HV3.out
      ·exact HT3.out.2.1
    | false =>
     go_wp2_with (first | (go_at_call 63;(with_reducible refine (GT.blocked_ (HX.out.below (bel_trans HG.out (HBA.out _ _))) HM.out.1 HM.out.2.1 HCB.out HKL.out st.1 HIN.out ao9 cp9 (Kd.C_below HC9.out.2 (HBA.out _ _)) (by have := HLL.out;have := HXI.out.1;have := HLN.out;have := HM.out;omega)).mono ?_);rintro e w2 ⟨rfl,hb⟩;rw [HBB.out];have HB2 := Aside0.mk (bel_trans (HBA.out _ _) hb);have HZ14 := Aside0.mk (pw_cell_below hb (boxes2 wr d k).2);clear hb;have z14 := HZ14.out) | (at_builtin;refine app_Z rfl _ _ rfl w1.heap.size _ st.1 [(k : Int)] (some ⟨w2.heap.size,0,none⟩) 1 1 rfl rfl rfl (HV9.out.below (below_trans_alloc HB2.out)) (lit_Z w2 k) (fun e => by cases e) (by have := HLL.out;have := HXI.out.1;have := HLN.out;have := HM.out;simp only [List.length_cons,List.length_nil];omega) (by rw [World.size_alloc];have := HB.out.size;have := HB2.out.size;omega) ?_;intro v3 w3 hv hO hat;have HV3 := Aside0.mk hv;have HT3 := Aside0.mk (two_step HB.out HV10.out HV9.out (fun k hk e => HD.out k e hk) (below_trans_alloc HB2.out) hO hat);clear hv hO hat))
     obtain ⟨gm,rfl⟩ : ∃ z,gk = z + 1 := ⟨gk - 1,by have := HI.out;have := HXI.out.1;omega⟩
     go_roundg gm
     case measure => omega
     case rel =>
      have hs : choose2 s most ((nearG s q L).take (i + 1)) = _ := HSN.out.trans HST2.out
      refine ⟨i + 1,by go_num,⟨by have := HI.out;have := HXI.out.1;omega⟩,⟨?_⟩,⟨?_⟩,⟨?_⟩,⟨HT3.out.2.2⟩⟩
      ·rw [hs];exact HV3.out
      ·rw [hs];exact HT3.out.1
      ·exact fun k hk e => HT3.out.2.1 k e hk
  ·have q3 : decide ((i : Int) < ((nearG s q L).length : Int)) = false := decide_eq_false (by omega)
   have q4 : decide (i < (nearG s q L).length) = false := decide_eq_false hi
   have HI0 := Aside0.mk (show i = (nearG s q L).length by have := HI.out;omega)
   have HST1 := Aside0.mk (show choose2 s most (nearG s q L) = st by have := HST.out;rwa [HI0.out,List.take_length] at this)
   have HLL := Aside0.mk (show st.1.length + st.2.length ≤ 100000 by rw [← HST1.out,(choose2_len s most _).1];have := HLN.out;have := HM.out;omega)
   obtain ⟨ao10,cp10,rfl,hc10,hC10⟩ := HV10.out.C0
   have HC10 := Aside0.mk (And.intro hc10 hC10)
   clear hi hc10 hC10
   obtain ⟨N,hN⟩ : ∃ z,(st.1 ++ st.2).length = z := ⟨_,rfl⟩
   obtain ⟨K,hK⟩ : ∃ z : Nat,max 0 (min most (N : Int)) = (z : Int) := ⟨(max 0 (min most (N : Int))).toNat,by omega⟩
   have hKN : K ≤ N := by omega
   have HK := Aside0.mk hK
   have HN := Aside0.mk hN
   clear hN
   go_wp2_with (at_builtin;refine app_Z rfl _ _ rfl w1.heap.size _ st.1 st.2 ao10 st.2.length cp10 rfl rfl rfl HV9.out HC10.out.2 HC10.out.1 (by have := HLL.out;omega) HB.out.size ?_;intro v3 w3 hv hO hat;obtain ⟨ao3,cp3,rfl,hcp3, -⟩ := OwnZ.C hv;have hkc : K ≤ cp3 := (by rw [HN.out] at hcp3;omega);rw [HN.out];have HV3 := Aside0.mk hv;have HB3 := Aside0.mk (hO.below_of HB.out (fun i hi => own_base HV9.out i hi));clear hv hO hat hcp3)
   all_goals
    have hm := HK.out
    go_ret
    refine ⟨⟨_,rfl, ?_⟩,bel_trans HB1.out HB3.out⟩
    unfold chooseG
    rw [HST1.out]
    exact (chosen (most := most) HV3.out HN.out (by omega)).weaken HB1.out.size
end
end Go.Proofs.Ytofmlajanopniaa.Li
namespace Go.Proofs.Ytofmlajanopniaa.Li
open Go.RowKit Go.Proofs.YtofmlajanopniaaW.PrintWords Go.Proofs.YtofmlajanopniaaW.PrintLast Go.Proofs.YtofmlajanopniaaW.PrintMore Go.Proofs.Ytofmlajanopniaa.Q Go.Proofs.Ytofmlajanopniaa.Tk
theorem R_empty {α : Type} (d : Kd α) (e : Nat) (w : World) (base : Nat) (hb : base ≤ w.heap.size) : d.R e (w.alloc (.cells #[] e)) base (fun _ => True) (.slice (some ⟨w.heap.size,0,none⟩) 0 0) [] :=
 ⟨fun _ _ => trivial,[],⟨by simp,.inr ⟨w.heap.size,0,#[],rfl,hb,heap_alloc_new w _,Nat.le_refl _,by unfold maxLen;omega,by simp,by simp⟩⟩,by simp,fun j x h => by simp at h⟩
set_option maxHeartbeats 2000000 in
set_option maxRecDepth 100000 in
theorem cloneI_calls (ao : Option Addr) (n cap : Nat) (B : List Int) (w : World) (hn : B.length = n) (hC : Kd.C (Kd.int .i32) w ao n B) (hl : n ≤ 1000000) :
  Calls Try.prog 66 #[.slice ao n cap] w fun e w' => (∃ v,e = .returned v ∧ (Kd.int .i32).R 21 w' w.heap.size (fun _ => True) v B) ∧ Below w.heap.size w w' := by
 cases ao with
 | none =>
  have h0 : n = 0 := by
   rcases Nat.eq_zero_or_pos n with h | h
   ·exact h
   ·obtain ⟨ad,e,_⟩ := hC.2.2 h;cases e
  have hB : B = [] := List.length_eq_zero_iff.1 (by omega)
  have HB := Aside0.mk hB
  have q22 : ∀ (w : World) (a : Option Addr) (n c n' c' : Nat),(binOp .eql 23 (.slice a n c) (.slice none n' c')).run Try.prog w = .ok (.bool a.isNone) w := fun w a n c n' c' => Lib.run_eql_slice_nil w _ _ a n c n' c' Try.underlying23
  clear hB hC h0 hn hl
  go_enter Try.func66,Try.ntmps66
  go_wp2
  go_ret
  exact ⟨⟨_,rfl,by rw [HB.out];exact Kd.R_nil _ _ _ _ _⟩,Below.refl _ _⟩
 | some ad =>
  have HC := Aside0.mk hC
  have HN := Aside0.mk hn
  clear hC hn
  have q22 : ∀ (w : World) (a : Option Addr) (n c n' c' : Nat),(binOp .eql 23 (.slice a n c) (.slice none n' c')).run Try.prog w = .ok (.bool a.isNone) w := fun w a n c n' c' => Lib.run_eql_slice_nil w _ _ a n c n' c' Try.underlying23
  go_enter Try.func66,Try.ntmps66
  go_wp2_with (at_builtin;go_must (refine Kd.R_append_rows (Kd.int .i32) w.heap.size rfl (.tmp 5) (.tmp 6) 23 21 (.int .i32 0) 4 rfl Try.underlying23 (by kernel_rfl) (by rfl) (by decide) (by decide) _ [] B (some ad) n cap (fun _ => True) (fun _ => False) rfl rfl (R_empty (Kd.int .i32) 21 w w.heap.size (Nat.le_refl _)) (Kd.C_below HC.out (below_alloc (Below.refl _ _) _)) (fun _ _ h => h) (fun k hk => hk.elim) (fun _ _ => trivial) (below_alloc (Below.refl _ _) _) (by rw [World.size_alloc];omega) (by show (0 + n) * 4 ≤ _;omega) ?_);intro v1 w1 h1 hb hg hat;rw [List.nil_append] at h1;have H1 := Aside0.mk h1;have HB := Aside0.mk hb;clear h1 hb hg hat)
  go_ret
  exact ⟨⟨_,rfl,H1.out⟩,HB.out⟩
set_option maxHeartbeats 2000000 in
set_option maxRecDepth 100000 in
theorem cloneS_calls (ao : Option Addr) (n cap : Nat) (B : List ByteArray) (w : World) (hn : B.length = n) (hC : Kd.C (Kd.string) w ao n B) (hl : n ≤ 1000000) :
  Calls Try.prog 67 #[.slice ao n cap] w fun e w' => (∃ v,e = .returned v ∧ (Kd.string).R 9 w' w.heap.size (fun _ => True) v B) ∧ Below w.heap.size w w' := by
 cases ao with
 | none =>
  have h0 : n = 0 := by
   rcases Nat.eq_zero_or_pos n with h | h
   ·exact h
   ·obtain ⟨ad,e,_⟩ := hC.2.2 h;cases e
  have hB : B = [] := List.length_eq_zero_iff.1 (by omega)
  have HB := Aside0.mk hB
  have q22 : ∀ (w : World) (a : Option Addr) (n c n' c' : Nat),(binOp .eql 24 (.slice a n c) (.slice none n' c')).run Try.prog w = .ok (.bool a.isNone) w := fun w a n c n' c' => Lib.run_eql_slice_nil w _ _ a n c n' c' Try.underlying24
  clear hB hC h0 hn hl
  go_enter Try.func67,Try.ntmps67
  go_wp2
  go_ret
  exact ⟨⟨_,rfl,by rw [HB.out];exact Kd.R_nil _ _ _ _ _⟩,Below.refl _ _⟩
 | some ad =>
  have HC := Aside0.mk hC
  have HN := Aside0.mk hn
  clear hC hn
  have q22 : ∀ (w : World) (a : Option Addr) (n c n' c' : Nat),(binOp .eql 24 (.slice a n c) (.slice none n' c')).run Try.prog w = .ok (.bool a.isNone) w := fun w a n c n' c' => Lib.run_eql_slice_nil w _ _ a n c n' c' Try.underlying24
  go_enter Try.func67,Try.ntmps67
  go_wp2_with (at_builtin;go_must (refine Kd.R_append_rows (Kd.string) w.heap.size rfl (.tmp 5) (.tmp 6) 24 9 (.string ByteArray.empty) 16 rfl Try.underlying24 (by kernel_rfl) (by rfl) (by decide) (by decide) _ [] B (some ad) n cap (fun _ => True) (fun _ => False) rfl rfl (R_empty (Kd.string) 9 w w.heap.size (Nat.le_refl _)) (Kd.C_below HC.out (below_alloc (Below.refl _ _) _)) (fun _ _ h => h) (fun k hk => hk.elim) (fun _ _ => trivial) (below_alloc (Below.refl _ _) _) (by rw [World.size_alloc];omega) (by show (0 + n) * 16 ≤ _;omega) ?_);intro v1 w1 h1 hb hg hat;rw [List.nil_append] at h1;have H1 := Aside0.mk h1;have HB := Aside0.mk hb;clear h1 hb hg hat)
  go_ret
  exact ⟨⟨_,rfl,H1.out⟩,HB.out⟩
set_option maxHeartbeats 2000000 in
set_option maxRecDepth 100000 in
theorem cloneZ_calls (ao : Option Addr) (n cap : Nat) (B : List Int) (w : World) (hn : B.length = n) (hC : Kd.C (Kd.int .i64) w ao n B) (hl : n ≤ 1000000) :
  Calls Try.prog 69 #[.slice ao n cap] w fun e w' => (∃ v,e = .returned v ∧ (Kd.int .i64).R 3 w' w.heap.size (fun _ => True) v B) ∧ Below w.heap.size w w' := by
 cases ao with
 | none =>
  have h0 : n = 0 := by
   rcases Nat.eq_zero_or_pos n with h | h
   ·exact h
   ·obtain ⟨ad,e,_⟩ := hC.2.2 h;cases e
  have hB : B = [] := List.length_eq_zero_iff.1 (by omega)
  have HB := Aside0.mk hB
  have q22 : ∀ (w : World) (a : Option Addr) (n c n' c' : Nat),(binOp .eql 40 (.slice a n c) (.slice none n' c')).run Try.prog w = .ok (.bool a.isNone) w := fun w a n c n' c' => Lib.run_eql_slice_nil w _ _ a n c n' c' Try.underlying40
  clear hB hC h0 hn hl
  go_enter Try.func69,Try.ntmps69
  go_wp2
  go_ret
  exact ⟨⟨_,rfl,by rw [HB.out];exact Kd.R_nil _ _ _ _ _⟩,Below.refl _ _⟩
 | some ad =>
  have HC := Aside0.mk hC
  have HN := Aside0.mk hn
  clear hC hn
  have q22 : ∀ (w : World) (a : Option Addr) (n c n' c' : Nat),(binOp .eql 40 (.slice a n c) (.slice none n' c')).run Try.prog w = .ok (.bool a.isNone) w := fun w a n c n' c' => Lib.run_eql_slice_nil w _ _ a n c n' c' Try.underlying40
  go_enter Try.func69,Try.ntmps69
  go_wp2_with (at_builtin;go_must (refine Kd.R_append_rows (Kd.int .i64) w.heap.size rfl (.tmp 5) (.tmp 6) 40 3 (.int .i64 0) 8 rfl Try.underlying40 (by kernel_rfl) (by rfl) (by decide) (by decide) _ [] B (some ad) n cap (fun _ => True) (fun _ => False) rfl rfl (R_empty (Kd.int .i64) 3 w w.heap.size (Nat.le_refl _)) (Kd.C_below HC.out (below_alloc (Below.refl _ _) _)) (fun _ _ h => h) (fun k hk => hk.elim) (fun _ _ => trivial) (below_alloc (Below.refl _ _) _) (by rw [World.size_alloc];omega) (by show (0 + n) * 8 ≤ _;omega) ?_);intro v1 w1 h1 hb hg hat;rw [List.nil_append] at h1;have H1 := Aside0.mk h1;have HB := Aside0.mk hb;clear h1 hb hg hat)
  go_ret
  exact ⟨⟨_,rfl,H1.out⟩,HB.out⟩
theorem OwnZ.of_R {w : World} {b : Nat} {ok : Nat → Prop} {v : Value} {L : List Int} (h : (Kd.int .i64).R 3 w b ok v L) : OwnZ w b v L := by
 obtain ⟨_,inner,ho,hl,hr⟩ := h
 have : inner = L.map (Value.int .i64) := by
  have hl2 : inner.length = L.length := by rw [hl];show L.length * 1 = L.length;omega
  apply List.ext_getElem?
  intro j
  by_cases hj : j < L.length
  ·have h1 : (inner.drop (j * 1)).take 1 = [.int .i64 L[j]] := hr j L[j] (List.getElem?_eq_getElem hj)
   rw [Nat.mul_one,List.drop_eq_getElem_cons (by omega)] at h1
   rw [List.getElem?_map,List.getElem?_eq_getElem hj,List.getElem?_eq_getElem (by omega)]
   exact congrArg some (List.cons.inj (h1 : inner[j] :: [] = _)).1
  ·rw [List.getElem?_eq_none (by omega),List.getElem?_eq_none (by simp;omega)]
 unfold OwnZ
 rw [← this]
 exact ho
theorem cloneOwn {ao : Option Addr} {cap : Nat} {B : List Int} {w : World} (hC : Kd.C (Kd.int .i64) w ao B.length B) (hl : B.length ≤ 1000000) :
  Calls Try.prog 69 #[.slice ao B.length cap] w fun e w' => (∃ v,e = .returned v ∧ OwnZ w' w.heap.size v B) ∧ Below w.heap.size w w' :=
 (cloneZ_calls ao B.length cap B w rfl hC hl).mono fun e w' ⟨⟨v,h1,h2⟩,h3⟩ => ⟨⟨v,h1,.of_R h2⟩,h3⟩
set_option maxHeartbeats 4000000 in
set_option maxRecDepth 100000 in
theorem indexOfZ_calls (A : Option Addr) (c : Nat) (l : List Int) (t : Int) (w : World) (hc : (Kd.int .i64).C w A l.length l) (hl : l.length ≤ 100000) :
  Calls Try.prog 70 #[.slice A l.length c,.int .i64 t] w fun e w' => (∃ r : Int,e = .returned (.int .i64 r) ∧ l.contains t = decide (0 ≤ r)) ∧ Below w.heap.size w w' := by
 have HC := Aside0.mk hc
 have HL := Aside0.mk hl
 clear hc hl
 go_enter Try.func70,Try.ntmps70
 go_wp2
 go_loopg [8] l.length (fun gk v8 wr => ∃ (i : Nat),v8 = .int .i64 i ∧ Aside0 (i ≤ l.length ∧ l.length - i ≤ gk) ∧ Aside0 ((l.take i).contains t = false) ∧ Aside0 (Below w.heap.size w wr))
 case atStart => exact ⟨0,rfl,⟨by omega,by omega⟩,⟨by simp⟩,⟨Below.refl _ _⟩⟩
 case round =>
  obtain ⟨i,rfl,HJ,HN,HB⟩ := hrel
  by_cases hi : i < l.length
  ·have hl := HL.out
   have q1 : decide ((i : Int) < (l.length : Int)) = true := decide_eq_true (by omega)
   have q2 : (i : Int) < (l.length : Int) := by omega
   obtain ⟨ad,rfl,c0⟩ := int_at HC.out hi
   obtain ⟨x,hx⟩ : ∃ z,l[i] = z := ⟨_,rfl⟩
   rw [hx] at c0
   have hin : wrap64 ((i : Int) + 1) = ((i + 1 : Nat) : Int) := by rw [Tk.wrap_small (by omega) (by omega)];omega
   replace c0 := pw_cell_below HB.out c0
   have HX := Aside0.mk (show l[i]? = some x by rw [← hx];exact List.getElem?_eq_getElem hi)
   have HI2 := Aside0.mk hi
   have HM := Aside0.mk (show x ∈ l by rw [← hx];exact List.getElem_mem hi)
   obtain ⟨r,hr⟩ : ∃ r,(t == x) = r := ⟨_,rfl⟩
   have HR := Aside0.mk hr
   have hr2 : decide (t = x) = r := by rw [← hr];rfl
   clear hx hi hl
   cases r with
   | true =>
    go_wp2
    go_ret
    exact ⟨⟨i,rfl,by have e := beq_iff_eq.1 HR.out;rw [List.contains_iff_mem.2 (by rw [e];exact HM.out)];exact (decide_eq_true (by omega)).symm⟩,HB.out⟩
   | false =>
    go_wp2
    obtain ⟨gk,rfl⟩ : ∃ m,gk = m + 1 := ⟨gk - 1,by have := HJ.out;have := HI2.out;omega⟩
    go_roundg gk
    case measure => omega
    case rel =>
     refine ⟨i + 1,by go_num,⟨by have := HJ.out;have := HI2.out;omega⟩,⟨?_⟩,HB⟩
     obtain ⟨hi,hx⟩ := List.getElem?_eq_some_iff.1 HX.out
     rw [List.take_succ_eq_append_getElem hi,List.contains_append,HN.out,hx]
     simp [decide_eq_false_iff_not.1 hr2]
  ·have q1 : decide ((i : Int) < (l.length : Int)) = false := decide_eq_false (by omega)
   have q2 : decide (i < l.length) = false := decide_eq_false hi
   have q3 : (i < l.length) = False := eq_false hi
   have hT : l.take i = l := List.take_of_length_le (by omega)
   have hn := HN.out
   rw [hT] at hn
   have HN2 := Aside0.mk hn
   clear hT hn hi
   go_wp2
   go_ret
   exact ⟨⟨-1,rfl,by rw [HN2.out];rfl⟩,HB.out⟩
set_option maxHeartbeats 4000000 in
set_option maxRecDepth 100000 in
theorem hasZ_calls (A : Option Addr) (c : Nat) (l : List Int) (t : Int) (w : World) (hc : (Kd.int .i64).C w A l.length l) (hl : l.length ≤ 100000) :
  Calls Try.prog 36 #[.slice A l.length c,.int .i64 t] w fun e w' => e = .returned (.bool (l.contains t)) ∧ Below w.heap.size w w' := by
 have H := Aside0.mk (indexOfZ_calls A c l t w hc hl)
 clear hc hl
 go_enter Try.func36,Try.ntmps36
 go_wp2_with ((go_at_call 70;(with_reducible refine H.out.mono ?_);rintro e w1 ⟨⟨r,rfl,hr⟩,hb⟩;have HB := Aside0.mk hb;have HR := Aside0.mk hr;clear hb hr))
 go_ret
 exact ⟨congrArg (fun z => Ending.returned (Value.bool z)) HR.out.symm,HB.out⟩
def nbL (s : Gr) (k j : Nat) : List Int := s.at_ k j ++ (if j = 0 then (if 0 < k then [(k : Int) - 1] else []) ++ (if (k : Int) < (s.l.length : Int) - 1 then [(k : Int) + 1] else []) else [])
theorem step_there {s : Gr} {q : List Int} {lv : Int} {W : Nat} {K : Wk} {i : Int} (h : s.there i lv = false) : stepN s q lv W K i = K := by
 unfold stepN
 rw [h,if_pos (by simp)]
theorem fold_nb {s : Gr} {q : List Int} {W : Nat} {K : Wk} {k j : Nat} : (nbL s k j).foldl (stepN s q j W) K = (nextG s k j).foldl (stepN s q j W) K := by
 unfold nbL nextG
 rw [List.foldl_append,List.foldl_append]
 generalize (s.at_ k j).foldl (stepN s q j W) K = K1
 by_cases hj : j = 0
 ·subst hj
  rw [if_pos rfl,if_pos (show ((0 : Nat) : Int) = 0 from rfl),List.foldl_append]
  have e1 : (if 0 < k then [(k : Int) - 1] else []).foldl (stepN s q (0 : Nat) W) K1 = stepN s q (0 : Nat) W K1 ((k : Int) - 1) := by
   by_cases hk : 0 < k
   ·rw [if_pos hk];rfl
   ·rw [if_neg hk,step_there (there_no (fun h => by have := (there_range h).1;omega))];rfl
  rw [e1]
  show _ = stepN s q (0 : Nat) W (stepN s q (0 : Nat) W K1 ((k : Int) - 1)) ((k : Int) + 1)
  generalize stepN s q (0 : Nat) W K1 ((k : Int) - 1) = K2
  by_cases hk : (k : Int) < (s.l.length : Int) - 1
  ·rw [if_pos hk];rfl
  ·rw [if_neg hk,step_there (there_no (fun h => by have := (there_range h).2.1;omega))];rfl
 ·rw [if_neg hj,if_neg (by omega)]
section
variable {w0 w w' : World} {g : Nat} {F F' : Nat → Prop} {T : Nat → Nat → Prop} {s : Gr}
set_option maxHeartbeats 4000000 in
set_option maxRecDepth 100000 in
theorem GT.nb_ (h : GT w0 w g F T s) (hl : s.l.length ≤ 100000) {k j : Nat} {n : Nd} {ls : List Int} (hn : s.l[k]? = some n) (hj : n.links[j]? = some ls) (hT : T k j) (hls : ls.length ≤ 100000) :
  Calls Try.prog 51 #[.pointer (some ⟨g,0,none⟩),.int .i64 k,.int .i64 j] w fun e w' => (∃ v,e = .returned v ∧ OwnZ w' w.heap.size v (nbL s k j)) ∧ Below w.heap.size w w' := by
 have hu := Try.underlying84
 have hu2 := Try.underlying37
 obtain ⟨ao,cap,hb, -,hnode⟩ := h.reads
 obtain ⟨ad,A1,c1,A2,c2,r,cl,rfl,hN,hLi⟩ := hnode k n hn
 obtain ⟨A,c,x1,x2,x3⟩ := hLi j ls hj hT
 have y1 := (blk_cell hb 1).trans rfl
 have y5 := hN.y5
 have q1 : (k : Int) < (s.l.length : Int) := by have := (List.getElem?_eq_some_iff.1 hn).1;omega
 have q2 : (j : Int) < (n.links.length : Int) := by have := (List.getElem?_eq_some_iff.1 hj).1;omega
 have HX := Aside0.mk h
 have HG := Aside0.mk hb
 have HC := Aside0.mk x3
 have HM := Aside0.mk (And.intro hl hls)
 have HAT := Aside0.mk (show s.at_ k j = ls by unfold Gr.at_;rw [lk_nat hn];simp [hj])
 clear h hb hnode hN hLi hj hn x2 x3 hl hls
 by_cases h0 : 0 < j
 ·have q3 : decide ((0 : Int) < (j : Int)) = true := decide_eq_true (by omega)
  have HJ := Aside0.mk h0
  have q4 : decide (0 < j) = true := decide_eq_true h0
  clear h0
  go_enter Try.func51,Try.ntmps51
  go_wp2_with (go_at_call 69;(with_reducible refine (cloneOwn HC.out (by have := HM.out;omega)).mono ?_);rintro e w1 ⟨⟨v1,rfl,hv⟩,hb⟩;have HV1 := Aside0.mk hv;have HB1 := Aside0.mk hb;clear hv hb)
  go_ret
  refine ⟨⟨_,rfl, ?_⟩,HB1.out⟩
  unfold nbL
  rw [HAT.out,if_neg (by have := HJ.out;omega),List.append_nil]
  exact HV1.out
 ·obtain rfl : j = 0 := by omega
  have q3 : decide ((0 : Int) < ((0 : Nat) : Int)) = false := rfl
  have hw1 : wrap64 ((k : Int) - 1) = (k : Int) - 1 := by have := HM.out;unfold wrap64;omega
  have hw2 : wrap64 ((k : Int) + 1) = (k : Int) + 1 := by have := HM.out;unfold wrap64;omega
  have hw3 : wrap64 ((s.l.length : Int) - 1) = (s.l.length : Int) - 1 := by have := HM.out;unfold wrap64;omega
  by_cases h0 : 0 < k
  ·by_cases h1 : (k : Int) < (s.l.length : Int) - 1
   ·skip
    have HNB := Aside0.mk (show nbL s k 0 = s.at_ k (0 : Nat) ++ [(k : Int) - 1] ++ [(k : Int) + 1] by unfold nbL;rw [if_pos rfl,if_pos h0,if_pos h1];simp)
    have q4 : decide ((0 : Int) < (k : Int)) = true := decide_eq_true (by omega)
    have q6 : decide (0 < k) = true := decide_eq_true h0
    have q5 : decide ((k : Int) < (s.l.length : Int) - 1) = true := decide_eq_true h1
    clear h0 h1
    go_enter Try.func51,Try.ntmps51
    go_wp2_with (first | (go_at_call 69;(with_reducible refine (cloneOwn HC.out (by have := HM.out;omega)).mono ?_);rintro e w1 ⟨⟨v1,rfl,hv⟩,hb⟩;have HV1 := Aside0.mk hv;have HB1 := Aside0.mk hb;have y1 := (blk_cell (blk_below HG.out hb) 1).trans rfl;clear hv hb) | (at_builtin;refine app_Z rfl _ _ rfl w.heap.size _ ls [(k : Int) - 1] (some ⟨w1.heap.size,0,none⟩) 1 1 rfl rfl rfl (HV1.out.below (below_trans_alloc (Below.refl _ _))) (lit_Z w1 ((k : Int) - 1)) (fun e => by cases e) (by have := HM.out;simp only [List.length_append,List.length_cons,List.length_nil];omega) (by rw [World.size_alloc];have := HB1.out.size;omega) ?_;intro v3 w3 hv hO hat;have HV3 := Aside0.mk hv;have HB3 := Aside0.mk (hO.below_of (below_alloc HB1.out _) (fun i hi => own_base HV1.out i hi));clear hv hO hat;have y1 := (blk_cell (blk_below HG.out HB3.out) 1).trans rfl) | (at_builtin;refine app_Z rfl _ _ rfl w.heap.size _ (ls ++ [(k : Int) - 1]) [(k : Int) + 1] (some ⟨w3.heap.size,0,none⟩) 1 1 rfl rfl rfl (HV3.out.below (below_trans_alloc (Below.refl _ _))) (lit_Z w3 ((k : Int) + 1)) (fun e => by cases e) (by have := HM.out;simp only [List.length_append,List.length_cons,List.length_nil];omega) (by rw [World.size_alloc];have := HB3.out.size;omega) ?_;intro v4 w4 hv hO hat;have HV4 := Aside0.mk hv;have HB4 := Aside0.mk (hO.below_of (below_alloc HB3.out _) (fun i hi => own_base HV3.out i hi));clear hv hO hat))
    go_ret
    refine ⟨⟨_,rfl, ?_⟩,HB4.out⟩
    rw [HNB.out,HAT.out]
    exact HV4.out
   ·skip
    have HNB := Aside0.mk (show nbL s k 0 = s.at_ k (0 : Nat) ++ [(k : Int) - 1] by unfold nbL;rw [if_pos rfl,if_pos h0,if_neg h1];simp)
    have q4 : decide ((0 : Int) < (k : Int)) = true := decide_eq_true (by omega)
    have q6 : decide (0 < k) = true := decide_eq_true h0
    have q5 : decide ((k : Int) < (s.l.length : Int) - 1) = false := decide_eq_false h1
    clear h0 h1
    go_enter Try.func51,Try.ntmps51
    go_wp2_with (first | (go_at_call 69;(with_reducible refine (cloneOwn HC.out (by have := HM.out;omega)).mono ?_);rintro e w1 ⟨⟨v1,rfl,hv⟩,hb⟩;have HV1 := Aside0.mk hv;have HB1 := Aside0.mk hb;have y1 := (blk_cell (blk_below HG.out hb) 1).trans rfl;clear hv hb) | (at_builtin;refine app_Z rfl _ _ rfl w.heap.size _ ls [(k : Int) - 1] (some ⟨w1.heap.size,0,none⟩) 1 1 rfl rfl rfl (HV1.out.below (below_trans_alloc (Below.refl _ _))) (lit_Z w1 ((k : Int) - 1)) (fun e => by cases e) (by have := HM.out;simp only [List.length_append,List.length_cons,List.length_nil];omega) (by rw [World.size_alloc];have := HB1.out.size;omega) ?_;intro v3 w3 hv hO hat;have HV3 := Aside0.mk hv;have HB3 := Aside0.mk (hO.below_of (below_alloc HB1.out _) (fun i hi => own_base HV1.out i hi));clear hv hO hat;have y1 := (blk_cell (blk_below HG.out HB3.out) 1).trans rfl))
    go_ret
    refine ⟨⟨_,rfl, ?_⟩,HB3.out⟩
    rw [HNB.out,HAT.out]
    exact HV3.out
  ·by_cases h1 : (k : Int) < (s.l.length : Int) - 1
   ·skip
    have HNB := Aside0.mk (show nbL s k 0 = s.at_ k (0 : Nat) ++ [(k : Int) + 1] by unfold nbL;rw [if_pos rfl,if_neg h0,if_pos h1];simp)
    have q4 : decide ((0 : Int) < (k : Int)) = false := decide_eq_false (by omega)
    have q6 : decide (0 < k) = false := decide_eq_false h0
    have q5 : decide ((k : Int) < (s.l.length : Int) - 1) = true := decide_eq_true h1
    clear h0 h1
    go_enter Try.func51,Try.ntmps51
    go_wp2_with (first | (go_at_call 69;(with_reducible refine (cloneOwn HC.out (by have := HM.out;omega)).mono ?_);rintro e w1 ⟨⟨v1,rfl,hv⟩,hb⟩;have HV1 := Aside0.mk hv;have HB1 := Aside0.mk hb;have y1 := (blk_cell (blk_below HG.out hb) 1).trans rfl;clear hv hb) | (at_builtin;refine app_Z rfl _ _ rfl w.heap.size _ ls [(k : Int) + 1] (some ⟨w1.heap.size,0,none⟩) 1 1 rfl rfl rfl (HV1.out.below (below_trans_alloc (Below.refl _ _))) (lit_Z w1 ((k : Int) + 1)) (fun e => by cases e) (by have := HM.out;simp only [List.length_append,List.length_cons,List.length_nil];omega) (by rw [World.size_alloc];have := HB1.out.size;omega) ?_;intro v3 w3 hv hO hat;have HV3 := Aside0.mk hv;have HB3 := Aside0.mk (hO.below_of (below_alloc HB1.out _) (fun i hi => own_base HV1.out i hi));clear hv hO hat))
    go_ret
    refine ⟨⟨_,rfl, ?_⟩,HB3.out⟩
    rw [HNB.out,HAT.out]
    exact HV3.out
   ·skip
    have HNB := Aside0.mk (show nbL s k 0 = s.at_ k (0 : Nat) by unfold nbL;rw [if_pos rfl,if_neg h0,if_neg h1];simp)
    have q4 : decide ((0 : Int) < (k : Int)) = false := decide_eq_false (by omega)
    have q6 : decide (0 < k) = false := decide_eq_false h0
    have q5 : decide ((k : Int) < (s.l.length : Int) - 1) = false := decide_eq_false h1
    clear h0 h1
    go_enter Try.func51,Try.ntmps51
    go_wp2_with (first | (go_at_call 69;(with_reducible refine (cloneOwn HC.out (by have := HM.out;omega)).mono ?_);rintro e w1 ⟨⟨v1,rfl,hv⟩,hb⟩;have HV1 := Aside0.mk hv;have HB1 := Aside0.mk hb;have y1 := (blk_cell (blk_below HG.out hb) 1).trans rfl;clear hv hb))
    go_ret
    refine ⟨⟨_,rfl, ?_⟩,HB1.out⟩
    rw [HNB.out,HAT.out]
    exact HV1.out
end
end Go.Proofs.Ytofmlajanopniaa.Li
