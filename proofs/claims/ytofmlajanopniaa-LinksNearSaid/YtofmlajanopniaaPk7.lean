/- Texts of this claim,one behind the other: words,walks,plain laws. No condition. -/
import Derived.Test.YtofmlajanopniaaPk1
import Derived.Test.YtofmlajanopniaaPk6
import Derived.Test.YtofmlajanopniaaPk5
set_option linter.unusedVariables false
set_option linter.unusedSimpArgs false
namespace Go.Proofs.Ytofmlajanopniaa.Li
open Go.RowKit Go.Maps Go.Proofs.YtofmlajanopniaaW.PrintWords Go.Proofs.YtofmlajanopniaaW.PrintLast Go.Proofs.YtofmlajanopniaaW.PrintMore Go.Proofs.Ytofmlajanopniaa.Q Go.Proofs.Ytofmlajanopniaa.Tk
/-! ### Plain -/
structure Inv (s : Gr) (n : Nat) : Prop where
 good : Good s
 m : 0 ≤ s.m
 len : s.l.length ≤ n
 sm : ∀ (i : Nat) (nd : Nd),s.l[i]? = some nd → nd.vec.length ≤ 100000 ∧ nd.tags.length ≤ 100000
section
variable {s : Gr} {n n' : Nat}
theorem Inv.nil {m : Int} (h : 0 ≤ m) : Inv ⟨m,[]⟩ 0 := ⟨Good.nil m,h,Nat.le_refl _,fun i nd h => by simp at h⟩
theorem Inv.mono (h : Inv s n) (hn : n ≤ n') : Inv s n' := ⟨h.good,h.m,Nat.le_trans h.len hn,h.sm⟩
theorem Inv.lk (h : Inv s n) (i : Nat) (nd : Nd) (hi : s.l[i]? = some nd) : nd.links.length ≤ 5 ∧ ∀ l ∈ nd.links,l.length ≤ n := by
 refine ⟨(h.good.lv1 i nd hi).2,fun l hl => ?_⟩
 obtain ⟨j,hj,rfl⟩ := List.getElem_of_mem hl
 exact Nat.le_trans (good_len h.good hi (List.getElem?_eq_getElem hj)) h.len
theorem Inv.add (h : Inv s n) (id : Int) {vec : List Int} {tags : List ByteArray} (lv v : Int) (h1 : vec.length ≤ 100000) (h2 : tags.length ≤ 100000) : Inv (s.add id vec tags lv v) (n + 1) := by
 refine ⟨h.good.add _ _ _ _ _,h.m,by unfold Gr.add;simp;exact h.len,fun i nd hi => ?_⟩
 unfold Gr.add at hi
 dsimp only at hi
 by_cases hc : i < s.l.length
 ·rw [List.getElem?_append_left hc] at hi
  exact h.sm i nd hi
 ·rw [List.getElem?_append_right (by omega)] at hi
  have h0 : i - s.l.length = 0 := by have := (List.getElem?_eq_some_iff.1 hi).1;simp at this;omega
  rw [h0] at hi
  cases hi
  exact ⟨h1,h2⟩
theorem set_keeps {f : Nd → Nd} (hf : ∀ x,(f x).vec = x.vec ∧ (f x).tags = x.tags) {l : List Nd} {i k : Nat} {x nd : Nd} (hx : l[i]? = some x) (hk : (l.set i (f x))[k]? = some nd) : ∃ y,l[k]? = some y ∧ nd.vec = y.vec ∧ nd.tags = y.tags := by
 rw [List.getElem?_set] at hk
 by_cases e : i = k
 ·subst e
  rw [if_pos rfl] at hk
  split at hk
  ·injection hk with hk
   subst hk
   exact ⟨x,hx,hf x⟩
  ·cases hk
 ·rw [if_neg e] at hk
  exact ⟨nd,hk,rfl,rfl⟩
theorem Inv.until_ (h : Inv s n) (i : Nat) (v : Int) : Inv (s.until_ i v) n := by
 refine ⟨h.good.until_ i v,h.m, ?_,fun k nd hk => ?_⟩
 ·rw [setUn_l];exact h.len
 ·unfold Gr.until_ at hk
  cases hx : s.l[i]? with
  | none => rw [hx] at hk;exact h.sm k nd hk
  | some x =>
   rw [hx] at hk
   obtain ⟨y,h1,h2,h3⟩ := set_keeps (f := fun x => setUn x v) (fun _ => ⟨rfl,rfl⟩) hx hk
   have := h.sm k y h1
   rw [h2,h3];exact this
theorem setL_l {a lv : Nat} {ls : List Int} : (s.setL a lv ls).l.length = s.l.length := by
 unfold Gr.setL
 cases s.l[a]? with
 | none => rfl
 | some n => exact List.length_set
theorem Inv.link (h : Inv s n) (a b lv most : Int) : Inv (s.link a b lv most).2 n := by
 have hg := h.good.link a b lv most
 unfold Gr.link at hg ⊢
 split
 ·exact h
 ·next hc =>
  rw [if_neg hc] at hg
  refine ⟨hg,h.m, ?_,fun k nd hk => ?_⟩
  ·show (s.setL _ _ _).l.length ≤ n
   rw [setL_l];exact h.len
  ·dsimp only at hk
   unfold Gr.setL at hk
   cases hx : s.l[a.toNat]? with
   | none => rw [hx] at hk;exact h.sm k nd hk
   | some x =>
    rw [hx] at hk
    obtain ⟨y,h1,h2,h3⟩ := set_keeps (f := fun x => setLk x lv.toNat (linked s a b lv most)) (fun _ => ⟨rfl,rfl⟩) hx hk
    have := h.sm k y h1
    rw [h2,h3];exact this
end
/-! ### Both in memory -/
structure M2 (X : Nat → Prop) (w0 w : World) (g gr : Nat) (s1 s2 : Gr) : Prop where
 out : ∃ F FD,GX w0 w g F s1 ∧ DX w0 w gr FD s2 ∧ (∀ k,F k → ¬ FD k) ∧ (∀ k,F k → ¬ X k) ∧ (∀ k,FD k → ¬ X k)
 xl : ∀ k,X k → k < w.heap.size
def KeepX (X : Nat → Prop) (w w' : World) : Prop := ∀ k,X k → w'.heap[k]? = w.heap[k]?
section
variable {X X' : Nat → Prop} {w0 w w' : World} {g gr : Nat} {s s1 s2 : Gr}
theorem M2.at0 (h : M2 X w0 w g gr s1 s2) : Below w0.heap.size w0 w := by obtain ⟨F,FD,h1,_⟩ := h.out;exact h1.at0
theorem M2.below (h : M2 X w0 w g gr s1 s2) (hb : Below w.heap.size w w') : M2 X w0 w' g gr s1 s2 := by
 obtain ⟨F,FD,h1,h2,h3,h4,h5⟩ := h.out
 exact ⟨⟨F,FD,h1.below hb,h2.below hb,h3,h4,h5⟩,fun k hk => Nat.lt_of_lt_of_le (h.xl k hk) hb.size⟩
theorem M2.keepB (h : M2 X w0 w g gr s1 s2) (hb : Below w.heap.size w w') : KeepX X w w' := fun k hk => hb.block k (h.xl k hk)
theorem M2.less (h : M2 X w0 w g gr s1 s2) (hX : ∀ k,X' k → X k) : M2 X' w0 w g gr s1 s2 := by
 obtain ⟨F,FD,h1,h2,h3,h4,h5⟩ := h.out
 exact ⟨⟨F,FD,h1,h2,h3,fun k hk hx => h4 k hk (hX k hx),fun k hk hx => h5 k hk (hX k hx)⟩,fun k hk => h.xl k (hX k hk)⟩
theorem M2.box (h : M2 X w0 w g gr s1 s2) (hb : Below w.heap.size w w') {b : Nat} (h1 : w.heap.size ≤ b) (h2 : b < w'.heap.size) : M2 (fun k => X k ∨ k = b) w0 w' g gr s1 s2 := by
 obtain ⟨F,FD,e1,e2,e3,e4,e5⟩ := h.out
 have l1 := e1.low
 have l2 := e2.low
 refine ⟨⟨F,FD,e1.below hb,e2.below hb,e3,fun k hk hx => ?_,fun k hk hx => ?_⟩,fun k hk => ?_⟩
 ·rcases hx with hx | hx
  ·exact e4 k hk hx
  ·have := (l1 k hk).2;omega
 ·rcases hx with hx | hx
  ·exact e5 k hk hx
  ·have := (l2 k hk).2;omega
 ·rcases hk with hk | hk
  ·exact Nat.lt_of_lt_of_le (h.xl k hk) hb.size
  ·omega
theorem M2.prog {s1' : Gr} {F FD F' : Nat → Prop} (h1 : GX w0 w g F s1) (h2 : DX w0 w gr FD s2) (h3 : ∀ k,F k → ¬ FD k) (h4 : ∀ k,F k → ¬ X k) (h5 : ∀ k,FD k → ¬ X k) (hx : ∀ k,X k → k < w.heap.size) (hG : GX w0 w' g F' s1') (hF : ∀ k,F' k → more F w w' k) (hO : Only F w w') : M2 X w0 w' g gr s1' s2 ∧ KeepX X w w' := by
 have l2 := h2.low
 refine ⟨⟨⟨F',FD,hG,h2.beside hO (fun k hk hf => h3 k hf hk) (fun k hk => (h1.low k hk).1),fun k hk hd => ?_,fun k hk hxk => ?_,h5⟩,fun k hk => Nat.lt_of_lt_of_le (hx k hk) hO.size⟩,fun k hk => hO.block k (hx k hk) (fun hf => h4 k hf hk)⟩
 ·rcases hF k hk with hk | hk
  ·exact h3 k hk hd
  ·have := (l2 k hd).2;have := hk.1;omega
 ·rcases hF k hk with hk | hk
  ·exact h4 k hk hxk
  ·have := hx k hxk;have := hk.1;omega
theorem M2.doc {s2' : Gr} {F FD F' : Nat → Prop} (h1 : GX w0 w g F s1) (h2 : DX w0 w gr FD s2) (h3 : ∀ k,F k → ¬ FD k) (h4 : ∀ k,F k → ¬ X k) (h5 : ∀ k,FD k → ¬ X k) (hx : ∀ k,X k → k < w.heap.size) (hG : DX w0 w' gr F' s2') (hF : ∀ k,F' k → more FD w w' k) (hO : Only FD w w') : M2 X w0 w' g gr s1 s2' ∧ KeepX X w w' := by
 have l1 := h1.low
 refine ⟨⟨⟨F,F',h1.beside hO (fun k hk hf => h3 k hk hf) (fun k hk => (h2.low k hk).1),hG,fun k hk hd => ?_,h4,fun k hk hxk => ?_⟩,fun k hk => Nat.lt_of_lt_of_le (hx k hk) hO.size⟩,fun k hk => hO.block k (hx k hk) (fun hf => h5 k hf hk)⟩
 ·rcases hF k hd with hd | hd
  ·exact h3 k hk hd
  ·have := (l1 k hk).2;have := hd.1;omega
 ·rcases hF k hk with hk | hk
  ·exact h5 k hk hxk
  ·have := hx k hxk;have := hk.1;omega
/-! ### Ops -/
theorem M2.addP (h : M2 X w0 w g gr s1 s2) {n : Nat} (hi : Inv s1 n) (hn : n ≤ 90000) (id : Int) (vec : List Int) (tags : List ByteArray) (A1 : Option Addr) (c1 : Nat) (A2 : Option Addr) (c2 : Nat) (hf1 : vec.length ≤ c1) (hC1 : Kd.C (Kd.int .i32) w A1 vec.length vec) (hf2 : tags.length ≤ c2) (hC2 : Kd.C Kd.string w A2 tags.length tags) (hl1 : vec.length ≤ 100000) (hl2 : tags.length ≤ 100000) (lv v : Int) :
  Calls Try.prog 13 #[.pointer (some ⟨g,0,none⟩),.agg #[.int .u32 id,.slice A1 vec.length c1,.slice A2 tags.length c2],.int .i64 lv,.int .u64 v] w fun e w' => e = .returned (.int .i64 s1.l.length) ∧ M2 X w0 w' g gr (s1.add id vec tags lv v) s2 ∧ KeepX X w w' := by
 obtain ⟨F,FD,h1,h2,h3,h4,h5⟩ := h.out
 exact (h1.add_ (Nat.le_trans hi.len hn) id vec tags A1 c1 A2 c2 hf1 hC1 hf2 hC2 hl1 hl2 lv v).mono fun e w' ⟨he,hG,hO⟩ => ⟨he,M2.prog h1 h2 h3 h4 h5 h.xl hG (fun k hk => hk) hO⟩
theorem M2.addD (h : M2 X w0 w g gr s1 s2) (hl : s2.l.length ≤ 90000) (id : Int) (vec : List Int) (tags : List ByteArray) (A1 : Option Addr) (c1 : Nat) (A2 : Option Addr) (c2 : Nat) (hf1 : vec.length ≤ c1) (hC1 : Kd.C (Kd.int .i32) w0 A1 vec.length vec) (hf2 : tags.length ≤ c2) (hC2 : Kd.C Kd.string w0 A2 tags.length tags) (lv v : Int) :
  Calls Try.prog 38 #[.pointer (some ⟨gr,0,none⟩),.agg #[.int .u32 id,.slice A1 vec.length c1,.slice A2 tags.length c2],.int .i64 lv,.int .u64 v] w fun e w' => e = .returned (.int .i64 s2.l.length) ∧ M2 X w0 w' g gr s1 (s2.add id vec tags lv v) ∧ KeepX X w w' := by
 obtain ⟨F,FD,h1,h2,h3,h4,h5⟩ := h.out
 exact (h2.add_ hl id vec tags A1 c1 A2 c2 (fun fr ls W hW => ⟨hf1,Kd.C_below hC1 hW,hf2,Kd.C_below hC2 hW⟩) lv v).mono fun e w' ⟨he,hG,hO⟩ => ⟨he,M2.doc h1 h2 h3 h4 h5 h.xl hG (fun k hk => hk) hO⟩
theorem link_parts {a b lv : Int} (hc : ¬ (!s.there a lv || !s.there b lv || a == b) = true) : ∃ (ka kb j : Nat) (nd : Nd) (ls : List Int),a = ka ∧ b = kb ∧ lv = j ∧ s.l[ka]? = some nd ∧ nd.links[j]? = some ls ∧ s.there ka j = true ∧ s.there kb j = true ∧ ka ≠ kb := by
 have h1 : s.there a lv = true := by cases h : s.there a lv with | true => rfl | false => rw [h] at hc;simp at hc
 have h2 : s.there b lv = true := by cases h : s.there b lv with | true => rfl | false => rw [h] at hc;simp at hc
 have h3 : a ≠ b := fun e => by rw [e] at hc;simp at hc
 obtain ⟨ka,j,nd,rfl,rfl,hn,hj⟩ := there_iff.1 h1
 obtain ⟨kb,j2,nd2,rfl,e,hn2,hj2⟩ := there_iff.1 h2
 exact ⟨ka,kb,j,nd,_,rfl,rfl,rfl,hn,List.getElem?_eq_getElem hj,h1,h2,fun e => h3 (by rw [e])⟩
theorem M2.linkP (h : M2 X w0 w g gr s1 s2) {n : Nat} (hi : Inv s1 n) (hn : n ≤ 90000) (a b lv most : Int) :
  Calls Try.prog 14 #[.pointer (some ⟨g,0,none⟩),.int .i64 a,.int .i64 b,.int .i64 lv,.int .i64 most] w fun e w' => e = .returned (.bool (s1.link a b lv most).1) ∧ M2 X w0 w' g gr (s1.link a b lv most).2 s2 ∧ KeepX X w w' := by
 obtain ⟨F,FD,h1,h2,h3,h4,h5⟩ := h.out
 by_cases hc : (!s1.there a lv || !s1.there b lv || a == b) = true
 ·rw [show s1.link a b lv most = (false,s1) by unfold Gr.link;rw [if_pos hc]]
  exact (h1.link_no a b lv most hc).mono fun e w' ⟨he,hb⟩ => ⟨he,h.below hb,h.keepB hb⟩
 ·rw [show s1.link a b lv most = (true,s1.setL a.toNat lv.toNat (linked s1 a b lv most)) by unfold Gr.link;rw [if_neg hc]]
  obtain ⟨ka,kb,j,nd,ls,rfl,rfl,rfl,hnd,hj,ha,hb,hab⟩ := link_parts hc
  have hls := (hi.lk ka nd hnd).2 ls (List.mem_of_getElem? hj)
  exact (h1.link_yes hi.m (by have := hi.len;omega) hnd hj (by omega) most ha hb hab).mono fun e w' ⟨he,⟨F',hG,hF⟩,hO⟩ => ⟨he,M2.prog h1 h2 h3 h4 h5 h.xl hG hF hO⟩
theorem M2.linkD (h : M2 X w0 w g gr s1 s2) {n : Nat} (hi : Inv s2 n) (hn : n ≤ 90000) (a b lv most : Int) :
  Calls Try.prog 39 #[.pointer (some ⟨gr,0,none⟩),.int .i64 a,.int .i64 b,.int .i64 lv,.int .i64 most] w fun e w' => e = .returned (.bool (s2.link a b lv most).1) ∧ M2 X w0 w' g gr s1 (s2.link a b lv most).2 ∧ KeepX X w w' := by
 obtain ⟨F,FD,h1,h2,h3,h4,h5⟩ := h.out
 by_cases hc : (!s2.there a lv || !s2.there b lv || a == b) = true
 ·rw [show s2.link a b lv most = (false,s2) by unfold Gr.link;rw [if_pos hc]]
  exact (h2.link_no a b lv most hc).mono fun e w' ⟨he,hb⟩ => ⟨he,h.below hb,h.keepB hb⟩
 ·rw [show s2.link a b lv most = (true,s2.setL a.toNat lv.toNat (linked s2 a b lv most)) by unfold Gr.link;rw [if_neg hc]]
  obtain ⟨ka,kb,j,nd,ls,rfl,rfl,rfl,hnd,hj,ha,hb,hab⟩ := link_parts hc
  have hls := (hi.lk ka nd hnd).2 ls (List.mem_of_getElem? hj)
  have hnl := (hi.lk ka nd hnd).1
  exact (h2.link_yes hi.m (by have := hi.len;omega) hnd hj (by omega) (by omega) most ha hb hab).mono fun e w' ⟨he,⟨F',hG,hF⟩,hO⟩ => ⟨he,M2.doc h1 h2 h3 h4 h5 h.xl hG hF hO⟩
theorem M2.untilP (h : M2 X w0 w g gr s1 s2) (a v : Int) :
  Calls Try.prog 40 #[.pointer (some ⟨g,0,none⟩),.int .i64 a,.int .u64 v] w fun e w' => e = .returned (.bool (s1.there a 0)) ∧ M2 X w0 w' g gr (if s1.there a 0 = true then s1.until_ a.toNat v else s1) s2 ∧ KeepX X w w' := by
 obtain ⟨F,FD,h1,h2,h3,h4,h5⟩ := h.out
 cases hc : s1.there a 0 with
 | false =>
  rw [if_neg (by simp)]
  exact (h1.until_no a v hc).mono fun e w' ⟨he,hb⟩ => ⟨he,h.below hb,h.keepB hb⟩
 | true =>
  rw [if_pos rfl]
  obtain ⟨k,j,nd,rfl, -,hnd, -⟩ := there_iff.1 hc
  exact (h1.until_yes k v hc).mono fun e w' ⟨he,hG,hO⟩ => ⟨he,M2.prog h1 h2 h3 h4 h5 h.xl hG (fun k hk => .inl hk) hO⟩
theorem M2.thereD (h : M2 X w0 w g gr s1 s2) (i lv : Int) : Calls Try.prog 41 #[.pointer (some ⟨gr,0,none⟩),.int .i64 i,.int .i64 lv] w fun e w' => e = .returned (.bool (s2.there i lv)) ∧ Below w.heap.size w w' := by
 obtain ⟨F,FD,h1,h2,_⟩ := h.out
 exact h2.there_ i lv _ rfl
theorem M2.lenP (h : M2 X w0 w g gr s1 s2) : Calls Try.prog 18 #[.pointer (some ⟨g,0,none⟩)] w fun e w' => e = .returned (.int .i64 s1.l.length) ∧ Below w.heap.size w w' := by
 obtain ⟨F,FD,h1,h2,_⟩ := h.out
 exact h1.len_
theorem M2.nearP (h : M2 X w0 w g gr s1 s2) {n : Nat} (hi : Inv s1 n) (hn : n ≤ 90000) (A : Option Addr) (c : Nat) (q : List Int) (hq : Kd.C (Kd.int .i32) w A q.length q) (hqc : q.length ≤ c) (A2 : Option Addr) (c2 : Nat) (L : List Int) (hL : Kd.C (Kd.int .i64) w A2 L.length L) (hLl : L.length ≤ 100000) :
  Calls Try.prog 21 #[.pointer (some ⟨g,0,none⟩),.slice A q.length c,.slice A2 L.length c2] w fun e w' => (∃ v,e = .returned v ∧ OwnH w' w.heap.size v (nearG s1 q L)) ∧ Below w.heap.size w w' := by
 obtain ⟨F,FD,h1,h2,_⟩ := h.out
 exact h1.near_ hi.m A c q hq hqc A2 c2 L hL (by have := hi.len;omega) hLl
theorem M2.nearD (h : M2 X w0 w g gr s1 s2) {n : Nat} (hi : Inv s2 n) (hn : n ≤ 90000) (A : Option Addr) (c : Nat) (q : List Int) (hq : Kd.C (Kd.int .i32) w A q.length q) (hqc : q.length ≤ c) (A2 : Option Addr) (c2 : Nat) (L : List Int) (hL : Kd.C (Kd.int .i64) w A2 L.length L) (hLl : L.length ≤ 100000) :
  Calls Try.prog 42 #[.pointer (some ⟨gr,0,none⟩),.slice A q.length c,.slice A2 L.length c2] w fun e w' => (∃ v,e = .returned v ∧ OwnH w' w.heap.size v (nearG s2 q L)) ∧ Below w.heap.size w w' := by
 obtain ⟨F,FD,h1,h2,_⟩ := h.out
 exact h2.near_ hi.m A c q hq hqc A2 c2 L _ rfl hL (by have := hi.len;omega) hLl
theorem M2.chooseP (h : M2 X w0 w g gr s1 s2) {n : Nat} (hi : Inv s1 n) (hn : n ≤ 90000) (A : Option Addr) (c : Nat) (q : List Int) (hq : Kd.C (Kd.int .i32) w A q.length q) (hqc : q.length ≤ c) (A2 : Option Addr) (c2 : Nat) (L : List Int) (hL : Kd.C (Kd.int .i64) w A2 L.length L) (hLl : L.length ≤ 100000) (most : Int) :
  Calls Try.prog 32 #[.pointer (some ⟨g,0,none⟩),.slice A q.length c,.slice A2 L.length c2,.int .i64 most] w fun e w' => (∃ v,e = .returned v ∧ OwnZ w' w.heap.size v (chooseG s1 q L most)) ∧ Below w.heap.size w w' := by
 obtain ⟨F,FD,h1,h2,_⟩ := h.out
 exact h1.choose_ hi.m A c q hq hqc A2 c2 L hL (by have := hi.len;omega) hLl most
theorem M2.chooseD (h : M2 X w0 w g gr s1 s2) {n : Nat} (hi : Inv s2 n) (hn : n ≤ 90000) (A : Option Addr) (c : Nat) (q : List Int) (hq : Kd.C (Kd.int .i32) w A q.length q) (hqc : q.length ≤ c) (A2 : Option Addr) (c2 : Nat) (L : List Int) (hL : Kd.C (Kd.int .i64) w A2 L.length L) (hLl : L.length ≤ 100000) (most : Int) :
  Calls Try.prog 43 #[.pointer (some ⟨gr,0,none⟩),.slice A q.length c,.slice A2 L.length c2,.int .i64 most] w fun e w' => (∃ v,e = .returned v ∧ OwnZ w' w.heap.size v (chooseG s2 q L most)) ∧ Below w.heap.size w w' := by
 obtain ⟨F,FD,h1,h2,_⟩ := h.out
 exact h2.choose_ hi.m A c q hq hqc A2 c2 L _ rfl hL (by have := hi.len;omega) hLl most
theorem M2.walkP (h : M2 X w0 w g gr s1 s2) {n : Nat} (hi : Inv s1 n) (hn : n ≤ 90000) (A : Option Addr) (c : Nat) (q : List Int) (hq : Kd.C (Kd.int .i32) w A q.length q) (hqc : q.length ≤ c) (A2 : Option Addr) (c2 : Nat) (L : List Int) (hL : Kd.C (Kd.int .i64) w A2 L.length L) (hLl : L.length ≤ 100000) (width lv : Int) :
  Calls Try.prog 19 #[.pointer (some ⟨g,0,none⟩),.slice A q.length c,.slice A2 L.length c2,.int .i64 width,.int .i64 lv] w fun e w' => (∃ v,e = .returned v ∧ OwnH w' w.heap.size v (walkG s1 q L width lv)) ∧ Below w.heap.size w w' := by
 obtain ⟨F,FD,h1,h2,_⟩ := h.out
 exact h1.walk_ hi.good hi.m (by have := hi.len;omega) A c q hq hqc A2 c2 L hL hLl width lv
theorem M2.walkD (h : M2 X w0 w g gr s1 s2) {n : Nat} (hi : Inv s2 n) (hn : n ≤ 90000) (A : Option Addr) (c : Nat) (q : List Int) (hq : Kd.C (Kd.int .i32) w A q.length q) (hqc : q.length ≤ c) (A2 : Option Addr) (c2 : Nat) (L : List Int) (hL : Kd.C (Kd.int .i64) w A2 L.length L) (hLl : L.length ≤ 100000) (width lv : Int) :
  Calls Try.prog 44 #[.pointer (some ⟨gr,0,none⟩),.slice A q.length c,.slice A2 L.length c2,.int .i64 width,.int .i64 lv] w fun e w' => (∃ v,e = .returned v ∧ OwnH w' w.heap.size v (walkG s2 q L width lv)) ∧ Below w.heap.size w w' := by
 obtain ⟨F,FD,h1,h2,_⟩ := h.out
 exact h2.walk_ hi.m (by have := hi.len;omega) (fun i nd hnd l hl => Nat.le_trans ((hi.lk i nd hnd).2 l hl) hn) A c q hq hqc A2 c2 L hL hLl width lv
end
end Go.Proofs.Ytofmlajanopniaa.Li
namespace Go.Proofs.Ytofmlajanopniaa.Li
open Go.RowKit Go.Maps Go.Proofs.YtofmlajanopniaaW.PrintWords Go.Proofs.YtofmlajanopniaaW.PrintLast Go.Proofs.YtofmlajanopniaaW.PrintMore Go.Proofs.Ytofmlajanopniaa.Q Go.Proofs.Ytofmlajanopniaa.Tk
def bld.T11 : Bool × List (List Nat × List Nat) := (true,[([],[]),([],[]),([1],[1]),([],[]),([3],[3]),([],[]),([5],[5]),([6],[6]),([7],[7]),([0,2,4,8],[0,2,4,8]),([],[]),([],[]),([11],[11]),([],[]),([13],[13]),([],[]),([15],[15]),([16],[16]),([17],[17]),([10,12,14,18,9],[10,12,14,18]),([9,19],[9,19])])
def bld.B11 : List Nat := [0,0,2,0,8,0,32,96,224,511,0,0,2048,0,8192,0,32768,98304,229376,524287,1048575]
theorem bld.tab11 : rtab .any (opsOf Try.f17 11) = bld.T11 := by kernel_rfl
theorem bld.bits11 : waitsOk bld.T11.2 bld.B11 = true := by kernel_rfl
def bld.T14 : Bool × List (List Nat × List Nat) := (true,[([],[]),([],[]),([1],[1]),([],[]),([3],[3]),([],[]),([5],[5]),([],[]),([7],[7]),([0,2,4,6,8],[0,2,4,6,8]),([],[]),([],[]),([11],[11]),([],[]),([13],[13]),([],[]),([15],[15]),([],[]),([17],[17]),([10,12,14,16,18,9],[10,12,14,16,18]),([9,19],[9,19])])
def bld.B14 : List Nat := [0,0,2,0,8,0,32,0,128,511,0,0,2048,0,8192,0,32768,0,131072,524287,1048575]
theorem bld.tab14 : rtab .any (opsOf Try.f17 14) = bld.T14 := by kernel_rfl
theorem bld.bits14 : waitsOk bld.T14.2 bld.B14 = true := by kernel_rfl
def bld.T21 : Bool × List (List Nat × List Nat) := (true,[([],[]),([0],[0]),([1],[1]),([2],[2]),([],[]),([4],[4]),([3,5,0,1,2,3,4,5],[3,5]),([6,0,1,2,3,4,5],[6]),([7,0,1,2,3,4,5],[7])])
def bld.B21 : List Nat := [0,1,3,7,0,16,63,127,255]
theorem bld.tab21 : rtab .any (opsOf Try.f17 21) = bld.T21 := by kernel_rfl
theorem bld.bits21 : waitsOk bld.T21.2 bld.B21 = true := by kernel_rfl
def bld.T23 : Bool × List (List Nat × List Nat) := (true,[([],[]),([],[]),([1],[1]),([2],[2]),([],[]),([4],[4]),([0,3,5],[0,3,5]),([],[]),([],[]),([8],[8]),([9],[9]),([],[]),([11],[11]),([7,10,12,6],[7,10,12]),([6,13,13],[6,13]),([14],[14])])
def bld.B23 : List Nat := [0,0,2,6,0,16,63,0,0,256,768,0,2048,8191,16383,32767]
theorem bld.tab23 : rtab .any (opsOf Try.f17 23) = bld.T23 := by kernel_rfl
theorem bld.bits23 : waitsOk bld.T23.2 bld.B23 = true := by kernel_rfl
def bld.T26 : Bool × List (List Nat × List Nat) := (true,[([],[]),([],[]),([1],[1]),([2],[2]),([],[]),([4],[4]),([],[]),([6],[6]),([0,3,5,7],[0,3,5,7]),([],[]),([],[]),([10],[10]),([11],[11]),([],[]),([13],[13]),([],[]),([15],[15]),([9,12,14,16,8],[9,12,14,16]),([8,17,17],[8,17]),([18],[18])])
def bld.B26 : List Nat := [0,0,2,6,0,16,0,64,255,0,0,1024,3072,0,8192,0,32768,131071,262143,524287]
theorem bld.tab26 : rtab .any (opsOf Try.f17 26) = bld.T26 := by kernel_rfl
theorem bld.bits26 : waitsOk bld.T26.2 bld.B26 = true := by kernel_rfl
def bld.T8 : Bool × List (List Nat × List Nat) := (true,[([],[]),([],[]),([1],[1]),([2],[2]),([],[]),([4],[4]),([],[]),([6],[6]),([],[]),([8],[8]),([0,3,5,7,9],[0,3,5,7,9]),([],[]),([],[]),([12],[12]),([13],[13]),([],[]),([15],[15]),([],[]),([17],[17]),([],[]),([19],[19]),([11,14,16,18,20,10],[11,14,16,18,20]),([10,21,21],[10,21]),([22],[22])])
def bld.B8 : List Nat := [0,0,2,6,0,16,0,64,0,256,1023,0,0,4096,12288,0,32768,0,131072,0,524288,2097151,4194303,8388607]
theorem bld.tab8 : rtab .any (opsOf Try.f17 8) = bld.T8 := by kernel_rfl
theorem bld.bits8 : waitsOk bld.T8.2 bld.B8 = true := by kernel_rfl
def bld.T28 : Bool × List (List Nat × List Nat) := (true,[([],[]),([0],[0]),([],[]),([2],[2]),([3],[3]),([4],[4]),([5],[5]),([1,6],[1,6])])
def bld.B28 : List Nat := [0,1,0,4,12,28,60,127]
theorem bld.tab28 : rtab .any (opsOf Try.f17 28) = bld.T28 := by kernel_rfl
theorem bld.bits28 : waitsOk bld.T28.2 bld.B28 = true := by kernel_rfl
theorem walkL_len {s : Gr} {q : List Int} {lv : Int} {W : Nat} : ∀ (f : Nat) (k : Wk),k.best.length ≤ W → (walkL s q lv W f k).length ≤ W := by
 intro f
 induction f with
 | zero => exact fun k h => h
 | succ f ih =>
  intro k h
  unfold walkL
  split
  ·exact h
  ·split
   ·exact h
   ·refine ih _ ?_
    suffices hs : ∀ (L : List Int) (k : Wk),k.best.length ≤ W → (L.foldl (stepN s q lv W) k).best.length ≤ W from hs _ _ h
    intro L
    induction L with
    | nil => exact fun k h => h
    | cons a L ihL =>
     intro k h
     refine ihL _ ?_
     unfold stepN
     split
     ·exact h
     ·split
      ·show (putK W k.best (s.hit q a)).length ≤ W
       unfold putK;rw [List.length_take];omega
      ·exact h
theorem walk_len (s : Gr) (q L : List Int) (width lv : Int) : (walkG s q L width lv).length ≤ 256 := by
 have hW : widthW width ≤ 256 := by unfold widthW;omega
 refine Nat.le_trans (walkL_len _ _ ?_) hW
 unfold walk0
 suffices hs : ∀ (L : List Int) (k : Wk),k.best.length ≤ widthW width → (L.foldl (startN s q lv (widthW width)) k).best.length ≤ widthW width from hs _ _ (Nat.zero_le _)
 intro L
 induction L with
 | nil => exact fun k h => h
 | cons a L ih =>
  intro k h
  refine ih _ ?_
  unfold startN
  split
  ·show (putK _ k.best (s.hit q a)).length ≤ _
   unfold putK;rw [List.length_take];omega
  ·exact h
theorem choose_short (s : Gr) (q L : List Int) (most : Int) : (chooseG s q L most).length ≤ L.length := by
 unfold chooseG
 rw [List.length_take,List.length_append,(choose2_len s most _).1]
 have := near_len s q L
 omega
section
variable {X X' : Nat → Prop} {w0 w w' : World} {g gr : Nat} {s s1 s2 : Gr}
theorem M2.untilN (h : M2 X w0 w g gr s1 s2) (a v : Int) (hc : s1.there a 0 = false) :
  Calls Try.prog 40 #[.pointer (some ⟨g,0,none⟩),.int .i64 a,.int .u64 v] w fun e w' => e = .returned (.bool false) ∧ M2 X w0 w' g gr s1 s2 ∧ KeepX X w w' := by
 have h0 := h.untilP a v
 rw [hc,if_neg (by simp)] at h0
 exact h0
theorem M2.untilY (h : M2 X w0 w g gr s1 s2) (a v : Int) (hc : s1.there a 0 = true) :
  Calls Try.prog 40 #[.pointer (some ⟨g,0,none⟩),.int .i64 a,.int .u64 v] w fun e w' => e = .returned (.bool true) ∧ M2 X w0 w' g gr (s1.until_ a.toNat v) s2 ∧ KeepX X w w' := by
 have h0 := h.untilP a v
 rw [hc,if_pos rfl] at h0
 exact h0
theorem M2.thereB (h : M2 X w0 w g gr s1 s2) (i lv : Int) (b : Bool) (hb : s2.there i lv = b) : Calls Try.prog 41 #[.pointer (some ⟨gr,0,none⟩),.int .i64 i,.int .i64 lv] w fun e w' => e = .returned (.bool b) ∧ Below w.heap.size w w' := by
 subst hb
 exact h.thereD i lv
theorem M2.cellD (h : M2 X w0 w g gr s1 s2) : ∃ ao cap,w.heap[gr]? = some (.cells #[.int .i64 s2.m,.slice ao s2.l.length cap] 48 (0,0)) := by
 obtain ⟨F,FD,h1,h2,_⟩ := h.out
 obtain ⟨ao,cap,hb,_⟩ := h2.reads
 exact ⟨ao,cap,hb⟩
theorem M2.unD (h : M2 X w0 w g gr s1 s2) {k : Nat} {nd : Nd} (hn : s2.l[k]? = some nd) : ∃ rb cap,w.heap[gr]? = some (.cells #[.int .i64 s2.m,.slice (some ⟨rb,0,none⟩) s2.l.length cap] 48 (0,0)) ∧ w.cell? ⟨rb,k * 6 + 4,none⟩ = some (.int .u64 nd.un) ∧ (∀ j,w.frozen? ⟨rb,j,none⟩ = false) ∧ ∀ v,M2 X w0 (w.setCell ⟨rb,k * 6 + 4,none⟩ (.int .u64 v)) g gr s1 (s2.until_ k v) := by
 obtain ⟨F,FD,h1,⟨vL,h2⟩,h3,h4,h5⟩ := h.out
 obtain ⟨ao,cap,rfl,hl, -,hN⟩ := h2.node
 obtain ⟨ad,A1,c1,A2,c2,A3,c3,rfl,hd, -, -⟩ := hN k nd hn
 obtain ⟨inner,hr, -⟩ := h2.row
 rcases hr.2 with ⟨e, -⟩ | ⟨rb,cap2,cur,e, -⟩
 ·cases e
 ·injection e with e1 e2 e3
  injection e1 with e1
  subst e1
  obtain ⟨cc,hcc⟩ := h2.rowB (rb := rb) rfl
  refine ⟨rb,cap,h2.box, ?_,fun j => blk_frozen hcc j,fun v => ?_⟩
  ·have := hd.y4
   rw [add_plain] at this
   exact this
  ·exact (M2.doc h1 ⟨_,h2⟩ h3 h4 h5 h.xl ⟨_,h2.until_ hn rfl v⟩ (fun k hk => .inl hk) ((Only.of_below (Below.refl _ _)).set _ _ (h2.vF rb rfl))).1
end
set_option maxHeartbeats 64000000 in
set_option maxRecDepth 100000 in
theorem build_ {w0 w : World} {g gr : Nat} {s0 : Gr} {n0 : Nat} (h : M2 (fun _ => False) w0 w g gr s0 s0) (hi : Inv s0 n0) (A : Option Addr) (c : Nat) (l : List OpL) (hC : Kd.C kopL w0 A l.length l) (hok : okOpsL l) (most : Nat) (mI : Int) (hmI : (most : Int) = mI) (hm : n0 + most ≤ 80000) :
  Calls Try.prog 17 #[.pointer (some ⟨g,0,none⟩),.pointer (some ⟨gr,0,none⟩),.slice A l.length c,.int .i64 mI] w fun e w' => e = .returned (.bool true) ∧ ∃ s,M2 (fun _ => False) w0 w' g gr s s ∧ Inv s (n0 + most) := by
 subst hmI
 have hu := Try.underlying89
 have hu4 := Try.underlying26
 have hu5 := Try.underlying48
 have hu6 := Try.underlying37
 have HC := Aside0.mk hC
 have HOPS := Aside0.mk hok
 have HM := Aside0.mk hm
 have H0 := Aside0.mk h
 have HI0 := Aside0.mk hi
 clear hC hok hm h hi
 go_enter Try.func17,Try.ntmps17
 go_wp2_with (fail)
 go_loopg [9] most (fun gk v9 wr => ∃ (i : Nat) (s : Gr),v9 = .int .i64 i ∧ Aside0 (i ≤ most ∧ most - i ≤ gk) ∧ Aside0 (M2 (fun _ => False) w0 wr g gr s s) ∧ Aside0 (Inv s (n0 + i)))
 case atStart => exact ⟨0,s0,rfl,⟨by omega,by omega⟩,H0,HI0⟩
 case round =>
  clear H0 HI0
  obtain ⟨i,s,rfl,HI,HP0,HV⟩ := hrel
  have HB0 := Aside0.mk HP0.out.at0
  by_cases hi : i < l.length
  ·have q1 : decide ((i : Int) < (l.length : Int)) = true := decide_eq_true (by omega)
   have q1' : (i : Int) < (l.length : Int) := by omega
   by_cases h60 : i < most
   ·have q2 : decide ((i : Int) < (most : Int)) = true := decide_eq_true (by omega)
    have q2' : decide (i < most) = true := decide_eq_true h60
    obtain ⟨ad,x,A1,c1,A2,c2,A3,c3,rfl,hx,hO⟩ := opL_at HC.out hi
    have HO := Aside0.mk hO
    have y0 := (hO.below HB0.out).y0
    have y1 := (hO.below HB0.out).y1
    have y2 := (hO.below HB0.out).y2
    have y3 := (hO.below HB0.out).y3
    have y4 := (hO.below HB0.out).y4
    have y5 := (hO.below HB0.out).y5
    have y6 := (hO.below HB0.out).y6
    have y7 := (hO.below HB0.out).y7
    have y8 := (hO.below HB0.out).y8
    have HI60 := Aside0.mk h60
    have HIN := Aside0.mk (show wrap64 ((i : Int) + 1) = ((i + 1 : Nat) : Int) by have := HM.out;unfold wrap64;omega)
    have HNI := Aside0.mk (show n0 + i ≤ 90000 ∧ n0 + (i + 1) ≤ 90000 ∧ n0 + i ≤ n0 + (i + 1) by have := HM.out;omega)
    obtain ⟨gk,rfl⟩ : ∃ m,gk = m + 1 := ⟨gk - 1,by have := HI.out;omega⟩
    have HBX0 := Aside0.mk (heap_alloc_new wr (.cells #[.int .u8 x.1,.int .u32 x.2.1.1,.slice A1 x.2.1.2.1.length c1,.slice A2 x.2.1.2.2.length c2,.int .i64 x.2.2.1,.int .i64 x.2.2.2.1,.int .i64 x.2.2.2.2.1,.int .i64 x.2.2.2.2.2.1,.slice A3 x.2.2.2.2.2.2.length c3] 89))
    have HBA0 := Aside0.mk (below_alloc (Below.refl wr.heap.size wr) (.cells #[.int .u8 x.1,.int .u32 x.2.1.1,.slice A1 x.2.1.2.1.length c1,.slice A2 x.2.1.2.2.length c2,.int .i64 x.2.2.1,.int .i64 x.2.2.2.1,.int .i64 x.2.2.2.2.1,.int .i64 x.2.2.2.2.2.1,.slice A3 x.2.2.2.2.2.2.length c3] 89))
    clear hx hO hi h60
    by_cases hk : x.2.2.2.2.2.2.length ≤ 100
    ·have q4 : decide ((100 : Int) < (x.2.2.2.2.2.2.length : Int)) = false := decide_eq_false (by omega)
     have q4' : decide (100 < x.2.2.2.2.2.2.length) = false := decide_eq_false (by omega)
     have HKL := Aside0.mk hk
     clear hk
     go_upto_block 2 with (go_at_call 11;(with_reducible refine (small_calls x.2.1.1 x.2.1.2.1 x.2.1.2.2 A1 c1 A2 c2 _ HO.out.fit1 (HO.out.below (bel_trans HB0.out HBA0.out)).vec HO.out.fit2 (HO.out.below (bel_trans HB0.out HBA0.out)).tags).mono ?_);rintro e w3 ⟨⟨r,rfl,hr⟩,hb⟩;have hbb := bel_trans HBA0.out hb;have HP3 := Aside0.mk (HP0.out.below hbb);have HBW3 := Aside0.mk hbb;have HX3 := Aside0.mk (blk_below HBX0.out hb);have b0 := (blk_cell HX3.out 0).trans rfl;have b8 := (blk_cell HX3.out 8).trans rfl;have b1 := (blk_cell HX3.out 1).trans rfl;have b2 := (blk_cell HX3.out 2).trans rfl;have b3 := (blk_cell HX3.out 3).trans rfl;clear hb hbb;rcases r with _ | _;clear hr;rotate_left;(have HSM := Aside0.mk (hr rfl));clear hr;rotate_right)
     ·trace_state
      go_ret
      exact ⟨rfl,s,HP3.out,HV.out.mono (by have := HI.out;omega)⟩
     ·have HPX := Aside0.mk (HP0.out.box HBW3.out (Nat.le_refl _) (blk_lt HX3.out))
      obtain ⟨bx,hbx⟩ : ∃ z,wr.heap.size = z := ⟨_,rfl⟩
      rw [hbx] at HX3 HPX ⊢
      clear hbx HBX0 HBA0 HBW3 b0 b1 b2 b3 b8 y0 y1 y2 y3 y4 y5 y6 y7 y8 HP3 HP0 HB0
      go_cut [11] (fun v11 wc => ∃ s2 : Gr,Aside0 (M2 (fun k => False ∨ k = bx) w0 wc g gr s2 s2) ∧ Aside0 (Inv s2 (n0 + (i + 1))))
      case first =>
       trace_state
       cases k0 : (x.1.tmod 6 == 0) with
       | true =>
        go_wp2
        have HPD := Aside0.mk (HPX.out.below (below_drew (Below.refl _ _)))
        have HXD := Aside0.mk (blk_below HX3.out (below_drew (Below.refl _ _)))
        have qe : ((s.l.length : Int) != (s.l.length : Int)) = false := by simp
        refine start_ (n := 21) (S := fun w' => w'.cell? ⟨bx,1,none⟩ = some (.int .u32 x.2.1.1) ∧ w'.cell? ⟨bx,2,none⟩ = some (.slice A1 x.2.1.2.1.length c1) ∧ w'.cell? ⟨bx,3,none⟩ = some (.slice A2 x.2.1.2.2.length c2) ∧ w'.cell? ⟨bx,6,none⟩ = some (.int .i64 x.2.2.2.2.1) ∧ w'.cell? ⟨bx,7,none⟩ = some (.int .i64 x.2.2.2.2.2.1)) (ds := []) #[false,false,false,false,false,false,false,false,false,false,false,false,false,false,false,false,false,false,false,false,false] (by kernel_rfl) rfl rfl ⟨((blk_cell HXD.out 1).trans rfl),((blk_cell HXD.out 2).trans rfl),((blk_cell HXD.out 3).trans rfl),((blk_cell HXD.out 6).trans rfl),((blk_cell HXD.out 7).trans rfl)⟩ (fun hHeld => ?_)
        refine with_tabW bld.tab11 bld.bits11 (fun HT_ HW_ => ?_)
        generalize w3.drew = wd at HPD HXD hHeld ⊢
        refine pure_ (i := 0) (N := some 66) (v := ?_) (a' := ?_) #[true,false,false,false,false,false,false,false,false,false,false,false,false,false,false,false,false,false,false,false,false] rfl rfl (any_of HT_.out (by kernel_rfl)) (fun _ _ _ h => h) (Or.inl ⟨by rfl, ?_⟩) ?_ ?_
        rotate_left
        ·intro w'
         go_simp
         with_reducible rfl
        rotate_left
        ·simp only [Act.put,sT_,sZ_,sS_,i64_w,i32_w]
         rfl
        refine pure_ (i := 1) (N := some 67) (v := ?_) (a' := ?_) #[true,true,false,false,false,false,false,false,false,false,false,false,false,false,false,false,false,false,false,false,false] rfl rfl (any_of HT_.out (by kernel_rfl)) (fun _ _ _ h => h) (Or.inl ⟨by rfl, ?_⟩) ?_ ?_
        rotate_left
        ·intro w'
         go_simp
         with_reducible rfl
        rotate_left
        ·simp only [Act.put,sT_,sZ_,sS_,i64_w,i32_w]
         rfl
        refine pure_ (i := 3) (N := some 69) (v := ?_) (a' := ?_) #[true,true,false,true,false,false,false,false,false,false,false,false,false,false,false,false,false,false,false,false,false] rfl rfl (any_of HT_.out (by kernel_rfl)) (fun _ _ _ h => h) (Or.inl ⟨by rfl, ?_⟩) ?_ ?_
        rotate_left
        ·intro w'
         go_simp
         with_reducible rfl
        rotate_left
        ·simp only [Act.put,sT_,sZ_,sS_,i64_w,i32_w]
         rfl
        refine pure_ (i := 5) (N := some 71) (v := ?_) (a' := ?_) #[true,true,false,true,false,true,false,false,false,false,false,false,false,false,false,false,false,false,false,false,false] rfl rfl (any_of HT_.out (by kernel_rfl)) (fun _ _ _ h => h) (Or.inl ⟨by rfl, ?_⟩) ?_ ?_
        rotate_left
        ·intro w'
         go_simp
         with_reducible rfl
        rotate_left
        ·simp only [Act.put,sT_,sZ_,sS_,i64_w,i32_w]
         rfl
        refine pure_ (i := 10) (N := some 76) (v := ?_) (a' := ?_) #[true,true,false,true,false,true,false,false,false,false,true,false,false,false,false,false,false,false,false,false,false] rfl rfl (any_of HT_.out (by kernel_rfl)) (fun _ _ _ h => h) (Or.inl ⟨by rfl, ?_⟩) ?_ ?_
        rotate_left
        ·intro w'
         go_simp
         with_reducible rfl
        rotate_left
        ·simp only [Act.put,sT_,sZ_,sS_,i64_w,i32_w]
         rfl
        refine pure_ (i := 11) (N := some 77) (v := ?_) (a' := ?_) #[true,true,false,true,false,true,false,false,false,false,true,true,false,false,false,false,false,false,false,false,false] rfl rfl (any_of HT_.out (by kernel_rfl)) (fun _ _ _ h => h) (Or.inl ⟨by rfl, ?_⟩) ?_ ?_
        rotate_left
        ·intro w'
         go_simp
         with_reducible rfl
        rotate_left
        ·simp only [Act.put,sT_,sZ_,sS_,i64_w,i32_w]
         rfl
        refine pure_ (i := 13) (N := some 79) (v := ?_) (a' := ?_) #[true,true,false,true,false,true,false,false,false,false,true,true,false,true,false,false,false,false,false,false,false] rfl rfl (any_of HT_.out (by kernel_rfl)) (fun _ _ _ h => h) (Or.inl ⟨by rfl, ?_⟩) ?_ ?_
        rotate_left
        ·intro w'
         go_simp
         with_reducible rfl
        rotate_left
        ·simp only [Act.put,sT_,sZ_,sS_,i64_w,i32_w]
         rfl
        refine pure_ (i := 15) (N := some 81) (v := ?_) (a' := ?_) #[true,true,false,true,false,true,false,false,false,false,true,true,false,true,false,true,false,false,false,false,false] rfl rfl (any_of HT_.out (by kernel_rfl)) (fun _ _ _ h => h) (Or.inl ⟨by rfl, ?_⟩) ?_ ?_
        rotate_left
        ·intro w'
         go_simp
         with_reducible rfl
        rotate_left
        ·simp only [Act.put,sT_,sZ_,sS_,i64_w,i32_w]
         rfl
        refine take_ (i := 2) (N := some 68) (v := ?_) (a' := ?_) #[true,true,true,true,false,true,false,false,false,false,true,true,false,true,false,true,false,false,false,false,false] rfl rfl (take_ofW HT_.out HW_.out (by kernel_rfl)) (fun _ _ _ h => h) (Or.inl ⟨by rfl, ?_⟩) hHeld ?_ ?_
        rotate_left
        ·rintro w' ⟨s0,s1,s2,s3,s4⟩
         go_simp
         with_reducible rfl
        rotate_left
        ·simp only [Act.put,sT_,sZ_,sS_,i64_w,i32_w]
         rfl
        refine take_ (i := 4) (N := some 70) (v := ?_) (a' := ?_) #[true,true,true,true,true,true,false,false,false,false,true,true,false,true,false,true,false,false,false,false,false] rfl rfl (take_ofW HT_.out HW_.out (by kernel_rfl)) (fun _ _ _ h => h) (Or.inl ⟨by rfl, ?_⟩) hHeld ?_ ?_
        rotate_left
        ·rintro w' ⟨s0,s1,s2,s3,s4⟩
         go_simp
         with_reducible rfl
        rotate_left
        ·simp only [Act.put,sT_,sZ_,sS_,i64_w,i32_w]
         rfl
        refine take_ (i := 6) (N := some 72) (v := ?_) (a' := ?_) #[true,true,true,true,true,true,true,false,false,false,true,true,false,true,false,true,false,false,false,false,false] rfl rfl (take_ofW HT_.out HW_.out (by kernel_rfl)) (fun _ _ _ h => h) (Or.inl ⟨by rfl, ?_⟩) hHeld ?_ ?_
        rotate_left
        ·rintro w' ⟨s0,s1,s2,s3,s4⟩
         go_simp
         with_reducible rfl
        rotate_left
        ·simp only [Act.put,sT_,sZ_,sS_,i64_w,i32_w]
         rfl
        refine pure_ (i := 7) (N := some 73) (v := ?_) (a' := ?_) #[true,true,true,true,true,true,true,true,false,false,true,true,false,true,false,true,false,false,false,false,false] rfl rfl (any_of HT_.out (by kernel_rfl)) (fun _ _ _ h => h) (Or.inl ⟨by rfl, ?_⟩) ?_ ?_
        rotate_left
        ·intro w'
         go_simp
         with_reducible rfl
        rotate_left
        ·simp only [Act.put,sT_,sZ_,sS_,i64_w,i32_w]
         rfl
        refine pure_ (i := 8) (N := some 74) (v := ?_) (a' := ?_) #[true,true,true,true,true,true,true,true,true,false,true,true,false,true,false,true,false,false,false,false,false] rfl rfl (any_of HT_.out (by kernel_rfl)) (fun _ _ _ h => h) (Or.inl ⟨by rfl, ?_⟩) ?_ ?_
        rotate_left
        ·intro w'
         go_simp
         with_reducible rfl
        rotate_left
        ·simp only [Act.put,sT_,sZ_,sS_,i64_w,i32_w]
         rfl
        refine take_ (i := 12) (N := some 78) (v := ?_) (a' := ?_) #[true,true,true,true,true,true,true,true,true,false,true,true,true,true,false,true,false,false,false,false,false] rfl rfl (take_ofW HT_.out HW_.out (by kernel_rfl)) (fun _ _ _ h => h) (Or.inl ⟨by rfl, ?_⟩) hHeld ?_ ?_
        rotate_left
        ·rintro w' ⟨s0,s1,s2,s3,s4⟩
         go_simp
         with_reducible rfl
        rotate_left
        ·simp only [Act.put,sT_,sZ_,sS_,i64_w,i32_w]
         rfl
        refine take_ (i := 14) (N := some 80) (v := ?_) (a' := ?_) #[true,true,true,true,true,true,true,true,true,false,true,true,true,true,true,true,false,false,false,false,false] rfl rfl (take_ofW HT_.out HW_.out (by kernel_rfl)) (fun _ _ _ h => h) (Or.inl ⟨by rfl, ?_⟩) hHeld ?_ ?_
        rotate_left
        ·rintro w' ⟨s0,s1,s2,s3,s4⟩
         go_simp
         with_reducible rfl
        rotate_left
        ·simp only [Act.put,sT_,sZ_,sS_,i64_w,i32_w]
         rfl
        refine take_ (i := 16) (N := some 82) (v := ?_) (a' := ?_) #[true,true,true,true,true,true,true,true,true,false,true,true,true,true,true,true,true,false,false,false,false] rfl rfl (take_ofW HT_.out HW_.out (by kernel_rfl)) (fun _ _ _ h => h) (Or.inl ⟨by rfl, ?_⟩) hHeld ?_ ?_
        rotate_left
        ·rintro w' ⟨s0,s1,s2,s3,s4⟩
         go_simp
         with_reducible rfl
        rotate_left
        ·simp only [Act.put,sT_,sZ_,sS_,i64_w,i32_w]
         rfl
        refine pure_ (i := 17) (N := some 83) (v := ?_) (a' := ?_) #[true,true,true,true,true,true,true,true,true,false,true,true,true,true,true,true,true,true,false,false,false] rfl rfl (any_of HT_.out (by kernel_rfl)) (fun _ _ _ h => h) (Or.inl ⟨by rfl, ?_⟩) ?_ ?_
        rotate_left
        ·intro w'
         go_simp
         with_reducible rfl
        rotate_left
        ·simp only [Act.put,sT_,sZ_,sS_,i64_w,i32_w]
         rfl
        refine pure_ (i := 18) (N := some 84) (v := ?_) (a' := ?_) #[true,true,true,true,true,true,true,true,true,false,true,true,true,true,true,true,true,true,true,false,false] rfl rfl (any_of HT_.out (by kernel_rfl)) (fun _ _ _ h => h) (Or.inl ⟨by rfl, ?_⟩) ?_ ?_
        rotate_left
        ·intro w'
         go_simp
         with_reducible rfl
        rotate_left
        ·simp only [Act.put,sT_,sZ_,sS_,i64_w,i32_w]
         rfl
        refine one_ (i := 9) (N := some 75) #[true,true,true,true,true,true,true,true,true,true,true,true,true,true,true,true,true,true,true,false,false] rfl rfl (one_of HT_.out (by kernel_rfl)) (by decide) (fun K hK => ?_)
        refine goes_ Try.func13 (by kernel_rfl) rfl #[.pointer (some ⟨g,0,none⟩),.agg #[.int .u32 x.2.1.1,.slice A1 x.2.1.2.1.length c1,.slice A2 x.2.1.2.2.length c2],.int .i64 x.2.2.2.2.1,.int .u64 ((IntKind.u64.wrap x.2.2.2.2.2.1).tmod 100)] (by rfl) rfl rfl (by simp only [List.map_toArray,List.map_cons,List.map_nil];rfl) ?_
        with_reducible refine (HPD.out.addP HV.out HNI.out.1 x.2.1.1 x.2.1.2.1 x.2.1.2.2 A1 c1 A2 c2 (HO.out.below HPD.out.at0).fit1 (HO.out.below HPD.out.at0).vec (HO.out.below HPD.out.at0).fit2 (HO.out.below HPD.out.at0).tags HSM.out.1 HSM.out.2 x.2.2.2.2.1 ((IntKind.u64.wrap x.2.2.2.2.2.1).tmod 100)).mono ?_
        rintro e w7 ⟨rfl,hP,hK⟩
        refine ⟨_,rfl, ?_⟩
        have HP7 := Aside0.mk hP
        have HX7 := Aside0.mk ((hK bx (.inr rfl)).trans HXD.out)
        clear hP hK
        refine hK.out _ _ ⟨((blk_cell HX7.out 1).trans rfl),((blk_cell HX7.out 2).trans rfl),((blk_cell HX7.out 3).trans rfl),((blk_cell HX7.out 6).trans rfl),((blk_cell HX7.out 7).trans rfl)⟩ (fun hHeld => ?_)
        clear hK K
        refine norm_ (a' := ?_) ?_ ?_
        rotate_left
        ·show Act.put _ (some 75) _ = _
         simp only [Act.put,sT_,sZ_,sS_,i64_w,i32_w]
         rfl
        refine one_ (i := 19) (N := some 85) #[true,true,true,true,true,true,true,true,true,true,true,true,true,true,true,true,true,true,true,true,false] rfl rfl (one_of HT_.out (by kernel_rfl)) (by decide) (fun K hK => ?_)
        refine goes_ Try.func38 (by kernel_rfl) rfl #[.pointer (some ⟨gr,0,none⟩),.agg #[.int .u32 x.2.1.1,.slice A1 x.2.1.2.1.length c1,.slice A2 x.2.1.2.2.length c2],.int .i64 x.2.2.2.2.1,.int .u64 ((IntKind.u64.wrap x.2.2.2.2.2.1).tmod 100)] (by rfl) rfl rfl (by simp only [List.map_toArray,List.map_cons,List.map_nil];rfl) ?_
        with_reducible refine (HP7.out.addD (Nat.le_trans HV.out.len HNI.out.1) x.2.1.1 x.2.1.2.1 x.2.1.2.2 A1 c1 A2 c2 HO.out.fit1 HO.out.vec HO.out.fit2 HO.out.tags x.2.2.2.2.1 ((IntKind.u64.wrap x.2.2.2.2.2.1).tmod 100)).mono ?_
        rintro e w8 ⟨rfl,hP,hK⟩
        refine ⟨_,rfl, ?_⟩
        have HP8 := Aside0.mk hP
        have HX8 := Aside0.mk ((hK bx (.inr rfl)).trans HX7.out)
        clear hP hK
        refine hK.out _ _ ⟨((blk_cell HX8.out 1).trans rfl),((blk_cell HX8.out 2).trans rfl),((blk_cell HX8.out 3).trans rfl),((blk_cell HX8.out 6).trans rfl),((blk_cell HX8.out 7).trans rfl)⟩ (fun hHeld => ?_)
        clear hK K
        refine norm_ (a' := ?_) ?_ ?_
        rotate_left
        ·show Act.put _ (some 85) _ = _
         simp only [Act.put,sT_,sZ_,sS_,i64_w,i32_w]
         rfl
        refine pure_ (i := 20) (N := some 86) (v := ?_) (a' := ?_) #[true,true,true,true,true,true,true,true,true,true,true,true,true,true,true,true,true,true,true,true,true] rfl rfl (any_of HT_.out (by kernel_rfl)) (fun _ _ _ h => h) (Or.inl ⟨by rfl, ?_⟩) ?_ ?_
        rotate_left
        ·intro w'
         go_simp
         with_reducible rfl
        rotate_left
        ·simp only [Act.put,sT_,sZ_,sS_,i64_w,i32_w]
         rfl
        refine done_ (done_of HT_.out (by kernel_rfl)) ?_
        clear hHeld
        go_wp2
        go_meet
        exact ⟨(s.add x.2.1.1 x.2.1.2.1 x.2.1.2.2 x.2.2.2.2.1 ((IntKind.u64.wrap x.2.2.2.2.2.1).tmod 100)),HP8,⟨by have := HV.out.add x.2.1.1 x.2.2.2.2.1 ((IntKind.u64.wrap x.2.2.2.2.2.1).tmod 100) HSM.out.1 HSM.out.2;exact this⟩⟩
       | false =>
        cases k1 : (x.1.tmod 6 == 1) with
        | true =>
         obtain ⟨e1,he1⟩ : ∃ z,(s.link x.2.2.1 x.2.2.2.1 x.2.2.2.2.1 x.2.2.2.2.2.1).1 = z := ⟨_,rfl⟩
         obtain ⟨s2,he2⟩ : ∃ z,(s.link x.2.2.1 x.2.2.2.1 x.2.2.2.2.1 x.2.2.2.2.2.1).2 = z := ⟨_,rfl⟩
         have HE1 := Aside0.mk he1
         have HE2 := Aside0.mk he2
         clear he1 he2
         have qe : (e1 != e1) = false := by simp
         go_wp2
         have HPD := Aside0.mk (HPX.out.below (below_drew (Below.refl _ _)))
         have HXD := Aside0.mk (blk_below HX3.out (below_drew (Below.refl _ _)))
         refine start_ (n := 21) (S := fun w' => w'.cell? ⟨bx,4,none⟩ = some (.int .i64 x.2.2.1) ∧ w'.cell? ⟨bx,5,none⟩ = some (.int .i64 x.2.2.2.1) ∧ w'.cell? ⟨bx,6,none⟩ = some (.int .i64 x.2.2.2.2.1) ∧ w'.cell? ⟨bx,7,none⟩ = some (.int .i64 x.2.2.2.2.2.1)) (ds := []) #[false,false,false,false,false,false,false,false,false,false,false,false,false,false,false,false,false,false,false,false,false] (by kernel_rfl) rfl rfl ⟨((blk_cell HXD.out 4).trans rfl),((blk_cell HXD.out 5).trans rfl),((blk_cell HXD.out 6).trans rfl),((blk_cell HXD.out 7).trans rfl)⟩ (fun hHeld => ?_)
         refine with_tabW bld.tab14 bld.bits14 (fun HT_ HW_ => ?_)
         generalize w3.drew = wd at HPD HXD hHeld ⊢
         refine pure_ (i := 0) (N := some 89) (v := ?_) (a' := ?_) #[true,false,false,false,false,false,false,false,false,false,false,false,false,false,false,false,false,false,false,false,false] rfl rfl (any_of HT_.out (by kernel_rfl)) (fun _ _ _ h => h) (Or.inl ⟨by rfl, ?_⟩) ?_ ?_
         rotate_left
         ·intro w'
          go_simp
          with_reducible rfl
         rotate_left
         ·simp only [Act.put,sT_,sZ_,sS_,i64_w,i32_w]
          rfl
         refine pure_ (i := 1) (N := some 90) (v := ?_) (a' := ?_) #[true,true,false,false,false,false,false,false,false,false,false,false,false,false,false,false,false,false,false,false,false] rfl rfl (any_of HT_.out (by kernel_rfl)) (fun _ _ _ h => h) (Or.inl ⟨by rfl, ?_⟩) ?_ ?_
         rotate_left
         ·intro w'
          go_simp
          with_reducible rfl
         rotate_left
         ·simp only [Act.put,sT_,sZ_,sS_,i64_w,i32_w]
          rfl
         refine pure_ (i := 3) (N := some 92) (v := ?_) (a' := ?_) #[true,true,false,true,false,false,false,false,false,false,false,false,false,false,false,false,false,false,false,false,false] rfl rfl (any_of HT_.out (by kernel_rfl)) (fun _ _ _ h => h) (Or.inl ⟨by rfl, ?_⟩) ?_ ?_
         rotate_left
         ·intro w'
          go_simp
          with_reducible rfl
         rotate_left
         ·simp only [Act.put,sT_,sZ_,sS_,i64_w,i32_w]
          rfl
         refine pure_ (i := 5) (N := some 94) (v := ?_) (a' := ?_) #[true,true,false,true,false,true,false,false,false,false,false,false,false,false,false,false,false,false,false,false,false] rfl rfl (any_of HT_.out (by kernel_rfl)) (fun _ _ _ h => h) (Or.inl ⟨by rfl, ?_⟩) ?_ ?_
         rotate_left
         ·intro w'
          go_simp
          with_reducible rfl
         rotate_left
         ·simp only [Act.put,sT_,sZ_,sS_,i64_w,i32_w]
          rfl
         refine pure_ (i := 7) (N := some 96) (v := ?_) (a' := ?_) #[true,true,false,true,false,true,false,true,false,false,false,false,false,false,false,false,false,false,false,false,false] rfl rfl (any_of HT_.out (by kernel_rfl)) (fun _ _ _ h => h) (Or.inl ⟨by rfl, ?_⟩) ?_ ?_
         rotate_left
         ·intro w'
          go_simp
          with_reducible rfl
         rotate_left
         ·simp only [Act.put,sT_,sZ_,sS_,i64_w,i32_w]
          rfl
         refine pure_ (i := 10) (N := some 99) (v := ?_) (a' := ?_) #[true,true,false,true,false,true,false,true,false,false,true,false,false,false,false,false,false,false,false,false,false] rfl rfl (any_of HT_.out (by kernel_rfl)) (fun _ _ _ h => h) (Or.inl ⟨by rfl, ?_⟩) ?_ ?_
         rotate_left
         ·intro w'
          go_simp
          with_reducible rfl
         rotate_left
         ·simp only [Act.put,sT_,sZ_,sS_,i64_w,i32_w]
          rfl
         refine pure_ (i := 11) (N := some 100) (v := ?_) (a' := ?_) #[true,true,false,true,false,true,false,true,false,false,true,true,false,false,false,false,false,false,false,false,false] rfl rfl (any_of HT_.out (by kernel_rfl)) (fun _ _ _ h => h) (Or.inl ⟨by rfl, ?_⟩) ?_ ?_
         rotate_left
         ·intro w'
          go_simp
          with_reducible rfl
         rotate_left
         ·simp only [Act.put,sT_,sZ_,sS_,i64_w,i32_w]
          rfl
         refine pure_ (i := 13) (N := some 102) (v := ?_) (a' := ?_) #[true,true,false,true,false,true,false,true,false,false,true,true,false,true,false,false,false,false,false,false,false] rfl rfl (any_of HT_.out (by kernel_rfl)) (fun _ _ _ h => h) (Or.inl ⟨by rfl, ?_⟩) ?_ ?_
         rotate_left
         ·intro w'
          go_simp
          with_reducible rfl
         rotate_left
         ·simp only [Act.put,sT_,sZ_,sS_,i64_w,i32_w]
          rfl
         refine pure_ (i := 15) (N := some 104) (v := ?_) (a' := ?_) #[true,true,false,true,false,true,false,true,false,false,true,true,false,true,false,true,false,false,false,false,false] rfl rfl (any_of HT_.out (by kernel_rfl)) (fun _ _ _ h => h) (Or.inl ⟨by rfl, ?_⟩) ?_ ?_
         rotate_left
         ·intro w'
          go_simp
          with_reducible rfl
         rotate_left
         ·simp only [Act.put,sT_,sZ_,sS_,i64_w,i32_w]
          rfl
         refine pure_ (i := 17) (N := some 106) (v := ?_) (a' := ?_) #[true,true,false,true,false,true,false,true,false,false,true,true,false,true,false,true,false,true,false,false,false] rfl rfl (any_of HT_.out (by kernel_rfl)) (fun _ _ _ h => h) (Or.inl ⟨by rfl, ?_⟩) ?_ ?_
         rotate_left
         ·intro w'
          go_simp
          with_reducible rfl
         rotate_left
         ·simp only [Act.put,sT_,sZ_,sS_,i64_w,i32_w]
          rfl
         refine take_ (i := 2) (N := some 91) (v := ?_) (a' := ?_) #[true,true,true,true,false,true,false,true,false,false,true,true,false,true,false,true,false,true,false,false,false] rfl rfl (take_ofW HT_.out HW_.out (by kernel_rfl)) (fun _ _ _ h => h) (Or.inl ⟨by rfl, ?_⟩) hHeld ?_ ?_
         rotate_left
         ·rintro w' ⟨s0,s1,s2,s3⟩
          go_simp
          with_reducible rfl
         rotate_left
         ·simp only [Act.put,sT_,sZ_,sS_,i64_w,i32_w]
          rfl
         refine take_ (i := 4) (N := some 93) (v := ?_) (a' := ?_) #[true,true,true,true,true,true,false,true,false,false,true,true,false,true,false,true,false,true,false,false,false] rfl rfl (take_ofW HT_.out HW_.out (by kernel_rfl)) (fun _ _ _ h => h) (Or.inl ⟨by rfl, ?_⟩) hHeld ?_ ?_
         rotate_left
         ·rintro w' ⟨s0,s1,s2,s3⟩
          go_simp
          with_reducible rfl
         rotate_left
         ·simp only [Act.put,sT_,sZ_,sS_,i64_w,i32_w]
          rfl
         refine take_ (i := 6) (N := some 95) (v := ?_) (a' := ?_) #[true,true,true,true,true,true,true,true,false,false,true,true,false,true,false,true,false,true,false,false,false] rfl rfl (take_ofW HT_.out HW_.out (by kernel_rfl)) (fun _ _ _ h => h) (Or.inl ⟨by rfl, ?_⟩) hHeld ?_ ?_
         rotate_left
         ·rintro w' ⟨s0,s1,s2,s3⟩
          go_simp
          with_reducible rfl
         rotate_left
         ·simp only [Act.put,sT_,sZ_,sS_,i64_w,i32_w]
          rfl
         refine take_ (i := 8) (N := some 97) (v := ?_) (a' := ?_) #[true,true,true,true,true,true,true,true,true,false,true,true,false,true,false,true,false,true,false,false,false] rfl rfl (take_ofW HT_.out HW_.out (by kernel_rfl)) (fun _ _ _ h => h) (Or.inl ⟨by rfl, ?_⟩) hHeld ?_ ?_
         rotate_left
         ·rintro w' ⟨s0,s1,s2,s3⟩
          go_simp
          with_reducible rfl
         rotate_left
         ·simp only [Act.put,sT_,sZ_,sS_,i64_w,i32_w]
          rfl
         refine take_ (i := 12) (N := some 101) (v := ?_) (a' := ?_) #[true,true,true,true,true,true,true,true,true,false,true,true,true,true,false,true,false,true,false,false,false] rfl rfl (take_ofW HT_.out HW_.out (by kernel_rfl)) (fun _ _ _ h => h) (Or.inl ⟨by rfl, ?_⟩) hHeld ?_ ?_
         rotate_left
         ·rintro w' ⟨s0,s1,s2,s3⟩
          go_simp
          with_reducible rfl
         rotate_left
         ·simp only [Act.put,sT_,sZ_,sS_,i64_w,i32_w]
          rfl
         refine take_ (i := 14) (N := some 103) (v := ?_) (a' := ?_) #[true,true,true,true,true,true,true,true,true,false,true,true,true,true,true,true,false,true,false,false,false] rfl rfl (take_ofW HT_.out HW_.out (by kernel_rfl)) (fun _ _ _ h => h) (Or.inl ⟨by rfl, ?_⟩) hHeld ?_ ?_
         rotate_left
         ·rintro w' ⟨s0,s1,s2,s3⟩
          go_simp
          with_reducible rfl
         rotate_left
         ·simp only [Act.put,sT_,sZ_,sS_,i64_w,i32_w]
          rfl
         refine take_ (i := 16) (N := some 105) (v := ?_) (a' := ?_) #[true,true,true,true,true,true,true,true,true,false,true,true,true,true,true,true,true,true,false,false,false] rfl rfl (take_ofW HT_.out HW_.out (by kernel_rfl)) (fun _ _ _ h => h) (Or.inl ⟨by rfl, ?_⟩) hHeld ?_ ?_
         rotate_left
         ·rintro w' ⟨s0,s1,s2,s3⟩
          go_simp
          with_reducible rfl
         rotate_left
         ·simp only [Act.put,sT_,sZ_,sS_,i64_w,i32_w]
          rfl
         refine take_ (i := 18) (N := some 107) (v := ?_) (a' := ?_) #[true,true,true,true,true,true,true,true,true,false,true,true,true,true,true,true,true,true,true,false,false] rfl rfl (take_ofW HT_.out HW_.out (by kernel_rfl)) (fun _ _ _ h => h) (Or.inl ⟨by rfl, ?_⟩) hHeld ?_ ?_
         rotate_left
         ·rintro w' ⟨s0,s1,s2,s3⟩
          go_simp
          with_reducible rfl
         rotate_left
         ·simp only [Act.put,sT_,sZ_,sS_,i64_w,i32_w]
          rfl
         refine one_ (i := 9) (N := some 98) #[true,true,true,true,true,true,true,true,true,true,true,true,true,true,true,true,true,true,true,false,false] rfl rfl (one_of HT_.out (by kernel_rfl)) (by decide) (fun K hK => ?_)
         refine goes_ Try.func14 (by kernel_rfl) rfl #[.pointer (some ⟨g,0,none⟩),.int .i64 x.2.2.1,.int .i64 x.2.2.2.1,.int .i64 x.2.2.2.2.1,.int .i64 x.2.2.2.2.2.1] (by rfl) rfl rfl (by simp only [List.map_toArray,List.map_cons,List.map_nil];rfl) ?_
         with_reducible refine (HPD.out.linkP HV.out HNI.out.1 x.2.2.1 x.2.2.2.1 x.2.2.2.2.1 x.2.2.2.2.2.1).mono ?_
         rintro e w7 ⟨rfl,hP,hK⟩
         refine ⟨_,rfl, ?_⟩
         rw [HE1.out]
         rw [HE2.out] at hP
         have HP7 := Aside0.mk hP
         have HX7 := Aside0.mk ((hK bx (.inr rfl)).trans HXD.out)
         clear hP hK
         refine hK.out _ _ ⟨((blk_cell HX7.out 4).trans rfl),((blk_cell HX7.out 5).trans rfl),((blk_cell HX7.out 6).trans rfl),((blk_cell HX7.out 7).trans rfl)⟩ (fun hHeld => ?_)
         clear hK K
         refine norm_ (a' := ?_) ?_ ?_
         rotate_left
         ·show Act.put _ (some 98) _ = _
          simp only [Act.put,sT_,sZ_,sS_,i64_w,i32_w]
          rfl
         refine one_ (i := 19) (N := some 108) #[true,true,true,true,true,true,true,true,true,true,true,true,true,true,true,true,true,true,true,true,false] rfl rfl (one_of HT_.out (by kernel_rfl)) (by decide) (fun K hK => ?_)
         refine goes_ Try.func39 (by kernel_rfl) rfl #[.pointer (some ⟨gr,0,none⟩),.int .i64 x.2.2.1,.int .i64 x.2.2.2.1,.int .i64 x.2.2.2.2.1,.int .i64 x.2.2.2.2.2.1] (by rfl) rfl rfl (by simp only [List.map_toArray,List.map_cons,List.map_nil];rfl) ?_
         with_reducible refine (HP7.out.linkD HV.out HNI.out.1 x.2.2.1 x.2.2.2.1 x.2.2.2.2.1 x.2.2.2.2.2.1).mono ?_
         rintro e w8 ⟨rfl,hP,hK⟩
         refine ⟨_,rfl, ?_⟩
         rw [HE1.out]
         rw [HE2.out] at hP
         have HP8 := Aside0.mk hP
         have HX8 := Aside0.mk ((hK bx (.inr rfl)).trans HX7.out)
         clear hP hK
         refine hK.out _ _ ⟨((blk_cell HX8.out 4).trans rfl),((blk_cell HX8.out 5).trans rfl),((blk_cell HX8.out 6).trans rfl),((blk_cell HX8.out 7).trans rfl)⟩ (fun hHeld => ?_)
         clear hK K
         refine norm_ (a' := ?_) ?_ ?_
         rotate_left
         ·show Act.put _ (some 108) _ = _
          simp only [Act.put,sT_,sZ_,sS_,i64_w,i32_w]
          rfl
         refine pure_ (i := 20) (N := some 109) (v := ?_) (a' := ?_) #[true,true,true,true,true,true,true,true,true,true,true,true,true,true,true,true,true,true,true,true,true] rfl rfl (any_of HT_.out (by kernel_rfl)) (fun _ _ _ h => h) (Or.inl ⟨by rfl, ?_⟩) ?_ ?_
         rotate_left
         ·intro w'
          go_simp
          with_reducible rfl
         rotate_left
         ·simp only [Act.put,sT_,sZ_,sS_,i64_w,i32_w]
          rfl
         refine done_ (done_of HT_.out (by kernel_rfl)) ?_
         clear hHeld
         go_wp2
         go_meet
         exact ⟨s2,HP8,⟨by rw [← HE2.out];exact (HV.out.link x.2.2.1 x.2.2.2.1 x.2.2.2.2.1 x.2.2.2.2.2.1).mono HNI.out.2.2⟩⟩
        | false =>
         cases k2 : (x.1.tmod 6 == 2) with
         | true =>
          have b4 := (blk_cell HX3.out 4).trans rfl
          cases ht : s.there x.2.2.1 0 with
          | false =>
           have HT := Aside0.mk ht
           clear ht
           go_wp2_with (first | (have := HP5;go_at_call 41;(with_reducible refine (HP5.out.thereB x.2.2.1 0 false HT.out).mono ?_);rintro e w6 ⟨rfl,hb⟩;have HP6 := Aside0.mk (HP5.out.below hb);have HX6 := Aside0.mk (blk_below HX5.out hb);clear hb b4) | (go_at_call 40;(with_reducible refine (HPX.out.untilN x.2.2.1 7 HT.out).mono ?_);rintro e w5 ⟨rfl,hP,hK⟩;have HP5 := Aside0.mk hP;have HX5 := Aside0.mk ((hK bx (.inr rfl)).trans HX3.out);clear b4 hP hK;have b4 := (blk_cell HX5.out 4).trans rfl))
           go_meet
           exact ⟨s,HP6,⟨HV.out.mono HNI.out.2.2⟩⟩
          | true =>
           have HT := Aside0.mk ht
           obtain ⟨k,j,nd,hk, -,hnd, -⟩ := there_iff.1 ht
           have HAK := Aside0.mk hk
           have HND := Aside0.mk hnd
           have HKL := Aside0.mk (List.getElem?_eq_some_iff.1 hnd).1
           have HUN := Aside0.mk (show s.until_ (x.2.2.1).toNat 7 = s.until_ k 7 by rw [hk];rfl)
           clear ht hk hnd
           go_wp2_with (first | (have := HP5;go_at_call 41;(with_reducible refine (HP5.out.thereB x.2.2.1 0 true HT.out).mono ?_);rintro e w6 ⟨rfl,hb⟩;have HP6 := Aside0.mk (HP5.out.below hb);have HX6 := Aside0.mk (blk_below HX5.out hb);clear hb b4) | (go_at_call 40;(with_reducible refine (HPX.out.untilY x.2.2.1 7 HT.out).mono ?_);rintro e w5 ⟨rfl,hP,hK⟩;have HP5 := Aside0.mk hP;have HX5 := Aside0.mk ((hK bx (.inr rfl)).trans HX3.out);clear b4 hP hK;have b4 := (blk_cell HX5.out 4).trans rfl))
           have HPE := Aside0.mk (HP6.out.below (below_drew (Below.refl _ _)))
           have HXE := Aside0.mk (blk_below HX6.out (below_drew (Below.refl _ _)))
           clear HP5 HP6 HX5 HX6
           rw [HUN.out] at HPE
           obtain ⟨s1,hs1⟩ : ∃ z,s.until_ k 7 = z := ⟨_,rfl⟩
           have HS1 := Aside0.mk hs1
           rw [hs1] at HPE
           clear hs1
           obtain ⟨rb,cap,hgb,hz4,hfz,hset⟩ := HPE.out.unD HND.out
           have HGB := Aside0.mk hgb
           have HZ4 := Aside0.mk hz4
           have HFZ := Aside0.mk hfz
           have HSET := Aside0.mk (hset 7)
           have p4 : (k : Int) < (s.l.length : Int) := by have := HKL.out;omega
           clear hgb hz4 hfz hset
           refine start_ (n := 9) (S := fun w' => w'.cell? ⟨bx,4,none⟩ = some (.int .i64 (k : Int)) ∧ w'.cell? ⟨gr,1,none⟩ = some (.slice (some ⟨rb,0,none⟩) s.l.length cap)) (ds := [8]) #[false,false,false,false,false,false,false,false,false] (by kernel_rfl) rfl rfl ⟨((blk_cell HXE.out 4).trans (congrArg (fun z => some (Value.int .i64 z)) HAK.out)),((blk_cell HGB.out 1).trans rfl)⟩ (fun hHeld => ?_)
           refine with_tabW bld.tab21 bld.bits21 (fun HT_ HW_ => ?_)
           generalize w6.drew = wd at HPE HXE HGB HZ4 HFZ HSET hHeld ⊢
           refine pure_ (i := 0) (N := some 123) (v := ?_) (a' := ?_) #[true,false,false,false,false,false,false,false,false] rfl rfl (any_of HT_.out (by kernel_rfl)) (fun _ _ _ h => h) (Or.inl ⟨by rfl, ?_⟩) ?_ ?_
           rotate_left
           ·intro w'
            go_simp
            with_reducible rfl
           rotate_left
           ·simp only [Act.put,sT_,sZ_,sS_,i64_w,i32_w]
            rfl
           refine pure_ (i := 1) (N := some 124) (v := ?_) (a' := ?_) #[true,true,false,false,false,false,false,false,false] rfl rfl (any_of HT_.out (by kernel_rfl)) (fun _ _ _ h => h) (Or.inl ⟨by rfl, ?_⟩) ?_ ?_
           rotate_left
           ·intro w'
            go_simp
            with_reducible rfl
           rotate_left
           ·simp only [Act.put,sT_,sZ_,sS_,i64_w,i32_w]
            rfl
           refine pure_ (i := 2) (N := some 125) (v := ?_) (a' := ?_) #[true,true,true,false,false,false,false,false,false] rfl rfl (any_of HT_.out (by kernel_rfl)) (fun _ _ _ h => h) (Or.inl ⟨by rfl, ?_⟩) ?_ ?_
           rotate_left
           ·intro w'
            go_simp
            with_reducible rfl
           rotate_left
           ·simp only [Act.put,sT_,sZ_,sS_,i64_w,i32_w]
            rfl
           refine pure_ (i := 4) (N := some 127) (v := ?_) (a' := ?_) #[true,true,true,false,true,false,false,false,false] rfl rfl (any_of HT_.out (by kernel_rfl)) (fun _ _ _ h => h) (Or.inl ⟨by rfl, ?_⟩) ?_ ?_
           rotate_left
           ·intro w'
            go_simp
            with_reducible rfl
           rotate_left
           ·simp only [Act.put,sT_,sZ_,sS_,i64_w,i32_w]
            rfl
           refine take_ (i := 3) (N := some 126) (v := ?_) (a' := ?_) #[true,true,true,true,true,false,false,false,false] rfl rfl (take_ofW HT_.out HW_.out (by kernel_rfl)) (fun _ _ _ h => h) (Or.inl ⟨by rfl, ?_⟩) hHeld ?_ ?_
           rotate_left
           ·rintro w' ⟨s0,s1⟩
            go_simp
            with_reducible rfl
           rotate_left
           ·simp only [Act.put,sT_,sZ_,sS_,i64_w,i32_w]
            rfl
           refine take_ (i := 5) (N := some 128) (v := ?_) (a' := ?_) #[true,true,true,true,true,true,false,false,false] rfl rfl (take_ofW HT_.out HW_.out (by kernel_rfl)) (fun _ _ _ h => h) (Or.inl ⟨by rfl, ?_⟩) hHeld ?_ ?_
           rotate_left
           ·rintro w' ⟨s0,s1⟩
            go_simp
            with_reducible rfl
           rotate_left
           ·simp only [Act.put,sT_,sZ_,sS_,i64_w,i32_w]
            rfl
           refine pure_ (i := 6) (N := some 129) (v := ?_) (a' := ?_) #[true,true,true,true,true,true,true,false,false] rfl rfl (any_of HT_.out (by kernel_rfl)) (fun _ _ _ h => h) (Or.inl ⟨by rfl, ?_⟩) ?_ ?_
           rotate_left
           ·intro w'
            go_simp
            with_reducible rfl
           rotate_left
           ·simp only [Act.put,sT_,sZ_,sS_,i64_w,i32_w]
            rfl
           refine pure_ (i := 7) (N := some 130) (v := ?_) (a' := ?_) #[true,true,true,true,true,true,true,true,false] rfl rfl (any_of HT_.out (by kernel_rfl)) (fun _ _ _ h => h) (Or.inl ⟨by rfl, ?_⟩) ?_ ?_
           rotate_left
           ·intro w'
            go_simp
            with_reducible rfl
           rotate_left
           ·simp only [Act.put,sT_,sZ_,sS_,i64_w,i32_w]
            rfl
           refine last_ (i := 8) (N := none) #[true,true,true,true,true,true,true,true,true] rfl rfl (one_of HT_.out (by kernel_rfl)) (by decide) (fun K hK => ?_)
           have z4 := HZ4.out
           have fz := HFZ.out
           refine skip_ (w1 := ?_) (by rfl) rfl ?_ ?_
           rotate_left
           ·go_simp
            rfl
           clear z4 fz
           refine hK.out _ _ ?_
           clear hK K
           refine done_ (done_of HT_.out (by kernel_rfl)) ?_
           clear hHeld
           skip
           go_wp2
           go_meet
           exact ⟨s1,⟨by have := HSET.out;rw [HS1.out] at this;exact this⟩,⟨by rw [← HS1.out];exact (HV.out.until_ k 7).mono HNI.out.2.2⟩⟩
         | false =>
          cases k3 : (x.1.tmod 6 == 3) with
          | true =>
           go_wp2
           have HPD := Aside0.mk (HPX.out.below (below_drew (Below.refl _ _)))
           have HXD := Aside0.mk (blk_below HX3.out (below_drew (Below.refl _ _)))
           refine start_ (n := 16) (S := fun w' => w'.cell? ⟨bx,2,none⟩ = some (.slice A1 x.2.1.2.1.length c1) ∧ w'.cell? ⟨bx,8,none⟩ = some (.slice A3 x.2.2.2.2.2.2.length c3)) (ds := []) #[false,false,false,false,false,false,false,false,false,false,false,false,false,false,false,false] (by kernel_rfl) rfl rfl ⟨((blk_cell HXD.out 2).trans rfl),((blk_cell HXD.out 8).trans rfl)⟩ (fun hHeld => ?_)
           refine with_tabW bld.tab23 bld.bits23 (fun HT_ HW_ => ?_)
           generalize w3.drew = wd at HPD HXD hHeld ⊢
           refine pure_ (i := 0) (N := some 133) (v := ?_) (a' := ?_) #[true,false,false,false,false,false,false,false,false,false,false,false,false,false,false,false] rfl rfl (any_of HT_.out (by kernel_rfl)) (fun _ _ _ h => h) (Or.inl ⟨by rfl, ?_⟩) ?_ ?_
           rotate_left
           ·intro w'
            go_simp
            with_reducible rfl
           rotate_left
           ·simp only [Act.put,sT_,sZ_,sS_,i64_w,i32_w]
            rfl
           refine pure_ (i := 1) (N := some 134) (v := ?_) (a' := ?_) #[true,true,false,false,false,false,false,false,false,false,false,false,false,false,false,false] rfl rfl (any_of HT_.out (by kernel_rfl)) (fun _ _ _ h => h) (Or.inl ⟨by rfl, ?_⟩) ?_ ?_
           rotate_left
           ·intro w'
            go_simp
            with_reducible rfl
           rotate_left
           ·simp only [Act.put,sT_,sZ_,sS_,i64_w,i32_w]
            rfl
           refine pure_ (i := 2) (N := some 135) (v := ?_) (a' := ?_) #[true,true,true,false,false,false,false,false,false,false,false,false,false,false,false,false] rfl rfl (any_of HT_.out (by kernel_rfl)) (fun _ _ _ h => h) (Or.inl ⟨by rfl, ?_⟩) ?_ ?_
           rotate_left
           ·intro w'
            go_simp
            with_reducible rfl
           rotate_left
           ·simp only [Act.put,sT_,sZ_,sS_,i64_w,i32_w]
            rfl
           refine pure_ (i := 4) (N := some 137) (v := ?_) (a' := ?_) #[true,true,true,false,true,false,false,false,false,false,false,false,false,false,false,false] rfl rfl (any_of HT_.out (by kernel_rfl)) (fun _ _ _ h => h) (Or.inl ⟨by rfl, ?_⟩) ?_ ?_
           rotate_left
           ·intro w'
            go_simp
            with_reducible rfl
           rotate_left
           ·simp only [Act.put,sT_,sZ_,sS_,i64_w,i32_w]
            rfl
           refine pure_ (i := 7) (N := some 140) (v := ?_) (a' := ?_) #[true,true,true,false,true,false,false,true,false,false,false,false,false,false,false,false] rfl rfl (any_of HT_.out (by kernel_rfl)) (fun _ _ _ h => h) (Or.inl ⟨by rfl, ?_⟩) ?_ ?_
           rotate_left
           ·intro w'
            go_simp
            with_reducible rfl
           rotate_left
           ·simp only [Act.put,sT_,sZ_,sS_,i64_w,i32_w]
            rfl
           refine pure_ (i := 8) (N := some 141) (v := ?_) (a' := ?_) #[true,true,true,false,true,false,false,true,true,false,false,false,false,false,false,false] rfl rfl (any_of HT_.out (by kernel_rfl)) (fun _ _ _ h => h) (Or.inl ⟨by rfl, ?_⟩) ?_ ?_
           rotate_left
           ·intro w'
            go_simp
            with_reducible rfl
           rotate_left
           ·simp only [Act.put,sT_,sZ_,sS_,i64_w,i32_w]
            rfl
           refine pure_ (i := 9) (N := some 142) (v := ?_) (a' := ?_) #[true,true,true,false,true,false,false,true,true,true,false,false,false,false,false,false] rfl rfl (any_of HT_.out (by kernel_rfl)) (fun _ _ _ h => h) (Or.inl ⟨by rfl, ?_⟩) ?_ ?_
           rotate_left
           ·intro w'
            go_simp
            with_reducible rfl
           rotate_left
           ·simp only [Act.put,sT_,sZ_,sS_,i64_w,i32_w]
            rfl
           refine pure_ (i := 11) (N := some 144) (v := ?_) (a' := ?_) #[true,true,true,false,true,false,false,true,true,true,false,true,false,false,false,false] rfl rfl (any_of HT_.out (by kernel_rfl)) (fun _ _ _ h => h) (Or.inl ⟨by rfl, ?_⟩) ?_ ?_
           rotate_left
           ·intro w'
            go_simp
            with_reducible rfl
           rotate_left
           ·simp only [Act.put,sT_,sZ_,sS_,i64_w,i32_w]
            rfl
           refine take_ (i := 3) (N := some 136) (v := ?_) (a' := ?_) #[true,true,true,true,true,false,false,true,true,true,false,true,false,false,false,false] rfl rfl (take_ofW HT_.out HW_.out (by kernel_rfl)) (fun _ _ _ h => h) (Or.inl ⟨by rfl, ?_⟩) hHeld ?_ ?_
           rotate_left
           ·rintro w' ⟨s0,s1⟩
            go_simp
            with_reducible rfl
           rotate_left
           ·simp only [Act.put,sT_,sZ_,sS_,i64_w,i32_w]
            rfl
           refine take_ (i := 5) (N := some 138) (v := ?_) (a' := ?_) #[true,true,true,true,true,true,false,true,true,true,false,true,false,false,false,false] rfl rfl (take_ofW HT_.out HW_.out (by kernel_rfl)) (fun _ _ _ h => h) (Or.inl ⟨by rfl, ?_⟩) hHeld ?_ ?_
           rotate_left
           ·rintro w' ⟨s0,s1⟩
            go_simp
            with_reducible rfl
           rotate_left
           ·simp only [Act.put,sT_,sZ_,sS_,i64_w,i32_w]
            rfl
           refine take_ (i := 10) (N := some 143) (v := ?_) (a' := ?_) #[true,true,true,true,true,true,false,true,true,true,true,true,false,false,false,false] rfl rfl (take_ofW HT_.out HW_.out (by kernel_rfl)) (fun _ _ _ h => h) (Or.inl ⟨by rfl, ?_⟩) hHeld ?_ ?_
           rotate_left
           ·rintro w' ⟨s0,s1⟩
            go_simp
            with_reducible rfl
           rotate_left
           ·simp only [Act.put,sT_,sZ_,sS_,i64_w,i32_w]
            rfl
           refine take_ (i := 12) (N := some 145) (v := ?_) (a' := ?_) #[true,true,true,true,true,true,false,true,true,true,true,true,true,false,false,false] rfl rfl (take_ofW HT_.out HW_.out (by kernel_rfl)) (fun _ _ _ h => h) (Or.inl ⟨by rfl, ?_⟩) hHeld ?_ ?_
           rotate_left
           ·rintro w' ⟨s0,s1⟩
            go_simp
            with_reducible rfl
           rotate_left
           ·simp only [Act.put,sT_,sZ_,sS_,i64_w,i32_w]
            rfl
           refine one_ (i := 6) (N := some 139) #[true,true,true,true,true,true,true,true,true,true,true,true,true,false,false,false] rfl rfl (one_of HT_.out (by kernel_rfl)) (by decide) (fun K hK => ?_)
           refine goes_ Try.func21 (by kernel_rfl) rfl #[.pointer (some ⟨g,0,none⟩),.slice A1 x.2.1.2.1.length c1,.slice A3 x.2.2.2.2.2.2.length c3] (by rfl) rfl rfl (by simp only [List.map_toArray,List.map_cons,List.map_nil];rfl) ?_
           with_reducible refine (HPD.out.nearP HV.out HNI.out.1 A1 c1 x.2.1.2.1 (HO.out.below HPD.out.at0).vec (HO.out.below HPD.out.at0).fit1 A3 c3 x.2.2.2.2.2.2 (HO.out.below HPD.out.at0).l (by have := HKL.out;omega)).mono ?_
           rintro e w7 ⟨⟨v7,rfl,hv⟩,hb⟩
           refine ⟨_,rfl, ?_⟩
           have HN7 := Aside0.mk hv
           have HP7 := Aside0.mk (HPD.out.below hb)
           have HX7 := Aside0.mk (blk_below HXD.out hb)
           clear hv hb
           refine hK.out _ _ ⟨((blk_cell HX7.out 2).trans rfl),((blk_cell HX7.out 8).trans rfl)⟩ (fun hHeld => ?_)
           clear hK K
           refine norm_ (a' := ?_) ?_ ?_
           rotate_left
           ·show Act.put _ (some 139) _ = _
            simp only [Act.put,sT_,sZ_,sS_,i64_w,i32_w]
            rfl
           refine one_ (i := 13) (N := some 146) #[true,true,true,true,true,true,true,true,true,true,true,true,true,true,false,false] rfl rfl (one_of HT_.out (by kernel_rfl)) (by decide) (fun K hK => ?_)
           refine goes_ Try.func42 (by kernel_rfl) rfl #[.pointer (some ⟨gr,0,none⟩),.slice A1 x.2.1.2.1.length c1,.slice A3 x.2.2.2.2.2.2.length c3] (by rfl) rfl rfl (by simp only [List.map_toArray,List.map_cons,List.map_nil];rfl) ?_
           with_reducible refine (HP7.out.nearD HV.out HNI.out.1 A1 c1 x.2.1.2.1 (HO.out.below HP7.out.at0).vec (HO.out.below HP7.out.at0).fit1 A3 c3 x.2.2.2.2.2.2 (HO.out.below HP7.out.at0).l (by have := HKL.out;omega)).mono ?_
           rintro e w9 ⟨⟨v9,rfl,hv⟩,hb⟩
           refine ⟨_,rfl, ?_⟩
           have HN9 := Aside0.mk hv
           have HQ9 := Aside0.mk (HN7.out.below hb)
           have HP9 := Aside0.mk (HP7.out.below hb)
           have HX9 := Aside0.mk (blk_below HX7.out hb)
           clear hv hb
           refine hK.out _ _ ⟨((blk_cell HX9.out 2).trans rfl),((blk_cell HX9.out 8).trans rfl)⟩ (fun hHeld => ?_)
           clear hK K
           refine norm_ (a' := ?_) ?_ ?_
           rotate_left
           ·show Act.put _ (some 146) _ = _
            simp only [Act.put,sT_,sZ_,sS_,i64_w,i32_w]
            rfl
           refine one_ (i := 14) (N := some 147) #[true,true,true,true,true,true,true,true,true,true,true,true,true,true,true,false] rfl rfl (one_of HT_.out (by kernel_rfl)) (by decide) (fun K hK => ?_)
           refine goes_ Try.func20 (by kernel_rfl) rfl #[v7,v9] (by rfl) rfl rfl (by simp only [List.map_toArray,List.map_cons,List.map_nil];rfl) ?_
           with_reducible refine (rsame_own _ _ v7 v9 _ _ _ rfl HQ9.out HN9.out (by have h1 := near_len s x.2.1.2.1 x.2.2.2.2.2.2;have h2 := HKL.out;omega)).mono ?_
           rintro e w8 ⟨rfl,hb⟩
           refine ⟨_,rfl, ?_⟩
           have HP8 := Aside0.mk (HP9.out.below hb)
           have HX8 := Aside0.mk (blk_below HX9.out hb)
           clear hb
           refine hK.out _ _ ⟨((blk_cell HX8.out 2).trans rfl),((blk_cell HX8.out 8).trans rfl)⟩ (fun hHeld => ?_)
           clear hK K
           refine norm_ (a' := ?_) ?_ ?_
           rotate_left
           ·show Act.put _ (some 147) _ = _
            simp only [Act.put,sT_,sZ_,sS_,i64_w,i32_w]
            rfl
           refine pure_ (i := 15) (N := some 148) (v := ?_) (a' := ?_) #[true,true,true,true,true,true,true,true,true,true,true,true,true,true,true,true] rfl rfl (any_of HT_.out (by kernel_rfl)) (fun _ _ _ h => h) (Or.inl ⟨by rfl, ?_⟩) ?_ ?_
           rotate_left
           ·intro w'
            go_simp
            with_reducible rfl
           rotate_left
           ·simp only [Act.put,sT_,sZ_,sS_,i64_w,i32_w]
            rfl
           refine done_ (done_of HT_.out (by kernel_rfl)) ?_
           clear hHeld
           go_wp2
           go_meet
           exact ⟨s,HP8,⟨HV.out.mono HNI.out.2.2⟩⟩
          | false =>
           cases k4 : (x.1.tmod 6 == 4) with
           | true =>
            go_wp2
            have HPD := Aside0.mk (HPX.out.below (below_drew (Below.refl _ _)))
            have HXD := Aside0.mk (blk_below HX3.out (below_drew (Below.refl _ _)))
            refine start_ (n := 20) (S := fun w' => w'.cell? ⟨bx,2,none⟩ = some (.slice A1 x.2.1.2.1.length c1) ∧ w'.cell? ⟨bx,7,none⟩ = some (.int .i64 x.2.2.2.2.2.1) ∧ w'.cell? ⟨bx,8,none⟩ = some (.slice A3 x.2.2.2.2.2.2.length c3)) (ds := []) #[false,false,false,false,false,false,false,false,false,false,false,false,false,false,false,false,false,false,false,false] (by kernel_rfl) rfl rfl ⟨((blk_cell HXD.out 2).trans rfl),((blk_cell HXD.out 7).trans rfl),((blk_cell HXD.out 8).trans rfl)⟩ (fun hHeld => ?_)
            refine with_tabW bld.tab26 bld.bits26 (fun HT_ HW_ => ?_)
            generalize w3.drew = wd at HPD HXD hHeld ⊢
            refine pure_ (i := 0) (N := some 151) (v := ?_) (a' := ?_) #[true,false,false,false,false,false,false,false,false,false,false,false,false,false,false,false,false,false,false,false] rfl rfl (any_of HT_.out (by kernel_rfl)) (fun _ _ _ h => h) (Or.inl ⟨by rfl, ?_⟩) ?_ ?_
            rotate_left
            ·intro w'
             go_simp
             with_reducible rfl
            rotate_left
            ·simp only [Act.put,sT_,sZ_,sS_,i64_w,i32_w]
             rfl
            refine pure_ (i := 1) (N := some 152) (v := ?_) (a' := ?_) #[true,true,false,false,false,false,false,false,false,false,false,false,false,false,false,false,false,false,false,false] rfl rfl (any_of HT_.out (by kernel_rfl)) (fun _ _ _ h => h) (Or.inl ⟨by rfl, ?_⟩) ?_ ?_
            rotate_left
            ·intro w'
             go_simp
             with_reducible rfl
            rotate_left
            ·simp only [Act.put,sT_,sZ_,sS_,i64_w,i32_w]
             rfl
            refine pure_ (i := 2) (N := some 153) (v := ?_) (a' := ?_) #[true,true,true,false,false,false,false,false,false,false,false,false,false,false,false,false,false,false,false,false] rfl rfl (any_of HT_.out (by kernel_rfl)) (fun _ _ _ h => h) (Or.inl ⟨by rfl, ?_⟩) ?_ ?_
            rotate_left
            ·intro w'
             go_simp
             with_reducible rfl
            rotate_left
            ·simp only [Act.put,sT_,sZ_,sS_,i64_w,i32_w]
             rfl
            refine pure_ (i := 4) (N := some 155) (v := ?_) (a' := ?_) #[true,true,true,false,true,false,false,false,false,false,false,false,false,false,false,false,false,false,false,false] rfl rfl (any_of HT_.out (by kernel_rfl)) (fun _ _ _ h => h) (Or.inl ⟨by rfl, ?_⟩) ?_ ?_
            rotate_left
            ·intro w'
             go_simp
             with_reducible rfl
            rotate_left
            ·simp only [Act.put,sT_,sZ_,sS_,i64_w,i32_w]
             rfl
            refine pure_ (i := 6) (N := some 157) (v := ?_) (a' := ?_) #[true,true,true,false,true,false,true,false,false,false,false,false,false,false,false,false,false,false,false,false] rfl rfl (any_of HT_.out (by kernel_rfl)) (fun _ _ _ h => h) (Or.inl ⟨by rfl, ?_⟩) ?_ ?_
            rotate_left
            ·intro w'
             go_simp
             with_reducible rfl
            rotate_left
            ·simp only [Act.put,sT_,sZ_,sS_,i64_w,i32_w]
             rfl
            refine pure_ (i := 9) (N := some 160) (v := ?_) (a' := ?_) #[true,true,true,false,true,false,true,false,false,true,false,false,false,false,false,false,false,false,false,false] rfl rfl (any_of HT_.out (by kernel_rfl)) (fun _ _ _ h => h) (Or.inl ⟨by rfl, ?_⟩) ?_ ?_
            rotate_left
            ·intro w'
             go_simp
             with_reducible rfl
            rotate_left
            ·simp only [Act.put,sT_,sZ_,sS_,i64_w,i32_w]
             rfl
            refine pure_ (i := 10) (N := some 161) (v := ?_) (a' := ?_) #[true,true,true,false,true,false,true,false,false,true,true,false,false,false,false,false,false,false,false,false] rfl rfl (any_of HT_.out (by kernel_rfl)) (fun _ _ _ h => h) (Or.inl ⟨by rfl, ?_⟩) ?_ ?_
            rotate_left
            ·intro w'
             go_simp
             with_reducible rfl
            rotate_left
            ·simp only [Act.put,sT_,sZ_,sS_,i64_w,i32_w]
             rfl
            refine pure_ (i := 11) (N := some 162) (v := ?_) (a' := ?_) #[true,true,true,false,true,false,true,false,false,true,true,true,false,false,false,false,false,false,false,false] rfl rfl (any_of HT_.out (by kernel_rfl)) (fun _ _ _ h => h) (Or.inl ⟨by rfl, ?_⟩) ?_ ?_
            rotate_left
            ·intro w'
             go_simp
             with_reducible rfl
            rotate_left
            ·simp only [Act.put,sT_,sZ_,sS_,i64_w,i32_w]
             rfl
            refine pure_ (i := 13) (N := some 164) (v := ?_) (a' := ?_) #[true,true,true,false,true,false,true,false,false,true,true,true,false,true,false,false,false,false,false,false] rfl rfl (any_of HT_.out (by kernel_rfl)) (fun _ _ _ h => h) (Or.inl ⟨by rfl, ?_⟩) ?_ ?_
            rotate_left
            ·intro w'
             go_simp
             with_reducible rfl
            rotate_left
            ·simp only [Act.put,sT_,sZ_,sS_,i64_w,i32_w]
             rfl
            refine pure_ (i := 15) (N := some 166) (v := ?_) (a' := ?_) #[true,true,true,false,true,false,true,false,false,true,true,true,false,true,false,true,false,false,false,false] rfl rfl (any_of HT_.out (by kernel_rfl)) (fun _ _ _ h => h) (Or.inl ⟨by rfl, ?_⟩) ?_ ?_
            rotate_left
            ·intro w'
             go_simp
             with_reducible rfl
            rotate_left
            ·simp only [Act.put,sT_,sZ_,sS_,i64_w,i32_w]
             rfl
            refine take_ (i := 3) (N := some 154) (v := ?_) (a' := ?_) #[true,true,true,true,true,false,true,false,false,true,true,true,false,true,false,true,false,false,false,false] rfl rfl (take_ofW HT_.out HW_.out (by kernel_rfl)) (fun _ _ _ h => h) (Or.inl ⟨by rfl, ?_⟩) hHeld ?_ ?_
            rotate_left
            ·rintro w' ⟨s0,s1,s2⟩
             go_simp
             with_reducible rfl
            rotate_left
            ·simp only [Act.put,sT_,sZ_,sS_,i64_w,i32_w]
             rfl
            refine take_ (i := 5) (N := some 156) (v := ?_) (a' := ?_) #[true,true,true,true,true,true,true,false,false,true,true,true,false,true,false,true,false,false,false,false] rfl rfl (take_ofW HT_.out HW_.out (by kernel_rfl)) (fun _ _ _ h => h) (Or.inl ⟨by rfl, ?_⟩) hHeld ?_ ?_
            rotate_left
            ·rintro w' ⟨s0,s1,s2⟩
             go_simp
             with_reducible rfl
            rotate_left
            ·simp only [Act.put,sT_,sZ_,sS_,i64_w,i32_w]
             rfl
            refine take_ (i := 7) (N := some 158) (v := ?_) (a' := ?_) #[true,true,true,true,true,true,true,true,false,true,true,true,false,true,false,true,false,false,false,false] rfl rfl (take_ofW HT_.out HW_.out (by kernel_rfl)) (fun _ _ _ h => h) (Or.inl ⟨by rfl, ?_⟩) hHeld ?_ ?_
            rotate_left
            ·rintro w' ⟨s0,s1,s2⟩
             go_simp
             with_reducible rfl
            rotate_left
            ·simp only [Act.put,sT_,sZ_,sS_,i64_w,i32_w]
             rfl
            refine take_ (i := 12) (N := some 163) (v := ?_) (a' := ?_) #[true,true,true,true,true,true,true,true,false,true,true,true,true,true,false,true,false,false,false,false] rfl rfl (take_ofW HT_.out HW_.out (by kernel_rfl)) (fun _ _ _ h => h) (Or.inl ⟨by rfl, ?_⟩) hHeld ?_ ?_
            rotate_left
            ·rintro w' ⟨s0,s1,s2⟩
             go_simp
             with_reducible rfl
            rotate_left
            ·simp only [Act.put,sT_,sZ_,sS_,i64_w,i32_w]
             rfl
            refine take_ (i := 14) (N := some 165) (v := ?_) (a' := ?_) #[true,true,true,true,true,true,true,true,false,true,true,true,true,true,true,true,false,false,false,false] rfl rfl (take_ofW HT_.out HW_.out (by kernel_rfl)) (fun _ _ _ h => h) (Or.inl ⟨by rfl, ?_⟩) hHeld ?_ ?_
            rotate_left
            ·rintro w' ⟨s0,s1,s2⟩
             go_simp
             with_reducible rfl
            rotate_left
            ·simp only [Act.put,sT_,sZ_,sS_,i64_w,i32_w]
             rfl
            refine take_ (i := 16) (N := some 167) (v := ?_) (a' := ?_) #[true,true,true,true,true,true,true,true,false,true,true,true,true,true,true,true,true,false,false,false] rfl rfl (take_ofW HT_.out HW_.out (by kernel_rfl)) (fun _ _ _ h => h) (Or.inl ⟨by rfl, ?_⟩) hHeld ?_ ?_
            rotate_left
            ·rintro w' ⟨s0,s1,s2⟩
             go_simp
             with_reducible rfl
            rotate_left
            ·simp only [Act.put,sT_,sZ_,sS_,i64_w,i32_w]
             rfl
            refine one_ (i := 8) (N := some 159) #[true,true,true,true,true,true,true,true,true,true,true,true,true,true,true,true,true,false,false,false] rfl rfl (one_of HT_.out (by kernel_rfl)) (by decide) (fun K hK => ?_)
            refine goes_ Try.func32 (by kernel_rfl) rfl #[.pointer (some ⟨g,0,none⟩),.slice A1 x.2.1.2.1.length c1,.slice A3 x.2.2.2.2.2.2.length c3,.int .i64 x.2.2.2.2.2.1] (by rfl) rfl rfl (by simp only [List.map_toArray,List.map_cons,List.map_nil];rfl) ?_
            with_reducible refine (HPD.out.chooseP HV.out HNI.out.1 A1 c1 x.2.1.2.1 (HO.out.below HPD.out.at0).vec (HO.out.below HPD.out.at0).fit1 A3 c3 x.2.2.2.2.2.2 (HO.out.below HPD.out.at0).l (by have := HKL.out;omega) x.2.2.2.2.2.1).mono ?_
            rintro e w7 ⟨⟨v7,rfl,hv⟩,hb⟩
            refine ⟨_,rfl, ?_⟩
            have HN7 := Aside0.mk hv
            have HP7 := Aside0.mk (HPD.out.below hb)
            have HX7 := Aside0.mk (blk_below HXD.out hb)
            clear hv hb
            refine hK.out _ _ ⟨((blk_cell HX7.out 2).trans rfl),((blk_cell HX7.out 7).trans rfl),((blk_cell HX7.out 8).trans rfl)⟩ (fun hHeld => ?_)
            clear hK K
            refine norm_ (a' := ?_) ?_ ?_
            rotate_left
            ·show Act.put _ (some 159) _ = _
             simp only [Act.put,sT_,sZ_,sS_,i64_w,i32_w]
             rfl
            refine one_ (i := 17) (N := some 168) #[true,true,true,true,true,true,true,true,true,true,true,true,true,true,true,true,true,true,false,false] rfl rfl (one_of HT_.out (by kernel_rfl)) (by decide) (fun K hK => ?_)
            refine goes_ Try.func43 (by kernel_rfl) rfl #[.pointer (some ⟨gr,0,none⟩),.slice A1 x.2.1.2.1.length c1,.slice A3 x.2.2.2.2.2.2.length c3,.int .i64 x.2.2.2.2.2.1] (by rfl) rfl rfl (by simp only [List.map_toArray,List.map_cons,List.map_nil];rfl) ?_
            with_reducible refine (HP7.out.chooseD HV.out HNI.out.1 A1 c1 x.2.1.2.1 (HO.out.below HP7.out.at0).vec (HO.out.below HP7.out.at0).fit1 A3 c3 x.2.2.2.2.2.2 (HO.out.below HP7.out.at0).l (by have := HKL.out;omega) x.2.2.2.2.2.1).mono ?_
            rintro e w9 ⟨⟨v9,rfl,hv⟩,hb⟩
            refine ⟨_,rfl, ?_⟩
            obtain ⟨ao9,k9,rfl,hf9,hC9⟩ := hv.C
            have HC9 := Aside0.mk (And.intro hf9 hC9)
            clear hf9 hC9
            have HN9 := Aside0.mk hv
            have HQ9 := Aside0.mk (HN7.out.below hb)
            have HP9 := Aside0.mk (HP7.out.below hb)
            have HX9 := Aside0.mk (blk_below HX7.out hb)
            clear hv hb
            refine hK.out _ _ ⟨((blk_cell HX9.out 2).trans rfl),((blk_cell HX9.out 7).trans rfl),((blk_cell HX9.out 8).trans rfl)⟩ (fun hHeld => ?_)
            clear hK K
            refine norm_ (a' := ?_) ?_ ?_
            rotate_left
            ·show Act.put _ (some 168) _ = _
             simp only [Act.put,sT_,sZ_,sS_,i64_w,i32_w]
             rfl
            refine one_ (i := 18) (N := some 169) #[true,true,true,true,true,true,true,true,true,true,true,true,true,true,true,true,true,true,true,false] rfl rfl (one_of HT_.out (by kernel_rfl)) (by decide) (fun K hK => ?_)
            refine goes_ Try.func31 (by kernel_rfl) rfl #[v7,.slice ao9 (chooseG s x.2.1.2.1 x.2.2.2.2.2.2 x.2.2.2.2.2.1).length k9] (by rfl) rfl rfl (by simp only [List.map_toArray,List.map_cons,List.map_nil];rfl) ?_
            with_reducible refine (ints_own HQ9.out ao9 k9 _ rfl HC9.out.2 HC9.out.1 (by have h1 := choose_short s x.2.1.2.1 x.2.2.2.2.2.2 x.2.2.2.2.2.1;have h2 := HKL.out;omega)).mono ?_
            rintro e w8 ⟨rfl,hb⟩
            refine ⟨_,rfl, ?_⟩
            have HP8 := Aside0.mk (HP9.out.below hb)
            have HX8 := Aside0.mk (blk_below HX9.out hb)
            clear hb
            refine hK.out _ _ ⟨((blk_cell HX8.out 2).trans rfl),((blk_cell HX8.out 7).trans rfl),((blk_cell HX8.out 8).trans rfl)⟩ (fun hHeld => ?_)
            clear hK K
            refine norm_ (a' := ?_) ?_ ?_
            rotate_left
            ·show Act.put _ (some 169) _ = _
             simp only [Act.put,sT_,sZ_,sS_,i64_w,i32_w]
             rfl
            refine pure_ (i := 19) (N := some 170) (v := ?_) (a' := ?_) #[true,true,true,true,true,true,true,true,true,true,true,true,true,true,true,true,true,true,true,true] rfl rfl (any_of HT_.out (by kernel_rfl)) (fun _ _ _ h => h) (Or.inl ⟨by rfl, ?_⟩) ?_ ?_
            rotate_left
            ·intro w'
             go_simp
             with_reducible rfl
            rotate_left
            ·simp only [Act.put,sT_,sZ_,sS_,i64_w,i32_w]
             rfl
            refine done_ (done_of HT_.out (by kernel_rfl)) ?_
            clear hHeld
            go_wp2
            go_meet
            exact ⟨s,HP8,⟨HV.out.mono HNI.out.2.2⟩⟩
           | false =>
            go_wp2
            have HPD := Aside0.mk (HPX.out.below (below_drew (Below.refl _ _)))
            have HXD := Aside0.mk (blk_below HX3.out (below_drew (Below.refl _ _)))
            refine start_ (n := 24) (S := fun w' => w'.cell? ⟨bx,2,none⟩ = some (.slice A1 x.2.1.2.1.length c1) ∧ w'.cell? ⟨bx,6,none⟩ = some (.int .i64 x.2.2.2.2.1) ∧ w'.cell? ⟨bx,7,none⟩ = some (.int .i64 x.2.2.2.2.2.1) ∧ w'.cell? ⟨bx,8,none⟩ = some (.slice A3 x.2.2.2.2.2.2.length c3)) (ds := []) #[false,false,false,false,false,false,false,false,false,false,false,false,false,false,false,false,false,false,false,false,false,false,false,false] (by kernel_rfl) rfl rfl ⟨((blk_cell HXD.out 2).trans rfl),((blk_cell HXD.out 6).trans rfl),((blk_cell HXD.out 7).trans rfl),((blk_cell HXD.out 8).trans rfl)⟩ (fun hHeld => ?_)
            refine with_tabW bld.tab8 bld.bits8 (fun HT_ HW_ => ?_)
            generalize w3.drew = wd at HPD HXD hHeld ⊢
            refine pure_ (i := 0) (N := some 40) (v := ?_) (a' := ?_) #[true,false,false,false,false,false,false,false,false,false,false,false,false,false,false,false,false,false,false,false,false,false,false,false] rfl rfl (any_of HT_.out (by kernel_rfl)) (fun _ _ _ h => h) (Or.inl ⟨by rfl, ?_⟩) ?_ ?_
            rotate_left
            ·intro w'
             go_simp
             with_reducible rfl
            rotate_left
            ·simp only [Act.put,sT_,sZ_,sS_,i64_w,i32_w]
             rfl
            refine pure_ (i := 1) (N := some 41) (v := ?_) (a' := ?_) #[true,true,false,false,false,false,false,false,false,false,false,false,false,false,false,false,false,false,false,false,false,false,false,false] rfl rfl (any_of HT_.out (by kernel_rfl)) (fun _ _ _ h => h) (Or.inl ⟨by rfl, ?_⟩) ?_ ?_
            rotate_left
            ·intro w'
             go_simp
             with_reducible rfl
            rotate_left
            ·simp only [Act.put,sT_,sZ_,sS_,i64_w,i32_w]
             rfl
            refine pure_ (i := 2) (N := some 42) (v := ?_) (a' := ?_) #[true,true,true,false,false,false,false,false,false,false,false,false,false,false,false,false,false,false,false,false,false,false,false,false] rfl rfl (any_of HT_.out (by kernel_rfl)) (fun _ _ _ h => h) (Or.inl ⟨by rfl, ?_⟩) ?_ ?_
            rotate_left
            ·intro w'
             go_simp
             with_reducible rfl
            rotate_left
            ·simp only [Act.put,sT_,sZ_,sS_,i64_w,i32_w]
             rfl
            refine pure_ (i := 4) (N := some 44) (v := ?_) (a' := ?_) #[true,true,true,false,true,false,false,false,false,false,false,false,false,false,false,false,false,false,false,false,false,false,false,false] rfl rfl (any_of HT_.out (by kernel_rfl)) (fun _ _ _ h => h) (Or.inl ⟨by rfl, ?_⟩) ?_ ?_
            rotate_left
            ·intro w'
             go_simp
             with_reducible rfl
            rotate_left
            ·simp only [Act.put,sT_,sZ_,sS_,i64_w,i32_w]
             rfl
            refine pure_ (i := 6) (N := some 46) (v := ?_) (a' := ?_) #[true,true,true,false,true,false,true,false,false,false,false,false,false,false,false,false,false,false,false,false,false,false,false,false] rfl rfl (any_of HT_.out (by kernel_rfl)) (fun _ _ _ h => h) (Or.inl ⟨by rfl, ?_⟩) ?_ ?_
            rotate_left
            ·intro w'
             go_simp
             with_reducible rfl
            rotate_left
            ·simp only [Act.put,sT_,sZ_,sS_,i64_w,i32_w]
             rfl
            refine pure_ (i := 8) (N := some 48) (v := ?_) (a' := ?_) #[true,true,true,false,true,false,true,false,true,false,false,false,false,false,false,false,false,false,false,false,false,false,false,false] rfl rfl (any_of HT_.out (by kernel_rfl)) (fun _ _ _ h => h) (Or.inl ⟨by rfl, ?_⟩) ?_ ?_
            rotate_left
            ·intro w'
             go_simp
             with_reducible rfl
            rotate_left
            ·simp only [Act.put,sT_,sZ_,sS_,i64_w,i32_w]
             rfl
            refine pure_ (i := 11) (N := some 51) (v := ?_) (a' := ?_) #[true,true,true,false,true,false,true,false,true,false,false,true,false,false,false,false,false,false,false,false,false,false,false,false] rfl rfl (any_of HT_.out (by kernel_rfl)) (fun _ _ _ h => h) (Or.inl ⟨by rfl, ?_⟩) ?_ ?_
            rotate_left
            ·intro w'
             go_simp
             with_reducible rfl
            rotate_left
            ·simp only [Act.put,sT_,sZ_,sS_,i64_w,i32_w]
             rfl
            refine pure_ (i := 12) (N := some 52) (v := ?_) (a' := ?_) #[true,true,true,false,true,false,true,false,true,false,false,true,true,false,false,false,false,false,false,false,false,false,false,false] rfl rfl (any_of HT_.out (by kernel_rfl)) (fun _ _ _ h => h) (Or.inl ⟨by rfl, ?_⟩) ?_ ?_
            rotate_left
            ·intro w'
             go_simp
             with_reducible rfl
            rotate_left
            ·simp only [Act.put,sT_,sZ_,sS_,i64_w,i32_w]
             rfl
            refine pure_ (i := 13) (N := some 53) (v := ?_) (a' := ?_) #[true,true,true,false,true,false,true,false,true,false,false,true,true,true,false,false,false,false,false,false,false,false,false,false] rfl rfl (any_of HT_.out (by kernel_rfl)) (fun _ _ _ h => h) (Or.inl ⟨by rfl, ?_⟩) ?_ ?_
            rotate_left
            ·intro w'
             go_simp
             with_reducible rfl
            rotate_left
            ·simp only [Act.put,sT_,sZ_,sS_,i64_w,i32_w]
             rfl
            refine pure_ (i := 15) (N := some 55) (v := ?_) (a' := ?_) #[true,true,true,false,true,false,true,false,true,false,false,true,true,true,false,true,false,false,false,false,false,false,false,false] rfl rfl (any_of HT_.out (by kernel_rfl)) (fun _ _ _ h => h) (Or.inl ⟨by rfl, ?_⟩) ?_ ?_
            rotate_left
            ·intro w'
             go_simp
             with_reducible rfl
            rotate_left
            ·simp only [Act.put,sT_,sZ_,sS_,i64_w,i32_w]
             rfl
            refine pure_ (i := 17) (N := some 57) (v := ?_) (a' := ?_) #[true,true,true,false,true,false,true,false,true,false,false,true,true,true,false,true,false,true,false,false,false,false,false,false] rfl rfl (any_of HT_.out (by kernel_rfl)) (fun _ _ _ h => h) (Or.inl ⟨by rfl, ?_⟩) ?_ ?_
            rotate_left
            ·intro w'
             go_simp
             with_reducible rfl
            rotate_left
            ·simp only [Act.put,sT_,sZ_,sS_,i64_w,i32_w]
             rfl
            refine pure_ (i := 19) (N := some 59) (v := ?_) (a' := ?_) #[true,true,true,false,true,false,true,false,true,false,false,true,true,true,false,true,false,true,false,true,false,false,false,false] rfl rfl (any_of HT_.out (by kernel_rfl)) (fun _ _ _ h => h) (Or.inl ⟨by rfl, ?_⟩) ?_ ?_
            rotate_left
            ·intro w'
             go_simp
             with_reducible rfl
            rotate_left
            ·simp only [Act.put,sT_,sZ_,sS_,i64_w,i32_w]
             rfl
            refine take_ (i := 3) (N := some 43) (v := ?_) (a' := ?_) #[true,true,true,true,true,false,true,false,true,false,false,true,true,true,false,true,false,true,false,true,false,false,false,false] rfl rfl (take_ofW HT_.out HW_.out (by kernel_rfl)) (fun _ _ _ h => h) (Or.inl ⟨by rfl, ?_⟩) hHeld ?_ ?_
            rotate_left
            ·rintro w' ⟨s0,s1,s2,s3⟩
             go_simp
             with_reducible rfl
            rotate_left
            ·simp only [Act.put,sT_,sZ_,sS_,i64_w,i32_w]
             rfl
            refine take_ (i := 5) (N := some 45) (v := ?_) (a' := ?_) #[true,true,true,true,true,true,true,false,true,false,false,true,true,true,false,true,false,true,false,true,false,false,false,false] rfl rfl (take_ofW HT_.out HW_.out (by kernel_rfl)) (fun _ _ _ h => h) (Or.inl ⟨by rfl, ?_⟩) hHeld ?_ ?_
            rotate_left
            ·rintro w' ⟨s0,s1,s2,s3⟩
             go_simp
             with_reducible rfl
            rotate_left
            ·simp only [Act.put,sT_,sZ_,sS_,i64_w,i32_w]
             rfl
            refine take_ (i := 7) (N := some 47) (v := ?_) (a' := ?_) #[true,true,true,true,true,true,true,true,true,false,false,true,true,true,false,true,false,true,false,true,false,false,false,false] rfl rfl (take_ofW HT_.out HW_.out (by kernel_rfl)) (fun _ _ _ h => h) (Or.inl ⟨by rfl, ?_⟩) hHeld ?_ ?_
            rotate_left
            ·rintro w' ⟨s0,s1,s2,s3⟩
             go_simp
             with_reducible rfl
            rotate_left
            ·simp only [Act.put,sT_,sZ_,sS_,i64_w,i32_w]
             rfl
            refine take_ (i := 9) (N := some 49) (v := ?_) (a' := ?_) #[true,true,true,true,true,true,true,true,true,true,false,true,true,true,false,true,false,true,false,true,false,false,false,false] rfl rfl (take_ofW HT_.out HW_.out (by kernel_rfl)) (fun _ _ _ h => h) (Or.inl ⟨by rfl, ?_⟩) hHeld ?_ ?_
            rotate_left
            ·rintro w' ⟨s0,s1,s2,s3⟩
             go_simp
             with_reducible rfl
            rotate_left
            ·simp only [Act.put,sT_,sZ_,sS_,i64_w,i32_w]
             rfl
            refine take_ (i := 14) (N := some 54) (v := ?_) (a' := ?_) #[true,true,true,true,true,true,true,true,true,true,false,true,true,true,true,true,false,true,false,true,false,false,false,false] rfl rfl (take_ofW HT_.out HW_.out (by kernel_rfl)) (fun _ _ _ h => h) (Or.inl ⟨by rfl, ?_⟩) hHeld ?_ ?_
            rotate_left
            ·rintro w' ⟨s0,s1,s2,s3⟩
             go_simp
             with_reducible rfl
            rotate_left
            ·simp only [Act.put,sT_,sZ_,sS_,i64_w,i32_w]
             rfl
            refine take_ (i := 16) (N := some 56) (v := ?_) (a' := ?_) #[true,true,true,true,true,true,true,true,true,true,false,true,true,true,true,true,true,true,false,true,false,false,false,false] rfl rfl (take_ofW HT_.out HW_.out (by kernel_rfl)) (fun _ _ _ h => h) (Or.inl ⟨by rfl, ?_⟩) hHeld ?_ ?_
            rotate_left
            ·rintro w' ⟨s0,s1,s2,s3⟩
             go_simp
             with_reducible rfl
            rotate_left
            ·simp only [Act.put,sT_,sZ_,sS_,i64_w,i32_w]
             rfl
            refine take_ (i := 18) (N := some 58) (v := ?_) (a' := ?_) #[true,true,true,true,true,true,true,true,true,true,false,true,true,true,true,true,true,true,true,true,false,false,false,false] rfl rfl (take_ofW HT_.out HW_.out (by kernel_rfl)) (fun _ _ _ h => h) (Or.inl ⟨by rfl, ?_⟩) hHeld ?_ ?_
            rotate_left
            ·rintro w' ⟨s0,s1,s2,s3⟩
             go_simp
             with_reducible rfl
            rotate_left
            ·simp only [Act.put,sT_,sZ_,sS_,i64_w,i32_w]
             rfl
            refine take_ (i := 20) (N := some 60) (v := ?_) (a' := ?_) #[true,true,true,true,true,true,true,true,true,true,false,true,true,true,true,true,true,true,true,true,true,false,false,false] rfl rfl (take_ofW HT_.out HW_.out (by kernel_rfl)) (fun _ _ _ h => h) (Or.inl ⟨by rfl, ?_⟩) hHeld ?_ ?_
            rotate_left
            ·rintro w' ⟨s0,s1,s2,s3⟩
             go_simp
             with_reducible rfl
            rotate_left
            ·simp only [Act.put,sT_,sZ_,sS_,i64_w,i32_w]
             rfl
            refine one_ (i := 10) (N := some 50) #[true,true,true,true,true,true,true,true,true,true,true,true,true,true,true,true,true,true,true,true,true,false,false,false] rfl rfl (one_of HT_.out (by kernel_rfl)) (by decide) (fun K hK => ?_)
            refine goes_ Try.func19 (by kernel_rfl) rfl #[.pointer (some ⟨g,0,none⟩),.slice A1 x.2.1.2.1.length c1,.slice A3 x.2.2.2.2.2.2.length c3,.int .i64 x.2.2.2.2.2.1,.int .i64 x.2.2.2.2.1] (by rfl) rfl rfl (by simp only [List.map_toArray,List.map_cons,List.map_nil];rfl) ?_
            with_reducible refine (HPD.out.walkP HV.out HNI.out.1 A1 c1 x.2.1.2.1 (HO.out.below HPD.out.at0).vec (HO.out.below HPD.out.at0).fit1 A3 c3 x.2.2.2.2.2.2 (HO.out.below HPD.out.at0).l (by have := HKL.out;omega) x.2.2.2.2.2.1 x.2.2.2.2.1).mono ?_
            rintro e w7 ⟨⟨v7,rfl,hv⟩,hb⟩
            refine ⟨_,rfl, ?_⟩
            have HN7 := Aside0.mk hv
            have HP7 := Aside0.mk (HPD.out.below hb)
            have HX7 := Aside0.mk (blk_below HXD.out hb)
            clear hv hb
            refine hK.out _ _ ⟨((blk_cell HX7.out 2).trans rfl),((blk_cell HX7.out 6).trans rfl),((blk_cell HX7.out 7).trans rfl),((blk_cell HX7.out 8).trans rfl)⟩ (fun hHeld => ?_)
            clear hK K
            refine norm_ (a' := ?_) ?_ ?_
            rotate_left
            ·show Act.put _ (some 50) _ = _
             simp only [Act.put,sT_,sZ_,sS_,i64_w,i32_w]
             rfl
            refine one_ (i := 21) (N := some 61) #[true,true,true,true,true,true,true,true,true,true,true,true,true,true,true,true,true,true,true,true,true,true,false,false] rfl rfl (one_of HT_.out (by kernel_rfl)) (by decide) (fun K hK => ?_)
            refine goes_ Try.func44 (by kernel_rfl) rfl #[.pointer (some ⟨gr,0,none⟩),.slice A1 x.2.1.2.1.length c1,.slice A3 x.2.2.2.2.2.2.length c3,.int .i64 x.2.2.2.2.2.1,.int .i64 x.2.2.2.2.1] (by rfl) rfl rfl (by simp only [List.map_toArray,List.map_cons,List.map_nil];rfl) ?_
            with_reducible refine (HP7.out.walkD HV.out HNI.out.1 A1 c1 x.2.1.2.1 (HO.out.below HP7.out.at0).vec (HO.out.below HP7.out.at0).fit1 A3 c3 x.2.2.2.2.2.2 (HO.out.below HP7.out.at0).l (by have := HKL.out;omega) x.2.2.2.2.2.1 x.2.2.2.2.1).mono ?_
            rintro e w9 ⟨⟨v9,rfl,hv⟩,hb⟩
            refine ⟨_,rfl, ?_⟩
            have HN9 := Aside0.mk hv
            have HQ9 := Aside0.mk (HN7.out.below hb)
            have HP9 := Aside0.mk (HP7.out.below hb)
            have HX9 := Aside0.mk (blk_below HX7.out hb)
            clear hv hb
            refine hK.out _ _ ⟨((blk_cell HX9.out 2).trans rfl),((blk_cell HX9.out 6).trans rfl),((blk_cell HX9.out 7).trans rfl),((blk_cell HX9.out 8).trans rfl)⟩ (fun hHeld => ?_)
            clear hK K
            refine norm_ (a' := ?_) ?_ ?_
            rotate_left
            ·show Act.put _ (some 61) _ = _
             simp only [Act.put,sT_,sZ_,sS_,i64_w,i32_w]
             rfl
            refine one_ (i := 22) (N := some 62) #[true,true,true,true,true,true,true,true,true,true,true,true,true,true,true,true,true,true,true,true,true,true,true,false] rfl rfl (one_of HT_.out (by kernel_rfl)) (by decide) (fun K hK => ?_)
            refine goes_ Try.func20 (by kernel_rfl) rfl #[v7,v9] (by rfl) rfl rfl (by simp only [List.map_toArray,List.map_cons,List.map_nil];rfl) ?_
            with_reducible refine (rsame_own _ _ v7 v9 _ _ _ rfl HQ9.out HN9.out (by have h1 := walk_len s x.2.1.2.1 x.2.2.2.2.2.2 x.2.2.2.2.2.1 x.2.2.2.2.1;omega)).mono ?_
            rintro e w8 ⟨rfl,hb⟩
            refine ⟨_,rfl, ?_⟩
            have HP8 := Aside0.mk (HP9.out.below hb)
            have HX8 := Aside0.mk (blk_below HX9.out hb)
            clear hb
            refine hK.out _ _ ⟨((blk_cell HX8.out 2).trans rfl),((blk_cell HX8.out 6).trans rfl),((blk_cell HX8.out 7).trans rfl),((blk_cell HX8.out 8).trans rfl)⟩ (fun hHeld => ?_)
            clear hK K
            refine norm_ (a' := ?_) ?_ ?_
            rotate_left
            ·show Act.put _ (some 62) _ = _
             simp only [Act.put,sT_,sZ_,sS_,i64_w,i32_w]
             rfl
            refine pure_ (i := 23) (N := some 63) (v := ?_) (a' := ?_) #[true,true,true,true,true,true,true,true,true,true,true,true,true,true,true,true,true,true,true,true,true,true,true,true] rfl rfl (any_of HT_.out (by kernel_rfl)) (fun _ _ _ h => h) (Or.inl ⟨by rfl, ?_⟩) ?_ ?_
            rotate_left
            ·intro w'
             go_simp
             with_reducible rfl
            rotate_left
            ·simp only [Act.put,sT_,sZ_,sS_,i64_w,i32_w]
             rfl
            refine done_ (done_of HT_.out (by kernel_rfl)) ?_
            clear hHeld
            go_wp2
            go_meet
            exact ⟨s,HP8,⟨HV.out.mono HNI.out.2.2⟩⟩
      case rest =>
       obtain ⟨s2,HPc,HVc⟩ := hcut
       have qe : ((s2.l.length : Int) != (s2.l.length : Int)) = false := by simp
       go_wp2
       have HPD := Aside0.mk (HPc.out.below (below_drew (Below.refl _ _)))
       obtain ⟨ag,cg,hgb⟩ := HPD.out.cellD
       have HGB := Aside0.mk hgb
       clear hgb
       refine start_ (n := 8) (S := fun w' => w'.cell? ⟨gr,1,none⟩ = some (.slice ag s2.l.length cg)) (ds := []) #[false,false,false,false,false,false,false,false] (by kernel_rfl) rfl rfl (((blk_cell HGB.out 1).trans rfl)) (fun hHeld => ?_)
       refine with_tabW bld.tab28 bld.bits28 (fun HT_ HW_ => ?_)
       generalize wc.drew = wd at HPD HGB hHeld ⊢
       refine pure_ (i := 0) (N := some 171) (v := ?_) (a' := ?_) #[true,false,false,false,false,false,false,false] rfl rfl (any_of HT_.out (by kernel_rfl)) (fun _ _ _ h => h) (Or.inl ⟨by rfl, ?_⟩) ?_ ?_
       rotate_left
       ·intro w'
        go_simp
        with_reducible rfl
       rotate_left
       ·simp only [Act.put,sT_,sZ_,sS_,i64_w,i32_w]
        rfl
       refine pure_ (i := 2) (N := some 173) (v := ?_) (a' := ?_) #[true,false,true,false,false,false,false,false] rfl rfl (any_of HT_.out (by kernel_rfl)) (fun _ _ _ h => h) (Or.inl ⟨by rfl, ?_⟩) ?_ ?_
       rotate_left
       ·intro w'
        go_simp
        with_reducible rfl
       rotate_left
       ·simp only [Act.put,sT_,sZ_,sS_,i64_w,i32_w]
        rfl
       refine pure_ (i := 3) (N := some 174) (v := ?_) (a' := ?_) #[true,false,true,true,false,false,false,false] rfl rfl (any_of HT_.out (by kernel_rfl)) (fun _ _ _ h => h) (Or.inl ⟨by rfl, ?_⟩) ?_ ?_
       rotate_left
       ·intro w'
        go_simp
        with_reducible rfl
       rotate_left
       ·simp only [Act.put,sT_,sZ_,sS_,i64_w,i32_w]
        rfl
       refine pure_ (i := 4) (N := some 175) (v := ?_) (a' := ?_) #[true,false,true,true,true,false,false,false] rfl rfl (any_of HT_.out (by kernel_rfl)) (fun _ _ _ h => h) (Or.inl ⟨by rfl, ?_⟩) ?_ ?_
       rotate_left
       ·intro w'
        go_simp
        with_reducible rfl
       rotate_left
       ·simp only [Act.put,sT_,sZ_,sS_,i64_w,i32_w]
        rfl
       refine take_ (i := 5) (N := some 176) (v := ?_) (a' := ?_) #[true,false,true,true,true,true,false,false] rfl rfl (take_ofW HT_.out HW_.out (by kernel_rfl)) (fun _ _ _ h => h) (Or.inl ⟨by rfl, ?_⟩) hHeld ?_ ?_
       rotate_left
       ·intro w' s0
        go_simp
        with_reducible rfl
       rotate_left
       ·simp only [Act.put,sT_,sZ_,sS_,i64_w,i32_w]
        rfl
       refine pure_ (i := 6) (N := some 177) (v := ?_) (a' := ?_) #[true,false,true,true,true,true,true,false] rfl rfl (any_of HT_.out (by kernel_rfl)) (fun _ _ _ h => h) (Or.inl ⟨by rfl, ?_⟩) ?_ ?_
       rotate_left
       ·intro w'
        go_simp
        with_reducible rfl
       rotate_left
       ·simp only [Act.put,sT_,sZ_,sS_,i64_w,i32_w]
        rfl
       refine one_ (i := 1) (N := some 172) #[true,true,true,true,true,true,true,false] rfl rfl (one_of HT_.out (by kernel_rfl)) (by decide) (fun K hK => ?_)
       refine goes_ Try.func18 (by kernel_rfl) rfl #[.pointer (some ⟨g,0,none⟩)] (by rfl) rfl rfl (by simp only [List.map_toArray,List.map_cons,List.map_nil];rfl) ?_
       with_reducible refine (HPD.out.lenP).mono ?_
       rintro e w8 ⟨rfl,hb⟩
       refine ⟨_,rfl, ?_⟩
       have HP8 := Aside0.mk (HPD.out.below hb)
       have HGB8 := Aside0.mk (blk_below HGB.out hb)
       clear hb
       refine hK.out _ _ (((blk_cell HGB8.out 1).trans rfl)) (fun hHeld => ?_)
       clear hK K
       refine norm_ (a' := ?_) ?_ ?_
       rotate_left
       ·show Act.put _ (some 172) _ = _
        simp only [Act.put,sT_,sZ_,sS_,i64_w,i32_w]
        rfl
       refine pure_ (i := 7) (N := some 178) (v := ?_) (a' := ?_) #[true,true,true,true,true,true,true,true] rfl rfl (any_of HT_.out (by kernel_rfl)) (fun _ _ _ h => h) (Or.inl ⟨by rfl, ?_⟩) ?_ ?_
       rotate_left
       ·intro w'
        go_simp
        with_reducible rfl
       rotate_left
       ·simp only [Act.put,sT_,sZ_,sS_,i64_w,i32_w]
        rfl
       refine done_ (done_of HT_.out (by kernel_rfl)) ?_
       clear hHeld
       go_wp2
       go_roundg gk
       case measure => omega
       case rel => exact ⟨i + 1,s2,congrArg (Value.int .i64) HIN.out,⟨by have := HI.out;have := HI60.out;omega⟩,⟨HP8.out.less (fun k hk => hk.elim)⟩,HVc⟩
    ·have q4 : decide ((100 : Int) < (x.2.2.2.2.2.2.length : Int)) = true := decide_eq_true (by omega)
     have q4' : decide (100 < x.2.2.2.2.2.2.length) = true := decide_eq_true (by omega)
     clear hk
     go_wp2_with (go_at_call 11;(with_reducible refine (small_calls x.2.1.1 x.2.1.2.1 x.2.1.2.2 A1 c1 A2 c2 _ HO.out.fit1 (HO.out.below (bel_trans HB0.out HBA0.out)).vec HO.out.fit2 (HO.out.below (bel_trans HB0.out HBA0.out)).tags).mono ?_);rintro e w3 ⟨⟨r,rfl,hr⟩,hb⟩;have hbb := bel_trans HBA0.out hb;have HP3 := Aside0.mk (HP0.out.below hbb);have HBW3 := Aside0.mk hbb;have HX3 := Aside0.mk (blk_below HBX0.out hb);have b0 := (blk_cell HX3.out 0).trans rfl;have b8 := (blk_cell HX3.out 8).trans rfl;have b1 := (blk_cell HX3.out 1).trans rfl;have b2 := (blk_cell HX3.out 2).trans rfl;have b3 := (blk_cell HX3.out 3).trans rfl;clear hb hbb;rcases r with _ | _;clear hr;rotate_left;(have HSM := Aside0.mk (hr rfl));clear hr;rotate_right)
     all_goals
      go_ret
      exact ⟨rfl,s,HP3.out,HV.out.mono (by have := HI.out;omega)⟩
   ·have q2 : decide ((i : Int) < (most : Int)) = false := decide_eq_false (by omega)
    have q2' : decide (i < most) = false := decide_eq_false h60
    clear hi h60
    go_wp2
    go_ret
    exact ⟨rfl,s,HP0.out,HV.out.mono (by have := HI.out;omega)⟩
  ·have q1 : decide ((i : Int) < (l.length : Int)) = false := decide_eq_false (by omega)
   have q1' : (i < l.length) = False := eq_false hi
   have q1'' : decide (i < l.length) = false := decide_eq_false hi
   clear hi
   go_wp2
   go_ret
   exact ⟨rfl,s,HP0.out,HV.out.mono (by have := HI.out;omega)⟩
end Go.Proofs.Ytofmlajanopniaa.Li
namespace Go.Proofs.Ytofmlajanopniaa.Li
open Go.RowKit Go.Maps Go.Proofs.YtofmlajanopniaaW.PrintWords Go.Proofs.YtofmlajanopniaaW.PrintLast Go.Proofs.YtofmlajanopniaaW.PrintMore Go.Proofs.Ytofmlajanopniaa.Q Go.Proofs.Ytofmlajanopniaa.Tk
theorem M2.new {w w2 w3 : World} (h : Below w.heap.size w w2) (m : Int) (h3 : w3 = w2.alloc (.cells #[.int .u8 m,.slice none 0 0] 84)) :
  M2 (fun _ => False) w (w3.alloc (.cells #[.int .i64 m,.slice none 0 0] 48)) w2.heap.size w3.heap.size ⟨m,[]⟩ ⟨m,[]⟩ := by
 have e3 : w3.heap.size = w2.heap.size + 1 := by rw [h3];exact World.size_alloc _ _
 have hB : Below w.heap.size w w3 := by rw [h3];exact bel_alloc h _
 have hG : GX w w3 w2.heap.size (fun k => k = w2.heap.size) ⟨m,[]⟩ := by rw [h3];exact GT.new h m
 refine ⟨⟨fun k => k = w2.heap.size,fun k => k = w3.heap.size,hG.below (below_alloc (Below.refl _ _) _),⟨.slice none 0 0,heap_alloc_new w3 _,rfl,fun k hk => ?_,(fun k hk => by cases hk),⟨[],own_nil _ _ _ _,(fun i n hn => by simp at hn)⟩,bel_alloc hB _⟩,(fun k h1 h2 => by omega),fun _ _ h => h,fun _ _ h => h⟩,fun k hk => hk.elim⟩
 subst hk
 exact ⟨hB.size,by rw [World.size_alloc];omega⟩
theorem mod2 {m : Int} (h : (Lit.int .u8 m).wf = true) : 0 ≤ m.tmod 2 ∧ m.tmod 2 ≤ 1 := by
 have := wf_u8' h
 rw [Int.tmod_eq_emod_of_nonneg this.1]
 omega
theorem mod2_wrap {m : Int} (h : (Lit.int .u8 m).wf = true) : wrap64 (m.tmod 2) = m.tmod 2 := by
 have := mod2 h
 unfold wrap64
 omega
section
variable {X X' : Nat → Prop} {w0 w w' : World} {g gr : Nat} {s s1 s2 : Gr}
def upto (i : Nat) : List Int := (List.range i).map (fun k : Nat => (k : Int))
theorem there_lt (hg : Good s) {k : Nat} (h : k < s.l.length) : s.there (k : Int) 0 = true :=
 there_iff.2 ⟨k,0,s.l[k],rfl,rfl,List.getElem?_eq_getElem h,by have := (hg.lv1 k _ (List.getElem?_eq_getElem h)).1;omega⟩
end
end Go.Proofs.Ytofmlajanopniaa.Li
