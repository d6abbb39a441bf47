/- TopkMerges: whatever is handed in, the law answers true: the least of two lists are the document's. No condition beyond the statement's own. -/
import Derived.Test.YtchiobhklbefjaaRows
import Derived.Test.YtchiobhklbefjaaFacts
import Derived.Test.YtchiobhklbefjaaLawTopkMerges
import Derived.Test.YtchiobhklbefjaaFrame
import Derived.WalkKit
import Derived.ProofKit
import Derived.OpenShut
import Derived.ShutString
import Derived.ChangeOld
import Derived.Below
import Derived.SizedLaws
namespace Go.Proofs.Ytchiobhklbefjaa.topkMerges
open Go.ChangeShapes Go.WideShapes Go.ChangeAt Go.RowKit
open Go.ChangeMaps (open_string shut_string)
set_option linter.unusedVariables false
theorem own : ownKnob Try.prog.godebug = none := by kernel_rfl
theorem laidOut : laidOutB Try.prog = true := by kernel_rfl
set_option maxRecDepth 100000 in
theorem lifted (os : Os) (started : os.Started) (H : Type) (enc : TypeId × Value → H) :
    ReturnsInHanded {} Try.checked os 8 .any (Rows.topkMergesSpec.pre6 enc Try.prog Try.f8 Rows.topkMergesRow.domain false) (Rows.topkMergesSpec.post enc Try.prog Try.f8 false true false false) := by
  refine returnsInHanded_of_change_sized (C := Try.checked) own started (by kernel_rfl) Try.func8
    (ChangeSpec.witness6 (enc := enc) (C := Try.checked) false ⟨#[], #[.slice none 0 0, .slice none 0 0, .int .i64 0], []⟩ 8 (by kernel_rfl) (by kernel_rfl) (by kernel_rfl) (by kernel_rfl)) ?_
  intro W base args ds gs before hval0 hW hcnd hsz0 _
  have hval : ∀ (j : Nat) t v, Try.f8.params[j]? = some t → args[j]? = some v → Value.okWide Try.prog W .any base t v := hval0
  have hW' := hW
  obtain ⟨p, q, hA0, hV, rfl, hfz, hnd⟩ := hW
  have hA : DataW.TrodAll enc Try.prog W 0 (fun _ => true) true Try.f8.params.toList args.toList ds p := hA0
  rw [Try.params8] at hA hval
  obtain ⟨v0, vs0, d0, ds0, p0, q0, hargs, rfl, rfl, h0, r0⟩ := trodAll_cons hA
  obtain ⟨v1, vs1, d1, ds1, p1, q1, rfl, rfl, rfl, h1, r1⟩ := trodAll_cons r0
  obtain ⟨v2, vs2, d2, ds2, p2, q2, rfl, rfl, rfl, h2, r2⟩ := trodAll_cons r1
  obtain ⟨rfl, rfl, rfl⟩ := trodAll_nil r2
  obtain rfl : args = #[v0, v1, v2] := by cases args; simp_all
  obtain ⟨rfl, rfl⟩ := trodVars_none hV
  have k0 := h0
  have lt0 : ∀ x ∈ p0, x.block < W.heap.size := by obtain ⟨m, hm⟩ := k0; exact DataW.trod_lt m _ _ _ hm
  obtain ⟨x0, K0, o0⟩ := Frame.Opens.arg Tk.opens_hits h0
  have s0 : v0 = .slice none 0 0 ∨ ∃ a len cap, v0 = .slice (some a) len cap := by
    obtain ⟨a, len, cap, e⟩ := okWide_slice Try.underlying22 (hval 0 22 v0 rfl rfl)
    obtain ⟨m, hm⟩ := k0
    rw [e] at hm ⊢
    rcases Frame.slice_nil Try.underlying22 hm with e | ⟨a', l', c', e⟩
    · exact .inl (by simpa [Value.cells] using e)
    · exact .inr ⟨a', l', c', by simpa [Value.cells] using e⟩
  have k1 := h1
  have lt1 : ∀ x ∈ p1, x.block < W.heap.size := by obtain ⟨m, hm⟩ := k1; exact DataW.trod_lt m _ _ _ hm
  obtain ⟨x1, K1, o1⟩ := Frame.Opens.arg Tk.opens_hits h1
  have s1 : v1 = .slice none 0 0 ∨ ∃ a len cap, v1 = .slice (some a) len cap := by
    obtain ⟨a, len, cap, e⟩ := okWide_slice Try.underlying22 (hval 1 22 v1 rfl rfl)
    obtain ⟨m, hm⟩ := k1
    rw [e] at hm ⊢
    rcases Frame.slice_nil Try.underlying22 hm with e | ⟨a', l', c', e⟩
    · exact .inl (by simpa [Value.cells] using e)
    · exact .inr ⟨a', l', c', by simpa [Value.cells] using e⟩
  obtain ⟨a2, rfl, rfl, rfl, w2⟩ := open_int Try.underlying3 (hval 2 3 v2 rfl rfl) h2
  clear hA0 hval0 hsz0
  refine (Tk.merges_row v0 s0 x0 K0 o0 v1 s1 x1 K1 o1 a2 w2 W).mono fun e W' ⟨he, bel⟩ => ?_
  subst he
  exact ⟨_, rfl, _, _, _, [], _, [], hW', trodAll_mk1 (shut_bool Try.underlying4 _), trodAll_mk3 (Below.trod laidOut (by kernel_rfl) (of_decide_eq_true (by kernel_rfl)) k0 bel lt0) (Below.trod laidOut (by kernel_rfl) (of_decide_eq_true (by kernel_rfl)) k1 bel lt1) (shut_int Try.underlying3 w2), rfl, bel.frame _, fun h => by cases h⟩
theorem c0 : (Rows.topkMergesRow.wf (OpenSpec.ofChange Rows.topkMergesSpec) : Bool) = true := by kernel_rfl
theorem c3 : (Try.f8.params.all (Try.pinned.checked.prog.readableRec ·) : Bool) = true := by kernel_rfl
theorem c4 : (namedTie Try.pinned.checked.prog Rows.topkMergesRow.named Rows.topkMergesSpec.vars : Bool) = true := by kernel_rfl
theorem c5 : ((Rows.topkMergesRow.stops == []) : Bool) = true := by kernel_rfl
theorem c7 : ((Rows.topkMergesRow.knobs == []) : Bool) = true := by kernel_rfl
theorem c9 : ((Rows.topkMergesRow.inPlace == Try.pinned.checked.prog.inPlace 8) : Bool) = true := by kernel_rfl
theorem c10 : ((Rows.topkMergesRow.unfollowed == Try.pinned.checked.prog.unfollowed 8) : Bool) = true := by kernel_rfl
theorem c11 : ((Rows.topkMergesRow.recurses == Try.pinned.checked.prog.recurses 8) : Bool) = true := by kernel_rfl
theorem c12 : ((Rows.topkMergesRow.named == Try.pinned.checked.prog.varsNamed 8) : Bool) = true := by kernel_rfl
theorem c13 : ((Rows.topkMergesRow.maps == (Try.f8.params.toList ++ Rows.topkMergesSpec.plain.varTypes Try.pinned.checked.prog).any (Try.pinned.checked.prog.mapsRec ·)) : Bool) = true := by kernel_rfl
theorem c14 : ((Rows.topkMergesRow.ifaces == (Try.f8.params.toList ++ Rows.topkMergesSpec.plain.varTypes Try.pinned.checked.prog).any (Try.pinned.checked.prog.ifacesRec ·)) : Bool) = true := by kernel_rfl
theorem c15 : ((Rows.topkMergesRow.mapsOut == Try.pinned.checked.prog.mapsAmong Try.f8.resultTypes.toList) : Bool) = true := by kernel_rfl
theorem c16 : ((Rows.topkMergesRow.loops == (Try.f8.params.toList ++ Rows.topkMergesSpec.plain.varTypes Try.pinned.checked.prog).any (Try.pinned.checked.prog.loopsFrom ·)) : Bool) = true := by kernel_rfl
theorem c17 : ((Rows.topkMergesRow.wideKeys == (Try.f8.params.toList ++ Rows.topkMergesSpec.plain.varTypes Try.pinned.checked.prog ++ Try.f8.resultTypes.toList).any (Try.pinned.checked.prog.wideKeysFrom ·)) : Bool) = true := by kernel_rfl
theorem c18 : (Rows.topkMergesSpec.vars.all (Try.pinned.checked.prog.varReadable ·) : Bool) = true := by kernel_rfl
theorem c19 : (Try.f8.resultTypes.all (fun t => Try.pinned.checked.prog.readableRec t && decide (t < Try.pinned.checked.prog.types.size)) : Bool) = true := by kernel_rfl
theorem c20 : ((Rows.topkMergesRow.ifacesOut == Try.f8.resultTypes.toList.any (Try.pinned.checked.prog.ifacesRec ·)) : Bool) = true := by kernel_rfl
theorem c21 : ((Rows.topkMergesRow.loopsOut == Try.f8.resultTypes.toList.any (Try.pinned.checked.prog.loopsFrom ·)) : Bool) = true := by kernel_rfl
theorem c23 : (Rows.topkMergesRow.shortTexts.isNone : Bool) = true := by kernel_rfl
theorem c29 : ((Rows.topkMergesRow.pinned == Rows.topkMergesRow.pinnedBy) : Bool) = true := by kernel_rfl
theorem c30 : ((Rows.topkMergesRow.veiled == (Try.f8.params.toList ++ Rows.topkMergesSpec.plain.varTypes Try.pinned.checked.prog ++ Try.f8.resultTypes.toList).any (Try.pinned.checked.prog.veiledRec ·)) : Bool) = true := by kernel_rfl
theorem c31 : (Rows.topkMergesRow.veiledFits Try.pinned.checked.prog Try.f8.params.toList (Try.f8.params.toList ++ Rows.topkMergesSpec.plain.varTypes Try.pinned.checked.prog ++ Try.f8.resultTypes.toList) : Bool) = true := by kernel_rfl
set_option maxRecDepth 100000 in
theorem closed : joinedFacts Try.pinned.checked.prog 8 Try.f8 Rows.topkMergesSpec Rows.topkMergesRow = true := by
  unfold joinedFacts
  with_reducible exact (Facts.and2 (Facts.and2 (Facts.and2 (Facts.and2 (Facts.and2 (Facts.and2 (Facts.and2 (Facts.and2 (Facts.and2 (Facts.and2 (Facts.and2 (Facts.and2 (Facts.and2 (Facts.and2 (Facts.and2 (Facts.and2 (Facts.and2 (Facts.and2 (Facts.and2 (Facts.and2 (Facts.and2 (Facts.and2 (Facts.and2 (Facts.and2 (Facts.and2 (Facts.and2 (Facts.and2 (Facts.and2 (Facts.and2 (Facts.and2 (Facts.and2 c0 Facts.c1) Facts.c2) c3) c4) c5) Facts.c6) c7) Facts.c8) c9) c10) c11) c12) c13) c14) c15) c16) c17) c18) c19) c20) c21) Facts.c22) c23) Facts.c24) Facts.c25) Facts.c26) Facts.c27) (by kernel_rfl)) c29) c30) c31)
theorem over : Rows.topkMergesRow.holds Try.pinned (OpenSpec.ofChange Rows.topkMergesSpec) :=
  OpenClaim.holds_of_wide 8 Try.f8 rfl rfl rfl rfl rfl rfl rfl ⟨rfl, rfl, rfl, rfl, rfl⟩ rfl rfl rfl rfl rfl (by kernel_rfl) Try.func8 closed
    (of_decide_eq_true (by kernel_rfl)) (by unfold Func.isWrapper; first | (rw [if_pos (by decide +kernel)]; kernel_rfl) | (rw [if_neg (by decide +kernel)]; exact ⟨rfl, rfl⟩))
    (fun os started H enc _ => lifted os started H enc)
theorem proved : Rows.TopkMergesSaid := over
end Go.Proofs.Ytchiobhklbefjaa.topkMerges
namespace Go.Proofs.Ytchiobhklbefjaa
/-- The row, under a short name, for the claim. -/
theorem topkMerges_holds : Rows.TopkMergesSaid := topkMerges.proved
end Go.Proofs.Ytchiobhklbefjaa
