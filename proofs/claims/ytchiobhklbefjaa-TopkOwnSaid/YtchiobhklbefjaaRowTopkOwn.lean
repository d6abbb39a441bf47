/- TopkOwn: whatever is handed in, the law answers true: a list that was told may be written over. No condition beyond the statement's own. -/
import Derived.Test.YtchiobhklbefjaaRows
import Derived.Test.YtchiobhklbefjaaFacts
import Derived.Test.YtchiobhklbefjaaLawTopkOwn
import Derived.Test.YtchiobhklbefjaaFrame
import Derived.WalkKit
import Derived.ProofKit
import Derived.OpenShut
import Derived.ShutString
import Derived.ChangeOld
import Derived.Below
import Derived.SizedLaws
namespace Go.Proofs.Ytchiobhklbefjaa.topkOwn
open Go.ChangeShapes Go.WideShapes Go.ChangeAt Go.RowKit
open Go.ChangeMaps (open_string shut_string)
set_option linter.unusedVariables false
theorem own : ownKnob Try.prog.godebug = none := by kernel_rfl
theorem laidOut : laidOutB Try.prog = true := by kernel_rfl
set_option maxRecDepth 100000 in
theorem lifted (os : Os) (started : os.Started) (H : Type) (enc : TypeId × Value → H) :
    ReturnsInHanded {} Try.checked os 5 .any (Rows.topkOwnSpec.pre6 enc Try.prog Try.f5 Rows.topkOwnRow.domain false) (Rows.topkOwnSpec.post enc Try.prog Try.f5 false true false false) := by
  refine returnsInHanded_of_change_sized (C := Try.checked) own started (by kernel_rfl) Try.func5
    (ChangeSpec.witness6 (enc := enc) (C := Try.checked) false ⟨#[], #[.slice none 0 0], []⟩ 8 (by kernel_rfl) (by kernel_rfl) (by kernel_rfl) (by kernel_rfl)) ?_
  intro W base args ds gs before hval0 hW hcnd hsz0 _
  have hval : ∀ (j : Nat) t v, Try.f5.params[j]? = some t → args[j]? = some v → Value.okWide Try.prog W .any base t v := hval0
  have hW' := hW
  obtain ⟨p, q, hA0, hV, rfl, hfz, hnd⟩ := hW
  have hA : DataW.TrodAll enc Try.prog W 0 (fun _ => true) true Try.f5.params.toList args.toList ds p := hA0
  rw [Try.params5] at hA hval
  obtain ⟨v0, vs0, d0, ds0, p0, q0, hargs, rfl, rfl, h0, r0⟩ := trodAll_cons hA
  obtain ⟨rfl, rfl, rfl⟩ := trodAll_nil r0
  obtain rfl : args = #[v0] := by cases args; simp_all
  obtain ⟨rfl, rfl⟩ := trodVars_none hV
  have k0 := h0
  have lt0 : ∀ x ∈ p0, x.block < W.heap.size := by obtain ⟨m, hm⟩ := k0; exact DataW.trod_lt m _ _ _ hm
  obtain ⟨x0, K0, o0⟩ := Frame.Opens.arg Tk.opens_hits h0
  have s0 : v0 = .slice none 0 0 ∨ ∃ a len cap, v0 = .slice (some a) len cap := by
    obtain ⟨a, len, cap, e⟩ := okWide_slice Try.underlying22 (hval 0 22 v0 rfl rfl)
    obtain ⟨m, hm⟩ := k0
    rw [e] at hm ⊢
    rcases Frame.slice_nil Try.underlying22 hm with e | ⟨a', l', c', e⟩
    · exact .inl (by simpa [Value.cells] using e)
    · exact .inr ⟨a', l', c', by simpa [Value.cells] using e⟩
  clear hA0 hval0 hsz0
  refine (Tk.own_row v0 s0 x0 K0 o0 W).mono fun e W' ⟨he, bel⟩ => ?_
  subst he
  exact ⟨_, rfl, _, _, _, [], _, [], hW', trodAll_mk1 (shut_bool Try.underlying4 _), trodAll_mk1 (Below.trod laidOut (by kernel_rfl) (of_decide_eq_true (by kernel_rfl)) k0 bel lt0), rfl, bel.frame _, fun h => by cases h⟩
theorem c0 : (Rows.topkOwnRow.wf (OpenSpec.ofChange Rows.topkOwnSpec) : Bool) = true := by kernel_rfl
theorem c3 : (Try.f5.params.all (Try.pinned.checked.prog.readableRec ·) : Bool) = true := by kernel_rfl
theorem c4 : (namedTie Try.pinned.checked.prog Rows.topkOwnRow.named Rows.topkOwnSpec.vars : Bool) = true := by kernel_rfl
theorem c5 : ((Rows.topkOwnRow.stops == []) : Bool) = true := by kernel_rfl
theorem c7 : ((Rows.topkOwnRow.knobs == []) : Bool) = true := by kernel_rfl
theorem c9 : ((Rows.topkOwnRow.inPlace == Try.pinned.checked.prog.inPlace 5) : Bool) = true := by kernel_rfl
theorem c10 : ((Rows.topkOwnRow.unfollowed == Try.pinned.checked.prog.unfollowed 5) : Bool) = true := by kernel_rfl
theorem c11 : ((Rows.topkOwnRow.recurses == Try.pinned.checked.prog.recurses 5) : Bool) = true := by kernel_rfl
theorem c12 : ((Rows.topkOwnRow.named == Try.pinned.checked.prog.varsNamed 5) : Bool) = true := by kernel_rfl
theorem c13 : ((Rows.topkOwnRow.maps == (Try.f5.params.toList ++ Rows.topkOwnSpec.plain.varTypes Try.pinned.checked.prog).any (Try.pinned.checked.prog.mapsRec ·)) : Bool) = true := by kernel_rfl
theorem c14 : ((Rows.topkOwnRow.ifaces == (Try.f5.params.toList ++ Rows.topkOwnSpec.plain.varTypes Try.pinned.checked.prog).any (Try.pinned.checked.prog.ifacesRec ·)) : Bool) = true := by kernel_rfl
theorem c15 : ((Rows.topkOwnRow.mapsOut == Try.pinned.checked.prog.mapsAmong Try.f5.resultTypes.toList) : Bool) = true := by kernel_rfl
theorem c16 : ((Rows.topkOwnRow.loops == (Try.f5.params.toList ++ Rows.topkOwnSpec.plain.varTypes Try.pinned.checked.prog).any (Try.pinned.checked.prog.loopsFrom ·)) : Bool) = true := by kernel_rfl
theorem c17 : ((Rows.topkOwnRow.wideKeys == (Try.f5.params.toList ++ Rows.topkOwnSpec.plain.varTypes Try.pinned.checked.prog ++ Try.f5.resultTypes.toList).any (Try.pinned.checked.prog.wideKeysFrom ·)) : Bool) = true := by kernel_rfl
theorem c18 : (Rows.topkOwnSpec.vars.all (Try.pinned.checked.prog.varReadable ·) : Bool) = true := by kernel_rfl
theorem c19 : (Try.f5.resultTypes.all (fun t => Try.pinned.checked.prog.readableRec t && decide (t < Try.pinned.checked.prog.types.size)) : Bool) = true := by kernel_rfl
theorem c20 : ((Rows.topkOwnRow.ifacesOut == Try.f5.resultTypes.toList.any (Try.pinned.checked.prog.ifacesRec ·)) : Bool) = true := by kernel_rfl
theorem c21 : ((Rows.topkOwnRow.loopsOut == Try.f5.resultTypes.toList.any (Try.pinned.checked.prog.loopsFrom ·)) : Bool) = true := by kernel_rfl
theorem c23 : (Rows.topkOwnRow.shortTexts.isNone : Bool) = true := by kernel_rfl
theorem c29 : ((Rows.topkOwnRow.pinned == Rows.topkOwnRow.pinnedBy) : Bool) = true := by kernel_rfl
theorem c30 : ((Rows.topkOwnRow.veiled == (Try.f5.params.toList ++ Rows.topkOwnSpec.plain.varTypes Try.pinned.checked.prog ++ Try.f5.resultTypes.toList).any (Try.pinned.checked.prog.veiledRec ·)) : Bool) = true := by kernel_rfl
theorem c31 : (Rows.topkOwnRow.veiledFits Try.pinned.checked.prog Try.f5.params.toList (Try.f5.params.toList ++ Rows.topkOwnSpec.plain.varTypes Try.pinned.checked.prog ++ Try.f5.resultTypes.toList) : Bool) = true := by kernel_rfl
theorem c22 : ((Rows.topkOwnRow.plainKeys == Try.pinned.checked.prog.plainKeys) : Bool) = true := Facts.c22
theorem c26 : ((Rows.topkOwnRow.lifted == Try.pinned.checked.prog.liftsFinal) : Bool) = true := Facts.c26
theorem c27 : ((Try.pinned.checked.prog.make == some Rows.topkOwnRow.make) : Bool) = true := Facts.c27
set_option maxRecDepth 100000 in
theorem closed : joinedFacts Try.pinned.checked.prog 5 Try.f5 Rows.topkOwnSpec Rows.topkOwnRow = true := by
  unfold joinedFacts
  with_reducible exact (Facts.and2 (Facts.and2 (Facts.and2 (Facts.and2 (Facts.and2 (Facts.and2 (Facts.and2 (Facts.and2 (Facts.and2 (Facts.and2 (Facts.and2 (Facts.and2 (Facts.and2 (Facts.and2 (Facts.and2 (Facts.and2 (Facts.and2 (Facts.and2 (Facts.and2 (Facts.and2 (Facts.and2 (Facts.and2 (Facts.and2 (Facts.and2 (Facts.and2 (Facts.and2 (Facts.and2 (Facts.and2 (Facts.and2 (Facts.and2 (Facts.and2 c0 Facts.c1) Facts.c2) c3) c4) c5) Facts.c6) c7) Facts.c8) c9) c10) c11) c12) c13) c14) c15) c16) c17) c18) c19) c20) c21) c22) c23) Facts.c24) Facts.c25) c26) c27) (by kernel_rfl)) c29) c30) c31)
theorem over : Rows.topkOwnRow.holds Try.pinned (OpenSpec.ofChange Rows.topkOwnSpec) :=
  OpenClaim.holds_of_wide 5 Try.f5 rfl rfl rfl rfl rfl rfl rfl ⟨rfl, rfl, rfl, rfl, rfl⟩ rfl rfl rfl rfl rfl (by kernel_rfl) Try.func5 closed
    (of_decide_eq_true (by kernel_rfl)) (by unfold Func.isWrapper; first | (rw [if_pos (by decide +kernel)]; kernel_rfl) | (rw [if_neg (by decide +kernel)]; exact ⟨rfl, rfl⟩))
    (fun os started H enc _ => lifted os started H enc)
theorem proved : Rows.TopkOwnSaid := over
end Go.Proofs.Ytchiobhklbefjaa.topkOwn
namespace Go.Proofs.Ytchiobhklbefjaa
/-- The row, under a short name, for the claim. -/
theorem topkOwn_holds : Rows.TopkOwnSaid := topkOwn.proved
end Go.Proofs.Ytchiobhklbefjaa
