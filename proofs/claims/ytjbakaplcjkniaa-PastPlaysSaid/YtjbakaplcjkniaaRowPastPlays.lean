/- PastPlays: whatever is handed in, the law answers true: whatever is put, cut, swept and asked, each answer is the document's. No condition beyond the statement's own. -/
import Derived.Test.YtjbakaplcjkniaaRows
import Derived.Test.YtjbakaplcjkniaaFacts
import Derived.Test.YtjbakaplcjkniaaLawPastPlays
import Derived.Test.YtjbakaplcjkniaaFrame
import Derived.WalkKit
import Derived.ProofKit
import Derived.OpenShut
import Derived.ShutString
import Derived.ChangeOld
import Derived.Below
import Derived.SizedLaws
namespace Go.Proofs.Ytjbakaplcjkniaa.pastPlays
open Go.ChangeShapes Go.WideShapes Go.ChangeAt Go.RowKit
open Go.ChangeMaps (open_string shut_string)
set_option linter.unusedVariables false
theorem own : ownKnob Try.prog.godebug = none := by kernel_rfl
theorem laidOut : laidOutB Try.prog = true := by kernel_rfl
set_option maxRecDepth 100000 in
theorem lifted (os : Os) (started : os.Started) (H : Type) (enc : TypeId × Value → H) :
    ReturnsInHanded {} Try.checked os 12 .any (Rows.pastPlaysSpec.pre6 enc Try.prog Try.f12 Rows.pastPlaysRow.domain false) (Rows.pastPlaysSpec.post enc Try.prog Try.f12 false true false false) := by
  refine returnsInHanded_of_change_sized (C := Try.checked) own started (by kernel_rfl) Try.func12
    (ChangeSpec.witness6 (enc := enc) (C := Try.checked) false ⟨#[], #[.slice none 0 0], []⟩ 8 (by kernel_rfl) (by kernel_rfl) (by kernel_rfl) (by kernel_rfl)) ?_
  intro W base args ds gs before hval0 hW hcnd hsz0 _
  skip
  have hval : ∀ (j : Nat) t v, Try.f12.params[j]? = some t → args[j]? = some v → Value.okWide Try.prog W .any base t v := hval0
  have hW' := hW
  obtain ⟨p, q, hA0, hV, rfl, hfz, hnd⟩ := hW
  have hA : DataW.TrodAll enc Try.prog W 0 (fun _ => true) true Try.f12.params.toList args.toList ds p := hA0
  rw [Try.params12] at hA hval
  obtain ⟨v0, vs0, d0, ds0, p0, q0, hargs, rfl, rfl, h0, r0⟩ := trodAll_cons hA
  obtain ⟨rfl, rfl, rfl⟩ := trodAll_nil r0
  obtain rfl : args = #[v0] := by cases args; simp_all
  obtain ⟨rfl, rfl⟩ := trodVars_none hV
  have k0 := h0
  have lt0 : ∀ x ∈ p0, x.block < W.heap.size := by obtain ⟨m, hm⟩ := k0; exact DataW.trod_lt m _ _ _ hm
  obtain ⟨x0, K0, o0⟩ := Frame.Opens.arg Pa.opens_ops h0
  have s0 : v0 = .slice none 0 0 ∨ ∃ a len cap, v0 = .slice (some a) len cap := by
    obtain ⟨a, len, cap, e⟩ := okWide_slice Try.underlying66 (hval 0 66 v0 rfl rfl)
    obtain ⟨m, hm⟩ := k0
    rw [e] at hm ⊢
    rcases Frame.slice_nil Try.underlying66 hm with e | ⟨a', l', c', e⟩
    · exact .inl (by simpa [Value.cells] using e)
    · exact .inr ⟨a', l', c', by simpa [Value.cells] using e⟩
  clear hA0 hval0 hsz0
  refine (Pb.plays_row v0 s0 x0 K0 o0 W).mono fun e W' ⟨he, bel⟩ => ?_
  subst he
  exact ⟨_, rfl, _, _, _, [], _, [], hW', trodAll_mk1 (shut_bool Try.underlying4 _), trodAll_mk1 (Below.trod laidOut (by kernel_rfl) (of_decide_eq_true (by kernel_rfl)) k0 bel lt0), rfl, bel.frame _, fun h => by cases h⟩
theorem c0 : (Rows.pastPlaysRow.wf (OpenSpec.ofChange Rows.pastPlaysSpec) : Bool) = true := by kernel_rfl
theorem c3 : (Try.f12.params.all (Try.pinned.checked.prog.readableRec ·) : Bool) = true := by kernel_rfl
theorem c4 : (namedTie Try.pinned.checked.prog Rows.pastPlaysRow.named Rows.pastPlaysSpec.vars : Bool) = true := by kernel_rfl
theorem c5 : ((Rows.pastPlaysRow.stops == []) : Bool) = true := by kernel_rfl
theorem c7 : ((Rows.pastPlaysRow.knobs == []) : Bool) = true := by kernel_rfl
theorem c9 : ((Rows.pastPlaysRow.inPlace == Try.pinned.checked.prog.inPlace 12) : Bool) = true := by kernel_rfl
theorem c10 : ((Rows.pastPlaysRow.unfollowed == Try.pinned.checked.prog.unfollowed 12) : Bool) = true := by kernel_rfl
theorem c11 : ((Rows.pastPlaysRow.recurses == Try.pinned.checked.prog.recurses 12) : Bool) = true := by kernel_rfl
theorem c12 : ((Rows.pastPlaysRow.named == Try.pinned.checked.prog.varsNamed 12) : Bool) = true := by kernel_rfl
theorem c13 : ((Rows.pastPlaysRow.maps == (Try.f12.params.toList ++ Rows.pastPlaysSpec.plain.varTypes Try.pinned.checked.prog).any (Try.pinned.checked.prog.mapsRec ·)) : Bool) = true := by kernel_rfl
theorem c14 : ((Rows.pastPlaysRow.ifaces == (Try.f12.params.toList ++ Rows.pastPlaysSpec.plain.varTypes Try.pinned.checked.prog).any (Try.pinned.checked.prog.ifacesRec ·)) : Bool) = true := by kernel_rfl
theorem c15 : ((Rows.pastPlaysRow.mapsOut == Try.pinned.checked.prog.mapsAmong Try.f12.resultTypes.toList) : Bool) = true := by kernel_rfl
theorem c16 : ((Rows.pastPlaysRow.loops == (Try.f12.params.toList ++ Rows.pastPlaysSpec.plain.varTypes Try.pinned.checked.prog).any (Try.pinned.checked.prog.loopsFrom ·)) : Bool) = true := by kernel_rfl
theorem c17 : ((Rows.pastPlaysRow.wideKeys == (Try.f12.params.toList ++ Rows.pastPlaysSpec.plain.varTypes Try.pinned.checked.prog ++ Try.f12.resultTypes.toList).any (Try.pinned.checked.prog.wideKeysFrom ·)) : Bool) = true := by kernel_rfl
theorem c18 : (Rows.pastPlaysSpec.vars.all (Try.pinned.checked.prog.varReadable ·) : Bool) = true := by kernel_rfl
theorem c19 : (Try.f12.resultTypes.all (fun t => Try.pinned.checked.prog.readableRec t && decide (t < Try.pinned.checked.prog.types.size)) : Bool) = true := by kernel_rfl
theorem c20 : ((Rows.pastPlaysRow.ifacesOut == Try.f12.resultTypes.toList.any (Try.pinned.checked.prog.ifacesRec ·)) : Bool) = true := by kernel_rfl
theorem c21 : ((Rows.pastPlaysRow.loopsOut == Try.f12.resultTypes.toList.any (Try.pinned.checked.prog.loopsFrom ·)) : Bool) = true := by kernel_rfl
theorem c23 : (Rows.pastPlaysRow.shortTexts.isNone : Bool) = true := by kernel_rfl
theorem c29 : ((Rows.pastPlaysRow.pinned == Rows.pastPlaysRow.pinnedBy) : Bool) = true := by kernel_rfl
theorem c30 : ((Rows.pastPlaysRow.veiled == (Try.f12.params.toList ++ Rows.pastPlaysSpec.plain.varTypes Try.pinned.checked.prog ++ Try.f12.resultTypes.toList).any (Try.pinned.checked.prog.veiledRec ·)) : Bool) = true := by kernel_rfl
theorem c31 : (Rows.pastPlaysRow.veiledFits Try.pinned.checked.prog Try.f12.params.toList (Try.f12.params.toList ++ Rows.pastPlaysSpec.plain.varTypes Try.pinned.checked.prog ++ Try.f12.resultTypes.toList) : Bool) = true := by kernel_rfl
theorem c22 : ((Rows.pastPlaysRow.plainKeys == Try.pinned.checked.prog.plainKeys) : Bool) = true := Facts.c22
theorem c26 : ((Rows.pastPlaysRow.lifted == Try.pinned.checked.prog.liftsFinal) : Bool) = true := Facts.c26
theorem c27 : ((Try.pinned.checked.prog.make == some Rows.pastPlaysRow.make) : Bool) = true := Facts.c27
set_option maxRecDepth 100000 in
theorem closed : joinedFacts Try.pinned.checked.prog 12 Try.f12 Rows.pastPlaysSpec Rows.pastPlaysRow = true := by
  unfold joinedFacts
  with_reducible exact (Facts.and2 (Facts.and2 (Facts.and2 (Facts.and2 (Facts.and2 (Facts.and2 (Facts.and2 (Facts.and2 (Facts.and2 (Facts.and2 (Facts.and2 (Facts.and2 (Facts.and2 (Facts.and2 (Facts.and2 (Facts.and2 (Facts.and2 (Facts.and2 (Facts.and2 (Facts.and2 (Facts.and2 (Facts.and2 (Facts.and2 (Facts.and2 (Facts.and2 (Facts.and2 (Facts.and2 (Facts.and2 (Facts.and2 (Facts.and2 (Facts.and2 c0 Facts.c1) Facts.c2) c3) c4) c5) Facts.c6) c7) Facts.c8) c9) c10) c11) c12) c13) c14) c15) c16) c17) c18) c19) c20) c21) c22) c23) Facts.c24) Facts.c25) c26) c27) (by kernel_rfl)) c29) c30) c31)
theorem over : Rows.pastPlaysRow.holds Try.pinned (OpenSpec.ofChange Rows.pastPlaysSpec) :=
  OpenClaim.holds_of_wide 12 Try.f12 rfl rfl rfl rfl rfl rfl rfl ⟨rfl, rfl, rfl, rfl, rfl⟩ rfl rfl rfl rfl rfl (by kernel_rfl) Try.func12 closed
    (of_decide_eq_true (by kernel_rfl)) (by unfold Func.isWrapper; first | (rw [if_pos (by decide +kernel)]; kernel_rfl) | (rw [if_neg (by decide +kernel)]; exact ⟨rfl, rfl⟩))
    (fun os started H enc _ => lifted os started H enc)
theorem proved : Rows.PastPlaysSaid := over
end Go.Proofs.Ytjbakaplcjkniaa.pastPlays
namespace Go.Proofs.Ytjbakaplcjkniaa
/-- The row, under a short name, for the claim. -/
theorem pastPlays_holds : Rows.PastPlaysSaid := pastPlays.proved
end Go.Proofs.Ytjbakaplcjkniaa
