/- PastBack: whatever is handed in, the law answers true: what is put or cut at later versions changes nothing of an earlier one. No condition beyond the statement's own. -/
import Derived.Test.YtjbakaplcjkniaaRows
import Derived.Test.YtjbakaplcjkniaaFacts
import Derived.Test.YtjbakaplcjkniaaLawPastBack
import Derived.Test.YtjbakaplcjkniaaFrame
import Derived.WalkKit
import Derived.ProofKit
import Derived.OpenShut
import Derived.ShutString
import Derived.ChangeOld
import Derived.Below
import Derived.SizedLaws
namespace Go.Proofs.Ytjbakaplcjkniaa.pastBack
open Go.ChangeShapes Go.WideShapes Go.ChangeAt Go.RowKit
open Go.ChangeMaps (open_string shut_string)
set_option linter.unusedVariables false
theorem own : ownKnob Try.prog.godebug = none := by kernel_rfl
theorem laidOut : laidOutB Try.prog = true := by kernel_rfl
set_option maxRecDepth 100000 in
theorem lifted (os : Os) (started : os.Started) (H : Type) (enc : TypeId × Value → H) :
    ReturnsInHanded {} Try.checked os 11 .any (Rows.pastBackSpec.pre6 enc Try.prog Try.f11 Rows.pastBackRow.domain false) (Rows.pastBackSpec.post enc Try.prog Try.f11 false true false false) := by
  refine returnsInHanded_of_change_sized (C := Try.checked) own started (by kernel_rfl) Try.func11
    (ChangeSpec.witness6 (enc := enc) (C := Try.checked) false ⟨#[], #[.slice none 0 0, .slice none 0 0], []⟩ 8 (by kernel_rfl) (by kernel_rfl) (by kernel_rfl) (by kernel_rfl)) ?_
  intro W base args ds gs before hval0 hW hcnd hsz0 _
  skip
  have hval : ∀ (j : Nat) t v, Try.f11.params[j]? = some t → args[j]? = some v → Value.okWide Try.prog W .any base t v := hval0
  have hW' := hW
  obtain ⟨p, q, hA0, hV, rfl, hfz, hnd⟩ := hW
  have hA : DataW.TrodAll enc Try.prog W 0 (fun _ => true) true Try.f11.params.toList args.toList ds p := hA0
  rw [Try.params11] at hA hval
  obtain ⟨v0, vs0, d0, ds0, p0, q0, hargs, rfl, rfl, h0, r0⟩ := trodAll_cons hA
  obtain ⟨v1, vs1, d1, ds1, p1, q1, rfl, rfl, rfl, h1, r1⟩ := trodAll_cons r0
  obtain ⟨rfl, rfl, rfl⟩ := trodAll_nil r1
  obtain rfl : args = #[v0, v1] := by cases args; simp_all
  obtain ⟨rfl, rfl⟩ := trodVars_none hV
  have k0 := h0
  have lt0 : ∀ x ∈ p0, x.block < W.heap.size := by obtain ⟨m, hm⟩ := k0; exact DataW.trod_lt m _ _ _ hm
  obtain ⟨x0, K0, o0⟩ := Frame.Opens.arg Pa.opens_ops h0
  have s0 : v0 = .slice none 0 0 ∨ ∃ a len cap, v0 = .slice (some a) len cap := by
    obtain ⟨a, len, cap, e⟩ := okWide_slice Try.underlying66 (hval 0 66 v0 rfl rfl)
    obtain ⟨m, hm⟩ := k0
    rw [e] at hm ⊢
    rcases Frame.slice_nil Try.underlying66 hm with e | ⟨a', l', c', e⟩
    · exact .inl (by simpa [Value.cells] using e)
    · exact .inr ⟨a', l', c', by simpa [Value.cells] using e⟩
  have k1 := h1
  have lt1 : ∀ x ∈ p1, x.block < W.heap.size := by obtain ⟨m, hm⟩ := k1; exact DataW.trod_lt m _ _ _ hm
  obtain ⟨x1, K1, o1⟩ := Frame.Opens.arg Pa.opens_ops h1
  have s1 : v1 = .slice none 0 0 ∨ ∃ a len cap, v1 = .slice (some a) len cap := by
    obtain ⟨a, len, cap, e⟩ := okWide_slice Try.underlying66 (hval 1 66 v1 rfl rfl)
    obtain ⟨m, hm⟩ := k1
    rw [e] at hm ⊢
    rcases Frame.slice_nil Try.underlying66 hm with e | ⟨a', l', c', e⟩
    · exact .inl (by simpa [Value.cells] using e)
    · exact .inr ⟨a', l', c', by simpa [Value.cells] using e⟩
  clear hA0 hval0 hsz0
  refine (Pa.back_row v0 s0 x0 K0 o0 v1 s1 x1 K1 o1 W).mono fun e W' ⟨he, bel⟩ => ?_
  subst he
  exact ⟨_, rfl, _, _, _, [], _, [], hW', trodAll_mk1 (shut_bool Try.underlying4 _), trodAll_mk2 (Below.trod laidOut (by kernel_rfl) (of_decide_eq_true (by kernel_rfl)) k0 bel lt0) (Below.trod laidOut (by kernel_rfl) (of_decide_eq_true (by kernel_rfl)) k1 bel lt1), rfl, bel.frame _, fun h => by cases h⟩
theorem c0 : (Rows.pastBackRow.wf (OpenSpec.ofChange Rows.pastBackSpec) : Bool) = true := by kernel_rfl
theorem c3 : (Try.f11.params.all (Try.pinned.checked.prog.readableRec ·) : Bool) = true := by kernel_rfl
theorem c4 : (namedTie Try.pinned.checked.prog Rows.pastBackRow.named Rows.pastBackSpec.vars : Bool) = true := by kernel_rfl
theorem c5 : ((Rows.pastBackRow.stops == []) : Bool) = true := by kernel_rfl
theorem c7 : ((Rows.pastBackRow.knobs == []) : Bool) = true := by kernel_rfl
theorem c9 : ((Rows.pastBackRow.inPlace == Try.pinned.checked.prog.inPlace 11) : Bool) = true := by kernel_rfl
theorem c10 : ((Rows.pastBackRow.unfollowed == Try.pinned.checked.prog.unfollowed 11) : Bool) = true := by kernel_rfl
theorem c11 : ((Rows.pastBackRow.recurses == Try.pinned.checked.prog.recurses 11) : Bool) = true := by kernel_rfl
theorem c12 : ((Rows.pastBackRow.named == Try.pinned.checked.prog.varsNamed 11) : Bool) = true := by kernel_rfl
theorem c13 : ((Rows.pastBackRow.maps == (Try.f11.params.toList ++ Rows.pastBackSpec.plain.varTypes Try.pinned.checked.prog).any (Try.pinned.checked.prog.mapsRec ·)) : Bool) = true := by kernel_rfl
theorem c14 : ((Rows.pastBackRow.ifaces == (Try.f11.params.toList ++ Rows.pastBackSpec.plain.varTypes Try.pinned.checked.prog).any (Try.pinned.checked.prog.ifacesRec ·)) : Bool) = true := by kernel_rfl
theorem c15 : ((Rows.pastBackRow.mapsOut == Try.pinned.checked.prog.mapsAmong Try.f11.resultTypes.toList) : Bool) = true := by kernel_rfl
theorem c16 : ((Rows.pastBackRow.loops == (Try.f11.params.toList ++ Rows.pastBackSpec.plain.varTypes Try.pinned.checked.prog).any (Try.pinned.checked.prog.loopsFrom ·)) : Bool) = true := by kernel_rfl
theorem c17 : ((Rows.pastBackRow.wideKeys == (Try.f11.params.toList ++ Rows.pastBackSpec.plain.varTypes Try.pinned.checked.prog ++ Try.f11.resultTypes.toList).any (Try.pinned.checked.prog.wideKeysFrom ·)) : Bool) = true := by kernel_rfl
theorem c18 : (Rows.pastBackSpec.vars.all (Try.pinned.checked.prog.varReadable ·) : Bool) = true := by kernel_rfl
theorem c19 : (Try.f11.resultTypes.all (fun t => Try.pinned.checked.prog.readableRec t && decide (t < Try.pinned.checked.prog.types.size)) : Bool) = true := by kernel_rfl
theorem c20 : ((Rows.pastBackRow.ifacesOut == Try.f11.resultTypes.toList.any (Try.pinned.checked.prog.ifacesRec ·)) : Bool) = true := by kernel_rfl
theorem c21 : ((Rows.pastBackRow.loopsOut == Try.f11.resultTypes.toList.any (Try.pinned.checked.prog.loopsFrom ·)) : Bool) = true := by kernel_rfl
theorem c23 : (Rows.pastBackRow.shortTexts.isNone : Bool) = true := by kernel_rfl
theorem c29 : ((Rows.pastBackRow.pinned == Rows.pastBackRow.pinnedBy) : Bool) = true := by kernel_rfl
theorem c30 : ((Rows.pastBackRow.veiled == (Try.f11.params.toList ++ Rows.pastBackSpec.plain.varTypes Try.pinned.checked.prog ++ Try.f11.resultTypes.toList).any (Try.pinned.checked.prog.veiledRec ·)) : Bool) = true := by kernel_rfl
theorem c31 : (Rows.pastBackRow.veiledFits Try.pinned.checked.prog Try.f11.params.toList (Try.f11.params.toList ++ Rows.pastBackSpec.plain.varTypes Try.pinned.checked.prog ++ Try.f11.resultTypes.toList) : Bool) = true := by kernel_rfl
theorem c22 : ((Rows.pastBackRow.plainKeys == Try.pinned.checked.prog.plainKeys) : Bool) = true := Facts.c22
theorem c26 : ((Rows.pastBackRow.lifted == Try.pinned.checked.prog.liftsFinal) : Bool) = true := Facts.c26
theorem c27 : ((Try.pinned.checked.prog.make == some Rows.pastBackRow.make) : Bool) = true := Facts.c27
set_option maxRecDepth 100000 in
theorem closed : joinedFacts Try.pinned.checked.prog 11 Try.f11 Rows.pastBackSpec Rows.pastBackRow = true := by
  unfold joinedFacts
  with_reducible exact (Facts.and2 (Facts.and2 (Facts.and2 (Facts.and2 (Facts.and2 (Facts.and2 (Facts.and2 (Facts.and2 (Facts.and2 (Facts.and2 (Facts.and2 (Facts.and2 (Facts.and2 (Facts.and2 (Facts.and2 (Facts.and2 (Facts.and2 (Facts.and2 (Facts.and2 (Facts.and2 (Facts.and2 (Facts.and2 (Facts.and2 (Facts.and2 (Facts.and2 (Facts.and2 (Facts.and2 (Facts.and2 (Facts.and2 (Facts.and2 (Facts.and2 c0 Facts.c1) Facts.c2) c3) c4) c5) Facts.c6) c7) Facts.c8) c9) c10) c11) c12) c13) c14) c15) c16) c17) c18) c19) c20) c21) c22) c23) Facts.c24) Facts.c25) c26) c27) (by kernel_rfl)) c29) c30) c31)
theorem over : Rows.pastBackRow.holds Try.pinned (OpenSpec.ofChange Rows.pastBackSpec) :=
  OpenClaim.holds_of_wide 11 Try.f11 rfl rfl rfl rfl rfl rfl rfl ⟨rfl, rfl, rfl, rfl, rfl⟩ rfl rfl rfl rfl rfl (by kernel_rfl) Try.func11 closed
    (of_decide_eq_true (by kernel_rfl)) (by unfold Func.isWrapper; first | (rw [if_pos (by decide +kernel)]; kernel_rfl) | (rw [if_neg (by decide +kernel)]; exact ⟨rfl, rfl⟩))
    (fun os started H enc _ => lifted os started H enc)
theorem proved : Rows.PastBackSaid := over
end Go.Proofs.Ytjbakaplcjkniaa.pastBack
namespace Go.Proofs.Ytjbakaplcjkniaa
/-- The row, under a short name, for the claim. -/
theorem pastBack_holds : Rows.PastBackSaid := pastBack.proved
end Go.Proofs.Ytjbakaplcjkniaa
