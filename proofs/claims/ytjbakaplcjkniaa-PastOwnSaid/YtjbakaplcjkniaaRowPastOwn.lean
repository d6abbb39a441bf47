/- PastOwn: whatever is handed in, the law answers true: items that are handed in, and told, are the past's own. No condition beyond the statement's own. -/
import Derived.Test.YtjbakaplcjkniaaRows
import Derived.Test.YtjbakaplcjkniaaFacts
import Derived.Test.YtjbakaplcjkniaaLawPastOwn
import Derived.Test.YtjbakaplcjkniaaFrame
import Derived.WalkKit
import Derived.ProofKit
import Derived.OpenShut
import Derived.ShutString
import Derived.ChangeOld
import Derived.Below
import Derived.SizedLaws
namespace Go.Proofs.Ytjbakaplcjkniaa.pastOwn
open Go.ChangeShapes Go.WideShapes Go.ChangeAt Go.RowKit
open Go.ChangeMaps (open_string shut_string)
set_option linter.unusedVariables false
theorem own : ownKnob Try.prog.godebug = none := by kernel_rfl
theorem laidOut : laidOutB Try.prog = true := by kernel_rfl
set_option maxRecDepth 100000 in
theorem lifted (os : Os) (started : os.Started) (H : Type) (enc : TypeId × Value → H) :
    ReturnsInHanded {} Try.checked os 8 .any (Rows.pastOwnSpec.pre6 enc Try.prog Try.f8 Rows.pastOwnRow.domain false) (Rows.pastOwnSpec.post enc Try.prog Try.f8 false true false false) := by
  refine returnsInHanded_of_change_sized (C := Try.checked) own started (by kernel_rfl) Try.func8
    (ChangeSpec.witness6 (enc := enc) (C := Try.checked) false ⟨#[], #[.agg #[.int .u32 0, .slice none 0 0, .slice none 0 0]], []⟩ 8 (by kernel_rfl) (by kernel_rfl) (by kernel_rfl) (by kernel_rfl)) ?_
  intro W base args ds gs before hval0 hW hcnd hsz0 _
  skip
  have hval : ∀ (j : Nat) t v, Try.f8.params[j]? = some t → args[j]? = some v → Value.okWide Try.prog W .any base t v := hval0
  have hW' := hW
  obtain ⟨p, q, hA0, hV, rfl, hfz, hnd⟩ := hW
  have hA : DataW.TrodAll enc Try.prog W 0 (fun _ => true) true Try.f8.params.toList args.toList ds p := hA0
  rw [Try.params8] at hA hval
  obtain ⟨v0, vs0, d0, ds0, p0, q0, hargs, rfl, rfl, h0, r0⟩ := trodAll_cons hA
  obtain ⟨rfl, rfl, rfl⟩ := trodAll_nil r0
  obtain rfl : args = #[v0] := by cases args; simp_all
  obtain ⟨rfl, rfl⟩ := trodVars_none hV
  have k0 := h0
  have lt0 : ∀ x ∈ p0, x.block < W.heap.size := by obtain ⟨m, hm⟩ := k0; exact DataW.trod_lt m _ _ _ hm
  obtain ⟨x0, K0, o0⟩ := Frame.Opens.arg Pa.opens_item h0
  have s0 : ∃ cs, v0 = .agg cs := by obtain ⟨cs, h, _⟩ := okWide_struct Try.underlying54 (hval 0 54 v0 rfl rfl); exact ⟨cs, h⟩
  clear hA0 hval0 hsz0
  refine (Pa.own_row v0 s0 x0 K0 o0 W).mono fun e W' ⟨he, bel⟩ => ?_
  subst he
  exact ⟨_, rfl, _, _, _, [], _, [], hW', trodAll_mk1 (shut_bool Try.underlying4 _), trodAll_mk1 (Below.trod laidOut (by kernel_rfl) (of_decide_eq_true (by kernel_rfl)) k0 bel lt0), rfl, bel.frame _, fun h => by cases h⟩
theorem c0 : (Rows.pastOwnRow.wf (OpenSpec.ofChange Rows.pastOwnSpec) : Bool) = true := by kernel_rfl
theorem c3 : (Try.f8.params.all (Try.pinned.checked.prog.readableRec ·) : Bool) = true := by kernel_rfl
theorem c4 : (namedTie Try.pinned.checked.prog Rows.pastOwnRow.named Rows.pastOwnSpec.vars : Bool) = true := by kernel_rfl
theorem c5 : ((Rows.pastOwnRow.stops == []) : Bool) = true := by kernel_rfl
theorem c7 : ((Rows.pastOwnRow.knobs == []) : Bool) = true := by kernel_rfl
theorem c9 : ((Rows.pastOwnRow.inPlace == Try.pinned.checked.prog.inPlace 8) : Bool) = true := by kernel_rfl
theorem c10 : ((Rows.pastOwnRow.unfollowed == Try.pinned.checked.prog.unfollowed 8) : Bool) = true := by kernel_rfl
theorem c11 : ((Rows.pastOwnRow.recurses == Try.pinned.checked.prog.recurses 8) : Bool) = true := by kernel_rfl
theorem c12 : ((Rows.pastOwnRow.named == Try.pinned.checked.prog.varsNamed 8) : Bool) = true := by kernel_rfl
theorem c13 : ((Rows.pastOwnRow.maps == (Try.f8.params.toList ++ Rows.pastOwnSpec.plain.varTypes Try.pinned.checked.prog).any (Try.pinned.checked.prog.mapsRec ·)) : Bool) = true := by kernel_rfl
theorem c14 : ((Rows.pastOwnRow.ifaces == (Try.f8.params.toList ++ Rows.pastOwnSpec.plain.varTypes Try.pinned.checked.prog).any (Try.pinned.checked.prog.ifacesRec ·)) : Bool) = true := by kernel_rfl
theorem c15 : ((Rows.pastOwnRow.mapsOut == Try.pinned.checked.prog.mapsAmong Try.f8.resultTypes.toList) : Bool) = true := by kernel_rfl
theorem c16 : ((Rows.pastOwnRow.loops == (Try.f8.params.toList ++ Rows.pastOwnSpec.plain.varTypes Try.pinned.checked.prog).any (Try.pinned.checked.prog.loopsFrom ·)) : Bool) = true := by kernel_rfl
theorem c17 : ((Rows.pastOwnRow.wideKeys == (Try.f8.params.toList ++ Rows.pastOwnSpec.plain.varTypes Try.pinned.checked.prog ++ Try.f8.resultTypes.toList).any (Try.pinned.checked.prog.wideKeysFrom ·)) : Bool) = true := by kernel_rfl
theorem c18 : (Rows.pastOwnSpec.vars.all (Try.pinned.checked.prog.varReadable ·) : Bool) = true := by kernel_rfl
theorem c19 : (Try.f8.resultTypes.all (fun t => Try.pinned.checked.prog.readableRec t && decide (t < Try.pinned.checked.prog.types.size)) : Bool) = true := by kernel_rfl
theorem c20 : ((Rows.pastOwnRow.ifacesOut == Try.f8.resultTypes.toList.any (Try.pinned.checked.prog.ifacesRec ·)) : Bool) = true := by kernel_rfl
theorem c21 : ((Rows.pastOwnRow.loopsOut == Try.f8.resultTypes.toList.any (Try.pinned.checked.prog.loopsFrom ·)) : Bool) = true := by kernel_rfl
theorem c23 : (Rows.pastOwnRow.shortTexts.isNone : Bool) = true := by kernel_rfl
theorem c29 : ((Rows.pastOwnRow.pinned == Rows.pastOwnRow.pinnedBy) : Bool) = true := by kernel_rfl
theorem c30 : ((Rows.pastOwnRow.veiled == (Try.f8.params.toList ++ Rows.pastOwnSpec.plain.varTypes Try.pinned.checked.prog ++ Try.f8.resultTypes.toList).any (Try.pinned.checked.prog.veiledRec ·)) : Bool) = true := by kernel_rfl
theorem c31 : (Rows.pastOwnRow.veiledFits Try.pinned.checked.prog Try.f8.params.toList (Try.f8.params.toList ++ Rows.pastOwnSpec.plain.varTypes Try.pinned.checked.prog ++ Try.f8.resultTypes.toList) : Bool) = true := by kernel_rfl
theorem c22 : ((Rows.pastOwnRow.plainKeys == Try.pinned.checked.prog.plainKeys) : Bool) = true := Facts.c22
theorem c26 : ((Rows.pastOwnRow.lifted == Try.pinned.checked.prog.liftsFinal) : Bool) = true := Facts.c26
theorem c27 : ((Try.pinned.checked.prog.make == some Rows.pastOwnRow.make) : Bool) = true := Facts.c27
set_option maxRecDepth 100000 in
theorem closed : joinedFacts Try.pinned.checked.prog 8 Try.f8 Rows.pastOwnSpec Rows.pastOwnRow = true := by
  unfold joinedFacts
  with_reducible exact (Facts.and2 (Facts.and2 (Facts.and2 (Facts.and2 (Facts.and2 (Facts.and2 (Facts.and2 (Facts.and2 (Facts.and2 (Facts.and2 (Facts.and2 (Facts.and2 (Facts.and2 (Facts.and2 (Facts.and2 (Facts.and2 (Facts.and2 (Facts.and2 (Facts.and2 (Facts.and2 (Facts.and2 (Facts.and2 (Facts.and2 (Facts.and2 (Facts.and2 (Facts.and2 (Facts.and2 (Facts.and2 (Facts.and2 (Facts.and2 (Facts.and2 c0 Facts.c1) Facts.c2) c3) c4) c5) Facts.c6) c7) Facts.c8) c9) c10) c11) c12) c13) c14) c15) c16) c17) c18) c19) c20) c21) c22) c23) Facts.c24) Facts.c25) c26) c27) (by kernel_rfl)) c29) c30) c31)
theorem over : Rows.pastOwnRow.holds Try.pinned (OpenSpec.ofChange Rows.pastOwnSpec) :=
  OpenClaim.holds_of_wide 8 Try.f8 rfl rfl rfl rfl rfl rfl rfl ⟨rfl, rfl, rfl, rfl, rfl⟩ rfl rfl rfl rfl rfl (by kernel_rfl) Try.func8 closed
    (of_decide_eq_true (by kernel_rfl)) (by unfold Func.isWrapper; first | (rw [if_pos (by decide +kernel)]; kernel_rfl) | (rw [if_neg (by decide +kernel)]; exact ⟨rfl, rfl⟩))
    (fun os started H enc _ => lifted os started H enc)
theorem proved : Rows.PastOwnSaid := over
end Go.Proofs.Ytjbakaplcjkniaa.pastOwn
namespace Go.Proofs.Ytjbakaplcjkniaa
/-- The row, under a short name, for the claim. -/
theorem pastOwn_holds : Rows.PastOwnSaid := pastOwn.proved
end Go.Proofs.Ytjbakaplcjkniaa
