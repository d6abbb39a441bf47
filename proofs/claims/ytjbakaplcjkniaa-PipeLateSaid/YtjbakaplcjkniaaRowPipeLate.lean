/- PipeLate: whatever is handed in, the law answers true: bytes that are put in by one piece come out at their tick, all of them, and not ahead of it; a second piece never ahead of the first. No condition beyond the statement's own. -/
import Derived.Test.YtjbakaplcjkniaaRows
import Derived.Test.YtjbakaplcjkniaaFacts
import Derived.Test.YtjbakaplcjkniaaLawPipeLate
import Derived.Test.YtjbakaplcjkniaaFrame
import Derived.WalkKit
import Derived.ProofKit
import Derived.OpenShut
import Derived.ShutString
import Derived.ChangeOld
import Derived.Below
import Derived.SizedLaws
namespace Go.Proofs.Ytjbakaplcjkniaa.pipeLate
open Go.ChangeShapes Go.WideShapes Go.ChangeAt Go.RowKit
open Go.ChangeMaps (open_string shut_string)
set_option linter.unusedVariables false
theorem own : ownKnob Try.prog.godebug = none := by kernel_rfl
theorem laidOut : laidOutB Try.prog = true := by kernel_rfl
set_option maxRecDepth 100000 in
theorem lifted (os : Os) (started : os.Started) (H : Type) (enc : TypeId × Value → H) :
    ReturnsInHanded {} Try.checked os 4 .any (Rows.pipeLateSpec.pre6 enc Try.prog Try.f4 Rows.pipeLateRow.domain false) (Rows.pipeLateSpec.post enc Try.prog Try.f4 false true false false) := by
  refine returnsInHanded_of_change_sized (C := Try.checked) own started (by kernel_rfl) Try.func4
    (ChangeSpec.witness6 (enc := enc) (C := Try.checked) false ⟨#[], #[.slice none 0 0, .slice none 0 0, .int .u32 0, .int .u32 0, .int .u32 0], []⟩ 8 (by kernel_rfl) (by kernel_rfl) (by kernel_rfl) (by kernel_rfl)) ?_
  intro W base args ds gs before hval0 hW hcnd hsz0 _
  skip
  have hval : ∀ (j : Nat) t v, Try.f4.params[j]? = some t → args[j]? = some v → Value.okWide Try.prog W .any base t v := hval0
  have hW' := hW
  obtain ⟨p, q, hA0, hV, rfl, hfz, hnd⟩ := hW
  have hA : DataW.TrodAll enc Try.prog W 0 (fun _ => true) true Try.f4.params.toList args.toList ds p := hA0
  rw [Try.params4] at hA hval
  obtain ⟨v0, vs0, d0, ds0, p0, q0, hargs, rfl, rfl, h0, r0⟩ := trodAll_cons hA
  obtain ⟨v1, vs1, d1, ds1, p1, q1, rfl, rfl, rfl, h1, r1⟩ := trodAll_cons r0
  obtain ⟨v2, vs2, d2, ds2, p2, q2, rfl, rfl, rfl, h2, r2⟩ := trodAll_cons r1
  obtain ⟨v3, vs3, d3, ds3, p3, q3, rfl, rfl, rfl, h3, r3⟩ := trodAll_cons r2
  obtain ⟨v4, vs4, d4, ds4, p4, q4, rfl, rfl, rfl, h4, r4⟩ := trodAll_cons r3
  obtain ⟨rfl, rfl, rfl⟩ := trodAll_nil r4
  obtain rfl : args = #[v0, v1, v2, v3, v4] := by cases args; simp_all
  obtain ⟨rfl, rfl⟩ := trodVars_none hV
  have k0 := h0
  have lt0 : ∀ x ∈ p0, x.block < W.heap.size := by obtain ⟨m, hm⟩ := k0; exact DataW.trod_lt m _ _ _ hm
  obtain ⟨x0, K0, o0⟩ := Frame.Opens.arg Pi.opens_bytes h0
  have s0 : v0 = .slice none 0 0 ∨ ∃ a len cap, v0 = .slice (some a) len cap := by
    obtain ⟨a, len, cap, e⟩ := okWide_slice Try.underlying26 (hval 0 26 v0 rfl rfl)
    obtain ⟨m, hm⟩ := k0
    rw [e] at hm ⊢
    rcases Frame.slice_nil Try.underlying26 hm with e | ⟨a', l', c', e⟩
    · exact .inl (by simpa [Value.cells] using e)
    · exact .inr ⟨a', l', c', by simpa [Value.cells] using e⟩
  have k1 := h1
  have lt1 : ∀ x ∈ p1, x.block < W.heap.size := by obtain ⟨m, hm⟩ := k1; exact DataW.trod_lt m _ _ _ hm
  obtain ⟨x1, K1, o1⟩ := Frame.Opens.arg Pi.opens_bytes h1
  have s1 : v1 = .slice none 0 0 ∨ ∃ a len cap, v1 = .slice (some a) len cap := by
    obtain ⟨a, len, cap, e⟩ := okWide_slice Try.underlying26 (hval 1 26 v1 rfl rfl)
    obtain ⟨m, hm⟩ := k1
    rw [e] at hm ⊢
    rcases Frame.slice_nil Try.underlying26 hm with e | ⟨a', l', c', e⟩
    · exact .inl (by simpa [Value.cells] using e)
    · exact .inr ⟨a', l', c', by simpa [Value.cells] using e⟩
  obtain ⟨a2, rfl, rfl, rfl, w2⟩ := open_int Try.underlying27 (hval 2 27 v2 rfl rfl) h2
  obtain ⟨a3, rfl, rfl, rfl, w3⟩ := open_int Try.underlying27 (hval 3 27 v3 rfl rfl) h3
  obtain ⟨a4, rfl, rfl, rfl, w4⟩ := open_int Try.underlying27 (hval 4 27 v4 rfl rfl) h4
  clear hA0 hval0 hsz0
  refine (Pi.late_row v0 s0 x0 K0 o0 v1 s1 x1 K1 o1 a2 w2 a3 w3 a4 w4 W).mono fun e W' ⟨he, bel⟩ => ?_
  subst he
  exact ⟨_, rfl, _, _, _, [], _, [], hW', trodAll_mk1 (shut_bool Try.underlying4 _), trodAll_cons_mk (Below.trod laidOut (by kernel_rfl) (of_decide_eq_true (by kernel_rfl)) k0 bel lt0) (trodAll_cons_mk (Below.trod laidOut (by kernel_rfl) (of_decide_eq_true (by kernel_rfl)) k1 bel lt1) (trodAll_cons_mk (shut_int Try.underlying27 w2) (trodAll_cons_mk (shut_int Try.underlying27 w3) (trodAll_cons_mk (shut_int Try.underlying27 w4) (trodAll_mk0))))), rfl, bel.frame _, fun h => by cases h⟩
theorem c0 : (Rows.pipeLateRow.wf (OpenSpec.ofChange Rows.pipeLateSpec) : Bool) = true := by kernel_rfl
theorem c3 : (Try.f4.params.all (Try.pinned.checked.prog.readableRec ·) : Bool) = true := by kernel_rfl
theorem c4 : (namedTie Try.pinned.checked.prog Rows.pipeLateRow.named Rows.pipeLateSpec.vars : Bool) = true := by kernel_rfl
theorem c5 : ((Rows.pipeLateRow.stops == []) : Bool) = true := by kernel_rfl
theorem c7 : ((Rows.pipeLateRow.knobs == []) : Bool) = true := by kernel_rfl
theorem c9 : ((Rows.pipeLateRow.inPlace == Try.pinned.checked.prog.inPlace 4) : Bool) = true := by kernel_rfl
theorem c10 : ((Rows.pipeLateRow.unfollowed == Try.pinned.checked.prog.unfollowed 4) : Bool) = true := by kernel_rfl
theorem c11 : ((Rows.pipeLateRow.recurses == Try.pinned.checked.prog.recurses 4) : Bool) = true := by kernel_rfl
theorem c12 : ((Rows.pipeLateRow.named == Try.pinned.checked.prog.varsNamed 4) : Bool) = true := by kernel_rfl
theorem c13 : ((Rows.pipeLateRow.maps == (Try.f4.params.toList ++ Rows.pipeLateSpec.plain.varTypes Try.pinned.checked.prog).any (Try.pinned.checked.prog.mapsRec ·)) : Bool) = true := by kernel_rfl
theorem c14 : ((Rows.pipeLateRow.ifaces == (Try.f4.params.toList ++ Rows.pipeLateSpec.plain.varTypes Try.pinned.checked.prog).any (Try.pinned.checked.prog.ifacesRec ·)) : Bool) = true := by kernel_rfl
theorem c15 : ((Rows.pipeLateRow.mapsOut == Try.pinned.checked.prog.mapsAmong Try.f4.resultTypes.toList) : Bool) = true := by kernel_rfl
theorem c16 : ((Rows.pipeLateRow.loops == (Try.f4.params.toList ++ Rows.pipeLateSpec.plain.varTypes Try.pinned.checked.prog).any (Try.pinned.checked.prog.loopsFrom ·)) : Bool) = true := by kernel_rfl
theorem c17 : ((Rows.pipeLateRow.wideKeys == (Try.f4.params.toList ++ Rows.pipeLateSpec.plain.varTypes Try.pinned.checked.prog ++ Try.f4.resultTypes.toList).any (Try.pinned.checked.prog.wideKeysFrom ·)) : Bool) = true := by kernel_rfl
theorem c18 : (Rows.pipeLateSpec.vars.all (Try.pinned.checked.prog.varReadable ·) : Bool) = true := by kernel_rfl
theorem c19 : (Try.f4.resultTypes.all (fun t => Try.pinned.checked.prog.readableRec t && decide (t < Try.pinned.checked.prog.types.size)) : Bool) = true := by kernel_rfl
theorem c20 : ((Rows.pipeLateRow.ifacesOut == Try.f4.resultTypes.toList.any (Try.pinned.checked.prog.ifacesRec ·)) : Bool) = true := by kernel_rfl
theorem c21 : ((Rows.pipeLateRow.loopsOut == Try.f4.resultTypes.toList.any (Try.pinned.checked.prog.loopsFrom ·)) : Bool) = true := by kernel_rfl
theorem c23 : (Rows.pipeLateRow.shortTexts.isNone : Bool) = true := by kernel_rfl
theorem c29 : ((Rows.pipeLateRow.pinned == Rows.pipeLateRow.pinnedBy) : Bool) = true := by kernel_rfl
theorem c30 : ((Rows.pipeLateRow.veiled == (Try.f4.params.toList ++ Rows.pipeLateSpec.plain.varTypes Try.pinned.checked.prog ++ Try.f4.resultTypes.toList).any (Try.pinned.checked.prog.veiledRec ·)) : Bool) = true := by kernel_rfl
theorem c31 : (Rows.pipeLateRow.veiledFits Try.pinned.checked.prog Try.f4.params.toList (Try.f4.params.toList ++ Rows.pipeLateSpec.plain.varTypes Try.pinned.checked.prog ++ Try.f4.resultTypes.toList) : Bool) = true := by kernel_rfl
theorem c22 : ((Rows.pipeLateRow.plainKeys == Try.pinned.checked.prog.plainKeys) : Bool) = true := Facts.c22
theorem c26 : ((Rows.pipeLateRow.lifted == Try.pinned.checked.prog.liftsFinal) : Bool) = true := Facts.c26
theorem c27 : ((Try.pinned.checked.prog.make == some Rows.pipeLateRow.make) : Bool) = true := Facts.c27
set_option maxRecDepth 100000 in
theorem closed : joinedFacts Try.pinned.checked.prog 4 Try.f4 Rows.pipeLateSpec Rows.pipeLateRow = true := by
  unfold joinedFacts
  with_reducible exact (Facts.and2 (Facts.and2 (Facts.and2 (Facts.and2 (Facts.and2 (Facts.and2 (Facts.and2 (Facts.and2 (Facts.and2 (Facts.and2 (Facts.and2 (Facts.and2 (Facts.and2 (Facts.and2 (Facts.and2 (Facts.and2 (Facts.and2 (Facts.and2 (Facts.and2 (Facts.and2 (Facts.and2 (Facts.and2 (Facts.and2 (Facts.and2 (Facts.and2 (Facts.and2 (Facts.and2 (Facts.and2 (Facts.and2 (Facts.and2 (Facts.and2 c0 Facts.c1) Facts.c2) c3) c4) c5) Facts.c6) c7) Facts.c8) c9) c10) c11) c12) c13) c14) c15) c16) c17) c18) c19) c20) c21) c22) c23) Facts.c24) Facts.c25) c26) c27) (by kernel_rfl)) c29) c30) c31)
theorem over : Rows.pipeLateRow.holds Try.pinned (OpenSpec.ofChange Rows.pipeLateSpec) :=
  OpenClaim.holds_of_wide 4 Try.f4 rfl rfl rfl rfl rfl rfl rfl ⟨rfl, rfl, rfl, rfl, rfl⟩ rfl rfl rfl rfl rfl (by kernel_rfl) Try.func4 closed
    (of_decide_eq_true (by kernel_rfl)) (by unfold Func.isWrapper; first | (rw [if_pos (by decide +kernel)]; kernel_rfl) | (rw [if_neg (by decide +kernel)]; exact ⟨rfl, rfl⟩))
    (fun os started H enc _ => lifted os started H enc)
theorem proved : Rows.PipeLateSaid := over
end Go.Proofs.Ytjbakaplcjkniaa.pipeLate
namespace Go.Proofs.Ytjbakaplcjkniaa
/-- The row, under a short name, for the claim. -/
theorem pipeLate_holds : Rows.PipeLateSaid := pipeLate.proved
end Go.Proofs.Ytjbakaplcjkniaa
