-- Written by this session's copy of the print (wip/tools): Lean checks it.
import Derived.Test.YtlkfmoleehmgcaaRows
import Derived.Test.YtlkfmoleehmgcaaSFnExactAllPartitions1
import Derived.Test.YtlkfmoleehmgcaaSFnExactAllPartitions5
import Derived.WalkKit
import Derived.ProofKit
import Derived.OpenShut
import Derived.ShutString
import Derived.ChangeOld
import Derived.Below
import Derived.SizedLaws
namespace Go.Proofs.Ytlkfmoleehmgcaa.fnExactAllPartitions
open Go.ChangeShapes Go.WideShapes Go.ChangeAt Go.RowKit
open Go.ChangeMaps (open_string shut_string)
set_option linter.unusedVariables false
theorem own : ownKnob Try.prog.godebug = none := by kernel_rfl
set_option maxRecDepth 100000 in
theorem lifted (os : Os) (started : os.Started) (H : Type) (enc : TypeId × Value → H) :
    ReturnsInHanded {} Try.checked os 3 .any (Rows.fnExactAllPartitionsSpec.pre6 enc Try.prog Try.f3 Rows.fnExactAllPartitionsRow.domain false) (Rows.fnExactAllPartitionsSpec.post enc Try.prog Try.f3 false true false false) := by
  refine returnsInHanded_of_change_sized (C := Try.checked) own started (by kernel_rfl) Try.func3
    (ChangeSpec.witness6 (enc := enc) (C := Try.checked) false ⟨#[], #[.int .i64 0, .int .i64 0], []⟩ 8 (by kernel_rfl) (by kernel_rfl) (by kernel_rfl) (by kernel_rfl)) ?_
  intro W base args ds gs before hval0 hW hcnd hsz0 _
  have hsz : (DataW.weightsEach Try.prog (Try.f3.params.toList ++ Rows.fnExactAllPartitionsSpec.plain.varTypes Try.prog) (ds ++ gs)).all (· ≤ reachBytes) = true := hsz0
  have hval : ∀ (j : Nat) t v, Try.f3.params[j]? = some t → args[j]? = some v → Value.okWide Try.prog W .any base t v := hval0
  have hW' := hW
  obtain ⟨p, q, hA0, hV, rfl, hfz, hnd⟩ := hW
  have hA : DataW.TrodAll enc Try.prog W 0 (fun _ => true) true Try.f3.params.toList args.toList ds p := hA0
  rw [Try.params3] at hA hval hsz
  obtain ⟨v0, vs0, d0, ds0, p0, q0, hargs, rfl, rfl, h0, r0⟩ := trodAll_cons hA
  obtain ⟨v1, vs1, d1, ds1, p1, q1, rfl, rfl, rfl, h1, r1⟩ := trodAll_cons r0
  obtain ⟨rfl, rfl, rfl⟩ := trodAll_nil r1
  obtain rfl : args = #[v0, v1] := by cases args; simp_all
  obtain ⟨rfl, rfl⟩ := trodVars_none hV
  obtain ⟨a0, rfl, rfl, rfl, w0⟩ := open_int Try.underlying3 (hval 0 3 v0 rfl rfl) h0
  obtain ⟨a1, rfl, rfl, rfl, w1⟩ := open_int Try.underlying3 (hval 1 3 v1 rfl rfl) h1
  clear hA0 hval0 hsz0 hsz
  refine (Q.laws_FnExactAllPartitions.walk  a0 a1 W w0 w1).mono fun e W' ⟨he, bel⟩ => ?_
  subst he
  exact ⟨_, rfl, _, _, _, [], _, [], hW', trodAll_mk1 (shut_bool Try.underlying4 _), (trodAll_cons_mk (shut_int Try.underlying3 w0) (trodAll_cons_mk (shut_int Try.underlying3 w1) trodAll_mk0)), rfl, bel.frame _, fun h => by cases h⟩
set_option maxRecDepth 100000 in
theorem cf0 : (Rows.fnExactAllPartitionsRow.wf (OpenSpec.ofChange Rows.fnExactAllPartitionsSpec)) = true := by kernel_rfl
set_option maxRecDepth 100000 in
theorem cf3 : (Try.f3.params.all (Try.prog.readableRec ·)) = true := by kernel_rfl
set_option maxRecDepth 100000 in
theorem cf4 : (namedTie Try.prog Rows.fnExactAllPartitionsRow.named Rows.fnExactAllPartitionsSpec.vars) = true := by kernel_rfl
set_option maxRecDepth 100000 in
theorem cf5 : ((Rows.fnExactAllPartitionsRow.stops == [])) = true := by kernel_rfl
set_option maxRecDepth 100000 in
theorem cf7 : ((Rows.fnExactAllPartitionsRow.knobs == [])) = true := by kernel_rfl
set_option maxRecDepth 100000 in
theorem cf9 : ((Rows.fnExactAllPartitionsRow.inPlace == Try.prog.inPlace 3)) = true := by kernel_rfl
set_option maxRecDepth 100000 in
theorem cf10 : ((Rows.fnExactAllPartitionsRow.unfollowed == Try.prog.unfollowed 3)) = true := by kernel_rfl
set_option maxRecDepth 100000 in
theorem cf11 : ((Rows.fnExactAllPartitionsRow.recurses == Try.prog.recurses 3)) = true := by kernel_rfl
set_option maxRecDepth 100000 in
theorem cf12 : ((Rows.fnExactAllPartitionsRow.named == Try.prog.varsNamed 3)) = true := by kernel_rfl
set_option maxRecDepth 100000 in
theorem cf13 : ((Rows.fnExactAllPartitionsRow.maps == (Try.f3.params.toList ++ Rows.fnExactAllPartitionsSpec.plain.varTypes Try.prog).any (Try.prog.mapsRec ·))) = true := by kernel_rfl
set_option maxRecDepth 100000 in
theorem cf14 : ((Rows.fnExactAllPartitionsRow.ifaces == (Try.f3.params.toList ++ Rows.fnExactAllPartitionsSpec.plain.varTypes Try.prog).any (Try.prog.ifacesRec ·))) = true := by kernel_rfl
set_option maxRecDepth 100000 in
theorem cf15 : ((Rows.fnExactAllPartitionsRow.mapsOut == Try.prog.mapsAmong Try.f3.resultTypes.toList)) = true := by kernel_rfl
set_option maxRecDepth 100000 in
theorem cf16 : ((Rows.fnExactAllPartitionsRow.loops == (Try.f3.params.toList ++ Rows.fnExactAllPartitionsSpec.plain.varTypes Try.prog).any (Try.prog.loopsFrom ·))) = true := by kernel_rfl
set_option maxRecDepth 100000 in
theorem cf17 : ((Rows.fnExactAllPartitionsRow.wideKeys == (Try.f3.params.toList ++ Rows.fnExactAllPartitionsSpec.plain.varTypes Try.prog ++ Try.f3.resultTypes.toList).any (Try.prog.wideKeysFrom ·))) = true := by kernel_rfl
set_option maxRecDepth 100000 in
theorem cf18 : (Rows.fnExactAllPartitionsSpec.vars.all (Try.prog.varReadable ·)) = true := by kernel_rfl
set_option maxRecDepth 100000 in
theorem cf19 : (Try.f3.resultTypes.all (fun t => Try.prog.readableRec t && decide (t < Try.prog.types.size))) = true := by kernel_rfl
set_option maxRecDepth 100000 in
theorem cf20 : ((Rows.fnExactAllPartitionsRow.ifacesOut == Try.f3.resultTypes.toList.any (Try.prog.ifacesRec ·))) = true := by kernel_rfl
set_option maxRecDepth 100000 in
theorem cf21 : ((Rows.fnExactAllPartitionsRow.loopsOut == Try.f3.resultTypes.toList.any (Try.prog.loopsFrom ·))) = true := by kernel_rfl
set_option maxRecDepth 100000 in
theorem cf22 : ((Rows.fnExactAllPartitionsRow.plainKeys == Try.prog.plainKeys)) = true := by kernel_rfl
set_option maxRecDepth 100000 in
theorem cf23 : (Rows.fnExactAllPartitionsRow.shortTexts.isNone) = true := by kernel_rfl
set_option maxRecDepth 100000 in
theorem cf26 : ((Rows.fnExactAllPartitionsRow.lifted == Try.prog.liftsFinal)) = true := by rw [Go.Proofs.Ytlkfmoleehmgcaa.Facts.liftsFinal_]; rfl
set_option maxRecDepth 100000 in
theorem cf27 : ((Try.prog.make == some Rows.fnExactAllPartitionsRow.make)) = true := by rw [Go.Proofs.Ytlkfmoleehmgcaa.Facts.make_]; rfl
set_option maxRecDepth 100000 in
theorem cf28 : ((Rows.fnExactAllPartitionsRow.kinds == (if Rows.fnExactAllPartitionsRow.domain.isEmpty then [] else Try.f3.params.toList.map fun t => match Try.prog.underlying t with | some (.int k) => some k | _ => none))) = true := by kernel_rfl
set_option maxRecDepth 100000 in
theorem cf29 : ((Rows.fnExactAllPartitionsRow.pinned == Rows.fnExactAllPartitionsRow.pinnedBy)) = true := by kernel_rfl
set_option maxRecDepth 100000 in
theorem cf30 : ((Rows.fnExactAllPartitionsRow.veiled == (Try.f3.params.toList ++ Rows.fnExactAllPartitionsSpec.plain.varTypes Try.prog ++ Try.f3.resultTypes.toList).any (Try.prog.veiledRec ·))) = true := by kernel_rfl
set_option maxRecDepth 100000 in
theorem cf31 : (Rows.fnExactAllPartitionsRow.veiledFits Try.prog Try.f3.params.toList (Try.f3.params.toList ++ Rows.fnExactAllPartitionsSpec.plain.varTypes Try.prog ++ Try.f3.resultTypes.toList)) = true := by kernel_rfl
set_option maxRecDepth 100000 in
theorem closed : joinedFacts Try.prog 3 Try.f3 Rows.fnExactAllPartitionsSpec Rows.fnExactAllPartitionsRow = true := by
  unfold joinedFacts
  simp only [Bool.and_eq_true]
  exact ⟨⟨⟨⟨⟨⟨⟨⟨⟨⟨⟨⟨⟨⟨⟨⟨⟨⟨⟨⟨⟨⟨⟨⟨⟨⟨⟨⟨⟨⟨⟨cf0, Go.Proofs.Ytlkfmoleehmgcaa.Facts.laidOut_⟩, Go.Proofs.Ytlkfmoleehmgcaa.Facts.mapsRowed_⟩, cf3⟩, cf4⟩, cf5⟩, Go.Proofs.Ytlkfmoleehmgcaa.Facts.stops_⟩, cf7⟩, Go.Proofs.Ytlkfmoleehmgcaa.Facts.stopKnobs_⟩, cf9⟩, cf10⟩, cf11⟩, cf12⟩, cf13⟩, cf14⟩, cf15⟩, cf16⟩, cf17⟩, cf18⟩, cf19⟩, cf20⟩, cf21⟩, cf22⟩, cf23⟩, Go.Proofs.Ytlkfmoleehmgcaa.Facts.stopsHeard_⟩, Go.Proofs.Ytlkfmoleehmgcaa.Facts.mayEnter_⟩, cf26⟩, cf27⟩, cf28⟩, cf29⟩, cf30⟩, cf31⟩
theorem over : Rows.fnExactAllPartitionsRow.holds Try.pinned (OpenSpec.ofChange Rows.fnExactAllPartitionsSpec) :=
  OpenClaim.holds_of_wide 3 Try.f3 rfl rfl rfl rfl rfl rfl rfl ⟨rfl, rfl, rfl, rfl, rfl⟩ rfl rfl rfl rfl rfl (by kernel_rfl) Try.func3 closed
    (of_decide_eq_true (by kernel_rfl)) (by unfold Func.isWrapper; first | (rw [if_pos (by decide +kernel)]; kernel_rfl) | (rw [if_neg (by decide +kernel)]; exact ⟨rfl, rfl⟩))
    (fun os started H enc _ => lifted os started H enc)
theorem proved : Rows.FnExactAllPartitionsSaid := over
#print axioms proved
end Go.Proofs.Ytlkfmoleehmgcaa.fnExactAllPartitions
namespace Go.Proofs.Ytlkfmoleehmgcaa
/-- The row, under a short name, for the claim. -/
theorem fnExactAllPartitions_holds : Rows.FnExactAllPartitionsSaid := fnExactAllPartitions.proved
end Go.Proofs.Ytlkfmoleehmgcaa
