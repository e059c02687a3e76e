-- Written by this session's copy of the print (wip/tools): Lean checks it.
import Derived.Test.YtlhblnphfpijkaaRows
import Derived.Test.YtlhblnphfpijkaaFacts
import Derived.Test.YtlhblnphfpijkaaQlawsFnExactRankCountsPlain
import Derived.Test.YtlhblnphfpijkaaPtFnExactRankCountsPlain
import Derived.WalkKit
import Derived.ProofKit
import Derived.OpenShut
import Derived.ShutString
import Derived.ChangeOld
import Derived.Below
import Derived.SizedLaws
import Derived.Test.YtlhblnphfpijkaaWB
namespace Go.Proofs.Ytlhblnphfpijkaa.fnExactRankCountsPlain
open Go.ChangeShapes Go.WideShapes Go.ChangeAt Go.RowKit
open Go.ChangeMaps (open_string shut_string)
set_option linter.unusedVariables false
theorem own : ownKnob Try.prog.godebug = none := by kernel_rfl
theorem laidOut : laidOutB Try.prog = true := by kernel_rfl
def IsRow (k : IntKind) (w : World) (a : Option Addr) (len cap : Nat) (zs : List Int) : Prop :=
  (a = none ∧ len = 0 ∧ cap = 0 ∧ zs = []) ∨
  ∃ x, a = some x ∧ len ≤ cap ∧ cap ≤ maxLen ∧ zs.length = cap ∧ (∀ i, i < zs.length → w.cell? (x.add i) = some (.int k (zs.getD i 0))) ∧ ∀ n ∈ zs, (Lit.int k n).wf = true
set_option maxRecDepth 100000 in
theorem lifted (os : Os) (started : os.Started) (H : Type) (enc : TypeId × Value → H) :
    ReturnsInHanded {} Try.checked os 11 .any (Rows.fnExactRankCountsPlainSpec.pre6 enc Try.prog Try.f11 Rows.fnExactRankCountsPlainRow.domain false) (Rows.fnExactRankCountsPlainSpec.post enc Try.prog Try.f11 false true false false) := by
  refine returnsInHanded_of_change_sized (C := Try.checked) own started (by kernel_rfl) Try.func11
    (ChangeSpec.witness6 (enc := enc) (C := Try.checked) false ⟨#[], #[.slice none 0 0, .int .i64 0], []⟩ 8 (by kernel_rfl) (by kernel_rfl) (by kernel_rfl) (by kernel_rfl)) ?_
  intro W base args ds gs before hval0 hW hcnd hsz0 _
  have hsz : (DataW.weightsEach Try.prog (Try.f11.params.toList ++ Rows.fnExactRankCountsPlainSpec.plain.varTypes Try.prog) (ds ++ gs)).all (· ≤ reachBytes) = true := hsz0
  have hval : ∀ (j : Nat) t v, Try.f11.params[j]? = some t → args[j]? = some v → Value.okWide Try.prog W .any base t v := hval0
  have hW' := hW
  obtain ⟨p, q, hA0, hV, rfl, hfz, hnd⟩ := hW
  have hA : DataW.TrodAll enc Try.prog W 0 (fun _ => true) true Try.f11.params.toList args.toList ds p := hA0
  rw [Try.params11] at hA hval hsz
  obtain ⟨v0, vs0, d0, ds0, p0, q0, hargs, rfl, rfl, h0, r0⟩ := trodAll_cons hA
  obtain ⟨v1, vs1, d1, ds1, p1, q1, rfl, rfl, rfl, h1, r1⟩ := trodAll_cons r0
  obtain ⟨rfl, rfl, rfl⟩ := trodAll_nil r1
  obtain rfl : args = #[v0, v1] := by cases args; simp_all
  obtain ⟨rfl, rfl⟩ := trodVars_none hV
  obtain ⟨a0, len0, cap0, rfl⟩ := okWide_slice Try.underlying22 (hval 0 22 v0 rfl rfl)
  have k0 := h0
  have lt0 : ∀ x ∈ p0, x.block < W.heap.size := by obtain ⟨m, hm⟩ := k0; exact DataW.trod_lt m _ _ _ hm
  obtain ⟨z0, w0⟩ : ∃ zs, IsRow .i64 W a0 len0 cap0 zs := by
    obtain ⟨fuel, hf⟩ := h0
    rcases open_ints Try.underlying22 Try.underlying3 (by kernel_rfl) hf with ⟨hcs, _⟩ | ⟨x, l, c, zs, hcs, _, hl, hm, hz, _, hcell, hwz⟩
    · simp [Value.cells] at hcs
      obtain ⟨rfl, rfl, rfl⟩ := hcs
      exact ⟨[], .inl ⟨rfl, rfl, rfl, rfl⟩⟩
    · simp [Value.cells] at hcs
      obtain ⟨rfl, rfl, rfl⟩ := hcs
      exact ⟨zs, .inr ⟨_, rfl, hl, hm, by simpa using hz, hcell, hwz⟩⟩
  have y0 : len0 * 8 ≤ 140737488351232 := Go.Proofs.YtlhblnphfpijkaaW.PrintWords.sized_ints hsz (j := 0) (t := 22) rfl rfl Try.underlying22 Try.underlying3 (by kernel_rfl) (by kernel_rfl) h0
  obtain ⟨a1, rfl, rfl, rfl, w1⟩ := open_int Try.underlying3 (hval 1 3 v1 rfl rfl) h1
  clear hA0 hval0 hsz0 hsz
  refine (Q.laws_FnExactRankCountsPlain.walk Pure.FnExactRankCountsPlain a0 len0 cap0 z0 a1 W w0 y0 w1).mono fun e W' ⟨he, bel⟩ => ?_
  subst he
  exact ⟨_, rfl, _, _, _, [], _, [], hW', trodAll_mk1 (shut_bool Try.underlying4 _), (trodAll_cons_mk (Below.trod laidOut (by kernel_rfl) (of_decide_eq_true (by kernel_rfl)) k0 bel lt0) (trodAll_cons_mk (shut_int Try.underlying3 w1) trodAll_mk0)), rfl, bel.frame _, fun h => by cases h⟩
set_option maxRecDepth 100000 in
theorem cf0 : (Rows.fnExactRankCountsPlainRow.wf (OpenSpec.ofChange Rows.fnExactRankCountsPlainSpec)) = true := by kernel_rfl
set_option maxRecDepth 100000 in
theorem cf3 : (Try.f11.params.all (Try.prog.readableRec ·)) = true := by kernel_rfl
set_option maxRecDepth 100000 in
theorem cf4 : (namedTie Try.prog Rows.fnExactRankCountsPlainRow.named Rows.fnExactRankCountsPlainSpec.vars) = true := by kernel_rfl
set_option maxRecDepth 100000 in
theorem cf5 : ((Rows.fnExactRankCountsPlainRow.stops == [])) = true := by kernel_rfl
set_option maxRecDepth 100000 in
theorem cf7 : ((Rows.fnExactRankCountsPlainRow.knobs == [])) = true := by kernel_rfl
set_option maxRecDepth 100000 in
theorem cf9 : ((Rows.fnExactRankCountsPlainRow.inPlace == Try.prog.inPlace 11)) = true := by kernel_rfl
set_option maxRecDepth 100000 in
theorem cf10 : ((Rows.fnExactRankCountsPlainRow.unfollowed == Try.prog.unfollowed 11)) = true := by kernel_rfl
set_option maxRecDepth 100000 in
theorem cf11 : ((Rows.fnExactRankCountsPlainRow.recurses == Try.prog.recurses 11)) = true := by kernel_rfl
set_option maxRecDepth 100000 in
theorem cf12 : ((Rows.fnExactRankCountsPlainRow.named == Try.prog.varsNamed 11)) = true := by kernel_rfl
set_option maxRecDepth 100000 in
theorem cf13 : ((Rows.fnExactRankCountsPlainRow.maps == (Try.f11.params.toList ++ Rows.fnExactRankCountsPlainSpec.plain.varTypes Try.prog).any (Try.prog.mapsRec ·))) = true := by kernel_rfl
set_option maxRecDepth 100000 in
theorem cf14 : ((Rows.fnExactRankCountsPlainRow.ifaces == (Try.f11.params.toList ++ Rows.fnExactRankCountsPlainSpec.plain.varTypes Try.prog).any (Try.prog.ifacesRec ·))) = true := by kernel_rfl
set_option maxRecDepth 100000 in
theorem cf15 : ((Rows.fnExactRankCountsPlainRow.mapsOut == Try.prog.mapsAmong Try.f11.resultTypes.toList)) = true := by kernel_rfl
set_option maxRecDepth 100000 in
theorem cf16 : ((Rows.fnExactRankCountsPlainRow.loops == (Try.f11.params.toList ++ Rows.fnExactRankCountsPlainSpec.plain.varTypes Try.prog).any (Try.prog.loopsFrom ·))) = true := by kernel_rfl
set_option maxRecDepth 100000 in
theorem cf17 : ((Rows.fnExactRankCountsPlainRow.wideKeys == (Try.f11.params.toList ++ Rows.fnExactRankCountsPlainSpec.plain.varTypes Try.prog ++ Try.f11.resultTypes.toList).any (Try.prog.wideKeysFrom ·))) = true := by kernel_rfl
set_option maxRecDepth 100000 in
theorem cf18 : (Rows.fnExactRankCountsPlainSpec.vars.all (Try.prog.varReadable ·)) = true := by kernel_rfl
set_option maxRecDepth 100000 in
theorem cf19 : (Try.f11.resultTypes.all (fun t => Try.prog.readableRec t && decide (t < Try.prog.types.size))) = true := by kernel_rfl
set_option maxRecDepth 100000 in
theorem cf20 : ((Rows.fnExactRankCountsPlainRow.ifacesOut == Try.f11.resultTypes.toList.any (Try.prog.ifacesRec ·))) = true := by kernel_rfl
set_option maxRecDepth 100000 in
theorem cf21 : ((Rows.fnExactRankCountsPlainRow.loopsOut == Try.f11.resultTypes.toList.any (Try.prog.loopsFrom ·))) = true := by kernel_rfl
set_option maxRecDepth 100000 in
theorem cf22 : ((Rows.fnExactRankCountsPlainRow.plainKeys == Try.prog.plainKeys)) = true := by kernel_rfl
set_option maxRecDepth 100000 in
theorem cf23 : (Rows.fnExactRankCountsPlainRow.shortTexts.isNone) = true := by kernel_rfl
set_option maxRecDepth 100000 in
theorem cf26 : ((Rows.fnExactRankCountsPlainRow.lifted == Try.prog.liftsFinal)) = true := by rw [Go.Proofs.Ytlhblnphfpijkaa.Facts.liftsFinal_]; rfl
set_option maxRecDepth 100000 in
theorem cf27 : ((Try.prog.make == some Rows.fnExactRankCountsPlainRow.make)) = true := by rw [Go.Proofs.Ytlhblnphfpijkaa.Facts.make_]; rfl
set_option maxRecDepth 100000 in
theorem cf28 : ((Rows.fnExactRankCountsPlainRow.kinds == (if Rows.fnExactRankCountsPlainRow.domain.isEmpty then [] else Try.f11.params.toList.map fun t => match Try.prog.underlying t with | some (.int k) => some k | _ => none))) = true := by kernel_rfl
set_option maxRecDepth 100000 in
theorem cf29 : ((Rows.fnExactRankCountsPlainRow.pinned == Rows.fnExactRankCountsPlainRow.pinnedBy)) = true := by kernel_rfl
set_option maxRecDepth 100000 in
theorem cf30 : ((Rows.fnExactRankCountsPlainRow.veiled == (Try.f11.params.toList ++ Rows.fnExactRankCountsPlainSpec.plain.varTypes Try.prog ++ Try.f11.resultTypes.toList).any (Try.prog.veiledRec ·))) = true := by kernel_rfl
set_option maxRecDepth 100000 in
theorem cf31 : (Rows.fnExactRankCountsPlainRow.veiledFits Try.prog Try.f11.params.toList (Try.f11.params.toList ++ Rows.fnExactRankCountsPlainSpec.plain.varTypes Try.prog ++ Try.f11.resultTypes.toList)) = true := by kernel_rfl
set_option maxRecDepth 100000 in
theorem closed : joinedFacts Try.prog 11 Try.f11 Rows.fnExactRankCountsPlainSpec Rows.fnExactRankCountsPlainRow = true := by
  unfold joinedFacts
  simp only [Bool.and_eq_true]
  exact ⟨⟨⟨⟨⟨⟨⟨⟨⟨⟨⟨⟨⟨⟨⟨⟨⟨⟨⟨⟨⟨⟨⟨⟨⟨⟨⟨⟨⟨⟨⟨cf0, Go.Proofs.Ytlhblnphfpijkaa.Facts.laidOut_⟩, Go.Proofs.Ytlhblnphfpijkaa.Facts.mapsRowed_⟩, cf3⟩, cf4⟩, cf5⟩, Go.Proofs.Ytlhblnphfpijkaa.Facts.stops_⟩, cf7⟩, Go.Proofs.Ytlhblnphfpijkaa.Facts.stopKnobs_⟩, cf9⟩, cf10⟩, cf11⟩, cf12⟩, cf13⟩, cf14⟩, cf15⟩, cf16⟩, cf17⟩, cf18⟩, cf19⟩, cf20⟩, cf21⟩, cf22⟩, cf23⟩, Go.Proofs.Ytlhblnphfpijkaa.Facts.stopsHeard_⟩, Go.Proofs.Ytlhblnphfpijkaa.Facts.mayEnter_⟩, cf26⟩, cf27⟩, cf28⟩, cf29⟩, cf30⟩, cf31⟩
theorem over : Rows.fnExactRankCountsPlainRow.holds Try.pinned (OpenSpec.ofChange Rows.fnExactRankCountsPlainSpec) :=
  OpenClaim.holds_of_wide 11 Try.f11 rfl rfl rfl rfl rfl rfl rfl ⟨rfl, rfl, rfl, rfl, rfl⟩ rfl rfl rfl rfl rfl (by kernel_rfl) Try.func11 closed
    (of_decide_eq_true (by kernel_rfl)) (by unfold Func.isWrapper; first | (rw [if_pos (by decide +kernel)]; kernel_rfl) | (rw [if_neg (by decide +kernel)]; exact ⟨rfl, rfl⟩))
    (fun os started H enc _ => lifted os started H enc)
theorem proved : Rows.FnExactRankCountsPlainSaid := over
#print axioms proved
end Go.Proofs.Ytlhblnphfpijkaa.fnExactRankCountsPlain
namespace Go.Proofs.Ytlhblnphfpijkaa
/-- The row, under a short name, for the claim. -/
theorem fnExactRankCountsPlain_holds : Rows.FnExactRankCountsPlainSaid := fnExactRankCountsPlain.proved
end Go.Proofs.Ytlhblnphfpijkaa
