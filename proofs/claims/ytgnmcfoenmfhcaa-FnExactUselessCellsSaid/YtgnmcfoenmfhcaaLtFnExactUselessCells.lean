-- Written by this session's copy of the print (wip/tools): Lean checks it.
import Derived.Test.YtgnmcfoenmfhcaaRows
import Derived.Test.YtgnmcfoenmfhcaaSFnExactUselessCells1
import Derived.Test.YtgnmcfoenmfhcaaSFnExactUselessCells11
import Derived.WalkKit
import Derived.ProofKit
import Derived.OpenShut
import Derived.ShutString
import Derived.ChangeOld
import Derived.Below
import Derived.SizedLaws
import Derived.Test.YtgnmcfoenmfhcaaSFnExactUselessCells3
import Derived.Lib.SmallJoins
namespace Go.Proofs.Ytgnmcfoenmfhcaa.fnExactUselessCells
open Go.ChangeShapes Go.WideShapes Go.ChangeAt Go.RowKit
open Go.ChangeMaps (open_string shut_string)
set_option linter.unusedVariables false
theorem own : ownKnob Try.prog.godebug = none := by kernel_rfl
theorem laidOut : laidOutB Try.prog = true := by kernel_rfl
def IsRow (k : IntKind) (w : World) (a : Option Addr) (len cap : Nat) (zs : List Int) : Prop :=
  (a = none ∧ len = 0 ∧ cap = 0 ∧ zs = []) ∨
  ∃ x, a = some x ∧ len ≤ cap ∧ cap ≤ maxLen ∧ zs.length = cap ∧ (∀ i, i < zs.length → w.cell? (x.add i) = some (.int k (zs.getD i 0))) ∧ ∀ n ∈ zs, (Lit.int k n).wf = true
theorem sized_agg {H : Type} {P : Program} {ts : List TypeId} {ds : List (DataW H)} (h : (DataW.weightsEach P ts ds).all (· ≤ reachBytes) = true) {j : Nat} {t : TypeId} {parts : List (DataW H)} {fs : Array Field} (ht : ts[j]? = some t) (hd : ds[j]? = some (.agg parts)) (hu : P.underlying t = some (.struct fs)) :
    (DataW.weightsEach P (fs.toList.map (·.type)) parts).all (· ≤ reachBytes) = true := by
  refine List.all_eq_true.2 fun n hn => List.all_eq_true.1 h n (DataW.weights_mem_each ht hd n ?_)
  simp only [DataW.weights, hu]
  exact hn
set_option maxRecDepth 100000 in
theorem lifted (os : Os) (started : os.Started) (H : Type) (enc : TypeId × Value → H) :
    ReturnsInHanded {} Try.checked os 14 .any (Rows.fnExactUselessCellsSpec.pre6 enc Try.prog Try.f14 Rows.fnExactUselessCellsRow.domain false) (Rows.fnExactUselessCellsSpec.post enc Try.prog Try.f14 false true false false) := by
  refine returnsInHanded_of_change_sized (C := Try.checked) own started (by kernel_rfl) Try.func14
    (ChangeSpec.witness6 (enc := enc) (C := Try.checked) false ⟨#[], #[.agg #[.int .i64 0, .int .i64 0, .slice none 0 0]], []⟩ 8 (by kernel_rfl) (by kernel_rfl) (by kernel_rfl) (by kernel_rfl)) ?_
  intro W base args ds gs before hval0 hW hcnd hsz0 _
  have hsz : (DataW.weightsEach Try.prog (Try.f14.params.toList ++ Rows.fnExactUselessCellsSpec.plain.varTypes Try.prog) (ds ++ gs)).all (· ≤ reachBytes) = true := hsz0
  have hval : ∀ (j : Nat) t v, Try.f14.params[j]? = some t → args[j]? = some v → Value.okWide Try.prog W .any base t v := hval0
  have hW' := hW
  obtain ⟨p, q, hA0, hV, rfl, hfz, hnd⟩ := hW
  have hA : DataW.TrodAll enc Try.prog W 0 (fun _ => true) true Try.f14.params.toList args.toList ds p := hA0
  rw [Try.params14] at hA hval hsz
  obtain ⟨v0, vs0, d0, ds0, p0, q0, hargs, rfl, rfl, h0, r0⟩ := trodAll_cons hA
  obtain ⟨rfl, rfl, rfl⟩ := trodAll_nil r0
  obtain rfl : args = #[v0] := by cases args; simp_all
  obtain ⟨rfl, rfl⟩ := trodVars_none hV
  have k0 := h0
  have lt0 : ∀ x ∈ p0, x.block < W.heap.size := by obtain ⟨m, hm⟩ := k0; exact DataW.trod_lt m _ _ _ hm
  obtain ⟨c0_0, c0_1, c0_2, e0_0, e0_1, e0_2, m0, rfl, rfl, rfl, g0_0, g0_1, g0_2⟩ := Go.Joins.open_agg3 Try.underlying36 (by kernel_rfl) (by kernel_rfl) (hval 0 36 v0 rfl rfl) h0
  have hs0 := sized_agg hsz (j := 0) (t := 36) rfl rfl Try.underlying36
  obtain ⟨a0_0, b0_0, hb0_0, w0_0⟩ := DataW.trod_int Try.underlying3 g0_0
  obtain rfl : c0_0 = .int .i64 a0_0 := by simpa using b0_0
  obtain ⟨a0_1, b0_1, hb0_1, w0_1⟩ := DataW.trod_int Try.underlying3 g0_1
  obtain rfl : c0_1 = .int .i64 a0_1 := by simpa using b0_1
  obtain ⟨a0_2, len0_2, cap0_2, b0_2⟩ := Go.Joins.slice_form Try.underlying24 g0_2
  obtain rfl : c0_2 = .slice a0_2 len0_2 cap0_2 := by simpa using b0_2
  obtain ⟨z0_2, w0_2⟩ : ∃ zs, IsRow .i64 W a0_2 len0_2 cap0_2 zs := by
    have hf := g0_2
    rcases open_ints Try.underlying24 Try.underlying3 (by kernel_rfl) hf with ⟨hcs, _⟩ | ⟨x, l, c, zs, hcs, _, hl, hm, hz, _, hcell, hwz⟩
    · simp at hcs
      obtain ⟨rfl, rfl, rfl⟩ := hcs
      exact ⟨[], .inl ⟨rfl, rfl, rfl, rfl⟩⟩
    · simp at hcs
      obtain ⟨rfl, rfl, rfl⟩ := hcs
      exact ⟨zs, .inr ⟨_, rfl, hl, hm, by simpa using hz, hcell, hwz⟩⟩
  have y0_2 : len0_2 * 8 ≤ 140737488351232 := Go.Proofs.YtgnmcfoenmfhcaaW.PrintWords.sized_ints hs0 (j := 2) (t := 24) rfl rfl Try.underlying24 Try.underlying3 (by kernel_rfl) (by kernel_rfl) ⟨_, g0_2⟩
  clear hA0 hval0 hsz0 hsz
  refine (Q.laws_FnExactUselessCells.walk  a0_0 a0_1 a0_2 len0_2 cap0_2 z0_2 W w0_0 w0_1 w0_2 y0_2).mono fun e W' ⟨he, bel⟩ => ?_
  subst he
  exact ⟨_, rfl, _, _, _, [], _, [], hW', trodAll_mk1 (shut_bool Try.underlying4 _), (trodAll_cons_mk (Below.trod laidOut (by kernel_rfl) (of_decide_eq_true (by kernel_rfl)) k0 bel lt0) trodAll_mk0), rfl, bel.frame _, fun h => by cases h⟩
set_option maxRecDepth 100000 in
theorem cf0 : (Rows.fnExactUselessCellsRow.wf (OpenSpec.ofChange Rows.fnExactUselessCellsSpec)) = true := by kernel_rfl
set_option maxRecDepth 100000 in
theorem cf3 : (Try.f14.params.all (Try.prog.readableRec ·)) = true := by kernel_rfl
set_option maxRecDepth 100000 in
theorem cf4 : (namedTie Try.prog Rows.fnExactUselessCellsRow.named Rows.fnExactUselessCellsSpec.vars) = true := by kernel_rfl
set_option maxRecDepth 100000 in
theorem cf5 : ((Rows.fnExactUselessCellsRow.stops == [])) = true := by kernel_rfl
set_option maxRecDepth 100000 in
theorem cf7 : ((Rows.fnExactUselessCellsRow.knobs == [])) = true := by kernel_rfl
set_option maxRecDepth 100000 in
theorem cf9 : ((Rows.fnExactUselessCellsRow.inPlace == Try.prog.inPlace 14)) = true := by kernel_rfl
set_option maxRecDepth 100000 in
theorem cf10 : ((Rows.fnExactUselessCellsRow.unfollowed == Try.prog.unfollowed 14)) = true := by kernel_rfl
set_option maxRecDepth 100000 in
theorem cf11 : ((Rows.fnExactUselessCellsRow.recurses == Try.prog.recurses 14)) = true := by kernel_rfl
set_option maxRecDepth 100000 in
theorem cf12 : ((Rows.fnExactUselessCellsRow.named == Try.prog.varsNamed 14)) = true := by kernel_rfl
set_option maxRecDepth 100000 in
theorem cf13 : ((Rows.fnExactUselessCellsRow.maps == (Try.f14.params.toList ++ Rows.fnExactUselessCellsSpec.plain.varTypes Try.prog).any (Try.prog.mapsRec ·))) = true := by kernel_rfl
set_option maxRecDepth 100000 in
theorem cf14 : ((Rows.fnExactUselessCellsRow.ifaces == (Try.f14.params.toList ++ Rows.fnExactUselessCellsSpec.plain.varTypes Try.prog).any (Try.prog.ifacesRec ·))) = true := by kernel_rfl
set_option maxRecDepth 100000 in
theorem cf15 : ((Rows.fnExactUselessCellsRow.mapsOut == Try.prog.mapsAmong Try.f14.resultTypes.toList)) = true := by kernel_rfl
set_option maxRecDepth 100000 in
theorem cf16 : ((Rows.fnExactUselessCellsRow.loops == (Try.f14.params.toList ++ Rows.fnExactUselessCellsSpec.plain.varTypes Try.prog).any (Try.prog.loopsFrom ·))) = true := by kernel_rfl
set_option maxRecDepth 100000 in
theorem cf17 : ((Rows.fnExactUselessCellsRow.wideKeys == (Try.f14.params.toList ++ Rows.fnExactUselessCellsSpec.plain.varTypes Try.prog ++ Try.f14.resultTypes.toList).any (Try.prog.wideKeysFrom ·))) = true := by kernel_rfl
set_option maxRecDepth 100000 in
theorem cf18 : (Rows.fnExactUselessCellsSpec.vars.all (Try.prog.varReadable ·)) = true := by kernel_rfl
set_option maxRecDepth 100000 in
theorem cf19 : (Try.f14.resultTypes.all (fun t => Try.prog.readableRec t && decide (t < Try.prog.types.size))) = true := by kernel_rfl
set_option maxRecDepth 100000 in
theorem cf20 : ((Rows.fnExactUselessCellsRow.ifacesOut == Try.f14.resultTypes.toList.any (Try.prog.ifacesRec ·))) = true := by kernel_rfl
set_option maxRecDepth 100000 in
theorem cf21 : ((Rows.fnExactUselessCellsRow.loopsOut == Try.f14.resultTypes.toList.any (Try.prog.loopsFrom ·))) = true := by kernel_rfl
set_option maxRecDepth 100000 in
theorem cf22 : ((Rows.fnExactUselessCellsRow.plainKeys == Try.prog.plainKeys)) = true := by kernel_rfl
set_option maxRecDepth 100000 in
theorem cf23 : (Rows.fnExactUselessCellsRow.shortTexts.isNone) = true := by kernel_rfl
set_option maxRecDepth 100000 in
theorem cf26 : ((Rows.fnExactUselessCellsRow.lifted == Try.prog.liftsFinal)) = true := by rw [Go.Proofs.Ytgnmcfoenmfhcaa.Facts.liftsFinal_]; rfl
set_option maxRecDepth 100000 in
theorem cf27 : ((Try.prog.make == some Rows.fnExactUselessCellsRow.make)) = true := by rw [Go.Proofs.Ytgnmcfoenmfhcaa.Facts.make_]; rfl
set_option maxRecDepth 100000 in
theorem cf28 : ((Rows.fnExactUselessCellsRow.kinds == (if Rows.fnExactUselessCellsRow.domain.isEmpty then [] else Try.f14.params.toList.map fun t => match Try.prog.underlying t with | some (.int k) => some k | _ => none))) = true := by kernel_rfl
set_option maxRecDepth 100000 in
theorem cf29 : ((Rows.fnExactUselessCellsRow.pinned == Rows.fnExactUselessCellsRow.pinnedBy)) = true := by kernel_rfl
set_option maxRecDepth 100000 in
theorem cf30 : ((Rows.fnExactUselessCellsRow.veiled == (Try.f14.params.toList ++ Rows.fnExactUselessCellsSpec.plain.varTypes Try.prog ++ Try.f14.resultTypes.toList).any (Try.prog.veiledRec ·))) = true := by kernel_rfl
set_option maxRecDepth 100000 in
theorem cf31 : (Rows.fnExactUselessCellsRow.veiledFits Try.prog Try.f14.params.toList (Try.f14.params.toList ++ Rows.fnExactUselessCellsSpec.plain.varTypes Try.prog ++ Try.f14.resultTypes.toList)) = true := by kernel_rfl
set_option maxRecDepth 100000 in
theorem closed : joinedFacts Try.prog 14 Try.f14 Rows.fnExactUselessCellsSpec Rows.fnExactUselessCellsRow = true := by
  unfold joinedFacts
  simp only [Bool.and_eq_true]
  exact ⟨⟨⟨⟨⟨⟨⟨⟨⟨⟨⟨⟨⟨⟨⟨⟨⟨⟨⟨⟨⟨⟨⟨⟨⟨⟨⟨⟨⟨⟨⟨cf0, Go.Proofs.Ytgnmcfoenmfhcaa.Facts.laidOut_⟩, Go.Proofs.Ytgnmcfoenmfhcaa.Facts.mapsRowed_⟩, cf3⟩, cf4⟩, cf5⟩, Go.Proofs.Ytgnmcfoenmfhcaa.Facts.stops_⟩, cf7⟩, Go.Proofs.Ytgnmcfoenmfhcaa.Facts.stopKnobs_⟩, cf9⟩, cf10⟩, cf11⟩, cf12⟩, cf13⟩, cf14⟩, cf15⟩, cf16⟩, cf17⟩, cf18⟩, cf19⟩, cf20⟩, cf21⟩, cf22⟩, cf23⟩, Go.Proofs.Ytgnmcfoenmfhcaa.Facts.stopsHeard_⟩, Go.Proofs.Ytgnmcfoenmfhcaa.Facts.mayEnter_⟩, cf26⟩, cf27⟩, cf28⟩, cf29⟩, cf30⟩, cf31⟩
theorem over : Rows.fnExactUselessCellsRow.holds Try.pinned (OpenSpec.ofChange Rows.fnExactUselessCellsSpec) :=
  OpenClaim.holds_of_wide 14 Try.f14 rfl rfl rfl rfl rfl rfl rfl ⟨rfl, rfl, rfl, rfl, rfl⟩ rfl rfl rfl rfl rfl (by kernel_rfl) Try.func14 closed
    (of_decide_eq_true (by kernel_rfl)) (by unfold Func.isWrapper; first | (rw [if_pos (by decide +kernel)]; kernel_rfl) | (rw [if_neg (by decide +kernel)]; exact ⟨rfl, rfl⟩))
    (fun os started H enc _ => lifted os started H enc)
theorem proved : Rows.FnExactUselessCellsSaid := over
#print axioms proved
end Go.Proofs.Ytgnmcfoenmfhcaa.fnExactUselessCells
namespace Go.Proofs.Ytgnmcfoenmfhcaa
/-- The row, under a short name, for the claim. -/
theorem fnExactUselessCells_holds : Rows.FnExactUselessCellsSaid := fnExactUselessCells.proved
end Go.Proofs.Ytgnmcfoenmfhcaa
