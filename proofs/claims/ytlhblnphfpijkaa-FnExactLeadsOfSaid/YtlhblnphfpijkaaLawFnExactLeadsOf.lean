-- Written by this session's copy of the print (wip/tools): Lean checks it.
import Derived.Test.YtlhblnphfpijkaaRows
import Derived.Test.YtlhblnphfpijkaaFacts
import Derived.Test.YtlhblnphfpijkaaLwLeadsOf
import Derived.WalkKit
import Derived.ProofKit
import Derived.OpenShut
import Derived.ShutString
import Derived.ChangeOld
import Derived.Below
import Derived.SizedLaws
import Derived.Test.YtlhblnphfpijkaaWB
import Derived.Deep.Matrix
namespace Go.Proofs.Ytlhblnphfpijkaa.fnExactLeadsOf
open Go.ChangeShapes Go.WideShapes Go.ChangeAt Go.RowKit
open Go.ChangeMaps (open_string shut_string)
set_option linter.unusedVariables false
theorem own : ownKnob Try.prog.godebug = none := by kernel_rfl
theorem laidOut : laidOutB Try.prog = true := by kernel_rfl
def IsRow (k : IntKind) (w : World) (a : Option Addr) (len cap : Nat) (zs : List Int) : Prop :=
  (a = none ∧ len = 0 ∧ cap = 0 ∧ zs = []) ∨
  ∃ x, a = some x ∧ len ≤ cap ∧ cap ≤ maxLen ∧ zs.length = cap ∧ (∀ i, i < zs.length → w.cell? (x.add i) = some (.int k (zs.getD i 0))) ∧ ∀ n ∈ zs, (Lit.int k n).wf = true
open Go.Proofs.YtlhblnphfpijkaaW.PrintWords in
theorem rows_of {H : Type} {enc : TypeId × Value → H} {P : Program} {W : World} {base : Nat} {t e q : TypeId} {k : IntKind} {fuel : Nat} {a : Option Addr} {len cap : Nat} {x : DataW H × List MemPlace} (ht : P.underlying t = some (.slice e)) (he : P.underlying e = some (.slice q)) (hq : P.underlying q = some (.int k))
    (ce : P.cellsOf e = 1) (cq : P.cellsOf q = 1) (h : DataW.trod enc P W base (fun _ => true) true fuel t [.slice a len cap] = some x) :
    ∃ l : List (List Int), len = l.length ∧ Kd.C (Kd.slice q (Kd.int k)) W a l.length l ∧ l.length ≤ cap ∧ l.length ≤ maxLen ∧ ∀ y ∈ l, y.length ≤ maxLen ∧ ∀ n ∈ y, (Lit.int k n).wf = true := by
  rcases Go.Deep.open_int_rows ht he hq ce cq h with ⟨hcs, _⟩ | ⟨ad, len', cap', A, L, C, Z, hcs, hb, hl, hm, _, hrow⟩
  · simp at hcs
    obtain ⟨rfl, rfl, rfl⟩ := hcs
    exact ⟨[], rfl, Kd.C_nil _ _, Nat.le_refl _, Nat.zero_le _, by simp⟩
  · simp at hcs
    obtain ⟨rfl, rfl, rfl⟩ := hcs
    refine ⟨(List.range len).map fun r => (Z r).take (L r), by simp, ⟨rfl, ?_, fun _ => ⟨ad, rfl, fun j p hj => ?_⟩⟩, by simpa using hl, by simp; omega, ?_⟩
    · simp; unfold maxLen at hm; omega
    · obtain ⟨hjl, rfl⟩ := List.getElem?_eq_some_iff.1 hj
      have hjl2 : j < len := by simpa using hjl
      obtain ⟨hcell, hLC, hCm, hZ, hwf, hnone, hsome⟩ := hrow j (by omega)
      have hpl : ((List.range len).map fun r => (Z r).take (L r))[j] = (Z j).take (L j) := by simp
      rw [hpl]
      have hlen : ((Z j).take (L j)).length = L j := by rw [List.length_take]; omega
      refine ⟨[.slice (A j) (L j) (C j)], rfl, ⟨A j, C j, by rw [hlen], by omega, ⟨rfl, by unfold maxLen at hCm; omega, fun hp => ?_⟩⟩, fun i u hu => ?_⟩
      · cases hA : A j with
        | none => have := hnone hA; omega
        | some a' =>
          refine ⟨a', rfl, fun i y hy => ?_⟩
          obtain ⟨hil, rfl⟩ := List.getElem?_eq_some_iff.1 hy
          have hil2 : i < L j := by omega
          refine ⟨[.int k ((Z j).take (L j))[i]], rfl, rfl, fun m u hu => ?_⟩
          cases m with
          | succ m => simp at hu
          | zero =>
            injection hu with hu
            subst hu
            have h1 := (hsome a' hA).2 i (by omega)
            rw [List.getD_eq_getElem?_getD, List.getElem?_eq_getElem (by omega)] at h1
            simpa [Kd.int, Kd.scalar, Nat.mul_one] using h1
      · cases i with
        | succ i => simp at hu
        | zero =>
          injection hu with hu
          subst hu
          simpa [Kd.slice, Nat.mul_one] using hcell
    · intro y hy
      obtain ⟨r, hr, rfl⟩ := List.mem_map.1 hy
      obtain ⟨hcell, hLC, hCm, hZ, hwf, hnone, hsome⟩ := hrow r (by have := List.mem_range.1 hr; omega)
      exact ⟨by rw [List.length_take]; omega, fun n hn => hwf n (List.mem_of_mem_take hn)⟩
set_option maxRecDepth 100000 in
theorem lifted (os : Os) (started : os.Started) (H : Type) (enc : TypeId × Value → H) :
    ReturnsInHanded {} Try.checked os 6 .any (Rows.fnExactLeadsOfSpec.pre6 enc Try.prog Try.f6 Rows.fnExactLeadsOfRow.domain false) (Rows.fnExactLeadsOfSpec.post enc Try.prog Try.f6 false true false false) := by
  refine returnsInHanded_of_change_sized (C := Try.checked) own started (by kernel_rfl) Try.func6
    (ChangeSpec.witness6 (enc := enc) (C := Try.checked) false ⟨#[], #[.slice none 0 0, .int .i64 0], []⟩ 8 (by kernel_rfl) (by kernel_rfl) (by kernel_rfl) (by kernel_rfl)) ?_
  intro W base args ds gs before hval0 hW hcnd hsz0 _
  have hsz : (DataW.weightsEach Try.prog (Try.f6.params.toList ++ Rows.fnExactLeadsOfSpec.plain.varTypes Try.prog) (ds ++ gs)).all (· ≤ reachBytes) = true := hsz0
  have hval : ∀ (j : Nat) t v, Try.f6.params[j]? = some t → args[j]? = some v → Value.okWide Try.prog W .any base t v := hval0
  have hW' := hW
  obtain ⟨p, q, hA0, hV, rfl, hfz, hnd⟩ := hW
  have hA : DataW.TrodAll enc Try.prog W 0 (fun _ => true) true Try.f6.params.toList args.toList ds p := hA0
  rw [Try.params6] at hA hval hsz
  obtain ⟨v0, vs0, d0, ds0, p0, q0, hargs, rfl, rfl, h0, r0⟩ := trodAll_cons hA
  obtain ⟨v1, vs1, d1, ds1, p1, q1, rfl, rfl, rfl, h1, r1⟩ := trodAll_cons r0
  obtain ⟨rfl, rfl, rfl⟩ := trodAll_nil r1
  obtain rfl : args = #[v0, v1] := by cases args; simp_all
  obtain ⟨rfl, rfl⟩ := trodVars_none hV
  obtain ⟨a0, len0, cap0, rfl⟩ := okWide_slice Try.underlying23 (hval 0 23 v0 rfl rfl)
  have k0 := h0
  have lt0 : ∀ x ∈ p0, x.block < W.heap.size := by obtain ⟨m, hm⟩ := k0; exact DataW.trod_lt m _ _ _ hm
  have row0 : ∃ l : List (List Int), len0 = l.length ∧ Go.Proofs.YtlhblnphfpijkaaW.PrintWords.Kd.C (Go.Proofs.YtlhblnphfpijkaaW.PrintWords.Kd.slice 3 (Go.Proofs.YtlhblnphfpijkaaW.PrintWords.Kd.int .i64)) W a0 l.length l ∧ l.length ≤ cap0 ∧ l.length ≤ maxLen ∧ ∀ y ∈ l, y.length ≤ maxLen ∧ ∀ n ∈ y, (Lit.int .i64 n).wf = true := by
    obtain ⟨fuel, hf⟩ := h0
    exact rows_of (a := a0) (len := len0) (cap := cap0) Try.underlying23 Try.underlying22 Try.underlying3 (by kernel_rfl) (by kernel_rfl) (by simpa [Value.cells] using hf)
  obtain ⟨l0, rfl, hr0, hc0, w0, x0⟩ := row0
  obtain ⟨a1, rfl, rfl, rfl, w1⟩ := open_int Try.underlying3 (hval 1 3 v1 rfl rfl) h1
  clear hA0 hval0 hsz0 hsz
  refine (Q.laws_FnExactLeadsOf.walk  a0 cap0 l0 a1 W hr0 hc0 w0 x0 w1).mono fun e W' ⟨he, bel⟩ => ?_
  subst he
  exact ⟨_, rfl, _, _, _, [], _, [], hW', trodAll_mk1 (shut_bool Try.underlying4 _), (trodAll_cons_mk (Below.trod laidOut (by kernel_rfl) (of_decide_eq_true (by kernel_rfl)) k0 bel lt0) (trodAll_cons_mk (shut_int Try.underlying3 w1) trodAll_mk0)), rfl, bel.frame _, fun h => by cases h⟩
set_option maxRecDepth 100000 in
theorem cf0 : (Rows.fnExactLeadsOfRow.wf (OpenSpec.ofChange Rows.fnExactLeadsOfSpec)) = true := by kernel_rfl
set_option maxRecDepth 100000 in
theorem cf3 : (Try.f6.params.all (Try.prog.readableRec ·)) = true := by kernel_rfl
set_option maxRecDepth 100000 in
theorem cf4 : (namedTie Try.prog Rows.fnExactLeadsOfRow.named Rows.fnExactLeadsOfSpec.vars) = true := by kernel_rfl
set_option maxRecDepth 100000 in
theorem cf5 : ((Rows.fnExactLeadsOfRow.stops == [])) = true := by kernel_rfl
set_option maxRecDepth 100000 in
theorem cf7 : ((Rows.fnExactLeadsOfRow.knobs == [])) = true := by kernel_rfl
set_option maxRecDepth 100000 in
theorem cf9 : ((Rows.fnExactLeadsOfRow.inPlace == Try.prog.inPlace 6)) = true := by kernel_rfl
set_option maxRecDepth 100000 in
theorem cf10 : ((Rows.fnExactLeadsOfRow.unfollowed == Try.prog.unfollowed 6)) = true := by kernel_rfl
set_option maxRecDepth 100000 in
theorem cf11 : ((Rows.fnExactLeadsOfRow.recurses == Try.prog.recurses 6)) = true := by kernel_rfl
set_option maxRecDepth 100000 in
theorem cf12 : ((Rows.fnExactLeadsOfRow.named == Try.prog.varsNamed 6)) = true := by kernel_rfl
set_option maxRecDepth 100000 in
theorem cf13 : ((Rows.fnExactLeadsOfRow.maps == (Try.f6.params.toList ++ Rows.fnExactLeadsOfSpec.plain.varTypes Try.prog).any (Try.prog.mapsRec ·))) = true := by kernel_rfl
set_option maxRecDepth 100000 in
theorem cf14 : ((Rows.fnExactLeadsOfRow.ifaces == (Try.f6.params.toList ++ Rows.fnExactLeadsOfSpec.plain.varTypes Try.prog).any (Try.prog.ifacesRec ·))) = true := by kernel_rfl
set_option maxRecDepth 100000 in
theorem cf15 : ((Rows.fnExactLeadsOfRow.mapsOut == Try.prog.mapsAmong Try.f6.resultTypes.toList)) = true := by kernel_rfl
set_option maxRecDepth 100000 in
theorem cf16 : ((Rows.fnExactLeadsOfRow.loops == (Try.f6.params.toList ++ Rows.fnExactLeadsOfSpec.plain.varTypes Try.prog).any (Try.prog.loopsFrom ·))) = true := by kernel_rfl
set_option maxRecDepth 100000 in
theorem cf17 : ((Rows.fnExactLeadsOfRow.wideKeys == (Try.f6.params.toList ++ Rows.fnExactLeadsOfSpec.plain.varTypes Try.prog ++ Try.f6.resultTypes.toList).any (Try.prog.wideKeysFrom ·))) = true := by kernel_rfl
set_option maxRecDepth 100000 in
theorem cf18 : (Rows.fnExactLeadsOfSpec.vars.all (Try.prog.varReadable ·)) = true := by kernel_rfl
set_option maxRecDepth 100000 in
theorem cf19 : (Try.f6.resultTypes.all (fun t => Try.prog.readableRec t && decide (t < Try.prog.types.size))) = true := by kernel_rfl
set_option maxRecDepth 100000 in
theorem cf20 : ((Rows.fnExactLeadsOfRow.ifacesOut == Try.f6.resultTypes.toList.any (Try.prog.ifacesRec ·))) = true := by kernel_rfl
set_option maxRecDepth 100000 in
theorem cf21 : ((Rows.fnExactLeadsOfRow.loopsOut == Try.f6.resultTypes.toList.any (Try.prog.loopsFrom ·))) = true := by kernel_rfl
set_option maxRecDepth 100000 in
theorem cf22 : ((Rows.fnExactLeadsOfRow.plainKeys == Try.prog.plainKeys)) = true := by kernel_rfl
set_option maxRecDepth 100000 in
theorem cf23 : (Rows.fnExactLeadsOfRow.shortTexts.isNone) = true := by kernel_rfl
set_option maxRecDepth 100000 in
theorem cf26 : ((Rows.fnExactLeadsOfRow.lifted == Try.prog.liftsFinal)) = true := by rw [Go.Proofs.Ytlhblnphfpijkaa.Facts.liftsFinal_]; rfl
set_option maxRecDepth 100000 in
theorem cf27 : ((Try.prog.make == some Rows.fnExactLeadsOfRow.make)) = true := by rw [Go.Proofs.Ytlhblnphfpijkaa.Facts.make_]; rfl
set_option maxRecDepth 100000 in
theorem cf28 : ((Rows.fnExactLeadsOfRow.kinds == (if Rows.fnExactLeadsOfRow.domain.isEmpty then [] else Try.f6.params.toList.map fun t => match Try.prog.underlying t with | some (.int k) => some k | _ => none))) = true := by kernel_rfl
set_option maxRecDepth 100000 in
theorem cf29 : ((Rows.fnExactLeadsOfRow.pinned == Rows.fnExactLeadsOfRow.pinnedBy)) = true := by kernel_rfl
set_option maxRecDepth 100000 in
theorem cf30 : ((Rows.fnExactLeadsOfRow.veiled == (Try.f6.params.toList ++ Rows.fnExactLeadsOfSpec.plain.varTypes Try.prog ++ Try.f6.resultTypes.toList).any (Try.prog.veiledRec ·))) = true := by kernel_rfl
set_option maxRecDepth 100000 in
theorem cf31 : (Rows.fnExactLeadsOfRow.veiledFits Try.prog Try.f6.params.toList (Try.f6.params.toList ++ Rows.fnExactLeadsOfSpec.plain.varTypes Try.prog ++ Try.f6.resultTypes.toList)) = true := by kernel_rfl
set_option maxRecDepth 100000 in
theorem closed : joinedFacts Try.prog 6 Try.f6 Rows.fnExactLeadsOfSpec Rows.fnExactLeadsOfRow = true := by
  unfold joinedFacts
  simp only [Bool.and_eq_true]
  exact ⟨⟨⟨⟨⟨⟨⟨⟨⟨⟨⟨⟨⟨⟨⟨⟨⟨⟨⟨⟨⟨⟨⟨⟨⟨⟨⟨⟨⟨⟨⟨cf0, Go.Proofs.Ytlhblnphfpijkaa.Facts.laidOut_⟩, Go.Proofs.Ytlhblnphfpijkaa.Facts.mapsRowed_⟩, cf3⟩, cf4⟩, cf5⟩, Go.Proofs.Ytlhblnphfpijkaa.Facts.stops_⟩, cf7⟩, Go.Proofs.Ytlhblnphfpijkaa.Facts.stopKnobs_⟩, cf9⟩, cf10⟩, cf11⟩, cf12⟩, cf13⟩, cf14⟩, cf15⟩, cf16⟩, cf17⟩, cf18⟩, cf19⟩, cf20⟩, cf21⟩, cf22⟩, cf23⟩, Go.Proofs.Ytlhblnphfpijkaa.Facts.stopsHeard_⟩, Go.Proofs.Ytlhblnphfpijkaa.Facts.mayEnter_⟩, cf26⟩, cf27⟩, cf28⟩, cf29⟩, cf30⟩, cf31⟩
theorem over : Rows.fnExactLeadsOfRow.holds Try.pinned (OpenSpec.ofChange Rows.fnExactLeadsOfSpec) :=
  OpenClaim.holds_of_wide 6 Try.f6 rfl rfl rfl rfl rfl rfl rfl ⟨rfl, rfl, rfl, rfl, rfl⟩ rfl rfl rfl rfl rfl (by kernel_rfl) Try.func6 closed
    (of_decide_eq_true (by kernel_rfl)) (by unfold Func.isWrapper; first | (rw [if_pos (by decide +kernel)]; kernel_rfl) | (rw [if_neg (by decide +kernel)]; exact ⟨rfl, rfl⟩))
    (fun os started H enc _ => lifted os started H enc)
theorem proved : Rows.FnExactLeadsOfSaid := over
#print axioms proved
end Go.Proofs.Ytlhblnphfpijkaa.fnExactLeadsOf
namespace Go.Proofs.Ytlhblnphfpijkaa
/-- The row, under a short name, for the claim. -/
theorem fnExactLeadsOf_holds : Rows.FnExactLeadsOfSaid := fnExactLeadsOf.proved
end Go.Proofs.Ytlhblnphfpijkaa
