/-
  No cell of these rows narrows 'for every input' (looked for: loops, veiled, ifaces, maps, wideKeys, modest, calm, conditions, laid).
  DERIVED. THE GIVEN ROWS OF THIS SEAT. 13 by the template 'for every input the law returns true; each argument reads behind the call as it read before'; 0 by the template 'total and deterministic' (their statements: YtlhblnphfpijkaaTotals.lean).
  GIVEN WITH THE SEED: the statements are not yours to turn. If you find one false, say at which input.
  Laid BY PROGRAM, IN A SANDBOX (cutbox-rows.mjs): the forced cells as the released guide's own fill.sh prints them over the translation 5e90fa06861dfcd4… (all of the seat's roots in one cut). By AI agents, Wed Nov 11 2026. No macro, syntax, notation, axiom, sorry.
-/
import Derived.Test.YtlhblnphfpijkaaChecked
import GoSem.Claim
import GoSem.ClaimJoined
import GoSem.ClaimMapViews
import Derived.JoinedTies
import Derived.KernelRfl
namespace Go.Proofs.Ytlhblnphfpijkaa
/- THE CELL 'sum', in the pinned program and in every row, IS THE sha256 OF THE DUMP (.gsa) THAT YtlhblnphfpijkaaProg.lean LOADS. Nothing in Lean hashes anything: it is a label: what it is worth is what the hold of that sum in a sandbox is worth. -/
noncomputable def Try.pinned : Pinned := { name := "ytlhblnphfpijkaa", sum := "5e90fa06861dfcd4c8ea0c8f75d720138c8b997ba64634036b98ed00e25270c2", checked := Try.checked }
namespace Rows
def none {H : Type} : Left H := { results := [], args := [] }

/-- 'laws.FnExactFitsBoard': WHATEVER THE INPUT: true; the input reads as it did. -/
def fnExactFitsBoardSpec : ChangeSpec := { name := "fnExactFitsBoard", fn := fun _ => fun
  | [d1, d2, d3] => { results := [.lit (.bool true)], args := [d1, d2, d3] }
  | _ => none }
def fnExactFitsBoardRow : OpenClaim := { program := "ytlhblnphfpijkaa", sum := "5e90fa06861dfcd4c8ea0c8f75d720138c8b997ba64634036b98ed00e25270c2", func := "loop.example/g01125/laws.FnExactFitsBoard", spec := "fnExactFitsBoard", apart := false }
def FnExactFitsBoardSaid : Prop := fnExactFitsBoardRow.holds Try.pinned (OpenSpec.ofChange fnExactFitsBoardSpec)

/-- ITS FALSE NEIGHBOUR: 'it returns false'. Refute it at one input. -/
def fnExactFitsBoardWrong : ChangeSpec := { name := "fnExactFitsBoard", fn := fun _ => fun
  | [d1, d2, d3] => { results := [.lit (.bool false)], args := [d1, d2, d3] }
  | _ => none }
def FnExactFitsBoardWrongFalsely : Prop := fnExactFitsBoardRow.holds Try.pinned (OpenSpec.ofChange fnExactFitsBoardWrong)

/-- 'laws.FnExactMatrixWith': WHATEVER THE INPUT: true; the input reads as it did. -/
def fnExactMatrixWithSpec : ChangeSpec := { name := "fnExactMatrixWith", fn := fun _ => fun
  | [d1, d2, d3] => { results := [.lit (.bool true)], args := [d1, d2, d3] }
  | _ => none }
def fnExactMatrixWithRow : OpenClaim := { program := "ytlhblnphfpijkaa", sum := "5e90fa06861dfcd4c8ea0c8f75d720138c8b997ba64634036b98ed00e25270c2", func := "loop.example/g01125/laws.FnExactMatrixWith", spec := "fnExactMatrixWith", apart := false }
def FnExactMatrixWithSaid : Prop := fnExactMatrixWithRow.holds Try.pinned (OpenSpec.ofChange fnExactMatrixWithSpec)

/-- ITS FALSE NEIGHBOUR: 'it returns false'. Refute it at one input. -/
def fnExactMatrixWithWrong : ChangeSpec := { name := "fnExactMatrixWith", fn := fun _ => fun
  | [d1, d2, d3] => { results := [.lit (.bool false)], args := [d1, d2, d3] }
  | _ => none }
def FnExactMatrixWithWrongFalsely : Prop := fnExactMatrixWithRow.holds Try.pinned (OpenSpec.ofChange fnExactMatrixWithWrong)

/-- 'laws.FnExactRankModulo': WHATEVER THE INPUT: true; the input reads as it did. -/
def fnExactRankModuloSpec : ChangeSpec := { name := "fnExactRankModulo", fn := fun _ => fun
  | [d1, d2] => { results := [.lit (.bool true)], args := [d1, d2] }
  | _ => none }
def fnExactRankModuloRow : OpenClaim := { program := "ytlhblnphfpijkaa", sum := "5e90fa06861dfcd4c8ea0c8f75d720138c8b997ba64634036b98ed00e25270c2", func := "loop.example/g01125/laws.FnExactRankModulo", spec := "fnExactRankModulo", unfollowed := true, recurses := true, apart := false }
def FnExactRankModuloSaid : Prop := fnExactRankModuloRow.holds Try.pinned (OpenSpec.ofChange fnExactRankModuloSpec)

/-- ITS FALSE NEIGHBOUR: 'it returns false'. Refute it at one input. -/
def fnExactRankModuloWrong : ChangeSpec := { name := "fnExactRankModulo", fn := fun _ => fun
  | [d1, d2] => { results := [.lit (.bool false)], args := [d1, d2] }
  | _ => none }
def FnExactRankModuloWrongFalsely : Prop := fnExactRankModuloRow.holds Try.pinned (OpenSpec.ofChange fnExactRankModuloWrong)

/-- 'laws.FnExactLeadsOf': WHATEVER THE INPUT: true; the input reads as it did. -/
def fnExactLeadsOfSpec : ChangeSpec := { name := "fnExactLeadsOf", fn := fun _ => fun
  | [d1, d2] => { results := [.lit (.bool true)], args := [d1, d2] }
  | _ => none }
def fnExactLeadsOfRow : OpenClaim := { program := "ytlhblnphfpijkaa", sum := "5e90fa06861dfcd4c8ea0c8f75d720138c8b997ba64634036b98ed00e25270c2", func := "loop.example/g01125/laws.FnExactLeadsOf", spec := "fnExactLeadsOf", unfollowed := true, recurses := true, apart := false }
def FnExactLeadsOfSaid : Prop := fnExactLeadsOfRow.holds Try.pinned (OpenSpec.ofChange fnExactLeadsOfSpec)

/-- ITS FALSE NEIGHBOUR: 'it returns false'. Refute it at one input. -/
def fnExactLeadsOfWrong : ChangeSpec := { name := "fnExactLeadsOf", fn := fun _ => fun
  | [d1, d2] => { results := [.lit (.bool false)], args := [d1, d2] }
  | _ => none }
def FnExactLeadsOfWrongFalsely : Prop := fnExactLeadsOfRow.holds Try.pinned (OpenSpec.ofChange fnExactLeadsOfWrong)

/-- 'laws.FnExactWeightsOf': WHATEVER THE INPUT: true; the input reads as it did. -/
def fnExactWeightsOfSpec : ChangeSpec := { name := "fnExactWeightsOf", fn := fun _ => fun
  | [d1, d2] => { results := [.lit (.bool true)], args := [d1, d2] }
  | _ => none }
def fnExactWeightsOfRow : OpenClaim := { program := "ytlhblnphfpijkaa", sum := "5e90fa06861dfcd4c8ea0c8f75d720138c8b997ba64634036b98ed00e25270c2", func := "loop.example/g01125/laws.FnExactWeightsOf", spec := "fnExactWeightsOf", unfollowed := true, recurses := true, apart := false }
def FnExactWeightsOfSaid : Prop := fnExactWeightsOfRow.holds Try.pinned (OpenSpec.ofChange fnExactWeightsOfSpec)

/-- ITS FALSE NEIGHBOUR: 'it returns false'. Refute it at one input. -/
def fnExactWeightsOfWrong : ChangeSpec := { name := "fnExactWeightsOf", fn := fun _ => fun
  | [d1, d2] => { results := [.lit (.bool false)], args := [d1, d2] }
  | _ => none }
def FnExactWeightsOfWrongFalsely : Prop := fnExactWeightsOfRow.holds Try.pinned (OpenSpec.ofChange fnExactWeightsOfWrong)

/-- 'laws.FnExactWeightAt': WHATEVER THE INPUT: true; the input reads as it did. -/
def fnExactWeightAtSpec : ChangeSpec := { name := "fnExactWeightAt", fn := fun _ => fun
  | [d1, d2, d3] => { results := [.lit (.bool true)], args := [d1, d2, d3] }
  | _ => none }
def fnExactWeightAtRow : OpenClaim := { program := "ytlhblnphfpijkaa", sum := "5e90fa06861dfcd4c8ea0c8f75d720138c8b997ba64634036b98ed00e25270c2", func := "loop.example/g01125/laws.FnExactWeightAt", spec := "fnExactWeightAt", unfollowed := true, recurses := true, apart := false }
def FnExactWeightAtSaid : Prop := fnExactWeightAtRow.holds Try.pinned (OpenSpec.ofChange fnExactWeightAtSpec)

/-- ITS FALSE NEIGHBOUR: 'it returns false'. Refute it at one input. -/
def fnExactWeightAtWrong : ChangeSpec := { name := "fnExactWeightAt", fn := fun _ => fun
  | [d1, d2, d3] => { results := [.lit (.bool false)], args := [d1, d2, d3] }
  | _ => none }
def FnExactWeightAtWrongFalsely : Prop := fnExactWeightAtRow.holds Try.pinned (OpenSpec.ofChange fnExactWeightAtWrong)

/-- 'laws.FnExactAllWeights': WHATEVER THE INPUT: true; the input reads as it did. -/
def fnExactAllWeightsSpec : ChangeSpec := { name := "fnExactAllWeights", fn := fun _ => fun
  | [d] => { results := [.lit (.bool true)], args := [d] }
  | _ => none }
def fnExactAllWeightsRow : OpenClaim := { program := "ytlhblnphfpijkaa", sum := "5e90fa06861dfcd4c8ea0c8f75d720138c8b997ba64634036b98ed00e25270c2", func := "loop.example/g01125/laws.FnExactAllWeights", spec := "fnExactAllWeights", unfollowed := true, recurses := true, apart := false }
def FnExactAllWeightsSaid : Prop := fnExactAllWeightsRow.holds Try.pinned (OpenSpec.ofChange fnExactAllWeightsSpec)

/-- ITS FALSE NEIGHBOUR: 'it returns false'. Refute it at one input. -/
def fnExactAllWeightsWrong : ChangeSpec := { name := "fnExactAllWeights", fn := fun _ => fun
  | [d] => { results := [.lit (.bool false)], args := [d] }
  | _ => none }
def FnExactAllWeightsWrongFalsely : Prop := fnExactAllWeightsRow.holds Try.pinned (OpenSpec.ofChange fnExactAllWeightsWrong)

/-- 'laws.FnExactWeightedSumAt': WHATEVER THE INPUT: true; the input reads as it did. -/
def fnExactWeightedSumAtSpec : ChangeSpec := { name := "fnExactWeightedSumAt", fn := fun _ => fun
  | [d1, d2, d3] => { results := [.lit (.bool true)], args := [d1, d2, d3] }
  | _ => none }
def fnExactWeightedSumAtRow : OpenClaim := { program := "ytlhblnphfpijkaa", sum := "5e90fa06861dfcd4c8ea0c8f75d720138c8b997ba64634036b98ed00e25270c2", func := "loop.example/g01125/laws.FnExactWeightedSumAt", spec := "fnExactWeightedSumAt", unfollowed := true, recurses := true, apart := false }
def FnExactWeightedSumAtSaid : Prop := fnExactWeightedSumAtRow.holds Try.pinned (OpenSpec.ofChange fnExactWeightedSumAtSpec)

/-- ITS FALSE NEIGHBOUR: 'it returns false'. Refute it at one input. -/
def fnExactWeightedSumAtWrong : ChangeSpec := { name := "fnExactWeightedSumAt", fn := fun _ => fun
  | [d1, d2, d3] => { results := [.lit (.bool false)], args := [d1, d2, d3] }
  | _ => none }
def FnExactWeightedSumAtWrongFalsely : Prop := fnExactWeightedSumAtRow.holds Try.pinned (OpenSpec.ofChange fnExactWeightedSumAtWrong)

/-- 'laws.FnExactRankCountsPlain': WHATEVER THE INPUT: true; the input reads as it did. -/
def fnExactRankCountsPlainSpec : ChangeSpec := { name := "fnExactRankCountsPlain", fn := fun _ => fun
  | [d1, d2] => { results := [.lit (.bool true)], args := [d1, d2] }
  | _ => none }
def fnExactRankCountsPlainRow : OpenClaim := { program := "ytlhblnphfpijkaa", sum := "5e90fa06861dfcd4c8ea0c8f75d720138c8b997ba64634036b98ed00e25270c2", func := "loop.example/g01125/laws.FnExactRankCountsPlain", spec := "fnExactRankCountsPlain", unfollowed := true, recurses := true, apart := false }
def FnExactRankCountsPlainSaid : Prop := fnExactRankCountsPlainRow.holds Try.pinned (OpenSpec.ofChange fnExactRankCountsPlainSpec)

/-- ITS FALSE NEIGHBOUR: 'it returns false'. Refute it at one input. -/
def fnExactRankCountsPlainWrong : ChangeSpec := { name := "fnExactRankCountsPlain", fn := fun _ => fun
  | [d1, d2] => { results := [.lit (.bool false)], args := [d1, d2] }
  | _ => none }
def FnExactRankCountsPlainWrongFalsely : Prop := fnExactRankCountsPlainRow.holds Try.pinned (OpenSpec.ofChange fnExactRankCountsPlainWrong)

/-- 'laws.FnExactRankCounts': WHATEVER THE INPUT: true; the input reads as it did. -/
def fnExactRankCountsSpec : ChangeSpec := { name := "fnExactRankCounts", fn := fun _ => fun
  | [d1, d2] => { results := [.lit (.bool true)], args := [d1, d2] }
  | _ => none }
def fnExactRankCountsRow : OpenClaim := { program := "ytlhblnphfpijkaa", sum := "5e90fa06861dfcd4c8ea0c8f75d720138c8b997ba64634036b98ed00e25270c2", func := "loop.example/g01125/laws.FnExactRankCounts", spec := "fnExactRankCounts", unfollowed := true, recurses := true, apart := false }
def FnExactRankCountsSaid : Prop := fnExactRankCountsRow.holds Try.pinned (OpenSpec.ofChange fnExactRankCountsSpec)

/-- ITS FALSE NEIGHBOUR: 'it returns false'. Refute it at one input. -/
def fnExactRankCountsWrong : ChangeSpec := { name := "fnExactRankCounts", fn := fun _ => fun
  | [d1, d2] => { results := [.lit (.bool false)], args := [d1, d2] }
  | _ => none }
def FnExactRankCountsWrongFalsely : Prop := fnExactRankCountsRow.holds Try.pinned (OpenSpec.ofChange fnExactRankCountsWrong)

/-- 'laws.FnExactWeightedProductAt': WHATEVER THE INPUT: true; the input reads as it did. -/
def fnExactWeightedProductAtSpec : ChangeSpec := { name := "fnExactWeightedProductAt", fn := fun _ => fun
  | [d1, d2, d3] => { results := [.lit (.bool true)], args := [d1, d2, d3] }
  | _ => none }
def fnExactWeightedProductAtRow : OpenClaim := { program := "ytlhblnphfpijkaa", sum := "5e90fa06861dfcd4c8ea0c8f75d720138c8b997ba64634036b98ed00e25270c2", func := "loop.example/g01125/laws.FnExactWeightedProductAt", spec := "fnExactWeightedProductAt", recurses := true, apart := false }
def FnExactWeightedProductAtSaid : Prop := fnExactWeightedProductAtRow.holds Try.pinned (OpenSpec.ofChange fnExactWeightedProductAtSpec)

/-- ITS FALSE NEIGHBOUR: 'it returns false'. Refute it at one input. -/
def fnExactWeightedProductAtWrong : ChangeSpec := { name := "fnExactWeightedProductAt", fn := fun _ => fun
  | [d1, d2, d3] => { results := [.lit (.bool false)], args := [d1, d2, d3] }
  | _ => none }
def FnExactWeightedProductAtWrongFalsely : Prop := fnExactWeightedProductAtRow.holds Try.pinned (OpenSpec.ofChange fnExactWeightedProductAtWrong)

/-- 'laws.FnRanksOfRows': WHATEVER THE INPUT: true; the input reads as it did. -/
def fnRanksOfRowsSpec : ChangeSpec := { name := "fnRanksOfRows", fn := fun _ => fun
  | [d1, d2] => { results := [.lit (.bool true)], args := [d1, d2] }
  | _ => none }
def fnRanksOfRowsRow : OpenClaim := { program := "ytlhblnphfpijkaa", sum := "5e90fa06861dfcd4c8ea0c8f75d720138c8b997ba64634036b98ed00e25270c2", func := "loop.example/g01125/laws.FnRanksOfRows", spec := "fnRanksOfRows", unfollowed := true, recurses := true, apart := false }
def FnRanksOfRowsSaid : Prop := fnRanksOfRowsRow.holds Try.pinned (OpenSpec.ofChange fnRanksOfRowsSpec)

/-- ITS FALSE NEIGHBOUR: 'it returns false'. Refute it at one input. -/
def fnRanksOfRowsWrong : ChangeSpec := { name := "fnRanksOfRows", fn := fun _ => fun
  | [d1, d2] => { results := [.lit (.bool false)], args := [d1, d2] }
  | _ => none }
def FnRanksOfRowsWrongFalsely : Prop := fnRanksOfRowsRow.holds Try.pinned (OpenSpec.ofChange fnRanksOfRowsWrong)

/-- 'laws.FnMatricesOfRanks': WHATEVER THE INPUT: true; the input reads as it did. -/
def fnMatricesOfRanksSpec : ChangeSpec := { name := "fnMatricesOfRanks", fn := fun _ => fun
  | [d1, d2] => { results := [.lit (.bool true)], args := [d1, d2] }
  | _ => none }
def fnMatricesOfRanksRow : OpenClaim := { program := "ytlhblnphfpijkaa", sum := "5e90fa06861dfcd4c8ea0c8f75d720138c8b997ba64634036b98ed00e25270c2", func := "loop.example/g01125/laws.FnMatricesOfRanks", spec := "fnMatricesOfRanks", unfollowed := true, recurses := true, apart := false }
def FnMatricesOfRanksSaid : Prop := fnMatricesOfRanksRow.holds Try.pinned (OpenSpec.ofChange fnMatricesOfRanksSpec)

/-- ITS FALSE NEIGHBOUR: 'it returns false'. Refute it at one input. -/
def fnMatricesOfRanksWrong : ChangeSpec := { name := "fnMatricesOfRanks", fn := fun _ => fun
  | [d1, d2] => { results := [.lit (.bool false)], args := [d1, d2] }
  | _ => none }
def FnMatricesOfRanksWrongFalsely : Prop := fnMatricesOfRanksRow.holds Try.pinned (OpenSpec.ofChange fnMatricesOfRanksWrong)

/- THE SECOND FORM. 'bulk': how many values and letters a reading holds, each counted each time it is reached (what is shared counts as often as it is met; a slice's spare places count too). A statement '..UptoSaid' is the law's where the arguments, and the package variables that the reading takes, are together of bulk at most 1048576: NARROWER than '..Said'. Prove '..Said' where nothing that the law and all that it calls make is longer than what came in: it says more and counts as full. Else prove '..UptoSaid'. A law counts once. -/
mutual
def uptoBulk {H : Type} : DataW H → Nat
  | .lit (.string bytes) => bytes.length + 1
  | .lit _ => 1
  | .nil => 1
  | .ptr d => uptoBulk d + 1
  | .slice elems spare => uptoBulkAll elems + uptoBulkAll spare + 1
  | .agg parts => uptoBulkAll parts + 1
  | .iface _ d => uptoBulk d + 1
  | .map entries => uptoBulkEntries entries + 1
  | .held _ => 1
def uptoBulkAll {H : Type} : List (DataW H) → Nat
  | [] => 0
  | d :: r => uptoBulk d + uptoBulkAll r
def uptoBulkEntries {H : Type} : List (Lit × DataW H) → Nat
  | [] => 0
  | x :: r => uptoBulkEntry x + uptoBulkEntries r
def uptoBulkEntry {H : Type} : Lit × DataW H → Nat
  | (.string bytes, d) => bytes.length + uptoBulk d + 1
  | (_, d) => uptoBulk d + 1
 end
def uptoSmall : (H : Type) → List (DataW H) → Bool := fun _ ds => decide (uptoBulkAll ds ≤ 1048576)
def OpenSpec.upto (s : _root_.Go.ChangeSpec) : _root_.Go.OpenSpec := { _root_.Go.OpenSpec.ofChange s with cond := some uptoSmall }

/-- 'laws.FnExactFitsBoard', WHERE WHAT IT READS IS OF BULK AT MOST 1048576: true; the input reads as it did. -/
def fnExactFitsBoardUptoRow : OpenClaim := { program := "ytlhblnphfpijkaa", sum := "5e90fa06861dfcd4c8ea0c8f75d720138c8b997ba64634036b98ed00e25270c2", func := "loop.example/g01125/laws.FnExactFitsBoard", spec := "fnExactFitsBoard", apart := false, narrowed := true }
def FnExactFitsBoardUptoSaid : Prop := fnExactFitsBoardUptoRow.holds Try.pinned (OpenSpec.upto fnExactFitsBoardSpec)

/-- 'laws.FnExactMatrixWith', WHERE WHAT IT READS IS OF BULK AT MOST 1048576: true; the input reads as it did. -/
def fnExactMatrixWithUptoRow : OpenClaim := { program := "ytlhblnphfpijkaa", sum := "5e90fa06861dfcd4c8ea0c8f75d720138c8b997ba64634036b98ed00e25270c2", func := "loop.example/g01125/laws.FnExactMatrixWith", spec := "fnExactMatrixWith", apart := false, narrowed := true }
def FnExactMatrixWithUptoSaid : Prop := fnExactMatrixWithUptoRow.holds Try.pinned (OpenSpec.upto fnExactMatrixWithSpec)

/-- 'laws.FnExactRankModulo', WHERE WHAT IT READS IS OF BULK AT MOST 1048576: true; the input reads as it did. -/
def fnExactRankModuloUptoRow : OpenClaim := { program := "ytlhblnphfpijkaa", sum := "5e90fa06861dfcd4c8ea0c8f75d720138c8b997ba64634036b98ed00e25270c2", func := "loop.example/g01125/laws.FnExactRankModulo", spec := "fnExactRankModulo", unfollowed := true, recurses := true, apart := false, narrowed := true }
def FnExactRankModuloUptoSaid : Prop := fnExactRankModuloUptoRow.holds Try.pinned (OpenSpec.upto fnExactRankModuloSpec)

/-- 'laws.FnExactLeadsOf', WHERE WHAT IT READS IS OF BULK AT MOST 1048576: true; the input reads as it did. -/
def fnExactLeadsOfUptoRow : OpenClaim := { program := "ytlhblnphfpijkaa", sum := "5e90fa06861dfcd4c8ea0c8f75d720138c8b997ba64634036b98ed00e25270c2", func := "loop.example/g01125/laws.FnExactLeadsOf", spec := "fnExactLeadsOf", unfollowed := true, recurses := true, apart := false, narrowed := true }
def FnExactLeadsOfUptoSaid : Prop := fnExactLeadsOfUptoRow.holds Try.pinned (OpenSpec.upto fnExactLeadsOfSpec)

/-- 'laws.FnExactWeightsOf', WHERE WHAT IT READS IS OF BULK AT MOST 1048576: true; the input reads as it did. -/
def fnExactWeightsOfUptoRow : OpenClaim := { program := "ytlhblnphfpijkaa", sum := "5e90fa06861dfcd4c8ea0c8f75d720138c8b997ba64634036b98ed00e25270c2", func := "loop.example/g01125/laws.FnExactWeightsOf", spec := "fnExactWeightsOf", unfollowed := true, recurses := true, apart := false, narrowed := true }
def FnExactWeightsOfUptoSaid : Prop := fnExactWeightsOfUptoRow.holds Try.pinned (OpenSpec.upto fnExactWeightsOfSpec)

/-- 'laws.FnExactWeightAt', WHERE WHAT IT READS IS OF BULK AT MOST 1048576: true; the input reads as it did. -/
def fnExactWeightAtUptoRow : OpenClaim := { program := "ytlhblnphfpijkaa", sum := "5e90fa06861dfcd4c8ea0c8f75d720138c8b997ba64634036b98ed00e25270c2", func := "loop.example/g01125/laws.FnExactWeightAt", spec := "fnExactWeightAt", unfollowed := true, recurses := true, apart := false, narrowed := true }
def FnExactWeightAtUptoSaid : Prop := fnExactWeightAtUptoRow.holds Try.pinned (OpenSpec.upto fnExactWeightAtSpec)

/-- 'laws.FnExactAllWeights', WHERE WHAT IT READS IS OF BULK AT MOST 1048576: true; the input reads as it did. -/
def fnExactAllWeightsUptoRow : OpenClaim := { program := "ytlhblnphfpijkaa", sum := "5e90fa06861dfcd4c8ea0c8f75d720138c8b997ba64634036b98ed00e25270c2", func := "loop.example/g01125/laws.FnExactAllWeights", spec := "fnExactAllWeights", unfollowed := true, recurses := true, apart := false, narrowed := true }
def FnExactAllWeightsUptoSaid : Prop := fnExactAllWeightsUptoRow.holds Try.pinned (OpenSpec.upto fnExactAllWeightsSpec)

/-- 'laws.FnExactWeightedSumAt', WHERE WHAT IT READS IS OF BULK AT MOST 1048576: true; the input reads as it did. -/
def fnExactWeightedSumAtUptoRow : OpenClaim := { program := "ytlhblnphfpijkaa", sum := "5e90fa06861dfcd4c8ea0c8f75d720138c8b997ba64634036b98ed00e25270c2", func := "loop.example/g01125/laws.FnExactWeightedSumAt", spec := "fnExactWeightedSumAt", unfollowed := true, recurses := true, apart := false, narrowed := true }
def FnExactWeightedSumAtUptoSaid : Prop := fnExactWeightedSumAtUptoRow.holds Try.pinned (OpenSpec.upto fnExactWeightedSumAtSpec)

/-- 'laws.FnExactRankCountsPlain', WHERE WHAT IT READS IS OF BULK AT MOST 1048576: true; the input reads as it did. -/
def fnExactRankCountsPlainUptoRow : OpenClaim := { program := "ytlhblnphfpijkaa", sum := "5e90fa06861dfcd4c8ea0c8f75d720138c8b997ba64634036b98ed00e25270c2", func := "loop.example/g01125/laws.FnExactRankCountsPlain", spec := "fnExactRankCountsPlain", unfollowed := true, recurses := true, apart := false, narrowed := true }
def FnExactRankCountsPlainUptoSaid : Prop := fnExactRankCountsPlainUptoRow.holds Try.pinned (OpenSpec.upto fnExactRankCountsPlainSpec)

/-- 'laws.FnExactRankCounts', WHERE WHAT IT READS IS OF BULK AT MOST 1048576: true; the input reads as it did. -/
def fnExactRankCountsUptoRow : OpenClaim := { program := "ytlhblnphfpijkaa", sum := "5e90fa06861dfcd4c8ea0c8f75d720138c8b997ba64634036b98ed00e25270c2", func := "loop.example/g01125/laws.FnExactRankCounts", spec := "fnExactRankCounts", unfollowed := true, recurses := true, apart := false, narrowed := true }
def FnExactRankCountsUptoSaid : Prop := fnExactRankCountsUptoRow.holds Try.pinned (OpenSpec.upto fnExactRankCountsSpec)

/-- 'laws.FnExactWeightedProductAt', WHERE WHAT IT READS IS OF BULK AT MOST 1048576: true; the input reads as it did. -/
def fnExactWeightedProductAtUptoRow : OpenClaim := { program := "ytlhblnphfpijkaa", sum := "5e90fa06861dfcd4c8ea0c8f75d720138c8b997ba64634036b98ed00e25270c2", func := "loop.example/g01125/laws.FnExactWeightedProductAt", spec := "fnExactWeightedProductAt", recurses := true, apart := false, narrowed := true }
def FnExactWeightedProductAtUptoSaid : Prop := fnExactWeightedProductAtUptoRow.holds Try.pinned (OpenSpec.upto fnExactWeightedProductAtSpec)

/-- 'laws.FnRanksOfRows', WHERE WHAT IT READS IS OF BULK AT MOST 1048576: true; the input reads as it did. -/
def fnRanksOfRowsUptoRow : OpenClaim := { program := "ytlhblnphfpijkaa", sum := "5e90fa06861dfcd4c8ea0c8f75d720138c8b997ba64634036b98ed00e25270c2", func := "loop.example/g01125/laws.FnRanksOfRows", spec := "fnRanksOfRows", unfollowed := true, recurses := true, apart := false, narrowed := true }
def FnRanksOfRowsUptoSaid : Prop := fnRanksOfRowsUptoRow.holds Try.pinned (OpenSpec.upto fnRanksOfRowsSpec)

/-- 'laws.FnMatricesOfRanks', WHERE WHAT IT READS IS OF BULK AT MOST 1048576: true; the input reads as it did. -/
def fnMatricesOfRanksUptoRow : OpenClaim := { program := "ytlhblnphfpijkaa", sum := "5e90fa06861dfcd4c8ea0c8f75d720138c8b997ba64634036b98ed00e25270c2", func := "loop.example/g01125/laws.FnMatricesOfRanks", spec := "fnMatricesOfRanks", unfollowed := true, recurses := true, apart := false, narrowed := true }
def FnMatricesOfRanksUptoSaid : Prop := fnMatricesOfRanksUptoRow.holds Try.pinned (OpenSpec.upto fnMatricesOfRanksSpec)

end Rows
end Go.Proofs.Ytlhblnphfpijkaa
