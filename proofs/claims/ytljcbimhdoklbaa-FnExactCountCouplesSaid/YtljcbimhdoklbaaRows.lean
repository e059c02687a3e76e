/-
  No cell of these rows narrows 'for every input' (looked for: loops, veiled, ifaces, maps, wideKeys, modest, calm, conditions, laid).
  DERIVED. THE GIVEN ROWS OF THIS SEAT. 10 by the template 'for every input the law returns true; each argument reads behind the call as it read before'; 0 by the template 'total and deterministic' (their statements: YtljcbimhdoklbaaTotals.lean).
  GIVEN WITH THE SEED: the statements are not yours to turn. If you find one false, say at which input.
  Laid BY PROGRAM, IN A SANDBOX (cutbox-rows.mjs): the forced cells as the released guide's own fill.sh prints them over the translation d70c3180ab6c6b7d… (all of the seat's roots in one cut). By AI agents, Wed Nov 11 2026. No macro, syntax, notation, axiom, sorry.
-/
import Derived.Test.YtljcbimhdoklbaaChecked
import GoSem.Claim
import GoSem.ClaimJoined
import GoSem.ClaimMapViews
import Derived.JoinedTies
import Derived.KernelRfl
namespace Go.Proofs.Ytljcbimhdoklbaa
/- THE CELL 'sum', in the pinned program and in every row, IS THE sha256 OF THE DUMP (.gsa) THAT YtljcbimhdoklbaaProg.lean LOADS. Nothing in Lean hashes anything: it is a label: what it is worth is what the hold of that sum in a sandbox is worth. -/
noncomputable def Try.pinned : Pinned := { name := "ytljcbimhdoklbaa", sum := "d70c3180ab6c6b7dc88252602ae7f85aa092b204b83b9232e2c977ebe7580fdc", checked := Try.checked }
namespace Rows
def none {H : Type} : Left H := { results := [], args := [] }

/-- 'laws.FnExactBracketOf': WHATEVER THE INPUT: true; the input reads as it did. -/
def fnExactBracketOfSpec : ChangeSpec := { name := "fnExactBracketOf", fn := fun _ => fun
  | [d1, d2] => { results := [.lit (.bool true)], args := [d1, d2] }
  | _ => none }
def fnExactBracketOfRow : OpenClaim := { program := "ytljcbimhdoklbaa", sum := "d70c3180ab6c6b7dc88252602ae7f85aa092b204b83b9232e2c977ebe7580fdc", func := "loop.example/g01125/laws.FnExactBracketOf", spec := "fnExactBracketOf", apart := false }
def FnExactBracketOfSaid : Prop := fnExactBracketOfRow.holds Try.pinned (OpenSpec.ofChange fnExactBracketOfSpec)

/-- ITS FALSE NEIGHBOUR: 'it returns false'. Refute it at one input. -/
def fnExactBracketOfWrong : ChangeSpec := { name := "fnExactBracketOf", fn := fun _ => fun
  | [d1, d2] => { results := [.lit (.bool false)], args := [d1, d2] }
  | _ => none }
def FnExactBracketOfWrongFalsely : Prop := fnExactBracketOfRow.holds Try.pinned (OpenSpec.ofChange fnExactBracketOfWrong)

/-- 'laws.FnExactDerangements': WHATEVER THE INPUT: true; the input reads as it did. -/
def fnExactDerangementsSpec : ChangeSpec := { name := "fnExactDerangements", fn := fun _ => fun
  | [d] => { results := [.lit (.bool true)], args := [d] }
  | _ => none }
def fnExactDerangementsRow : OpenClaim := { program := "ytljcbimhdoklbaa", sum := "d70c3180ab6c6b7dc88252602ae7f85aa092b204b83b9232e2c977ebe7580fdc", func := "loop.example/g01125/laws.FnExactDerangements", spec := "fnExactDerangements", apart := false }
def FnExactDerangementsSaid : Prop := fnExactDerangementsRow.holds Try.pinned (OpenSpec.ofChange fnExactDerangementsSpec)

/-- ITS FALSE NEIGHBOUR: 'it returns false'. Refute it at one input. -/
def fnExactDerangementsWrong : ChangeSpec := { name := "fnExactDerangements", fn := fun _ => fun
  | [d] => { results := [.lit (.bool false)], args := [d] }
  | _ => none }
def FnExactDerangementsWrongFalsely : Prop := fnExactDerangementsRow.holds Try.pinned (OpenSpec.ofChange fnExactDerangementsWrong)

/-- 'laws.FnExactInvertibleCount': WHATEVER THE INPUT: true; the input reads as it did. -/
def fnExactInvertibleCountSpec : ChangeSpec := { name := "fnExactInvertibleCount", fn := fun _ => fun
  | [d1, d2] => { results := [.lit (.bool true)], args := [d1, d2] }
  | _ => none }
def fnExactInvertibleCountRow : OpenClaim := { program := "ytljcbimhdoklbaa", sum := "d70c3180ab6c6b7dc88252602ae7f85aa092b204b83b9232e2c977ebe7580fdc", func := "loop.example/g01125/laws.FnExactInvertibleCount", spec := "fnExactInvertibleCount", apart := false }
def FnExactInvertibleCountSaid : Prop := fnExactInvertibleCountRow.holds Try.pinned (OpenSpec.ofChange fnExactInvertibleCountSpec)

/-- ITS FALSE NEIGHBOUR: 'it returns false'. Refute it at one input. -/
def fnExactInvertibleCountWrong : ChangeSpec := { name := "fnExactInvertibleCount", fn := fun _ => fun
  | [d1, d2] => { results := [.lit (.bool false)], args := [d1, d2] }
  | _ => none }
def FnExactInvertibleCountWrongFalsely : Prop := fnExactInvertibleCountRow.holds Try.pinned (OpenSpec.ofChange fnExactInvertibleCountWrong)

/-- 'laws.FnExactLahNumber': WHATEVER THE INPUT: true; the input reads as it did. -/
def fnExactLahNumberSpec : ChangeSpec := { name := "fnExactLahNumber", fn := fun _ => fun
  | [d1, d2] => { results := [.lit (.bool true)], args := [d1, d2] }
  | _ => none }
def fnExactLahNumberRow : OpenClaim := { program := "ytljcbimhdoklbaa", sum := "d70c3180ab6c6b7dc88252602ae7f85aa092b204b83b9232e2c977ebe7580fdc", func := "loop.example/g01125/laws.FnExactLahNumber", spec := "fnExactLahNumber", unfollowed := true, recurses := true, apart := false }
def FnExactLahNumberSaid : Prop := fnExactLahNumberRow.holds Try.pinned (OpenSpec.ofChange fnExactLahNumberSpec)

/-- ITS FALSE NEIGHBOUR: 'it returns false'. Refute it at one input. -/
def fnExactLahNumberWrong : ChangeSpec := { name := "fnExactLahNumber", fn := fun _ => fun
  | [d1, d2] => { results := [.lit (.bool false)], args := [d1, d2] }
  | _ => none }
def FnExactLahNumberWrongFalsely : Prop := fnExactLahNumberRow.holds Try.pinned (OpenSpec.ofChange fnExactLahNumberWrong)

/-- 'laws.FnExactStirlingFirst': WHATEVER THE INPUT: true; the input reads as it did. -/
def fnExactStirlingFirstSpec : ChangeSpec := { name := "fnExactStirlingFirst", fn := fun _ => fun
  | [d1, d2] => { results := [.lit (.bool true)], args := [d1, d2] }
  | _ => none }
def fnExactStirlingFirstRow : OpenClaim := { program := "ytljcbimhdoklbaa", sum := "d70c3180ab6c6b7dc88252602ae7f85aa092b204b83b9232e2c977ebe7580fdc", func := "loop.example/g01125/laws.FnExactStirlingFirst", spec := "fnExactStirlingFirst", unfollowed := true, recurses := true, apart := false }
def FnExactStirlingFirstSaid : Prop := fnExactStirlingFirstRow.holds Try.pinned (OpenSpec.ofChange fnExactStirlingFirstSpec)

/-- ITS FALSE NEIGHBOUR: 'it returns false'. Refute it at one input. -/
def fnExactStirlingFirstWrong : ChangeSpec := { name := "fnExactStirlingFirst", fn := fun _ => fun
  | [d1, d2] => { results := [.lit (.bool false)], args := [d1, d2] }
  | _ => none }
def FnExactStirlingFirstWrongFalsely : Prop := fnExactStirlingFirstRow.holds Try.pinned (OpenSpec.ofChange fnExactStirlingFirstWrong)

/-- 'laws.FnExactStirlingSecond': WHATEVER THE INPUT: true; the input reads as it did. -/
def fnExactStirlingSecondSpec : ChangeSpec := { name := "fnExactStirlingSecond", fn := fun _ => fun
  | [d1, d2] => { results := [.lit (.bool true)], args := [d1, d2] }
  | _ => none }
def fnExactStirlingSecondRow : OpenClaim := { program := "ytljcbimhdoklbaa", sum := "d70c3180ab6c6b7dc88252602ae7f85aa092b204b83b9232e2c977ebe7580fdc", func := "loop.example/g01125/laws.FnExactStirlingSecond", spec := "fnExactStirlingSecond", unfollowed := true, recurses := true, apart := false }
def FnExactStirlingSecondSaid : Prop := fnExactStirlingSecondRow.holds Try.pinned (OpenSpec.ofChange fnExactStirlingSecondSpec)

/-- ITS FALSE NEIGHBOUR: 'it returns false'. Refute it at one input. -/
def fnExactStirlingSecondWrong : ChangeSpec := { name := "fnExactStirlingSecond", fn := fun _ => fun
  | [d1, d2] => { results := [.lit (.bool false)], args := [d1, d2] }
  | _ => none }
def FnExactStirlingSecondWrongFalsely : Prop := fnExactStirlingSecondRow.holds Try.pinned (OpenSpec.ofChange fnExactStirlingSecondWrong)

/-- 'laws.FnExactCountCouples': WHATEVER THE INPUT: true; the input reads as it did. -/
def fnExactCountCouplesSpec : ChangeSpec := { name := "fnExactCountCouples", fn := fun _ => fun
  | [d] => { results := [.lit (.bool true)], args := [d] }
  | _ => none }
def fnExactCountCouplesRow : OpenClaim := { program := "ytljcbimhdoklbaa", sum := "d70c3180ab6c6b7dc88252602ae7f85aa092b204b83b9232e2c977ebe7580fdc", func := "loop.example/g01125/laws.FnExactCountCouples", spec := "fnExactCountCouples", apart := false }
def FnExactCountCouplesSaid : Prop := fnExactCountCouplesRow.holds Try.pinned (OpenSpec.ofChange fnExactCountCouplesSpec)

/-- ITS FALSE NEIGHBOUR: 'it returns false'. Refute it at one input. -/
def fnExactCountCouplesWrong : ChangeSpec := { name := "fnExactCountCouples", fn := fun _ => fun
  | [d] => { results := [.lit (.bool false)], args := [d] }
  | _ => none }
def FnExactCountCouplesWrongFalsely : Prop := fnExactCountCouplesRow.holds Try.pinned (OpenSpec.ofChange fnExactCountCouplesWrong)

/-- 'laws.FnExactEulerNumbers': WHATEVER THE INPUT: true; the input reads as it did. -/
def fnExactEulerNumbersSpec : ChangeSpec := { name := "fnExactEulerNumbers", fn := fun _ => fun
  | [d] => { results := [.lit (.bool true)], args := [d] }
  | _ => none }
def fnExactEulerNumbersRow : OpenClaim := { program := "ytljcbimhdoklbaa", sum := "d70c3180ab6c6b7dc88252602ae7f85aa092b204b83b9232e2c977ebe7580fdc", func := "loop.example/g01125/laws.FnExactEulerNumbers", spec := "fnExactEulerNumbers", apart := false }
def FnExactEulerNumbersSaid : Prop := fnExactEulerNumbersRow.holds Try.pinned (OpenSpec.ofChange fnExactEulerNumbersSpec)

/-- ITS FALSE NEIGHBOUR: 'it returns false'. Refute it at one input. -/
def fnExactEulerNumbersWrong : ChangeSpec := { name := "fnExactEulerNumbers", fn := fun _ => fun
  | [d] => { results := [.lit (.bool false)], args := [d] }
  | _ => none }
def FnExactEulerNumbersWrongFalsely : Prop := fnExactEulerNumbersRow.holds Try.pinned (OpenSpec.ofChange fnExactEulerNumbersWrong)

/-- 'laws.FnExactCountPartitions': WHATEVER THE INPUT: true; the input reads as it did. -/
def fnExactCountPartitionsSpec : ChangeSpec := { name := "fnExactCountPartitions", fn := fun _ => fun
  | [d] => { results := [.lit (.bool true)], args := [d] }
  | _ => none }
def fnExactCountPartitionsRow : OpenClaim := { program := "ytljcbimhdoklbaa", sum := "d70c3180ab6c6b7dc88252602ae7f85aa092b204b83b9232e2c977ebe7580fdc", func := "loop.example/g01125/laws.FnExactCountPartitions", spec := "fnExactCountPartitions", unfollowed := true, recurses := true, apart := false }
def FnExactCountPartitionsSaid : Prop := fnExactCountPartitionsRow.holds Try.pinned (OpenSpec.ofChange fnExactCountPartitionsSpec)

/-- ITS FALSE NEIGHBOUR: 'it returns false'. Refute it at one input. -/
def fnExactCountPartitionsWrong : ChangeSpec := { name := "fnExactCountPartitions", fn := fun _ => fun
  | [d] => { results := [.lit (.bool false)], args := [d] }
  | _ => none }
def FnExactCountPartitionsWrongFalsely : Prop := fnExactCountPartitionsRow.holds Try.pinned (OpenSpec.ofChange fnExactCountPartitionsWrong)

/-- 'laws.FnExactDerangementsWith': WHATEVER THE INPUT: true; the input reads as it did. -/
def fnExactDerangementsWithSpec : ChangeSpec := { name := "fnExactDerangementsWith", fn := fun _ => fun
  | [d1, d2] => { results := [.lit (.bool true)], args := [d1, d2] }
  | _ => none }
def fnExactDerangementsWithRow : OpenClaim := { program := "ytljcbimhdoklbaa", sum := "d70c3180ab6c6b7dc88252602ae7f85aa092b204b83b9232e2c977ebe7580fdc", func := "loop.example/g01125/laws.FnExactDerangementsWith", spec := "fnExactDerangementsWith", apart := false }
def FnExactDerangementsWithSaid : Prop := fnExactDerangementsWithRow.holds Try.pinned (OpenSpec.ofChange fnExactDerangementsWithSpec)

/-- ITS FALSE NEIGHBOUR: 'it returns false'. Refute it at one input. -/
def fnExactDerangementsWithWrong : ChangeSpec := { name := "fnExactDerangementsWith", fn := fun _ => fun
  | [d1, d2] => { results := [.lit (.bool false)], args := [d1, d2] }
  | _ => none }
def FnExactDerangementsWithWrongFalsely : Prop := fnExactDerangementsWithRow.holds Try.pinned (OpenSpec.ofChange fnExactDerangementsWithWrong)

/- THE SECOND FORM. 'bulk': how many values and letters a reading holds, each counted each time it is reached (what is shared counts as often as it is met; a slice's spare places count too). A statement '..UptoSaid' is the law's where the arguments, and the package variables that the reading takes, are together of bulk at most 1048576: NARROWER than '..Said'. Prove '..Said' where nothing that the law and all that it calls make is longer than what came in: it says more and counts as full. Else prove '..UptoSaid'. A law counts once. -/
mutual
def uptoBulk {H : Type} : DataW H → Nat
  | .lit (.string bytes) => bytes.length + 1
  | .lit _ => 1
  | .nil => 1
  | .ptr d => uptoBulk d + 1
  | .slice elems spare => uptoBulkAll elems + uptoBulkAll spare + 1
  | .agg parts => uptoBulkAll parts + 1
  | .iface _ d => uptoBulk d + 1
  | .map entries => uptoBulkEntries entries + 1
  | .held _ => 1
def uptoBulkAll {H : Type} : List (DataW H) → Nat
  | [] => 0
  | d :: r => uptoBulk d + uptoBulkAll r
def uptoBulkEntries {H : Type} : List (Lit × DataW H) → Nat
  | [] => 0
  | x :: r => uptoBulkEntry x + uptoBulkEntries r
def uptoBulkEntry {H : Type} : Lit × DataW H → Nat
  | (.string bytes, d) => bytes.length + uptoBulk d + 1
  | (_, d) => uptoBulk d + 1
 end
def uptoSmall : (H : Type) → List (DataW H) → Bool := fun _ ds => decide (uptoBulkAll ds ≤ 1048576)
def OpenSpec.upto (s : _root_.Go.ChangeSpec) : _root_.Go.OpenSpec := { _root_.Go.OpenSpec.ofChange s with cond := some uptoSmall }

/-- 'laws.FnExactBracketOf', WHERE WHAT IT READS IS OF BULK AT MOST 1048576: true; the input reads as it did. -/
def fnExactBracketOfUptoRow : OpenClaim := { program := "ytljcbimhdoklbaa", sum := "d70c3180ab6c6b7dc88252602ae7f85aa092b204b83b9232e2c977ebe7580fdc", func := "loop.example/g01125/laws.FnExactBracketOf", spec := "fnExactBracketOf", apart := false, narrowed := true }
def FnExactBracketOfUptoSaid : Prop := fnExactBracketOfUptoRow.holds Try.pinned (OpenSpec.upto fnExactBracketOfSpec)

/-- 'laws.FnExactDerangements', WHERE WHAT IT READS IS OF BULK AT MOST 1048576: true; the input reads as it did. -/
def fnExactDerangementsUptoRow : OpenClaim := { program := "ytljcbimhdoklbaa", sum := "d70c3180ab6c6b7dc88252602ae7f85aa092b204b83b9232e2c977ebe7580fdc", func := "loop.example/g01125/laws.FnExactDerangements", spec := "fnExactDerangements", apart := false, narrowed := true }
def FnExactDerangementsUptoSaid : Prop := fnExactDerangementsUptoRow.holds Try.pinned (OpenSpec.upto fnExactDerangementsSpec)

/-- 'laws.FnExactInvertibleCount', WHERE WHAT IT READS IS OF BULK AT MOST 1048576: true; the input reads as it did. -/
def fnExactInvertibleCountUptoRow : OpenClaim := { program := "ytljcbimhdoklbaa", sum := "d70c3180ab6c6b7dc88252602ae7f85aa092b204b83b9232e2c977ebe7580fdc", func := "loop.example/g01125/laws.FnExactInvertibleCount", spec := "fnExactInvertibleCount", apart := false, narrowed := true }
def FnExactInvertibleCountUptoSaid : Prop := fnExactInvertibleCountUptoRow.holds Try.pinned (OpenSpec.upto fnExactInvertibleCountSpec)

/-- 'laws.FnExactLahNumber', WHERE WHAT IT READS IS OF BULK AT MOST 1048576: true; the input reads as it did. -/
def fnExactLahNumberUptoRow : OpenClaim := { program := "ytljcbimhdoklbaa", sum := "d70c3180ab6c6b7dc88252602ae7f85aa092b204b83b9232e2c977ebe7580fdc", func := "loop.example/g01125/laws.FnExactLahNumber", spec := "fnExactLahNumber", unfollowed := true, recurses := true, apart := false, narrowed := true }
def FnExactLahNumberUptoSaid : Prop := fnExactLahNumberUptoRow.holds Try.pinned (OpenSpec.upto fnExactLahNumberSpec)

/-- 'laws.FnExactStirlingFirst', WHERE WHAT IT READS IS OF BULK AT MOST 1048576: true; the input reads as it did. -/
def fnExactStirlingFirstUptoRow : OpenClaim := { program := "ytljcbimhdoklbaa", sum := "d70c3180ab6c6b7dc88252602ae7f85aa092b204b83b9232e2c977ebe7580fdc", func := "loop.example/g01125/laws.FnExactStirlingFirst", spec := "fnExactStirlingFirst", unfollowed := true, recurses := true, apart := false, narrowed := true }
def FnExactStirlingFirstUptoSaid : Prop := fnExactStirlingFirstUptoRow.holds Try.pinned (OpenSpec.upto fnExactStirlingFirstSpec)

/-- 'laws.FnExactStirlingSecond', WHERE WHAT IT READS IS OF BULK AT MOST 1048576: true; the input reads as it did. -/
def fnExactStirlingSecondUptoRow : OpenClaim := { program := "ytljcbimhdoklbaa", sum := "d70c3180ab6c6b7dc88252602ae7f85aa092b204b83b9232e2c977ebe7580fdc", func := "loop.example/g01125/laws.FnExactStirlingSecond", spec := "fnExactStirlingSecond", unfollowed := true, recurses := true, apart := false, narrowed := true }
def FnExactStirlingSecondUptoSaid : Prop := fnExactStirlingSecondUptoRow.holds Try.pinned (OpenSpec.upto fnExactStirlingSecondSpec)

/-- 'laws.FnExactCountCouples', WHERE WHAT IT READS IS OF BULK AT MOST 1048576: true; the input reads as it did. -/
def fnExactCountCouplesUptoRow : OpenClaim := { program := "ytljcbimhdoklbaa", sum := "d70c3180ab6c6b7dc88252602ae7f85aa092b204b83b9232e2c977ebe7580fdc", func := "loop.example/g01125/laws.FnExactCountCouples", spec := "fnExactCountCouples", apart := false, narrowed := true }
def FnExactCountCouplesUptoSaid : Prop := fnExactCountCouplesUptoRow.holds Try.pinned (OpenSpec.upto fnExactCountCouplesSpec)

/-- 'laws.FnExactEulerNumbers', WHERE WHAT IT READS IS OF BULK AT MOST 1048576: true; the input reads as it did. -/
def fnExactEulerNumbersUptoRow : OpenClaim := { program := "ytljcbimhdoklbaa", sum := "d70c3180ab6c6b7dc88252602ae7f85aa092b204b83b9232e2c977ebe7580fdc", func := "loop.example/g01125/laws.FnExactEulerNumbers", spec := "fnExactEulerNumbers", apart := false, narrowed := true }
def FnExactEulerNumbersUptoSaid : Prop := fnExactEulerNumbersUptoRow.holds Try.pinned (OpenSpec.upto fnExactEulerNumbersSpec)

/-- 'laws.FnExactCountPartitions', WHERE WHAT IT READS IS OF BULK AT MOST 1048576: true; the input reads as it did. -/
def fnExactCountPartitionsUptoRow : OpenClaim := { program := "ytljcbimhdoklbaa", sum := "d70c3180ab6c6b7dc88252602ae7f85aa092b204b83b9232e2c977ebe7580fdc", func := "loop.example/g01125/laws.FnExactCountPartitions", spec := "fnExactCountPartitions", unfollowed := true, recurses := true, apart := false, narrowed := true }
def FnExactCountPartitionsUptoSaid : Prop := fnExactCountPartitionsUptoRow.holds Try.pinned (OpenSpec.upto fnExactCountPartitionsSpec)

/-- 'laws.FnExactDerangementsWith', WHERE WHAT IT READS IS OF BULK AT MOST 1048576: true; the input reads as it did. -/
def fnExactDerangementsWithUptoRow : OpenClaim := { program := "ytljcbimhdoklbaa", sum := "d70c3180ab6c6b7dc88252602ae7f85aa092b204b83b9232e2c977ebe7580fdc", func := "loop.example/g01125/laws.FnExactDerangementsWith", spec := "fnExactDerangementsWith", apart := false, narrowed := true }
def FnExactDerangementsWithUptoSaid : Prop := fnExactDerangementsWithUptoRow.holds Try.pinned (OpenSpec.upto fnExactDerangementsWithSpec)

end Rows
end Go.Proofs.Ytljcbimhdoklbaa
