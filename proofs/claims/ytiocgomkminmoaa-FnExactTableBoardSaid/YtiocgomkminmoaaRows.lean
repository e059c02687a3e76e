/-
  No cell of these rows narrows 'for every input' (looked for: loops, veiled, ifaces, maps, wideKeys, modest, calm, conditions, laid).
  DERIVED. THE GIVEN ROWS OF THIS SEAT. 19 by the template 'for every input the law returns true; each argument reads behind the call as it read before'; 0 by the template 'total and deterministic' (their statements: YtiocgomkminmoaaTotals.lean).
  GIVEN WITH THE SEED: the statements are not yours to turn. If you find one false, say at which input.
  Laid BY PROGRAM, IN A SANDBOX (cutbox-rows.mjs): the forced cells as the released guide's own fill.sh prints them over the translation fe2ef3a6eeedfb82… (all of the seat's roots in one cut). By AI agents, Wed Nov 11 2026. No macro, syntax, notation, axiom, sorry.
-/
import Derived.Test.YtiocgomkminmoaaChecked
import GoSem.Claim
import GoSem.ClaimJoined
import GoSem.ClaimMapViews
import Derived.JoinedTies
import Derived.KernelRfl
namespace Go.Proofs.Ytiocgomkminmoaa
/- THE CELL 'sum', in the pinned program and in every row, IS THE sha256 OF THE DUMP (.gsa) THAT YtiocgomkminmoaaProg.lean LOADS. Nothing in Lean hashes anything: it is a label: what it is worth is what the hold of that sum in a sandbox is worth. -/
noncomputable def Try.pinned : Pinned := { name := "ytiocgomkminmoaa", sum := "fe2ef3a6eeedfb82f8aa7f714a2be07399a64023c0584b801a13a81ee18dfa77", checked := Try.checked }
namespace Rows
def none {H : Type} : Left H := { results := [], args := [] }

/-- 'laws.FnExactTableBoard': WHATEVER THE INPUT: true; the input reads as it did. -/
def fnExactTableBoardSpec : ChangeSpec := { name := "fnExactTableBoard", fn := fun _ => fun
  | [d] => { results := [.lit (.bool true)], args := [d] }
  | _ => none }
def fnExactTableBoardRow : OpenClaim := { program := "ytiocgomkminmoaa", sum := "fe2ef3a6eeedfb82f8aa7f714a2be07399a64023c0584b801a13a81ee18dfa77", func := "loop.example/g01125/laws.FnExactTableBoard", spec := "fnExactTableBoard", unfollowed := true, recurses := true, apart := false }
def FnExactTableBoardSaid : Prop := fnExactTableBoardRow.holds Try.pinned (OpenSpec.ofChange fnExactTableBoardSpec)

/-- ITS FALSE NEIGHBOUR: 'it returns false'. Refute it at one input. -/
def fnExactTableBoardWrong : ChangeSpec := { name := "fnExactTableBoard", fn := fun _ => fun
  | [d] => { results := [.lit (.bool false)], args := [d] }
  | _ => none }
def FnExactTableBoardWrongFalsely : Prop := fnExactTableBoardRow.holds Try.pinned (OpenSpec.ofChange fnExactTableBoardWrong)

/-- 'laws.FnExactAboveBoard': WHATEVER THE INPUT: true; the input reads as it did. -/
def fnExactAboveBoardSpec : ChangeSpec := { name := "fnExactAboveBoard", fn := fun _ => fun
  | [d] => { results := [.lit (.bool true)], args := [d] }
  | _ => none }
def fnExactAboveBoardRow : OpenClaim := { program := "ytiocgomkminmoaa", sum := "fe2ef3a6eeedfb82f8aa7f714a2be07399a64023c0584b801a13a81ee18dfa77", func := "loop.example/g01125/laws.FnExactAboveBoard", spec := "fnExactAboveBoard", unfollowed := true, recurses := true, apart := false }
def FnExactAboveBoardSaid : Prop := fnExactAboveBoardRow.holds Try.pinned (OpenSpec.ofChange fnExactAboveBoardSpec)

/-- ITS FALSE NEIGHBOUR: 'it returns false'. Refute it at one input. -/
def fnExactAboveBoardWrong : ChangeSpec := { name := "fnExactAboveBoard", fn := fun _ => fun
  | [d] => { results := [.lit (.bool false)], args := [d] }
  | _ => none }
def FnExactAboveBoardWrongFalsely : Prop := fnExactAboveBoardRow.holds Try.pinned (OpenSpec.ofChange fnExactAboveBoardWrong)

/-- 'laws.FnExactDiagonalBoard': WHATEVER THE INPUT: true; the input reads as it did. -/
def fnExactDiagonalBoardSpec : ChangeSpec := { name := "fnExactDiagonalBoard", fn := fun _ => fun
  | [d] => { results := [.lit (.bool true)], args := [d] }
  | _ => none }
def fnExactDiagonalBoardRow : OpenClaim := { program := "ytiocgomkminmoaa", sum := "fe2ef3a6eeedfb82f8aa7f714a2be07399a64023c0584b801a13a81ee18dfa77", func := "loop.example/g01125/laws.FnExactDiagonalBoard", spec := "fnExactDiagonalBoard", unfollowed := true, recurses := true, apart := false }
def FnExactDiagonalBoardSaid : Prop := fnExactDiagonalBoardRow.holds Try.pinned (OpenSpec.ofChange fnExactDiagonalBoardSpec)

/-- ITS FALSE NEIGHBOUR: 'it returns false'. Refute it at one input. -/
def fnExactDiagonalBoardWrong : ChangeSpec := { name := "fnExactDiagonalBoard", fn := fun _ => fun
  | [d] => { results := [.lit (.bool false)], args := [d] }
  | _ => none }
def FnExactDiagonalBoardWrongFalsely : Prop := fnExactDiagonalBoardRow.holds Try.pinned (OpenSpec.ofChange fnExactDiagonalBoardWrong)

/-- 'laws.FnExactArrowBoard': WHATEVER THE INPUT: true; the input reads as it did. -/
def fnExactArrowBoardSpec : ChangeSpec := { name := "fnExactArrowBoard", fn := fun _ => fun
  | [d] => { results := [.lit (.bool true)], args := [d] }
  | _ => none }
def fnExactArrowBoardRow : OpenClaim := { program := "ytiocgomkminmoaa", sum := "fe2ef3a6eeedfb82f8aa7f714a2be07399a64023c0584b801a13a81ee18dfa77", func := "loop.example/g01125/laws.FnExactArrowBoard", spec := "fnExactArrowBoard", unfollowed := true, recurses := true, apart := false }
def FnExactArrowBoardSaid : Prop := fnExactArrowBoardRow.holds Try.pinned (OpenSpec.ofChange fnExactArrowBoardSpec)

/-- ITS FALSE NEIGHBOUR: 'it returns false'. Refute it at one input. -/
def fnExactArrowBoardWrong : ChangeSpec := { name := "fnExactArrowBoard", fn := fun _ => fun
  | [d] => { results := [.lit (.bool false)], args := [d] }
  | _ => none }
def FnExactArrowBoardWrongFalsely : Prop := fnExactArrowBoardRow.holds Try.pinned (OpenSpec.ofChange fnExactArrowBoardWrong)

/-- 'laws.FnExactIsFilePlacement': WHATEVER THE INPUT: true; the input reads as it did. -/
def fnExactIsFilePlacementSpec : ChangeSpec := { name := "fnExactIsFilePlacement", fn := fun _ => fun
  | [d1, d2] => { results := [.lit (.bool true)], args := [d1, d2] }
  | _ => none }
def fnExactIsFilePlacementRow : OpenClaim := { program := "ytiocgomkminmoaa", sum := "fe2ef3a6eeedfb82f8aa7f714a2be07399a64023c0584b801a13a81ee18dfa77", func := "loop.example/g01125/laws.FnExactIsFilePlacement", spec := "fnExactIsFilePlacement", unfollowed := true, recurses := true, apart := false }
def FnExactIsFilePlacementSaid : Prop := fnExactIsFilePlacementRow.holds Try.pinned (OpenSpec.ofChange fnExactIsFilePlacementSpec)

/-- ITS FALSE NEIGHBOUR: 'it returns false'. Refute it at one input. -/
def fnExactIsFilePlacementWrong : ChangeSpec := { name := "fnExactIsFilePlacement", fn := fun _ => fun
  | [d1, d2] => { results := [.lit (.bool false)], args := [d1, d2] }
  | _ => none }
def FnExactIsFilePlacementWrongFalsely : Prop := fnExactIsFilePlacementRow.holds Try.pinned (OpenSpec.ofChange fnExactIsFilePlacementWrong)

/-- 'laws.FnExactHitsFromRooks': WHATEVER THE INPUT: true; the input reads as it did. -/
def fnExactHitsFromRooksSpec : ChangeSpec := { name := "fnExactHitsFromRooks", fn := fun _ => fun
  | [d] => { results := [.lit (.bool true)], args := [d] }
  | _ => none }
def fnExactHitsFromRooksRow : OpenClaim := { program := "ytiocgomkminmoaa", sum := "fe2ef3a6eeedfb82f8aa7f714a2be07399a64023c0584b801a13a81ee18dfa77", func := "loop.example/g01125/laws.FnExactHitsFromRooks", spec := "fnExactHitsFromRooks", unfollowed := true, recurses := true, apart := false }
def FnExactHitsFromRooksSaid : Prop := fnExactHitsFromRooksRow.holds Try.pinned (OpenSpec.ofChange fnExactHitsFromRooksSpec)

/-- ITS FALSE NEIGHBOUR: 'it returns false'. Refute it at one input. -/
def fnExactHitsFromRooksWrong : ChangeSpec := { name := "fnExactHitsFromRooks", fn := fun _ => fun
  | [d] => { results := [.lit (.bool false)], args := [d] }
  | _ => none }
def FnExactHitsFromRooksWrongFalsely : Prop := fnExactHitsFromRooksRow.holds Try.pinned (OpenSpec.ofChange fnExactHitsFromRooksWrong)

/-- 'laws.FnExactRooksFromHits': WHATEVER THE INPUT: true; the input reads as it did. -/
def fnExactRooksFromHitsSpec : ChangeSpec := { name := "fnExactRooksFromHits", fn := fun _ => fun
  | [d] => { results := [.lit (.bool true)], args := [d] }
  | _ => none }
def fnExactRooksFromHitsRow : OpenClaim := { program := "ytiocgomkminmoaa", sum := "fe2ef3a6eeedfb82f8aa7f714a2be07399a64023c0584b801a13a81ee18dfa77", func := "loop.example/g01125/laws.FnExactRooksFromHits", spec := "fnExactRooksFromHits", unfollowed := true, recurses := true, apart := false }
def FnExactRooksFromHitsSaid : Prop := fnExactRooksFromHitsRow.holds Try.pinned (OpenSpec.ofChange fnExactRooksFromHitsSpec)

/-- ITS FALSE NEIGHBOUR: 'it returns false'. Refute it at one input. -/
def fnExactRooksFromHitsWrong : ChangeSpec := { name := "fnExactRooksFromHits", fn := fun _ => fun
  | [d] => { results := [.lit (.bool false)], args := [d] }
  | _ => none }
def FnExactRooksFromHitsWrongFalsely : Prop := fnExactRooksFromHitsRow.holds Try.pinned (OpenSpec.ofChange fnExactRooksFromHitsWrong)

/-- 'laws.FnExactAllPartitions': WHATEVER THE INPUT: true; the input reads as it did. -/
def fnExactAllPartitionsSpec : ChangeSpec := { name := "fnExactAllPartitions", fn := fun _ => fun
  | [d1, d2] => { results := [.lit (.bool true)], args := [d1, d2] }
  | _ => none }
def fnExactAllPartitionsRow : OpenClaim := { program := "ytiocgomkminmoaa", sum := "fe2ef3a6eeedfb82f8aa7f714a2be07399a64023c0584b801a13a81ee18dfa77", func := "loop.example/g01125/laws.FnExactAllPartitions", spec := "fnExactAllPartitions", unfollowed := true, recurses := true, apart := false }
def FnExactAllPartitionsSaid : Prop := fnExactAllPartitionsRow.holds Try.pinned (OpenSpec.ofChange fnExactAllPartitionsSpec)

/-- ITS FALSE NEIGHBOUR: 'it returns false'. Refute it at one input. -/
def fnExactAllPartitionsWrong : ChangeSpec := { name := "fnExactAllPartitions", fn := fun _ => fun
  | [d1, d2] => { results := [.lit (.bool false)], args := [d1, d2] }
  | _ => none }
def FnExactAllPartitionsWrongFalsely : Prop := fnExactAllPartitionsRow.holds Try.pinned (OpenSpec.ofChange fnExactAllPartitionsWrong)

/-- 'laws.FnExactFileValue': WHATEVER THE INPUT: true; the input reads as it did. -/
def fnExactFileValueSpec : ChangeSpec := { name := "fnExactFileValue", fn := fun _ => fun
  | [d1, d2] => { results := [.lit (.bool true)], args := [d1, d2] }
  | _ => none }
def fnExactFileValueRow : OpenClaim := { program := "ytiocgomkminmoaa", sum := "fe2ef3a6eeedfb82f8aa7f714a2be07399a64023c0584b801a13a81ee18dfa77", func := "loop.example/g01125/laws.FnExactFileValue", spec := "fnExactFileValue", unfollowed := true, recurses := true, apart := false }
def FnExactFileValueSaid : Prop := fnExactFileValueRow.holds Try.pinned (OpenSpec.ofChange fnExactFileValueSpec)

/-- ITS FALSE NEIGHBOUR: 'it returns false'. Refute it at one input. -/
def fnExactFileValueWrong : ChangeSpec := { name := "fnExactFileValue", fn := fun _ => fun
  | [d1, d2] => { results := [.lit (.bool false)], args := [d1, d2] }
  | _ => none }
def FnExactFileValueWrongFalsely : Prop := fnExactFileValueRow.holds Try.pinned (OpenSpec.ofChange fnExactFileValueWrong)

/-- 'laws.FnExactFileNumbers': WHATEVER THE INPUT: true; the input reads as it did. -/
def fnExactFileNumbersSpec : ChangeSpec := { name := "fnExactFileNumbers", fn := fun _ => fun
  | [d] => { results := [.lit (.bool true)], args := [d] }
  | _ => none }
def fnExactFileNumbersRow : OpenClaim := { program := "ytiocgomkminmoaa", sum := "fe2ef3a6eeedfb82f8aa7f714a2be07399a64023c0584b801a13a81ee18dfa77", func := "loop.example/g01125/laws.FnExactFileNumbers", spec := "fnExactFileNumbers", unfollowed := true, recurses := true, apart := false }
def FnExactFileNumbersSaid : Prop := fnExactFileNumbersRow.holds Try.pinned (OpenSpec.ofChange fnExactFileNumbersSpec)

/-- ITS FALSE NEIGHBOUR: 'it returns false'. Refute it at one input. -/
def fnExactFileNumbersWrong : ChangeSpec := { name := "fnExactFileNumbers", fn := fun _ => fun
  | [d] => { results := [.lit (.bool false)], args := [d] }
  | _ => none }
def FnExactFileNumbersWrongFalsely : Prop := fnExactFileNumbersRow.holds Try.pinned (OpenSpec.ofChange fnExactFileNumbersWrong)

/-- 'laws.FnExactPartitionOf': WHATEVER THE INPUT: true; the input reads as it did. -/
def fnExactPartitionOfSpec : ChangeSpec := { name := "fnExactPartitionOf", fn := fun _ => fun
  | [d] => { results := [.lit (.bool true)], args := [d] }
  | _ => none }
def fnExactPartitionOfRow : OpenClaim := { program := "ytiocgomkminmoaa", sum := "fe2ef3a6eeedfb82f8aa7f714a2be07399a64023c0584b801a13a81ee18dfa77", func := "loop.example/g01125/laws.FnExactPartitionOf", spec := "fnExactPartitionOf", unfollowed := true, recurses := true, apart := false }
def FnExactPartitionOfSaid : Prop := fnExactPartitionOfRow.holds Try.pinned (OpenSpec.ofChange fnExactPartitionOfSpec)

/-- ITS FALSE NEIGHBOUR: 'it returns false'. Refute it at one input. -/
def fnExactPartitionOfWrong : ChangeSpec := { name := "fnExactPartitionOf", fn := fun _ => fun
  | [d] => { results := [.lit (.bool false)], args := [d] }
  | _ => none }
def FnExactPartitionOfWrongFalsely : Prop := fnExactPartitionOfRow.holds Try.pinned (OpenSpec.ofChange fnExactPartitionOfWrong)

/-- 'laws.FnExactHitsOf': WHATEVER THE INPUT: true; the input reads as it did. -/
def fnExactHitsOfSpec : ChangeSpec := { name := "fnExactHitsOf", fn := fun _ => fun
  | [d1, d2] => { results := [.lit (.bool true)], args := [d1, d2] }
  | _ => none }
def fnExactHitsOfRow : OpenClaim := { program := "ytiocgomkminmoaa", sum := "fe2ef3a6eeedfb82f8aa7f714a2be07399a64023c0584b801a13a81ee18dfa77", func := "loop.example/g01125/laws.FnExactHitsOf", spec := "fnExactHitsOf", unfollowed := true, recurses := true, apart := false }
def FnExactHitsOfSaid : Prop := fnExactHitsOfRow.holds Try.pinned (OpenSpec.ofChange fnExactHitsOfSpec)

/-- ITS FALSE NEIGHBOUR: 'it returns false'. Refute it at one input. -/
def fnExactHitsOfWrong : ChangeSpec := { name := "fnExactHitsOf", fn := fun _ => fun
  | [d1, d2] => { results := [.lit (.bool false)], args := [d1, d2] }
  | _ => none }
def FnExactHitsOfWrongFalsely : Prop := fnExactHitsOfRow.holds Try.pinned (OpenSpec.ofChange fnExactHitsOfWrong)

/-- 'laws.FnExactCountAvoiding': WHATEVER THE INPUT: true; the input reads as it did. -/
def fnExactCountAvoidingSpec : ChangeSpec := { name := "fnExactCountAvoiding", fn := fun _ => fun
  | [d] => { results := [.lit (.bool true)], args := [d] }
  | _ => none }
def fnExactCountAvoidingRow : OpenClaim := { program := "ytiocgomkminmoaa", sum := "fe2ef3a6eeedfb82f8aa7f714a2be07399a64023c0584b801a13a81ee18dfa77", func := "loop.example/g01125/laws.FnExactCountAvoiding", spec := "fnExactCountAvoiding", unfollowed := true, recurses := true, apart := false }
def FnExactCountAvoidingSaid : Prop := fnExactCountAvoidingRow.holds Try.pinned (OpenSpec.ofChange fnExactCountAvoidingSpec)

/-- ITS FALSE NEIGHBOUR: 'it returns false'. Refute it at one input. -/
def fnExactCountAvoidingWrong : ChangeSpec := { name := "fnExactCountAvoiding", fn := fun _ => fun
  | [d] => { results := [.lit (.bool false)], args := [d] }
  | _ => none }
def FnExactCountAvoidingWrongFalsely : Prop := fnExactCountAvoidingRow.holds Try.pinned (OpenSpec.ofChange fnExactCountAvoidingWrong)

/-- 'laws.FnExactHitNumbers': WHATEVER THE INPUT: true; the input reads as it did. -/
def fnExactHitNumbersSpec : ChangeSpec := { name := "fnExactHitNumbers", fn := fun _ => fun
  | [d] => { results := [.lit (.bool true)], args := [d] }
  | _ => none }
def fnExactHitNumbersRow : OpenClaim := { program := "ytiocgomkminmoaa", sum := "fe2ef3a6eeedfb82f8aa7f714a2be07399a64023c0584b801a13a81ee18dfa77", func := "loop.example/g01125/laws.FnExactHitNumbers", spec := "fnExactHitNumbers", unfollowed := true, recurses := true, apart := false }
def FnExactHitNumbersSaid : Prop := fnExactHitNumbersRow.holds Try.pinned (OpenSpec.ofChange fnExactHitNumbersSpec)

/-- ITS FALSE NEIGHBOUR: 'it returns false'. Refute it at one input. -/
def fnExactHitNumbersWrong : ChangeSpec := { name := "fnExactHitNumbers", fn := fun _ => fun
  | [d] => { results := [.lit (.bool false)], args := [d] }
  | _ => none }
def FnExactHitNumbersWrongFalsely : Prop := fnExactHitNumbersRow.holds Try.pinned (OpenSpec.ofChange fnExactHitNumbersWrong)

/-- 'laws.FnExactFirstHitting': WHATEVER THE INPUT: true; the input reads as it did. -/
def fnExactFirstHittingSpec : ChangeSpec := { name := "fnExactFirstHitting", fn := fun _ => fun
  | [d1, d2] => { results := [.lit (.bool true)], args := [d1, d2] }
  | _ => none }
def fnExactFirstHittingRow : OpenClaim := { program := "ytiocgomkminmoaa", sum := "fe2ef3a6eeedfb82f8aa7f714a2be07399a64023c0584b801a13a81ee18dfa77", func := "loop.example/g01125/laws.FnExactFirstHitting", spec := "fnExactFirstHitting", unfollowed := true, recurses := true, apart := false }
def FnExactFirstHittingSaid : Prop := fnExactFirstHittingRow.holds Try.pinned (OpenSpec.ofChange fnExactFirstHittingSpec)

/-- ITS FALSE NEIGHBOUR: 'it returns false'. Refute it at one input. -/
def fnExactFirstHittingWrong : ChangeSpec := { name := "fnExactFirstHitting", fn := fun _ => fun
  | [d1, d2] => { results := [.lit (.bool false)], args := [d1, d2] }
  | _ => none }
def FnExactFirstHittingWrongFalsely : Prop := fnExactFirstHittingRow.holds Try.pinned (OpenSpec.ofChange fnExactFirstHittingWrong)

/-- 'laws.FnExactPermutationsHitting': WHATEVER THE INPUT: true; the input reads as it did. -/
def fnExactPermutationsHittingSpec : ChangeSpec := { name := "fnExactPermutationsHitting", fn := fun _ => fun
  | [d1, d2] => { results := [.lit (.bool true)], args := [d1, d2] }
  | _ => none }
def fnExactPermutationsHittingRow : OpenClaim := { program := "ytiocgomkminmoaa", sum := "fe2ef3a6eeedfb82f8aa7f714a2be07399a64023c0584b801a13a81ee18dfa77", func := "loop.example/g01125/laws.FnExactPermutationsHitting", spec := "fnExactPermutationsHitting", unfollowed := true, recurses := true, apart := false }
def FnExactPermutationsHittingSaid : Prop := fnExactPermutationsHittingRow.holds Try.pinned (OpenSpec.ofChange fnExactPermutationsHittingSpec)

/-- ITS FALSE NEIGHBOUR: 'it returns false'. Refute it at one input. -/
def fnExactPermutationsHittingWrong : ChangeSpec := { name := "fnExactPermutationsHitting", fn := fun _ => fun
  | [d1, d2] => { results := [.lit (.bool false)], args := [d1, d2] }
  | _ => none }
def FnExactPermutationsHittingWrongFalsely : Prop := fnExactPermutationsHittingRow.holds Try.pinned (OpenSpec.ofChange fnExactPermutationsHittingWrong)

/-- 'laws.FnPermutationsHit': WHATEVER THE INPUT: true; the input reads as it did. -/
def fnPermutationsHitSpec : ChangeSpec := { name := "fnPermutationsHit", fn := fun _ => fun
  | [d1, d2] => { results := [.lit (.bool true)], args := [d1, d2] }
  | _ => none }
def fnPermutationsHitRow : OpenClaim := { program := "ytiocgomkminmoaa", sum := "fe2ef3a6eeedfb82f8aa7f714a2be07399a64023c0584b801a13a81ee18dfa77", func := "loop.example/g01125/laws.FnPermutationsHit", spec := "fnPermutationsHit", unfollowed := true, recurses := true, apart := false }
def FnPermutationsHitSaid : Prop := fnPermutationsHitRow.holds Try.pinned (OpenSpec.ofChange fnPermutationsHitSpec)

/-- ITS FALSE NEIGHBOUR: 'it returns false'. Refute it at one input. -/
def fnPermutationsHitWrong : ChangeSpec := { name := "fnPermutationsHit", fn := fun _ => fun
  | [d1, d2] => { results := [.lit (.bool false)], args := [d1, d2] }
  | _ => none }
def FnPermutationsHitWrongFalsely : Prop := fnPermutationsHitRow.holds Try.pinned (OpenSpec.ofChange fnPermutationsHitWrong)

/-- 'laws.FnKnownHits': WHATEVER THE INPUT: true; the input reads as it did. -/
def fnKnownHitsSpec : ChangeSpec := { name := "fnKnownHits", fn := fun _ => fun
  | [d1, d2] => { results := [.lit (.bool true)], args := [d1, d2] }
  | _ => none }
def fnKnownHitsRow : OpenClaim := { program := "ytiocgomkminmoaa", sum := "fe2ef3a6eeedfb82f8aa7f714a2be07399a64023c0584b801a13a81ee18dfa77", func := "loop.example/g01125/laws.FnKnownHits", spec := "fnKnownHits", unfollowed := true, recurses := true, apart := false }
def FnKnownHitsSaid : Prop := fnKnownHitsRow.holds Try.pinned (OpenSpec.ofChange fnKnownHitsSpec)

/-- ITS FALSE NEIGHBOUR: 'it returns false'. Refute it at one input. -/
def fnKnownHitsWrong : ChangeSpec := { name := "fnKnownHits", fn := fun _ => fun
  | [d1, d2] => { results := [.lit (.bool false)], args := [d1, d2] }
  | _ => none }
def FnKnownHitsWrongFalsely : Prop := fnKnownHitsRow.holds Try.pinned (OpenSpec.ofChange fnKnownHitsWrong)

/-- 'laws.FnHitsAndRooks': WHATEVER THE INPUT: true; the input reads as it did. -/
def fnHitsAndRooksSpec : ChangeSpec := { name := "fnHitsAndRooks", fn := fun _ => fun
  | [d1, d2] => { results := [.lit (.bool true)], args := [d1, d2] }
  | _ => none }
def fnHitsAndRooksRow : OpenClaim := { program := "ytiocgomkminmoaa", sum := "fe2ef3a6eeedfb82f8aa7f714a2be07399a64023c0584b801a13a81ee18dfa77", func := "loop.example/g01125/laws.FnHitsAndRooks", spec := "fnHitsAndRooks", unfollowed := true, recurses := true, apart := false }
def FnHitsAndRooksSaid : Prop := fnHitsAndRooksRow.holds Try.pinned (OpenSpec.ofChange fnHitsAndRooksSpec)

/-- ITS FALSE NEIGHBOUR: 'it returns false'. Refute it at one input. -/
def fnHitsAndRooksWrong : ChangeSpec := { name := "fnHitsAndRooks", fn := fun _ => fun
  | [d1, d2] => { results := [.lit (.bool false)], args := [d1, d2] }
  | _ => none }
def FnHitsAndRooksWrongFalsely : Prop := fnHitsAndRooksRow.holds Try.pinned (OpenSpec.ofChange fnHitsAndRooksWrong)

/- THE SECOND FORM. 'bulk': how many values and letters a reading holds, each counted each time it is reached (what is shared counts as often as it is met; a slice's spare places count too). A statement '..UptoSaid' is the law's where the arguments, and the package variables that the reading takes, are together of bulk at most 1048576: NARROWER than '..Said'. Prove '..Said' where nothing that the law and all that it calls make is longer than what came in: it says more and counts as full. Else prove '..UptoSaid'. A law counts once. -/
mutual
def uptoBulk {H : Type} : DataW H → Nat
  | .lit (.string bytes) => bytes.length + 1
  | .lit _ => 1
  | .nil => 1
  | .ptr d => uptoBulk d + 1
  | .slice elems spare => uptoBulkAll elems + uptoBulkAll spare + 1
  | .agg parts => uptoBulkAll parts + 1
  | .iface _ d => uptoBulk d + 1
  | .map entries => uptoBulkEntries entries + 1
  | .held _ => 1
def uptoBulkAll {H : Type} : List (DataW H) → Nat
  | [] => 0
  | d :: r => uptoBulk d + uptoBulkAll r
def uptoBulkEntries {H : Type} : List (Lit × DataW H) → Nat
  | [] => 0
  | x :: r => uptoBulkEntry x + uptoBulkEntries r
def uptoBulkEntry {H : Type} : Lit × DataW H → Nat
  | (.string bytes, d) => bytes.length + uptoBulk d + 1
  | (_, d) => uptoBulk d + 1
 end
def uptoSmall : (H : Type) → List (DataW H) → Bool := fun _ ds => decide (uptoBulkAll ds ≤ 1048576)
def OpenSpec.upto (s : _root_.Go.ChangeSpec) : _root_.Go.OpenSpec := { _root_.Go.OpenSpec.ofChange s with cond := some uptoSmall }

/-- 'laws.FnExactTableBoard', WHERE WHAT IT READS IS OF BULK AT MOST 1048576: true; the input reads as it did. -/
def fnExactTableBoardUptoRow : OpenClaim := { program := "ytiocgomkminmoaa", sum := "fe2ef3a6eeedfb82f8aa7f714a2be07399a64023c0584b801a13a81ee18dfa77", func := "loop.example/g01125/laws.FnExactTableBoard", spec := "fnExactTableBoard", unfollowed := true, recurses := true, apart := false, narrowed := true }
def FnExactTableBoardUptoSaid : Prop := fnExactTableBoardUptoRow.holds Try.pinned (OpenSpec.upto fnExactTableBoardSpec)

/-- 'laws.FnExactAboveBoard', WHERE WHAT IT READS IS OF BULK AT MOST 1048576: true; the input reads as it did. -/
def fnExactAboveBoardUptoRow : OpenClaim := { program := "ytiocgomkminmoaa", sum := "fe2ef3a6eeedfb82f8aa7f714a2be07399a64023c0584b801a13a81ee18dfa77", func := "loop.example/g01125/laws.FnExactAboveBoard", spec := "fnExactAboveBoard", unfollowed := true, recurses := true, apart := false, narrowed := true }
def FnExactAboveBoardUptoSaid : Prop := fnExactAboveBoardUptoRow.holds Try.pinned (OpenSpec.upto fnExactAboveBoardSpec)

/-- 'laws.FnExactDiagonalBoard', WHERE WHAT IT READS IS OF BULK AT MOST 1048576: true; the input reads as it did. -/
def fnExactDiagonalBoardUptoRow : OpenClaim := { program := "ytiocgomkminmoaa", sum := "fe2ef3a6eeedfb82f8aa7f714a2be07399a64023c0584b801a13a81ee18dfa77", func := "loop.example/g01125/laws.FnExactDiagonalBoard", spec := "fnExactDiagonalBoard", unfollowed := true, recurses := true, apart := false, narrowed := true }
def FnExactDiagonalBoardUptoSaid : Prop := fnExactDiagonalBoardUptoRow.holds Try.pinned (OpenSpec.upto fnExactDiagonalBoardSpec)

/-- 'laws.FnExactArrowBoard', WHERE WHAT IT READS IS OF BULK AT MOST 1048576: true; the input reads as it did. -/
def fnExactArrowBoardUptoRow : OpenClaim := { program := "ytiocgomkminmoaa", sum := "fe2ef3a6eeedfb82f8aa7f714a2be07399a64023c0584b801a13a81ee18dfa77", func := "loop.example/g01125/laws.FnExactArrowBoard", spec := "fnExactArrowBoard", unfollowed := true, recurses := true, apart := false, narrowed := true }
def FnExactArrowBoardUptoSaid : Prop := fnExactArrowBoardUptoRow.holds Try.pinned (OpenSpec.upto fnExactArrowBoardSpec)

/-- 'laws.FnExactIsFilePlacement', WHERE WHAT IT READS IS OF BULK AT MOST 1048576: true; the input reads as it did. -/
def fnExactIsFilePlacementUptoRow : OpenClaim := { program := "ytiocgomkminmoaa", sum := "fe2ef3a6eeedfb82f8aa7f714a2be07399a64023c0584b801a13a81ee18dfa77", func := "loop.example/g01125/laws.FnExactIsFilePlacement", spec := "fnExactIsFilePlacement", unfollowed := true, recurses := true, apart := false, narrowed := true }
def FnExactIsFilePlacementUptoSaid : Prop := fnExactIsFilePlacementUptoRow.holds Try.pinned (OpenSpec.upto fnExactIsFilePlacementSpec)

/-- 'laws.FnExactHitsFromRooks', WHERE WHAT IT READS IS OF BULK AT MOST 1048576: true; the input reads as it did. -/
def fnExactHitsFromRooksUptoRow : OpenClaim := { program := "ytiocgomkminmoaa", sum := "fe2ef3a6eeedfb82f8aa7f714a2be07399a64023c0584b801a13a81ee18dfa77", func := "loop.example/g01125/laws.FnExactHitsFromRooks", spec := "fnExactHitsFromRooks", unfollowed := true, recurses := true, apart := false, narrowed := true }
def FnExactHitsFromRooksUptoSaid : Prop := fnExactHitsFromRooksUptoRow.holds Try.pinned (OpenSpec.upto fnExactHitsFromRooksSpec)

/-- 'laws.FnExactRooksFromHits', WHERE WHAT IT READS IS OF BULK AT MOST 1048576: true; the input reads as it did. -/
def fnExactRooksFromHitsUptoRow : OpenClaim := { program := "ytiocgomkminmoaa", sum := "fe2ef3a6eeedfb82f8aa7f714a2be07399a64023c0584b801a13a81ee18dfa77", func := "loop.example/g01125/laws.FnExactRooksFromHits", spec := "fnExactRooksFromHits", unfollowed := true, recurses := true, apart := false, narrowed := true }
def FnExactRooksFromHitsUptoSaid : Prop := fnExactRooksFromHitsUptoRow.holds Try.pinned (OpenSpec.upto fnExactRooksFromHitsSpec)

/-- 'laws.FnExactAllPartitions', WHERE WHAT IT READS IS OF BULK AT MOST 1048576: true; the input reads as it did. -/
def fnExactAllPartitionsUptoRow : OpenClaim := { program := "ytiocgomkminmoaa", sum := "fe2ef3a6eeedfb82f8aa7f714a2be07399a64023c0584b801a13a81ee18dfa77", func := "loop.example/g01125/laws.FnExactAllPartitions", spec := "fnExactAllPartitions", unfollowed := true, recurses := true, apart := false, narrowed := true }
def FnExactAllPartitionsUptoSaid : Prop := fnExactAllPartitionsUptoRow.holds Try.pinned (OpenSpec.upto fnExactAllPartitionsSpec)

/-- 'laws.FnExactFileValue', WHERE WHAT IT READS IS OF BULK AT MOST 1048576: true; the input reads as it did. -/
def fnExactFileValueUptoRow : OpenClaim := { program := "ytiocgomkminmoaa", sum := "fe2ef3a6eeedfb82f8aa7f714a2be07399a64023c0584b801a13a81ee18dfa77", func := "loop.example/g01125/laws.FnExactFileValue", spec := "fnExactFileValue", unfollowed := true, recurses := true, apart := false, narrowed := true }
def FnExactFileValueUptoSaid : Prop := fnExactFileValueUptoRow.holds Try.pinned (OpenSpec.upto fnExactFileValueSpec)

/-- 'laws.FnExactFileNumbers', WHERE WHAT IT READS IS OF BULK AT MOST 1048576: true; the input reads as it did. -/
def fnExactFileNumbersUptoRow : OpenClaim := { program := "ytiocgomkminmoaa", sum := "fe2ef3a6eeedfb82f8aa7f714a2be07399a64023c0584b801a13a81ee18dfa77", func := "loop.example/g01125/laws.FnExactFileNumbers", spec := "fnExactFileNumbers", unfollowed := true, recurses := true, apart := false, narrowed := true }
def FnExactFileNumbersUptoSaid : Prop := fnExactFileNumbersUptoRow.holds Try.pinned (OpenSpec.upto fnExactFileNumbersSpec)

/-- 'laws.FnExactPartitionOf', WHERE WHAT IT READS IS OF BULK AT MOST 1048576: true; the input reads as it did. -/
def fnExactPartitionOfUptoRow : OpenClaim := { program := "ytiocgomkminmoaa", sum := "fe2ef3a6eeedfb82f8aa7f714a2be07399a64023c0584b801a13a81ee18dfa77", func := "loop.example/g01125/laws.FnExactPartitionOf", spec := "fnExactPartitionOf", unfollowed := true, recurses := true, apart := false, narrowed := true }
def FnExactPartitionOfUptoSaid : Prop := fnExactPartitionOfUptoRow.holds Try.pinned (OpenSpec.upto fnExactPartitionOfSpec)

/-- 'laws.FnExactHitsOf', WHERE WHAT IT READS IS OF BULK AT MOST 1048576: true; the input reads as it did. -/
def fnExactHitsOfUptoRow : OpenClaim := { program := "ytiocgomkminmoaa", sum := "fe2ef3a6eeedfb82f8aa7f714a2be07399a64023c0584b801a13a81ee18dfa77", func := "loop.example/g01125/laws.FnExactHitsOf", spec := "fnExactHitsOf", unfollowed := true, recurses := true, apart := false, narrowed := true }
def FnExactHitsOfUptoSaid : Prop := fnExactHitsOfUptoRow.holds Try.pinned (OpenSpec.upto fnExactHitsOfSpec)

/-- 'laws.FnExactCountAvoiding', WHERE WHAT IT READS IS OF BULK AT MOST 1048576: true; the input reads as it did. -/
def fnExactCountAvoidingUptoRow : OpenClaim := { program := "ytiocgomkminmoaa", sum := "fe2ef3a6eeedfb82f8aa7f714a2be07399a64023c0584b801a13a81ee18dfa77", func := "loop.example/g01125/laws.FnExactCountAvoiding", spec := "fnExactCountAvoiding", unfollowed := true, recurses := true, apart := false, narrowed := true }
def FnExactCountAvoidingUptoSaid : Prop := fnExactCountAvoidingUptoRow.holds Try.pinned (OpenSpec.upto fnExactCountAvoidingSpec)

/-- 'laws.FnExactHitNumbers', WHERE WHAT IT READS IS OF BULK AT MOST 1048576: true; the input reads as it did. -/
def fnExactHitNumbersUptoRow : OpenClaim := { program := "ytiocgomkminmoaa", sum := "fe2ef3a6eeedfb82f8aa7f714a2be07399a64023c0584b801a13a81ee18dfa77", func := "loop.example/g01125/laws.FnExactHitNumbers", spec := "fnExactHitNumbers", unfollowed := true, recurses := true, apart := false, narrowed := true }
def FnExactHitNumbersUptoSaid : Prop := fnExactHitNumbersUptoRow.holds Try.pinned (OpenSpec.upto fnExactHitNumbersSpec)

/-- 'laws.FnExactFirstHitting', WHERE WHAT IT READS IS OF BULK AT MOST 1048576: true; the input reads as it did. -/
def fnExactFirstHittingUptoRow : OpenClaim := { program := "ytiocgomkminmoaa", sum := "fe2ef3a6eeedfb82f8aa7f714a2be07399a64023c0584b801a13a81ee18dfa77", func := "loop.example/g01125/laws.FnExactFirstHitting", spec := "fnExactFirstHitting", unfollowed := true, recurses := true, apart := false, narrowed := true }
def FnExactFirstHittingUptoSaid : Prop := fnExactFirstHittingUptoRow.holds Try.pinned (OpenSpec.upto fnExactFirstHittingSpec)

/-- 'laws.FnExactPermutationsHitting', WHERE WHAT IT READS IS OF BULK AT MOST 1048576: true; the input reads as it did. -/
def fnExactPermutationsHittingUptoRow : OpenClaim := { program := "ytiocgomkminmoaa", sum := "fe2ef3a6eeedfb82f8aa7f714a2be07399a64023c0584b801a13a81ee18dfa77", func := "loop.example/g01125/laws.FnExactPermutationsHitting", spec := "fnExactPermutationsHitting", unfollowed := true, recurses := true, apart := false, narrowed := true }
def FnExactPermutationsHittingUptoSaid : Prop := fnExactPermutationsHittingUptoRow.holds Try.pinned (OpenSpec.upto fnExactPermutationsHittingSpec)

/-- 'laws.FnPermutationsHit', WHERE WHAT IT READS IS OF BULK AT MOST 1048576: true; the input reads as it did. -/
def fnPermutationsHitUptoRow : OpenClaim := { program := "ytiocgomkminmoaa", sum := "fe2ef3a6eeedfb82f8aa7f714a2be07399a64023c0584b801a13a81ee18dfa77", func := "loop.example/g01125/laws.FnPermutationsHit", spec := "fnPermutationsHit", unfollowed := true, recurses := true, apart := false, narrowed := true }
def FnPermutationsHitUptoSaid : Prop := fnPermutationsHitUptoRow.holds Try.pinned (OpenSpec.upto fnPermutationsHitSpec)

/-- 'laws.FnKnownHits', WHERE WHAT IT READS IS OF BULK AT MOST 1048576: true; the input reads as it did. -/
def fnKnownHitsUptoRow : OpenClaim := { program := "ytiocgomkminmoaa", sum := "fe2ef3a6eeedfb82f8aa7f714a2be07399a64023c0584b801a13a81ee18dfa77", func := "loop.example/g01125/laws.FnKnownHits", spec := "fnKnownHits", unfollowed := true, recurses := true, apart := false, narrowed := true }
def FnKnownHitsUptoSaid : Prop := fnKnownHitsUptoRow.holds Try.pinned (OpenSpec.upto fnKnownHitsSpec)

/-- 'laws.FnHitsAndRooks', WHERE WHAT IT READS IS OF BULK AT MOST 1048576: true; the input reads as it did. -/
def fnHitsAndRooksUptoRow : OpenClaim := { program := "ytiocgomkminmoaa", sum := "fe2ef3a6eeedfb82f8aa7f714a2be07399a64023c0584b801a13a81ee18dfa77", func := "loop.example/g01125/laws.FnHitsAndRooks", spec := "fnHitsAndRooks", unfollowed := true, recurses := true, apart := false, narrowed := true }
def FnHitsAndRooksUptoSaid : Prop := fnHitsAndRooksUptoRow.holds Try.pinned (OpenSpec.upto fnHitsAndRooksSpec)

end Rows
end Go.Proofs.Ytiocgomkminmoaa
