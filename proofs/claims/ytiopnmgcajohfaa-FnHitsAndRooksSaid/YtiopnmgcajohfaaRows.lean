/-
  No cell of these rows narrows 'for every input' (looked for: loops, veiled, ifaces, maps, wideKeys, modest, calm, conditions, laid).
  DERIVED. THE GIVEN ROWS OF THIS SEAT. 7 by the template 'for every input the law returns true; each argument reads behind the call as it read before'; 0 by the template 'total and deterministic' (their statements: YtiopnmgcajohfaaTotals.lean).
  GIVEN WITH THE SEED: the statements are not yours to turn. If you find one false, say at which input.
  Laid BY PROGRAM, IN A SANDBOX (cutbox-rows.mjs): the forced cells as the released guide's own fill.sh prints them over the translation e8bdfce61851b372… (all of the seat's roots in one cut). By AI agents, Wed Nov 11 2026. No macro, syntax, notation, axiom, sorry.
-/
import Derived.Test.YtiopnmgcajohfaaChecked
import GoSem.Claim
import GoSem.ClaimJoined
import GoSem.ClaimMapViews
import Derived.JoinedTies
import Derived.KernelRfl
namespace Go.Proofs.Ytiopnmgcajohfaa
/- THE CELL 'sum', in the pinned program and in every row, IS THE sha256 OF THE DUMP (.gsa) THAT YtiopnmgcajohfaaProg.lean LOADS. Nothing in Lean hashes anything: it is a label: what it is worth is what the hold of that sum in a sandbox is worth. -/
noncomputable def Try.pinned : Pinned := { name := "ytiopnmgcajohfaa", sum := "e8bdfce61851b372d6a831278b445a3a09261109bf514e7c1ed6f68f08c036b9", checked := Try.checked }
namespace Rows
def none {H : Type} : Left H := { results := [], args := [] }

/-- 'laws.FnExactAllPartitions': WHATEVER THE INPUT: true; the input reads as it did. -/
def fnExactAllPartitionsSpec : ChangeSpec := { name := "fnExactAllPartitions", fn := fun _ => fun
  | [d1, d2] => { results := [.lit (.bool true)], args := [d1, d2] }
  | _ => none }
def fnExactAllPartitionsRow : OpenClaim := { program := "ytiopnmgcajohfaa", sum := "e8bdfce61851b372d6a831278b445a3a09261109bf514e7c1ed6f68f08c036b9", func := "loop.example/g01125/laws.FnExactAllPartitions", spec := "fnExactAllPartitions", unfollowed := true, recurses := true, apart := false }
def FnExactAllPartitionsSaid : Prop := fnExactAllPartitionsRow.holds Try.pinned (OpenSpec.ofChange fnExactAllPartitionsSpec)

/-- ITS FALSE NEIGHBOUR: 'it returns false'. Refute it at one input. -/
def fnExactAllPartitionsWrong : ChangeSpec := { name := "fnExactAllPartitions", fn := fun _ => fun
  | [d1, d2] => { results := [.lit (.bool false)], args := [d1, d2] }
  | _ => none }
def FnExactAllPartitionsWrongFalsely : Prop := fnExactAllPartitionsRow.holds Try.pinned (OpenSpec.ofChange fnExactAllPartitionsWrong)

/-- 'laws.FnExactPartitionOf': WHATEVER THE INPUT: true; the input reads as it did. -/
def fnExactPartitionOfSpec : ChangeSpec := { name := "fnExactPartitionOf", fn := fun _ => fun
  | [d] => { results := [.lit (.bool true)], args := [d] }
  | _ => none }
def fnExactPartitionOfRow : OpenClaim := { program := "ytiopnmgcajohfaa", sum := "e8bdfce61851b372d6a831278b445a3a09261109bf514e7c1ed6f68f08c036b9", func := "loop.example/g01125/laws.FnExactPartitionOf", spec := "fnExactPartitionOf", unfollowed := true, recurses := true, apart := false }
def FnExactPartitionOfSaid : Prop := fnExactPartitionOfRow.holds Try.pinned (OpenSpec.ofChange fnExactPartitionOfSpec)

/-- ITS FALSE NEIGHBOUR: 'it returns false'. Refute it at one input. -/
def fnExactPartitionOfWrong : ChangeSpec := { name := "fnExactPartitionOf", fn := fun _ => fun
  | [d] => { results := [.lit (.bool false)], args := [d] }
  | _ => none }
def FnExactPartitionOfWrongFalsely : Prop := fnExactPartitionOfRow.holds Try.pinned (OpenSpec.ofChange fnExactPartitionOfWrong)

/-- 'laws.FnExactFirstHitting': WHATEVER THE INPUT: true; the input reads as it did. -/
def fnExactFirstHittingSpec : ChangeSpec := { name := "fnExactFirstHitting", fn := fun _ => fun
  | [d1, d2] => { results := [.lit (.bool true)], args := [d1, d2] }
  | _ => none }
def fnExactFirstHittingRow : OpenClaim := { program := "ytiopnmgcajohfaa", sum := "e8bdfce61851b372d6a831278b445a3a09261109bf514e7c1ed6f68f08c036b9", func := "loop.example/g01125/laws.FnExactFirstHitting", spec := "fnExactFirstHitting", unfollowed := true, recurses := true, apart := false }
def FnExactFirstHittingSaid : Prop := fnExactFirstHittingRow.holds Try.pinned (OpenSpec.ofChange fnExactFirstHittingSpec)

/-- ITS FALSE NEIGHBOUR: 'it returns false'. Refute it at one input. -/
def fnExactFirstHittingWrong : ChangeSpec := { name := "fnExactFirstHitting", fn := fun _ => fun
  | [d1, d2] => { results := [.lit (.bool false)], args := [d1, d2] }
  | _ => none }
def FnExactFirstHittingWrongFalsely : Prop := fnExactFirstHittingRow.holds Try.pinned (OpenSpec.ofChange fnExactFirstHittingWrong)

/-- 'laws.FnExactPermutationsHitting': WHATEVER THE INPUT: true; the input reads as it did. -/
def fnExactPermutationsHittingSpec : ChangeSpec := { name := "fnExactPermutationsHitting", fn := fun _ => fun
  | [d1, d2] => { results := [.lit (.bool true)], args := [d1, d2] }
  | _ => none }
def fnExactPermutationsHittingRow : OpenClaim := { program := "ytiopnmgcajohfaa", sum := "e8bdfce61851b372d6a831278b445a3a09261109bf514e7c1ed6f68f08c036b9", func := "loop.example/g01125/laws.FnExactPermutationsHitting", spec := "fnExactPermutationsHitting", unfollowed := true, recurses := true, apart := false }
def FnExactPermutationsHittingSaid : Prop := fnExactPermutationsHittingRow.holds Try.pinned (OpenSpec.ofChange fnExactPermutationsHittingSpec)

/-- ITS FALSE NEIGHBOUR: 'it returns false'. Refute it at one input. -/
def fnExactPermutationsHittingWrong : ChangeSpec := { name := "fnExactPermutationsHitting", fn := fun _ => fun
  | [d1, d2] => { results := [.lit (.bool false)], args := [d1, d2] }
  | _ => none }
def FnExactPermutationsHittingWrongFalsely : Prop := fnExactPermutationsHittingRow.holds Try.pinned (OpenSpec.ofChange fnExactPermutationsHittingWrong)

/-- 'laws.FnPermutationsHit': WHATEVER THE INPUT: true; the input reads as it did. -/
def fnPermutationsHitSpec : ChangeSpec := { name := "fnPermutationsHit", fn := fun _ => fun
  | [d1, d2] => { results := [.lit (.bool true)], args := [d1, d2] }
  | _ => none }
def fnPermutationsHitRow : OpenClaim := { program := "ytiopnmgcajohfaa", sum := "e8bdfce61851b372d6a831278b445a3a09261109bf514e7c1ed6f68f08c036b9", func := "loop.example/g01125/laws.FnPermutationsHit", spec := "fnPermutationsHit", unfollowed := true, recurses := true, apart := false }
def FnPermutationsHitSaid : Prop := fnPermutationsHitRow.holds Try.pinned (OpenSpec.ofChange fnPermutationsHitSpec)

/-- ITS FALSE NEIGHBOUR: 'it returns false'. Refute it at one input. -/
def fnPermutationsHitWrong : ChangeSpec := { name := "fnPermutationsHit", fn := fun _ => fun
  | [d1, d2] => { results := [.lit (.bool false)], args := [d1, d2] }
  | _ => none }
def FnPermutationsHitWrongFalsely : Prop := fnPermutationsHitRow.holds Try.pinned (OpenSpec.ofChange fnPermutationsHitWrong)

/-- 'laws.FnKnownHits': WHATEVER THE INPUT: true; the input reads as it did. -/
def fnKnownHitsSpec : ChangeSpec := { name := "fnKnownHits", fn := fun _ => fun
  | [d1, d2] => { results := [.lit (.bool true)], args := [d1, d2] }
  | _ => none }
def fnKnownHitsRow : OpenClaim := { program := "ytiopnmgcajohfaa", sum := "e8bdfce61851b372d6a831278b445a3a09261109bf514e7c1ed6f68f08c036b9", func := "loop.example/g01125/laws.FnKnownHits", spec := "fnKnownHits", unfollowed := true, recurses := true, apart := false }
def FnKnownHitsSaid : Prop := fnKnownHitsRow.holds Try.pinned (OpenSpec.ofChange fnKnownHitsSpec)

/-- ITS FALSE NEIGHBOUR: 'it returns false'. Refute it at one input. -/
def fnKnownHitsWrong : ChangeSpec := { name := "fnKnownHits", fn := fun _ => fun
  | [d1, d2] => { results := [.lit (.bool false)], args := [d1, d2] }
  | _ => none }
def FnKnownHitsWrongFalsely : Prop := fnKnownHitsRow.holds Try.pinned (OpenSpec.ofChange fnKnownHitsWrong)

/-- 'laws.FnHitsAndRooks': WHATEVER THE INPUT: true; the input reads as it did. -/
def fnHitsAndRooksSpec : ChangeSpec := { name := "fnHitsAndRooks", fn := fun _ => fun
  | [d1, d2] => { results := [.lit (.bool true)], args := [d1, d2] }
  | _ => none }
def fnHitsAndRooksRow : OpenClaim := { program := "ytiopnmgcajohfaa", sum := "e8bdfce61851b372d6a831278b445a3a09261109bf514e7c1ed6f68f08c036b9", func := "loop.example/g01125/laws.FnHitsAndRooks", spec := "fnHitsAndRooks", unfollowed := true, recurses := true, apart := false }
def FnHitsAndRooksSaid : Prop := fnHitsAndRooksRow.holds Try.pinned (OpenSpec.ofChange fnHitsAndRooksSpec)

/-- ITS FALSE NEIGHBOUR: 'it returns false'. Refute it at one input. -/
def fnHitsAndRooksWrong : ChangeSpec := { name := "fnHitsAndRooks", fn := fun _ => fun
  | [d1, d2] => { results := [.lit (.bool false)], args := [d1, d2] }
  | _ => none }
def FnHitsAndRooksWrongFalsely : Prop := fnHitsAndRooksRow.holds Try.pinned (OpenSpec.ofChange fnHitsAndRooksWrong)

/- THE SECOND FORM. 'bulk': how many values and letters a reading holds, each counted each time it is reached (what is shared counts as often as it is met; a slice's spare places count too). A statement '..UptoSaid' is the law's where the arguments, and the package variables that the reading takes, are together of bulk at most 1048576: NARROWER than '..Said'. Prove '..Said' where nothing that the law and all that it calls make is longer than what came in: it says more and counts as full. Else prove '..UptoSaid'. A law counts once. -/
mutual
def uptoBulk {H : Type} : DataW H → Nat
  | .lit (.string bytes) => bytes.length + 1
  | .lit _ => 1
  | .nil => 1
  | .ptr d => uptoBulk d + 1
  | .slice elems spare => uptoBulkAll elems + uptoBulkAll spare + 1
  | .agg parts => uptoBulkAll parts + 1
  | .iface _ d => uptoBulk d + 1
  | .map entries => uptoBulkEntries entries + 1
  | .held _ => 1
def uptoBulkAll {H : Type} : List (DataW H) → Nat
  | [] => 0
  | d :: r => uptoBulk d + uptoBulkAll r
def uptoBulkEntries {H : Type} : List (Lit × DataW H) → Nat
  | [] => 0
  | x :: r => uptoBulkEntry x + uptoBulkEntries r
def uptoBulkEntry {H : Type} : Lit × DataW H → Nat
  | (.string bytes, d) => bytes.length + uptoBulk d + 1
  | (_, d) => uptoBulk d + 1
 end
def uptoSmall : (H : Type) → List (DataW H) → Bool := fun _ ds => decide (uptoBulkAll ds ≤ 1048576)
def OpenSpec.upto (s : _root_.Go.ChangeSpec) : _root_.Go.OpenSpec := { _root_.Go.OpenSpec.ofChange s with cond := some uptoSmall }

/-- 'laws.FnExactAllPartitions', WHERE WHAT IT READS IS OF BULK AT MOST 1048576: true; the input reads as it did. -/
def fnExactAllPartitionsUptoRow : OpenClaim := { program := "ytiopnmgcajohfaa", sum := "e8bdfce61851b372d6a831278b445a3a09261109bf514e7c1ed6f68f08c036b9", func := "loop.example/g01125/laws.FnExactAllPartitions", spec := "fnExactAllPartitions", unfollowed := true, recurses := true, apart := false, narrowed := true }
def FnExactAllPartitionsUptoSaid : Prop := fnExactAllPartitionsUptoRow.holds Try.pinned (OpenSpec.upto fnExactAllPartitionsSpec)

/-- 'laws.FnExactPartitionOf', WHERE WHAT IT READS IS OF BULK AT MOST 1048576: true; the input reads as it did. -/
def fnExactPartitionOfUptoRow : OpenClaim := { program := "ytiopnmgcajohfaa", sum := "e8bdfce61851b372d6a831278b445a3a09261109bf514e7c1ed6f68f08c036b9", func := "loop.example/g01125/laws.FnExactPartitionOf", spec := "fnExactPartitionOf", unfollowed := true, recurses := true, apart := false, narrowed := true }
def FnExactPartitionOfUptoSaid : Prop := fnExactPartitionOfUptoRow.holds Try.pinned (OpenSpec.upto fnExactPartitionOfSpec)

/-- 'laws.FnExactFirstHitting', WHERE WHAT IT READS IS OF BULK AT MOST 1048576: true; the input reads as it did. -/
def fnExactFirstHittingUptoRow : OpenClaim := { program := "ytiopnmgcajohfaa", sum := "e8bdfce61851b372d6a831278b445a3a09261109bf514e7c1ed6f68f08c036b9", func := "loop.example/g01125/laws.FnExactFirstHitting", spec := "fnExactFirstHitting", unfollowed := true, recurses := true, apart := false, narrowed := true }
def FnExactFirstHittingUptoSaid : Prop := fnExactFirstHittingUptoRow.holds Try.pinned (OpenSpec.upto fnExactFirstHittingSpec)

/-- 'laws.FnExactPermutationsHitting', WHERE WHAT IT READS IS OF BULK AT MOST 1048576: true; the input reads as it did. -/
def fnExactPermutationsHittingUptoRow : OpenClaim := { program := "ytiopnmgcajohfaa", sum := "e8bdfce61851b372d6a831278b445a3a09261109bf514e7c1ed6f68f08c036b9", func := "loop.example/g01125/laws.FnExactPermutationsHitting", spec := "fnExactPermutationsHitting", unfollowed := true, recurses := true, apart := false, narrowed := true }
def FnExactPermutationsHittingUptoSaid : Prop := fnExactPermutationsHittingUptoRow.holds Try.pinned (OpenSpec.upto fnExactPermutationsHittingSpec)

/-- 'laws.FnPermutationsHit', WHERE WHAT IT READS IS OF BULK AT MOST 1048576: true; the input reads as it did. -/
def fnPermutationsHitUptoRow : OpenClaim := { program := "ytiopnmgcajohfaa", sum := "e8bdfce61851b372d6a831278b445a3a09261109bf514e7c1ed6f68f08c036b9", func := "loop.example/g01125/laws.FnPermutationsHit", spec := "fnPermutationsHit", unfollowed := true, recurses := true, apart := false, narrowed := true }
def FnPermutationsHitUptoSaid : Prop := fnPermutationsHitUptoRow.holds Try.pinned (OpenSpec.upto fnPermutationsHitSpec)

/-- 'laws.FnKnownHits', WHERE WHAT IT READS IS OF BULK AT MOST 1048576: true; the input reads as it did. -/
def fnKnownHitsUptoRow : OpenClaim := { program := "ytiopnmgcajohfaa", sum := "e8bdfce61851b372d6a831278b445a3a09261109bf514e7c1ed6f68f08c036b9", func := "loop.example/g01125/laws.FnKnownHits", spec := "fnKnownHits", unfollowed := true, recurses := true, apart := false, narrowed := true }
def FnKnownHitsUptoSaid : Prop := fnKnownHitsUptoRow.holds Try.pinned (OpenSpec.upto fnKnownHitsSpec)

/-- 'laws.FnHitsAndRooks', WHERE WHAT IT READS IS OF BULK AT MOST 1048576: true; the input reads as it did. -/
def fnHitsAndRooksUptoRow : OpenClaim := { program := "ytiopnmgcajohfaa", sum := "e8bdfce61851b372d6a831278b445a3a09261109bf514e7c1ed6f68f08c036b9", func := "loop.example/g01125/laws.FnHitsAndRooks", spec := "fnHitsAndRooks", unfollowed := true, recurses := true, apart := false, narrowed := true }
def FnHitsAndRooksUptoSaid : Prop := fnHitsAndRooksUptoRow.holds Try.pinned (OpenSpec.upto fnHitsAndRooksSpec)

end Rows
end Go.Proofs.Ytiopnmgcajohfaa
