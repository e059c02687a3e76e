/- The program's CountPartitions returns what the reference's returns, for all arguments. No conditions. -/
import Derived.Test.YtljcbimhdoklbaaQ5
namespace Go.Proofs.Ytljcbimhdoklbaa.Pure
open Go.RowKit Go.Proofs.Ytljcbimhdoklbaa.Q Go.Proofs.YtljcbimhdoklbaaW.PrintWords Go.Proofs.YtljcbimhdoklbaaW.PrintLast

theorem countPartitions_fin : ∀ i : Fin 11, laws_FnExactCountPartitions.f 400 (i.val : Int) = some true := by
  decide +kernel

theorem FnExactCountPartitions : laws_FnExactCountPartitions.Pure := by
  intro n _
  by_cases h : 0 ≤ n ∧ n ≤ 10
  · have := countPartitions_fin ⟨n.toNat, by omega⟩
    refine ⟨400, ?_⟩
    simp only at this
    rw [show ((n.toNat : Nat) : Int) = n by omega] at this
    exact this
  · refine ⟨1, ?_⟩
    unfold laws_FnExactCountPartitions.f spec_CountPartitions.f impl_CountPartitions.f spec_l1In.f impl_within.f
    by_cases h1 : 0 ≤ n <;> by_cases h2 : n ≤ 10 <;> first
      | (exfalso; exact h ⟨h1, h2⟩)
      | simp [h1, h2]

end Go.Proofs.Ytljcbimhdoklbaa.Pure
