/- The program's Derangements returns what the reference's returns, for all arguments. No conditions. -/
import Derived.Test.YtljcbimhdoklbaaPFnExactDerangementsx1
namespace Go.Proofs.Ytljcbimhdoklbaa.Pure
open Go.RowKit Go.Proofs.Ytljcbimhdoklbaa.PFnExactDerangements Go.Proofs.YtljcbimhdoklbaaW.PrintWords Go.Proofs.YtljcbimhdoklbaaW.PrintLast

theorem derangements_fin : ∀ i : Fin 13, laws_FnExactDerangements.f 20 (i.val : Int) = some true := by
  decide +kernel

theorem FnExactDerangements : laws_FnExactDerangements.Pure := by
  intro n _
  by_cases h : 0 ≤ n ∧ n ≤ 12
  · have := derangements_fin ⟨n.toNat, by omega⟩
    refine ⟨20, ?_⟩
    simp only at this
    rw [show ((n.toNat : Nat) : Int) = n by omega] at this
    exact this
  · refine ⟨1, ?_⟩
    unfold laws_FnExactDerangements.f spec_Derangements.f impl_Derangements.f spec_l1In.f impl_within.f
    by_cases h1 : 0 ≤ n <;> by_cases h2 : n ≤ 12 <;> first
      | (exfalso; exact h ⟨h1, h2⟩)
      | simp [h1, h2]

end Go.Proofs.Ytljcbimhdoklbaa.Pure
