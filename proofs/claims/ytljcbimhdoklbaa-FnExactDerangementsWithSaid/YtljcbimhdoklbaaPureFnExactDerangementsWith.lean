/- The program's DerangementsWith returns what the reference's returns, for all arguments. No conditions. -/
import Derived.Test.YtljcbimhdoklbaaPFnExactDerangementsWithx1
namespace Go.Proofs.Ytljcbimhdoklbaa.Pure
open Go.RowKit Go.Proofs.Ytljcbimhdoklbaa.PFnExactDerangementsWith Go.Proofs.YtljcbimhdoklbaaW.PrintWords Go.Proofs.YtljcbimhdoklbaaW.PrintLast

theorem derangementsWith_fin : ∀ i : Fin 13, ∀ j : Fin 13, laws_FnExactDerangementsWith.f 40 (i.val : Int) (j.val : Int) = some true := by
  decide +kernel

theorem FnExactDerangementsWith : laws_FnExactDerangementsWith.Pure := by
  intro n q _ _
  by_cases h : 0 ≤ n ∧ n ≤ 12 ∧ 0 ≤ q ∧ q ≤ n
  · have := derangementsWith_fin ⟨n.toNat, by omega⟩ ⟨q.toNat, by omega⟩
    refine ⟨40, ?_⟩
    simp only at this
    rw [show ((n.toNat : Nat) : Int) = n by omega, show ((q.toNat : Nat) : Int) = q by omega] at this
    exact this
  · refine ⟨1, ?_⟩
    unfold laws_FnExactDerangementsWith.f spec_DerangementsWith.f impl_DerangementsWith.f spec_l1In.f impl_within.f
    by_cases h1 : 0 ≤ n <;> by_cases h2 : n ≤ 12 <;> by_cases h3 : 0 ≤ q <;> by_cases h4 : q ≤ n <;> first
      | (exfalso; exact h ⟨h1, h2, h3, h4⟩)
      | simp [h1, h2, h3, h4, spec_DerangementsWith.j0, impl_DerangementsWith.j0]

end Go.Proofs.Ytljcbimhdoklbaa.Pure
