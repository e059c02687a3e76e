/- The program's StirlingFirst returns what the reference's returns, for all arguments. No conditions. -/
import Derived.Test.YtljcbimhdoklbaaQ3
namespace Go.Proofs.Ytljcbimhdoklbaa.Pure
open Go.RowKit Go.Proofs.Ytljcbimhdoklbaa.Q Go.Proofs.YtljcbimhdoklbaaW.PrintWords Go.Proofs.YtljcbimhdoklbaaW.PrintLast

theorem StirlingFirst_fin : ∀ i : Fin 11, ∀ j : Fin 11, laws_FnExactStirlingFirst.f 300 (i.val : Int) (j.val : Int) = some true := by
  decide +kernel

theorem FnExactStirlingFirst : laws_FnExactStirlingFirst.Pure := by
  intro n q _ _
  by_cases h : 0 ≤ n ∧ n ≤ 10 ∧ 0 ≤ q ∧ q ≤ n
  · have := StirlingFirst_fin ⟨n.toNat, by omega⟩ ⟨q.toNat, by omega⟩
    refine ⟨300, ?_⟩
    simp only at this
    rw [show ((n.toNat : Nat) : Int) = n by omega, show ((q.toNat : Nat) : Int) = q by omega] at this
    exact this
  · refine ⟨1, ?_⟩
    unfold laws_FnExactStirlingFirst.f spec_StirlingFirst.f impl_StirlingFirst.f impl_kind_at_impl_StirlingFirst_1.f spec_fiAsked.f spec_l1In.f impl_within.f
    by_cases h1 : 0 ≤ n <;> by_cases h2 : n ≤ 10 <;> by_cases h3 : 0 ≤ q <;> by_cases h4 : q ≤ n <;> first
      | (exfalso; exact h ⟨h1, h2, h3, h4⟩)
      | simp [h1, h2, h3, h4, impl_kind_at_impl_StirlingFirst_1.j0]

end Go.Proofs.Ytljcbimhdoklbaa.Pure
