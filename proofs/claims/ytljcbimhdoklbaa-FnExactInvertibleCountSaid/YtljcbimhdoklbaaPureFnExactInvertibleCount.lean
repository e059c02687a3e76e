/- The program's InvertibleCount returns what the reference's returns, for all arguments. No conditions. -/
import Derived.Test.YtljcbimhdoklbaaPFnExactInvertibleCountx1
namespace Go.Proofs.Ytljcbimhdoklbaa.Pure
open Go.RowKit Go.Proofs.Ytljcbimhdoklbaa.PFnExactInvertibleCount Go.Proofs.YtljcbimhdoklbaaW.PrintWords Go.Proofs.YtljcbimhdoklbaaW.PrintLast

theorem invertible_fin : ∀ i : Fin 5, ∀ j : Fin 2, laws_FnExactInvertibleCount.f 20 (1 + (i.val : Int)) (2 + (j.val : Int)) = some true := by
  decide +kernel

theorem FnExactInvertibleCount : laws_FnExactInvertibleCount.Pure := by
  intro n q _ _
  by_cases h : 1 ≤ n ∧ n ≤ 5 ∧ 2 ≤ q ∧ q ≤ 3
  · have := invertible_fin ⟨(n - 1).toNat, by omega⟩ ⟨(q - 2).toNat, by omega⟩
    refine ⟨20, ?_⟩
    simp only at this
    rw [show (1 + (((n - 1).toNat : Nat) : Int)) = n by omega, show (2 + (((q - 2).toNat : Nat) : Int)) = q by omega] at this
    exact this
  · refine ⟨1, ?_⟩
    unfold laws_FnExactInvertibleCount.f spec_InvertibleCount.f impl_InvertibleCount.f spec_weBase.f impl_isQ.f spec_l1In.f impl_within.f
    by_cases h1 : 1 ≤ n <;> by_cases h2 : n ≤ 5 <;> by_cases h3 : 2 ≤ q <;> by_cases h4 : q ≤ 3 <;> first
      | (exfalso; exact h ⟨h1, h2, h3, h4⟩)
      | simp [h1, h2, h3, h4, spec_InvertibleCount.j0, impl_InvertibleCount.j0]

end Go.Proofs.Ytljcbimhdoklbaa.Pure
