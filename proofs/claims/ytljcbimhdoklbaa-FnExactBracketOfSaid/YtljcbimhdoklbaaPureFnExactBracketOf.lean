/- The program's BracketOf returns what the reference's returns, for all arguments. No conditions. -/
import Derived.Test.YtljcbimhdoklbaaPFnExactBracketOfx1
namespace Go.Proofs.Ytljcbimhdoklbaa.Pure
open Go.RowKit Go.Proofs.Ytljcbimhdoklbaa.PFnExactBracketOf Go.Proofs.YtljcbimhdoklbaaW.PrintWords Go.Proofs.YtljcbimhdoklbaaW.PrintLast

theorem bracket_fin : ∀ i : Fin 21, ∀ j : Fin 2, laws_FnExactBracketOf.f 30 (i.val : Int) (2 + (j.val : Int)) = some true := by
  decide +kernel

theorem FnExactBracketOf : laws_FnExactBracketOf.Pure := by
  intro m q _ _
  by_cases h : 0 ≤ m ∧ m ≤ 20 ∧ 2 ≤ q ∧ q ≤ 3
  · have := bracket_fin ⟨m.toNat, by omega⟩ ⟨(q - 2).toNat, by omega⟩
    refine ⟨30, ?_⟩
    simp only at this
    rw [show ((m.toNat : Nat) : Int) = m by omega, show (2 + (((q - 2).toNat : Nat) : Int)) = q by omega] at this
    exact this
  · refine ⟨1, ?_⟩
    unfold laws_FnExactBracketOf.f spec_BracketOf.f impl_BracketOf.f spec_weBase.f impl_isQ.f spec_l1In.f impl_within.f
    by_cases h1 : 0 ≤ m <;> by_cases h2 : m ≤ 20 <;> by_cases h3 : 2 ≤ q <;> by_cases h4 : q ≤ 3 <;> first
      | (exfalso; exact h ⟨h1, h2, h3, h4⟩)
      | simp [h1, h2, h3, h4]

end Go.Proofs.Ytljcbimhdoklbaa.Pure
