/- The program's EulerNumbers returns what the reference's returns, for all arguments. No conditions. -/
import Derived.Test.YtljcbimhdoklbaaPFnExactEulerNumbersx2
namespace Go.Proofs.Ytljcbimhdoklbaa.Pure
open Go.RowKit Go.Proofs.Ytljcbimhdoklbaa.PFnExactEulerNumbers Go.Proofs.YtljcbimhdoklbaaW.PrintWords Go.Proofs.YtljcbimhdoklbaaW.PrintLast

theorem euler_fin : ∀ i : Fin 10, laws_FnExactEulerNumbers.f 200 (1 + (i.val : Int)) = some true := by
  decide +kernel

theorem FnExactEulerNumbers : laws_FnExactEulerNumbers.Pure := by
  intro n _
  by_cases h : 1 ≤ n ∧ n ≤ 10
  · have := euler_fin ⟨(n - 1).toNat, by omega⟩
    refine ⟨200, ?_⟩
    simp only at this
    rw [show (1 + (((n - 1).toNat : Nat) : Int)) = n by omega] at this
    exact this
  · refine ⟨3, ?_⟩
    have e : ∀ b : Bool, ¬ (1 ≤ n ∧ n ≤ 10) → spec_EulerNumbers.f 3 n = some ([], false) ∧ impl_EulerNumbers.f 3 n = some ([], false) ∧ impl_EulerNumbers.f 2 n = some ([], false) := by
      intro _ h
      unfold spec_EulerNumbers.f impl_EulerNumbers.f spec_l1In.f impl_within.f
      by_cases h1 : 1 ≤ n <;> by_cases h2 : n ≤ 10 <;> first
        | (exfalso; exact h ⟨h1, h2⟩)
        | simp [h1, h2]
    obtain ⟨e1, e2, e3⟩ := e true h
    unfold laws_FnExactEulerNumbers.f
    rw [e1, e2]
    simp only [Option.bind_some]
    rw [show laws_eqIntS.f 3 [] [] = some true by decide +kernel]
    simp only [Option.bind_some, if_true, bne_self_eq_false]
    simp only [laws_FnExactEulerNumbers.j0]
    rw [show laws_markIntS.f 2 [] 1 = some (1, []) by decide +kernel]
    simp only [Option.bind_some, Bool.false_eq_true, if_false]
    rw [show laws_heldIntS.f 2 [] 1 = some 1 by decide +kernel]
    simp only [Option.bind_some]
    rw [e3]
    simp only [Option.bind_some]
    rw [show laws_eqIntS.f 2 [] [] = some true by decide +kernel]
    decide +kernel

end Go.Proofs.Ytljcbimhdoklbaa.Pure
