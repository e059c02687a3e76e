/- The program's DiagonalBoard returns what the reference's returns, for all arguments. No conditions. -/
import Derived.Test.YtiocgomkminmoaaQ6
namespace Go.Proofs.Ytiocgomkminmoaa.Pure
open Go.RowKit Go.Proofs.Ytiocgomkminmoaa.Q Go.Proofs.YtiocgomkminmoaaW.PrintWords Go.Proofs.YtiocgomkminmoaaW.PrintLast

theorem DiagonalBoard_fin : ∀ i : Fin 7, laws_FnExactDiagonalBoard.f 200 (i.val : Int) = some true := by
  decide +kernel

theorem FnExactDiagonalBoard : laws_FnExactDiagonalBoard.Pure := by
  intro n _
  refine ⟨200, ?_⟩
  by_cases h : 0 ≤ n ∧ n ≤ 6
  · have := DiagonalBoard_fin ⟨n.toNat, by omega⟩
    simp only at this
    rw [show ((n.toNat : Nat) : Int) = n by omega] at this
    exact this
  · have e1 : ∀ k, spec_DiagonalBoard.f k n = spec_DiagonalBoard.f k 0 := by
      intro k
      unfold spec_DiagonalBoard.f spec_boSide.f spec_l1In.f
      by_cases h1 : 1 ≤ n <;> by_cases h2 : n ≤ 6 <;> first
        | (exfalso; omega)
        | simp [h1, h2]
    have e2 : ∀ k, impl_DiagonalBoard.f k n = impl_DiagonalBoard.f k 0 := by
      intro k
      unfold impl_DiagonalBoard.f impl_isSide.f impl_within.f
      by_cases h1 : 1 ≤ n <;> by_cases h2 : n ≤ 6 <;> first
        | (exfalso; omega)
        | simp [h1, h2]
    have hj : ∀ x1 x2 x3 x4 x5 x6 x7 x8, laws_FnExactDiagonalBoard.j0 200 n x1 x2 x3 x4 x5 x6 x7 x8 = laws_FnExactDiagonalBoard.j0 200 0 x1 x2 x3 x4 x5 x6 x7 x8 := by
      intros
      simp only [laws_FnExactDiagonalBoard.j0, e2]
    have e : laws_FnExactDiagonalBoard.f 200 n = laws_FnExactDiagonalBoard.f 200 0 := by
      unfold laws_FnExactDiagonalBoard.f
      simp only [e1, e2, hj]
    rw [e]
    exact DiagonalBoard_fin ⟨0, by decide⟩

end Go.Proofs.Ytiocgomkminmoaa.Pure
