/- The program's AboveBoard returns what the reference's returns, for all arguments. No conditions. -/
import Derived.Test.YtiocgomkminmoaaQ4
namespace Go.Proofs.Ytiocgomkminmoaa.Pure
open Go.RowKit Go.Proofs.Ytiocgomkminmoaa.Q Go.Proofs.YtiocgomkminmoaaW.PrintWords Go.Proofs.YtiocgomkminmoaaW.PrintLast

theorem AboveBoard_fin : ∀ i : Fin 7, laws_FnExactAboveBoard.f 200 (i.val : Int) = some true := by
  decide +kernel

theorem FnExactAboveBoard : laws_FnExactAboveBoard.Pure := by
  intro n _
  refine ⟨200, ?_⟩
  by_cases h : 0 ≤ n ∧ n ≤ 6
  · have := AboveBoard_fin ⟨n.toNat, by omega⟩
    simp only at this
    rw [show ((n.toNat : Nat) : Int) = n by omega] at this
    exact this
  · have e1 : ∀ k, spec_AboveBoard.f k n = spec_AboveBoard.f k 0 := by
      intro k
      unfold spec_AboveBoard.f spec_boSide.f spec_l1In.f
      by_cases h1 : 1 ≤ n <;> by_cases h2 : n ≤ 6 <;> first
        | (exfalso; omega)
        | simp [h1, h2]
    have e2 : ∀ k, impl_AboveBoard.f k n = impl_AboveBoard.f k 0 := by
      intro k
      unfold impl_AboveBoard.f impl_isSide.f impl_within.f
      by_cases h1 : 1 ≤ n <;> by_cases h2 : n ≤ 6 <;> first
        | (exfalso; omega)
        | simp [h1, h2]
    have hj : ∀ x1 x2 x3 x4 x5 x6 x7 x8, laws_FnExactAboveBoard.j0 200 n x1 x2 x3 x4 x5 x6 x7 x8 = laws_FnExactAboveBoard.j0 200 0 x1 x2 x3 x4 x5 x6 x7 x8 := by
      intros
      simp only [laws_FnExactAboveBoard.j0, e2]
    have e : laws_FnExactAboveBoard.f 200 n = laws_FnExactAboveBoard.f 200 0 := by
      unfold laws_FnExactAboveBoard.f
      simp only [e1, e2, hj]
    rw [e]
    exact AboveBoard_fin ⟨0, by decide⟩

end Go.Proofs.Ytiocgomkminmoaa.Pure
