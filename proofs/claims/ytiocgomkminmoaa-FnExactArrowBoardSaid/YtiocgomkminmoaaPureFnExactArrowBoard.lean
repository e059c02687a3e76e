/- The program's ArrowBoard returns what the reference's returns, for all arguments. No conditions. -/
import Derived.Test.YtiocgomkminmoaaQ7
namespace Go.Proofs.Ytiocgomkminmoaa.Pure
open Go.RowKit Go.Proofs.Ytiocgomkminmoaa.Q Go.Proofs.YtiocgomkminmoaaW.PrintWords Go.Proofs.YtiocgomkminmoaaW.PrintLast

theorem ArrowBoard_fin : ∀ i : Fin 7, laws_FnExactArrowBoard.f 200 (i.val : Int) = some true := by
  decide +kernel

theorem FnExactArrowBoard : laws_FnExactArrowBoard.Pure := by
  intro n _
  refine ⟨200, ?_⟩
  by_cases h : 0 ≤ n ∧ n ≤ 6
  · have := ArrowBoard_fin ⟨n.toNat, by omega⟩
    simp only at this
    rw [show ((n.toNat : Nat) : Int) = n by omega] at this
    exact this
  · have e1 : ∀ k, spec_ArrowBoard.f k n = spec_ArrowBoard.f k 0 := by
      intro k
      unfold spec_ArrowBoard.f spec_fiThings.f spec_l1In.f
      by_cases h1 : 1 ≤ n <;> by_cases h2 : n ≤ 6 <;> first
        | (exfalso; omega)
        | simp [h1, h2]
    have e2 : ∀ k, impl_ArrowBoard.f k n = impl_ArrowBoard.f k 0 := by
      intro k
      unfold impl_ArrowBoard.f impl_isThings.f impl_within.f
      by_cases h1 : 1 ≤ n <;> by_cases h2 : n ≤ 6 <;> first
        | (exfalso; omega)
        | simp [h1, h2]
    have hj : ∀ x1 x2 x3 x4 x5 x6 x7 x8, laws_FnExactArrowBoard.j0 200 n x1 x2 x3 x4 x5 x6 x7 x8 = laws_FnExactArrowBoard.j0 200 0 x1 x2 x3 x4 x5 x6 x7 x8 := by
      intros
      simp only [laws_FnExactArrowBoard.j0, e2]
    have e : laws_FnExactArrowBoard.f 200 n = laws_FnExactArrowBoard.f 200 0 := by
      unfold laws_FnExactArrowBoard.f
      simp only [e1, e2, hj]
    rw [e]
    exact ArrowBoard_fin ⟨0, by decide⟩

end Go.Proofs.Ytiocgomkminmoaa.Pure
