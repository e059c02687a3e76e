/- The program's TableBoard returns what the reference's returns, for all arguments. No conditions. -/
import Derived.Test.YtiocgomkminmoaaQlawsFnExactTableBoard
namespace Go.Proofs.Ytiocgomkminmoaa.Pure
open Go.RowKit Go.Proofs.Ytiocgomkminmoaa.Q Go.Proofs.YtiocgomkminmoaaW.PrintWords Go.Proofs.YtiocgomkminmoaaW.PrintLast

theorem TableBoard_fin : ∀ i : Fin 7, laws_FnExactTableBoard.f 200 (i.val : Int) = some true := by
  decide +kernel

theorem FnExactTableBoard : laws_FnExactTableBoard.Pure := by
  intro n _
  refine ⟨200, ?_⟩
  by_cases h : 0 ≤ n ∧ n ≤ 6
  · have := TableBoard_fin ⟨n.toNat, by omega⟩
    simp only at this
    rw [show ((n.toNat : Nat) : Int) = n by omega] at this
    exact this
  · have e1 : ∀ k, spec_TableBoard.f k n = spec_TableBoard.f k 0 := by
      intro k
      unfold spec_TableBoard.f spec_l1In.f
      by_cases h1 : 2 ≤ n <;> by_cases h2 : n ≤ 6 <;> first
        | (exfalso; omega)
        | simp [h1, h2]
    have e2 : ∀ k, impl_TableBoard.f k n = impl_TableBoard.f k 0 := by
      intro k
      unfold impl_TableBoard.f impl_within.f
      by_cases h1 : 2 ≤ n <;> by_cases h2 : n ≤ 6 <;> first
        | (exfalso; omega)
        | simp [h1, h2]
    have hj : ∀ x1 x2 x3 x4 x5 x6 x7 x8, laws_FnExactTableBoard.j0 200 n x1 x2 x3 x4 x5 x6 x7 x8 = laws_FnExactTableBoard.j0 200 0 x1 x2 x3 x4 x5 x6 x7 x8 := by
      intros
      simp only [laws_FnExactTableBoard.j0, e2]
    have e : laws_FnExactTableBoard.f 200 n = laws_FnExactTableBoard.f 200 0 := by
      unfold laws_FnExactTableBoard.f
      simp only [e1, e2, hj]
    rw [e]
    exact TableBoard_fin ⟨0, by decide⟩

end Go.Proofs.Ytiocgomkminmoaa.Pure
