/- How many rooks a list has, and that the program counts them. No conditions. -/
import Derived.Test.YtlhblnphfpijkaaWays
import Derived.Test.YtlhblnphfpijkaaQimplrooks
namespace Go.Proofs.Ytlhblnphfpijkaa.Walk
set_option linter.unusedVariables false
open Go.RowKit Go.Proofs.YtlhblnphfpijkaaW.PrintWords Go.Proofs.YtlhblnphfpijkaaW.PrintLast Go.Proofs.YtlhblnphfpijkaaW.PrintMore
open Go.Proofs.YtlhblnphfpijkaaL Go.Proofs.Ytlhblnphfpijkaa.LawK Go.Proofs.Ytlhblnphfpijkaa.BoardK Go.Proofs.Ytlhblnphfpijkaa.Q

/-- How many numbers are not -1. -/
def rooksN (l : List Int) : Nat := l.countP (fun x => x != -1)
theorem rooks_l0 {l : List Int} (hl : l.length ≤ 1048576) : ∀ (d i n : Nat), i + d = l.length → n ≤ i → Ev (fun k => impl_rooks.l0 k n l (l.length : Int) i) ((n + rooksN (l.drop i) : Nat) : Int)
  | 0, i, n, hi, hn => by
    refine Ev.step (f := fun _ => some ((n + rooksN (l.drop i) : Nat) : Int)) (fun k => ?_) (Ev.now _)
    rw [impl_rooks.l0, if_neg (by omega), List.drop_eq_nil_of_le (by omega)]; rfl
  | d + 1, i, n, hi, hn => by
    have h1 : wrap64 ((i : Int) + 1) = ((i + 1 : Nat) : Int) := by rw [w64 (by omega) (by omega)]; rfl
    have h2 : wrap64 ((n : Int) + 1) = ((n + 1 : Nat) : Int) := by rw [w64 (by omega) (by omega)]; rfl
    have hi2 : i < l.length := by omega
    rw [List.drop_eq_getElem_cons hi2, rooksN, List.countP_cons]
    by_cases hx : l[i] = -1
    · have ih := rooks_l0 hl d (i + 1) n (by omega) (by omega)
      rw [rooksN] at ih
      rw [if_neg (by simp [hx]), Nat.add_zero]
      refine Ev.step (fun k => ?_) ih
      rw [impl_rooks.l0, if_pos (by omega), if_pos (by omega), if_pos (by omega), rd_lt _ _ hi2, if_pos hx, h1]
    · have ih := rooks_l0 hl d (i + 1) (n + 1) (by omega) (by omega)
      rw [rooksN] at ih
      rw [if_pos (by simpa using hx)]
      rw [show n + (List.countP (fun x => x != -1) (List.drop (i + 1) l) + 1) = n + 1 + List.countP (fun x => x != -1) (List.drop (i + 1) l) by omega]
      refine Ev.step (fun k => ?_) ih
      rw [impl_rooks.l0, if_pos (by omega), if_pos (by omega), if_pos (by omega), rd_lt _ _ hi2, if_neg hx, h1, h2]
theorem rooks_f {l : List Int} (hl : l.length ≤ 1048576) : ∃ k, impl_rooks.f k l = some (rooksN l : Int) := by
  have h := rooks_l0 hl l.length 0 0 (by omega) (by omega)
  rw [List.drop_zero, Nat.zero_add] at h
  exact h.rounds

end Go.Proofs.Ytlhblnphfpijkaa.Walk
