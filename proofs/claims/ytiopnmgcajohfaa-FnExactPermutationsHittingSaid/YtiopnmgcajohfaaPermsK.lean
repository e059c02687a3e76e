/- What the walk over all placements of a full board tells of permutations: counts of rooks, full boards. No conditions. -/
import Derived.Test.YtiopnmgcajohfaaWays
import Derived.Test.YtiopnmgcajohfaaQimplrooks
import Derived.Test.YtiopnmgcajohfaaQimplFullBoard
namespace Go.Proofs.Ytiopnmgcajohfaa.Walk
set_option linter.unusedVariables false
open Go.RowKit Go.Proofs.YtiopnmgcajohfaaW.PrintWords Go.Proofs.YtiopnmgcajohfaaW.PrintLast Go.Proofs.YtiopnmgcajohfaaW.PrintMore
open Go.Proofs.YtiopnmgcajohfaaL Go.Proofs.Ytiopnmgcajohfaa.LawK Go.Proofs.Ytiopnmgcajohfaa.BoardK Go.Proofs.Ytiopnmgcajohfaa.Q

/-- How many numbers are not -1. -/
def rooksN (l : List Int) : Nat := l.countP (fun x => x != -1)
theorem rooks_l0 {l : List Int} (hl : l.length ≤ 1048576) : ∀ (d i n : Nat), i + d = l.length → n ≤ i → Ev (fun k => impl_rooks.l0 k n l (l.length : Int) i) ((n + rooksN (l.drop i) : Nat) : Int)
  | 0, i, n, hi, hn => by
    refine Ev.step (f := fun _ => some ((n + rooksN (l.drop i) : Nat) : Int)) (fun k => ?_) (Ev.now _)
    rw [impl_rooks.l0, if_neg (by omega), List.drop_eq_nil_of_le (by omega)]; rfl
  | d + 1, i, n, hi, hn => by
    have h1 : wrap64 ((i : Int) + 1) = ((i + 1 : Nat) : Int) := by rw [w64 (by omega) (by omega)]; rfl
    have h2 : wrap64 ((n : Int) + 1) = ((n + 1 : Nat) : Int) := by rw [w64 (by omega) (by omega)]; rfl
    have hi2 : i < l.length := by omega
    rw [List.drop_eq_getElem_cons hi2, rooksN, List.countP_cons]
    by_cases hx : l[i] = -1
    · have ih := rooks_l0 hl d (i + 1) n (by omega) (by omega)
      rw [rooksN] at ih
      rw [if_neg (by simp [hx]), Nat.add_zero]
      refine Ev.step (fun k => ?_) ih
      rw [impl_rooks.l0, if_pos (by omega), if_pos (by omega), if_pos (by omega), rd_lt _ _ hi2, if_pos hx, h1]
    · have ih := rooks_l0 hl d (i + 1) (n + 1) (by omega) (by omega)
      rw [rooksN] at ih
      rw [if_pos (by simpa using hx)]
      rw [show n + (List.countP (fun x => x != -1) (List.drop (i + 1) l) + 1) = n + 1 + List.countP (fun x => x != -1) (List.drop (i + 1) l) by omega]
      refine Ev.step (fun k => ?_) ih
      rw [impl_rooks.l0, if_pos (by omega), if_pos (by omega), if_pos (by omega), rd_lt _ _ hi2, if_neg hx, h1, h2]
theorem rooks_f {l : List Int} (hl : l.length ≤ 1048576) : ∃ k, impl_rooks.f k l = some (rooksN l : Int) := by
  have h := rooks_l0 hl l.length 0 0 (by omega) (by omega)
  rw [List.drop_zero, Nat.zero_add] at h
  exact h.rounds
def fullRows (n : Nat) : List Int := List.replicate n (2 ^ n - 1)
set_option maxRecDepth 20000 in
theorem fullBoard_f {n : Nat} (h1 : 1 ≤ n) (h6 : n ≤ 6) : ∃ k, impl_FullBoard.f k n n = some ((n : Int), (n : Int), fullRows n, true) := by
  have : ∀ x : Fin 6, impl_FullBoard.f 12 ((x.val + 1 : Nat) : Int) ((x.val + 1 : Nat) : Int) = some (((x.val + 1 : Nat) : Int), ((x.val + 1 : Nat) : Int), fullRows (x.val + 1), true) := by decide +kernel
  have := this ⟨n - 1, by omega⟩
  simp only [] at this
  rw [show n - 1 + 1 = n by omega] at this
  exact ⟨12, this⟩
/-- All permutations, in the walk's order. -/
def permsOf (n : Nat) : List (List Int) := (waysFrom (fullRows n) n n 0 0 []).filter (fun p => rooksN p == n)

end Go.Proofs.Ytiopnmgcajohfaa.Walk
