/- The program's RankModulo returns what the reference's returns, for all arguments. No conditions. -/
import Derived.Test.YtlhblnphfpijkaaQlawsFnExactRankModulo
import Derived.Test.YtlhblnphfpijkaaRankK
namespace Go.Proofs.Ytlhblnphfpijkaa.Pure
set_option linter.unusedVariables false
open Go.RowKit Go.Proofs.Ytlhblnphfpijkaa.Q Go.Proofs.YtlhblnphfpijkaaW.PrintWords Go.Proofs.YtlhblnphfpijkaaW.PrintLast Go.Proofs.YtlhblnphfpijkaaW.PrintMore
open Go.Proofs.YtlhblnphfpijkaaL Go.Proofs.Ytlhblnphfpijkaa.LawK Go.Proofs.Ytlhblnphfpijkaa.BoardK Go.Proofs.Ytlhblnphfpijkaa.RowsK Go.Proofs.Ytlhblnphfpijkaa.LeadsK Go.Proofs.Ytlhblnphfpijkaa.RankK Go.Proofs.Ytlhblnphfpijkaa.Walk
def rankAns (rows : List (List Int)) (q : Int) : Int × Bool := if areRowsB rows q = true then ((rooksN (leadsOf rows q) : Int), true) else (0, false)
theorem spec_a {rows : List (List Int)} (q : Int) (hx : ∀ x ∈ rows, x.length ≤ 1048576) : Ev (fun k => spec_RankModulo.f k rows q) (rankAns rows q) := by
  unfold spec_RankModulo.f
  exact asks hx (fun h => by unfold rankAns; rw [if_pos h]; exact Ev.bind (spec_rank h) (Ev.now _)) (fun h => by unfold rankAns; rw [h, if_neg (by simp)])
theorem impl_a (rows : List (List Int)) (q : Int) : Ev (fun k => impl_RankModulo.f k rows q) (rankAns rows q) := by
  unfold impl_RankModulo.f rankAns
  refine Ev.congr (fun k => by rw [impl_areRows.f, Option.bind_some]) ?_
  by_cases h : areRowsB rows q = true
  · rw [if_pos h]
    exact Ev.congr (fun k => if_pos h) (Ev.bind (impl_rank h) (Ev.now _))
  · rw [if_neg h]
    exact Ev.congr (fun k => if_neg h) (Ev.now _)
theorem FnExactRankModulo : laws_FnExactRankModulo.Pure := by
  intro rows q hm2 hx _
  unfold laws_FnExactRankModulo.f
  refine ends ?_
  refine Ev.bind (szIntSS hm2 (fun y hy => (hx y hy).1) (by omega) (by omega)) ?_
  by_cases c : szR rows 1048576 < 0
  · exact Ev.congr (fun k => if_pos c) (Ev.now _)
  · obtain ⟨hr1, hr2⟩ := szR_len (l := rows) (n := 1048576) (by omega) (by omega)
    have hr3 : ∀ x ∈ rows, x.length ≤ 1048576 := fun x hx => by have := hr2 x hx; omega
    have tr := toIntSS (l := rows) (by omega) hr3
    refine Ev.congr (fun k => if_neg c) ?_
    refine Ev.bind tr (Ev.bind (spec_a q hr3) (Ev.bind tr (Ev.bind (impl_a rows q) ?_)))
    refine Ev.congr (fun k => by rw [if_pos rfl]) ?_
    refine Ev.step (fun k => by rw [laws_FnExactRankModulo.j0, if_neg (by simp)]) ?_
    refine Ev.bind tr (Ev.bind (eqIntSS (by omega) (fun x hx => by have := hr3 x hx; omega)) ?_)
    exact Ev.congr (fun k => by rw [if_pos (by simp)]) (Ev.now _)
end Go.Proofs.Ytlhblnphfpijkaa.Pure
