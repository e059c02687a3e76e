/- What AllWeights answers, and that the reference answers the same. No conditions but a small list. -/
import Derived.Test.YtlhblnphfpijkaaWTabs
import Derived.Test.YtlhblnphfpijkaaQimplAllWeights
import Derived.Test.YtlhblnphfpijkaaQspecAllWeights
namespace Go.Proofs.Ytlhblnphfpijkaa.AllWK
set_option linter.unusedVariables false
open Go.RowKit Go.Proofs.Ytlhblnphfpijkaa.Q Go.Proofs.YtlhblnphfpijkaaW.PrintWords Go.Proofs.YtlhblnphfpijkaaW.PrintLast Go.Proofs.YtlhblnphfpijkaaW.PrintMore
open Go.Proofs.YtlhblnphfpijkaaL Go.Proofs.Ytlhblnphfpijkaa.LawK Go.Proofs.Ytlhblnphfpijkaa.BoardK Go.Proofs.Ytlhblnphfpijkaa.LensK Go.Proofs.Ytlhblnphfpijkaa.BagK Go.Proofs.Ytlhblnphfpijkaa.WeAllK Go.Proofs.Ytlhblnphfpijkaa.WValK
def ans (l : List Int) : List (List Int) × Bool := if lenB l = true then (wtab l, true) else ([], false)
theorem spec_ans {l : List Int} (hl : l.length ≤ 1048576) : Ev (fun k => spec_AllWeights.f k l) (ans l) := by
  unfold spec_AllWeights.f ans
  refine Ev.bind (spec_good hl) ?_
  by_cases h : lenB l = true
  · rw [if_pos h]
    exact Ev.congr (fun k => if_pos h) (Ev.bind (weAll h) (Ev.now _))
  · rw [if_neg h]
    exact Ev.congr (fun k => if_neg h) (Ev.now _)
theorem impl_ans {l : List Int} (hl : l.length ≤ 1048576) : Ev (fun k => impl_AllWeights.f k l) (ans l) := by
  unfold impl_AllWeights.f ans
  refine Ev.bind (impl_good hl) ?_
  by_cases h : lenB l = true
  · rw [if_pos h]
    exact Ev.congr (fun k => by rw [if_pos h, impl_weights.f, if_pos h, Option.bind_some]) (Ev.now _)
  · rw [if_neg h]
    exact Ev.congr (fun k => by rw [if_neg h]) (Ev.now _)
theorem ans_AllWeights (l : List Int) (hl : l.length ≤ 1048576) : ∃ (rows : List (List Int)) (ok : Bool), rows.length ≤ 1000000 ∧ (∀ x ∈ rows, x.length ≤ 1000) ∧ (∃ k, spec_AllWeights.f k l = some (rows, ok)) ∧ (∃ k, impl_AllWeights.f k l = some (rows, ok)) := by
  refine ⟨(ans l).1, (ans l).2, ?_, ?_, (spec_ans hl).rounds, (impl_ans hl).rounds⟩
  all_goals (unfold ans; by_cases h : lenB l = true)
  · rw [if_pos h]
    have := len_of h
    simp only []
    rw [wtab_len h]; omega
  · rw [if_neg h]; simp
  · rw [if_pos h]
    intro x hx
    obtain ⟨i, hi, rfl⟩ := List.mem_iff_getElem.1 hx
    have := wtab_row h i
    rw [gD_lt _ _ hi] at this
    omega
  · rw [if_neg h]; intro x hx; simp at hx
end Go.Proofs.Ytlhblnphfpijkaa.AllWK
