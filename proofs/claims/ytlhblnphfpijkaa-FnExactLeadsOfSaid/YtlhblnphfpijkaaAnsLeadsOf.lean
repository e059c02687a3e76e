/- What LeadsOf answers, and that the reference answers the same. No conditions but small rows. -/
import Derived.Test.YtlhblnphfpijkaaWeRows
import Derived.Test.YtlhblnphfpijkaaQimplLeadsOf
import Derived.Test.YtlhblnphfpijkaaQspecLeadsOf
namespace Go.Proofs.Ytlhblnphfpijkaa.LeadsA
set_option linter.unusedVariables false
open Go.RowKit Go.Proofs.Ytlhblnphfpijkaa.Q Go.Proofs.YtlhblnphfpijkaaW.PrintWords Go.Proofs.YtlhblnphfpijkaaW.PrintLast Go.Proofs.YtlhblnphfpijkaaW.PrintMore
open Go.Proofs.YtlhblnphfpijkaaL Go.Proofs.Ytlhblnphfpijkaa.LawK Go.Proofs.Ytlhblnphfpijkaa.BoardK Go.Proofs.Ytlhblnphfpijkaa.RowsK Go.Proofs.Ytlhblnphfpijkaa.LeadsK Go.Proofs.Ytlhblnphfpijkaa.RankK
def ans (rows : List (List Int)) (q : Int) : List Int × Bool := if areRowsB rows q = true then (leadsOf rows q, true) else ([], false)
theorem spec_a {rows : List (List Int)} (q : Int) (hx : ∀ x ∈ rows, x.length ≤ 1048576) : Ev (fun k => spec_LeadsOf.f k rows q) (ans rows q) := by
  unfold spec_LeadsOf.f
  exact asks hx (fun h => by unfold ans; rw [if_pos h]; exact Ev.congr (fun k => by rw [spec_weLeads.f, if_pos h, Option.bind_some]; rfl) (Ev.now _)) (fun h => by unfold ans; rw [h, if_neg (by simp)])
theorem impl_a (rows : List (List Int)) (q : Int) : impl_LeadsOf.f rows q = some (ans rows q) := by
  unfold impl_LeadsOf.f ans
  rw [impl_areRows.f, Option.bind_some]
  by_cases h : areRowsB rows q = true
  · rw [if_pos h, if_pos h, impl_leads.f, if_pos h, Option.bind_some]; rfl
  · rw [if_neg h, if_neg h]
theorem ans_LeadsOf (rows : List (List Int)) (q : Int) (hl : rows.length ≤ 1048576) (hx : ∀ x ∈ rows, x.length ≤ 1048576) : ∃ (res : List Int) (ok : Bool), res.length ≤ 1000000 ∧ (∃ k, spec_LeadsOf.f k rows q = some (res, ok)) ∧ impl_LeadsOf.f rows q = some (res, ok) := by
  refine ⟨(ans rows q).1, (ans rows q).2, ?_, (spec_a q hx).rounds, impl_a rows q⟩
  unfold ans
  by_cases h : areRowsB rows q = true
  · rw [if_pos h]
    have := (areRows_out h).2.1
    simp only []
    rw [(leadsOf_in h).1]; omega
  · rw [if_neg h]; exact Nat.zero_le _
end Go.Proofs.Ytlhblnphfpijkaa.LeadsA
