/- What areRows tells: rows of digits. No conditions. -/
import Derived.Test.YtlhblnphfpijkaaLeadsK
import Derived.Test.YtlhblnphfpijkaaHandAreRows
namespace Go.Proofs.Ytlhblnphfpijkaa.Q
set_option linter.unusedVariables false
open Go.RowKit Go.Proofs.YtlhblnphfpijkaaW.PrintWords Go.Proofs.YtlhblnphfpijkaaW.PrintLast Go.Proofs.YtlhblnphfpijkaaW.PrintMore
open Go.Proofs.YtlhblnphfpijkaaL Go.Proofs.Ytlhblnphfpijkaa.BoardK Go.Proofs.Ytlhblnphfpijkaa.LeadsK
theorem areRows_out {rows : List (List Int)} {q : Int} (h : areRowsB rows q = true) : (2 ≤ q ∧ q ≤ 3) ∧ rows.length ≤ 6 ∧ 1 ≤ (rows.getD 0 []).length ∧ (rows.getD 0 []).length ≤ 6 ∧ ∀ row ∈ rows, Dig q (rows.getD 0 []).length row := by
  unfold areRowsB at h
  rw [Bool.and_eq_true, Bool.and_eq_true, decide_eq_true_eq, decide_eq_true_eq, List.all_eq_true] at h
  obtain ⟨h1, h2, h3⟩ := h
  have key : ∀ row ∈ rows, (1 ≤ row.length ∧ row.length ≤ 6) ∧ row.length = (rows.getD 0 []).length ∧ ∀ x ∈ row, 0 ≤ x ∧ x ≤ q - 1 := by
    intro row hr
    have := h3 row hr
    unfold rowOk at this
    rw [Bool.and_eq_true, Bool.and_eq_true, decide_eq_true_eq, decide_eq_true_eq, List.all_eq_true] at this
    exact ⟨by omega, by omega, fun x hx => of_decide_eq_true (this.2.2 x hx)⟩
  have h0 : rows.getD 0 [] ∈ rows := by rw [gD_lt _ _ (by omega)]; exact List.getElem_mem _
  refine ⟨h1, by omega, (key _ h0).1.1, (key _ h0).1.2, fun row hr => ⟨(key row hr).2.1, fun i => ?_⟩⟩
  by_cases hi : i < row.length
  · rw [gD_lt _ _ hi]; have := (key row hr).2.2 _ (List.getElem_mem hi); omega
  · rw [gD_ge _ _ (by omega)]; omega
end Go.Proofs.Ytlhblnphfpijkaa.Q
