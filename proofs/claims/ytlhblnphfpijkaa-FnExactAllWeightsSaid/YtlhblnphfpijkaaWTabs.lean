/- The table of weights is small. No conditions but lengths. -/
import Derived.Test.YtlhblnphfpijkaaWeAll
import Derived.Test.YtlhblnphfpijkaaHandW
namespace Go.Proofs.Ytlhblnphfpijkaa.WValK
set_option linter.unusedVariables false
open Go.RowKit Go.Proofs.Ytlhblnphfpijkaa.Q Go.Proofs.YtlhblnphfpijkaaW.PrintWords Go.Proofs.YtlhblnphfpijkaaW.PrintLast Go.Proofs.YtlhblnphfpijkaaW.PrintMore
open Go.Proofs.YtlhblnphfpijkaaL Go.Proofs.Ytlhblnphfpijkaa.LawK Go.Proofs.Ytlhblnphfpijkaa.BagK Go.Proofs.Ytlhblnphfpijkaa.LensK Go.Proofs.Ytlhblnphfpijkaa.BoardK Go.Proofs.Ytlhblnphfpijkaa.WeAllK
theorem withinR (a b c : Int) : impl_within.f a b c = some (inR b c a) := by
  unfold impl_within.f inR
  by_cases h : b ≤ a
  · rw [if_pos h]; simp [h]
  · rw [if_neg h]; congr 1; exact (decide_eq_false (by omega)).symm
theorem wtab_len {l : List Int} (h : lenB l = true) : (wtab l).length = l.length + 1 := (wtab_rep h).len
theorem wtab_row {l : List Int} (h : lenB l = true) (k : Nat) : ((wtab l).getD k []).length ≤ 64 := by
  obtain ⟨h1, h2, h3⟩ := len_of h
  by_cases hk : k ≤ l.length
  · refine RepC.short ((wtab_rep h).rep k hk) (fun i hi => ?_)
    have hm6 : ∀ i, (l.getD i 0).toNat ≤ 6 := by
      intro i
      by_cases hi : i < l.length
      · rw [gD_lt _ _ hi]; have := h3 i hi; omega
      · rw [gD_ge _ _ (by omega)]; exact Nat.zero_le _
    have := Fk_free hm6 l.length (k, i) (List.count_pos_iff.1 (Nat.pos_of_ne_zero hi))
    simp only [] at this
    omega
  · rw [gD_ge _ _ (by rw [wtab_len h]; omega)]; exact Nat.zero_le _
end Go.Proofs.Ytlhblnphfpijkaa.WValK
