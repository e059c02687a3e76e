/- Weights of so many rooks: what the program answers. No conditions but a small list. -/
import Derived.Test.YtlhblnphfpijkaaWeAll
import Derived.Test.YtlhblnphfpijkaaHandW
import Derived.Test.YtlhblnphfpijkaaQspecweAsked
import Derived.Test.YtlhblnphfpijkaaQimplWeightsOf
namespace Go.Proofs.Ytlhblnphfpijkaa.WValK
set_option linter.unusedVariables false
open Go.RowKit Go.Proofs.Ytlhblnphfpijkaa.Q Go.Proofs.YtlhblnphfpijkaaW.PrintWords Go.Proofs.YtlhblnphfpijkaaW.PrintLast Go.Proofs.YtlhblnphfpijkaaW.PrintMore
open Go.Proofs.YtlhblnphfpijkaaL Go.Proofs.Ytlhblnphfpijkaa.LawK Go.Proofs.Ytlhblnphfpijkaa.BagK Go.Proofs.Ytlhblnphfpijkaa.LensK Go.Proofs.Ytlhblnphfpijkaa.BoardK Go.Proofs.Ytlhblnphfpijkaa.WeAllK
theorem withinR (a b c : Int) : impl_within.f a b c = some (inR b c a) := by
  unfold impl_within.f inR
  by_cases h : b ≤ a
  · rw [if_pos h]; simp [h]
  · rw [if_neg h]; congr 1; exact (decide_eq_false (by omega)).symm
theorem wtab_len {l : List Int} (h : lenB l = true) : (wtab l).length = l.length + 1 := (wtab_rep h).len
theorem wtab_row {l : List Int} (h : lenB l = true) (k : Nat) : ((wtab l).getD k []).length ≤ 64 := by
  obtain ⟨h1, h2, h3⟩ := len_of h
  by_cases hk : k ≤ l.length
  · refine RepC.short ((wtab_rep h).rep k hk) (fun i hi => ?_)
    have hm6 : ∀ i, (l.getD i 0).toNat ≤ 6 := by
      intro i
      by_cases hi : i < l.length
      · rw [gD_lt _ _ hi]; have := h3 i hi; omega
      · rw [gD_ge _ _ (by omega)]; exact Nat.zero_le _
    have := Fk_free hm6 l.length (k, i) (List.count_pos_iff.1 (Nat.pos_of_ne_zero hi))
    simp only [] at this
    omega
  · rw [gD_ge _ _ (by rw [wtab_len h]; omega)]; exact Nat.zero_le _
theorem asked {l : List Int} (k : Int) (hl : l.length ≤ 1048576) : Ev (fun q => spec_weAsked.f q l k) (lenB l && inR 0 l.length k) := by
  unfold spec_weAsked.f
  refine Ev.bind (spec_good hl) ?_
  by_cases h : lenB l = true
  · rw [h, Bool.true_and]
    exact Ev.congr (fun q => by rw [if_pos rfl, l1In_f, Option.bind_some]) (Ev.now _)
  · rw [show lenB l = false by simpa using h, Bool.false_and]
    exact Ev.congr (fun q => if_neg (by simp)) (Ev.now _)
theorem inR_nat {n : Nat} {k : Int} (h : inR 0 n k = true) : 0 ≤ k ∧ k ≤ n := of_decide_eq_true h
/-- What weights of so many rooks are. -/
def ofAns (l : List Int) (k : Int) : List Int × Bool := if (lenB l && inR 0 l.length k) = true then ((wtab l).getD k.toNat [], true) else ([], false)
theorem impl_of {l : List Int} (k : Int) (hl : l.length ≤ 1048576) : Ev (fun q => impl_WeightsOf.f q l k) (ofAns l k) := by
  unfold impl_WeightsOf.f ofAns
  refine Ev.bind (impl_good hl) ?_
  by_cases h : lenB l = true
  · rw [h, Bool.true_and]
    refine Ev.congr (fun q => by rw [if_pos rfl, withinR, Option.bind_some]) ?_
    by_cases h2 : inR 0 l.length k = true
    · have hk := inR_nat h2
      rw [if_pos h2, if_pos h2]
      refine Ev.congr (fun q => by rw [impl_weights.f, if_pos h, Option.bind_some, if_pos (by omega), if_pos (by rw [wtab_len h]; omega)]) ?_
      unfold rd_L1
      exact Ev.now _
    · rw [if_neg h2, if_neg h2]; exact Ev.now _
  · rw [show lenB l = false by simpa using h, Bool.false_and, if_neg (by simp), if_neg (by simp)]
    exact Ev.now _
theorem ofAns_len (l : List Int) (k : Int) : (ofAns l k).1.length ≤ 64 := by
  unfold ofAns
  split
  · rename_i h
    rw [Bool.and_eq_true] at h
    exact wtab_row h.1 _
  · exact Nat.zero_le _
end Go.Proofs.Ytlhblnphfpijkaa.WValK
