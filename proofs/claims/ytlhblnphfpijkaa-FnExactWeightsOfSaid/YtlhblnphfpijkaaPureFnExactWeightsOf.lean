/- The program's WeightsOf returns what the reference's returns, for all arguments. No conditions. -/
import Derived.Test.YtlhblnphfpijkaaQlawsFnExactWeightsOf
import Derived.Test.YtlhblnphfpijkaaWOf
namespace Go.Proofs.Ytlhblnphfpijkaa.Pure
set_option linter.unusedVariables false
open Go.RowKit Go.Proofs.Ytlhblnphfpijkaa.Q Go.Proofs.YtlhblnphfpijkaaW.PrintWords Go.Proofs.YtlhblnphfpijkaaW.PrintLast Go.Proofs.YtlhblnphfpijkaaW.PrintMore
open Go.Proofs.YtlhblnphfpijkaaL Go.Proofs.Ytlhblnphfpijkaa.LawK Go.Proofs.Ytlhblnphfpijkaa.BoardK Go.Proofs.Ytlhblnphfpijkaa.LensK Go.Proofs.Ytlhblnphfpijkaa.BagK Go.Proofs.Ytlhblnphfpijkaa.WeAllK Go.Proofs.Ytlhblnphfpijkaa.WValK
theorem spec_of {l : List Int} (k : Int) (hl : l.length ≤ 1048576) : Ev (fun q => spec_WeightsOf.f q l k) (ofAns l k) := by
  unfold spec_WeightsOf.f ofAns
  refine Ev.bind (asked k hl) ?_
  by_cases h : (lenB l && inR 0 l.length k) = true
  · rw [h, if_pos rfl]
    rw [Bool.and_eq_true] at h
    have hk := inR_nat h.2
    refine Ev.congr (fun q => if_pos rfl) (Ev.bind (weAll h.1) ?_)
    refine Ev.congr (fun q => by rw [if_pos (by omega), if_pos (by rw [wtab_len h.1]; omega)]) ?_
    unfold rd_L1
    exact Ev.now _
  · rw [show (lenB l && inR 0 l.length k) = false by simpa using h, if_neg (by simp)]
    exact Ev.congr (fun q => if_neg (by simp)) (Ev.now _)
theorem FnExactWeightsOf : laws_FnExactWeightsOf.Pure := by
  intro l a1 _ _ _ _
  unfold laws_FnExactWeightsOf.f
  refine ends ?_
  by_cases hlb : l.length ≤ 1048576
  · have hn := ofAns_len l a1
    have tl := toIntS hlb
    refine Ev.congr (fun k => by rw [if_neg (by omega)]) ?_
    refine Ev.bind tl (Ev.bind (spec_of a1 hlb) (Ev.bind tl (Ev.bind (impl_of a1 hlb) ?_)))
    refine Ev.bind (eqIntS (by (try simp only []); omega)) ?_
    refine Ev.congr (fun k => by rw [if_pos (by simp)]) ?_
    refine Ev.step (fun k => by rw [laws_FnExactWeightsOf.j0, if_neg (by simp)]) ?_
    refine Ev.bind tl (Ev.bind (eqIntS (by omega)) ?_)
    refine Ev.congr (fun k => by rw [if_pos (by simp)]) ?_
    refine Ev.bind (markIntS l (by omega) (by omega)) ?_
    refine Ev.congr (fun k => by rw [if_neg (by (try simp only []); omega)]) ?_
    refine Ev.bind (eqIntS (by (try simp only []); omega)) ?_
    refine Ev.congr (fun k => by rw [if_pos (by simp)]) ?_
    refine Ev.step (fun k => by rw [laws_FnExactWeightsOf.j1, if_neg (by simp)]) ?_
    refine Ev.bind (markIntS _ (by omega) (by (try simp only []); omega)) ?_
    refine Ev.bind (heldIntS _ (by omega) (by (try simp only []); omega)) ?_
    refine Ev.congr (fun k => by rw [if_neg (by omega), if_pos rfl]) ?_
    refine Ev.bind tl (Ev.bind (impl_of a1 hlb) ?_)
    refine Ev.bind (eqIntS (by (try simp only []); omega)) ?_
    refine Ev.congr (fun k => by rw [if_pos (by simp)]) ?_
    refine Ev.step (fun k => by rw [laws_FnExactWeightsOf.j2, if_neg (by simp)]) ?_
    refine Ev.bind (heldIntS _ (by omega) (by (try simp only []); omega)) ?_
    exact Ev.congr (fun k => by rw [if_neg (by omega), if_pos rfl]) (Ev.now _)
  · exact Ev.congr (fun k => by rw [if_pos (by omega)]) (Ev.now _)
end Go.Proofs.Ytlhblnphfpijkaa.Pure
