/- The program's HitsOf returns what the reference's returns, for all arguments. No conditions. -/
import Derived.Test.YtiocgomkminmoaaQlawsFnExactHitsOf
import Derived.Test.YtiocgomkminmoaaPerm
namespace Go.Proofs.Ytiocgomkminmoaa.Pure
set_option linter.unusedVariables false
open Go.RowKit Go.Proofs.Ytiocgomkminmoaa.Q Go.Proofs.YtiocgomkminmoaaW.PrintWords Go.Proofs.YtiocgomkminmoaaW.PrintLast Go.Proofs.YtiocgomkminmoaaW.PrintMore
open Go.Proofs.YtiocgomkminmoaaL Go.Proofs.Ytiocgomkminmoaa.LawK Go.Proofs.Ytiocgomkminmoaa.BoardK Go.Proofs.Ytiocgomkminmoaa.PermK

theorem FnExactHitsOf : laws_FnExactHitsOf.Pure := by
  intro r c l f _ _ _ hl8 _ _ hf8 _
  unfold laws_FnExactHitsOf.f
  by_cases hbig : (f.length : Int) > 1048576
  · exact ⟨1, by rw [if_pos hbig]⟩
  · refine ends ?_
    refine Ev.congr (fun k => by rw [if_neg hbig, szBoard_f r c l hl8, Option.bind_some]) ?_
    by_cases hlb : l.length ≤ 1048576
    · refine Ev.congr (fun k => by rw [if_pos hlb, if_neg (by omega)]) ?_
      refine Ev.bind (toBoard r c hlb) (Ev.bind (toIntS (by omega)) (Ev.bind (spec_hitsOf hlb (by omega)) (Ev.bind (toBoard r c hlb) (Ev.bind (toIntS (by omega)) (Ev.bind (impl_hitsOf (by omega)) ?_)))))
      refine Ev.congr (fun k => by rw [if_pos rfl]) ?_
      refine Ev.step (fun k => by rw [laws_FnExactHitsOf.j0, if_neg (by simp)]) ?_
      refine Ev.bind (toBoard r c hlb) (Ev.bind (eqBoard r c (by simp; omega)) ?_)
      refine Ev.congr (fun k => by rw [if_pos rfl]) ?_
      refine Ev.bind (toIntS (by omega)) (Ev.bind (eqIntS (by omega)) ?_)
      exact Ev.congr (fun k => by rw [if_pos (by simp)]) (Ev.now _)
    · exact Ev.congr (fun k => by rw [if_neg hlb, if_pos (by omega)]) (Ev.now _)

end Go.Proofs.Ytiocgomkminmoaa.Pure
