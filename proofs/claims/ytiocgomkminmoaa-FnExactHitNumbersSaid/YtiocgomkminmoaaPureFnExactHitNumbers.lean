/- The program's HitNumbers returns what the reference's returns, for all arguments. No conditions. -/
import Derived.Test.YtiocgomkminmoaaQlawsFnExactHitNumbers
import Derived.Test.YtiocgomkminmoaaHitNumbers
namespace Go.Proofs.Ytiocgomkminmoaa.Pure
set_option linter.unusedVariables false
open Go.RowKit Go.Proofs.Ytiocgomkminmoaa.Q Go.Proofs.YtiocgomkminmoaaW.PrintWords Go.Proofs.YtiocgomkminmoaaW.PrintLast Go.Proofs.YtiocgomkminmoaaW.PrintMore
open Go.Proofs.YtiocgomkminmoaaL Go.Proofs.Ytiocgomkminmoaa.LawK Go.Proofs.Ytiocgomkminmoaa.BoardK Go.Proofs.Ytiocgomkminmoaa.PermK Go.Proofs.Ytiocgomkminmoaa.Walk Go.Proofs.Ytiocgomkminmoaa.HN Go.Proofs.Ytiocgomkminmoaa.HitAllK

theorem FnExactHitNumbers : laws_FnExactHitNumbers.Pure := by
  intro r c l _ _ _ hl8 _
  unfold laws_FnExactHitNumbers.f
  refine ends ?_
  refine Ev.congr (fun k => by rw [szBoard_f r c l hl8, Option.bind_some]) ?_
  by_cases hlb : l.length ≤ 1048576
  · have hn := answer_length r c l
    refine Ev.congr (fun k => by rw [if_pos hlb, if_neg (by omega)]) ?_
    refine Ev.bind (toBoard r c hlb) (Ev.bind (spec_answer hlb) (Ev.bind (toBoard r c hlb) (Ev.bind (impl_answer) ?_)))
    refine Ev.bind (eqIntS (by simp only []; omega)) ?_
    refine Ev.congr (fun k => by rw [if_pos (by simp)]) ?_
    refine Ev.step (fun k => by rw [laws_FnExactHitNumbers.j0, if_neg (by simp)]) ?_
    refine Ev.bind (toBoard r c hlb) (Ev.bind (eqBoard r c (by simp; omega)) ?_)
    refine Ev.congr (fun k => by rw [if_pos rfl]) ?_
    refine Ev.bind (a := (1 + (l.length : Int), iota 1 l.length)) (show Ev (fun k => laws_markBoard.f k r c l 1) (1 + (l.length : Int), iota 1 l.length) by unfold laws_markBoard.f; exact Ev.bind (markIntS l (by omega) (by omega)) (Ev.now _)) ?_
    refine Ev.congr (fun k => by rw [if_neg (by simp; omega)]) ?_
    refine Ev.bind (eqIntS (by simp only []; omega)) ?_
    refine Ev.congr (fun k => by rw [if_pos (by simp)]) ?_
    refine Ev.step (fun k => by rw [laws_FnExactHitNumbers.j1, if_neg (by simp)]) ?_
    refine Ev.bind (markIntS _ (by omega) (by simp only []; omega)) ?_
    refine Ev.bind (heldIntS _ (by omega) (by simp only []; omega)) ?_
    refine Ev.congr (fun k => by rw [if_neg (by omega), if_pos rfl]) ?_
    refine Ev.bind (toBoard r c hlb) (Ev.bind (impl_answer) ?_)
    refine Ev.bind (eqIntS (by simp only []; omega)) ?_
    refine Ev.congr (fun k => by rw [if_pos (by simp)]) ?_
    refine Ev.step (fun k => by rw [laws_FnExactHitNumbers.j2, if_neg (by simp)]) ?_
    refine Ev.bind (heldIntS _ (by omega) (by simp only []; omega)) ?_
    exact Ev.congr (fun k => by rw [if_neg (by omega), if_pos rfl]) (Ev.now _)
  · exact Ev.congr (fun k => by rw [if_neg hlb, if_pos (by omega)]) (Ev.now _)

end Go.Proofs.Ytiocgomkminmoaa.Pure
