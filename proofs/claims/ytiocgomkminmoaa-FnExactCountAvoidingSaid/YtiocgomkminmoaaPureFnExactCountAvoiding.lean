/- The program's CountAvoiding returns what the reference's returns, for all arguments. No conditions. -/
import Derived.Test.YtiocgomkminmoaaQlawsFnExactCountAvoiding
import Derived.Test.YtiocgomkminmoaaHitNumbers
namespace Go.Proofs.Ytiocgomkminmoaa.Pure
set_option linter.unusedVariables false
open Go.RowKit Go.Proofs.Ytiocgomkminmoaa.Q Go.Proofs.YtiocgomkminmoaaW.PrintWords Go.Proofs.YtiocgomkminmoaaW.PrintLast Go.Proofs.YtiocgomkminmoaaW.PrintMore
open Go.Proofs.YtiocgomkminmoaaL Go.Proofs.Ytiocgomkminmoaa.LawK Go.Proofs.Ytiocgomkminmoaa.BoardK Go.Proofs.Ytiocgomkminmoaa.PermK Go.Proofs.Ytiocgomkminmoaa.Walk Go.Proofs.Ytiocgomkminmoaa.HN Go.Proofs.Ytiocgomkminmoaa.HitAllK

def avoiding (r c : Int) (l : List Int) : Int × Bool := if squareB r c l = true then (rd (countsF l (l.length + 1) (permsOf l.length)) 0, true) else (0, false)
theorem spec_avoid {r c : Int} {l : List Int} (hl : l.length ≤ 1048576) : Ev (fun k => spec_CountAvoiding.f k r c l) (avoiding r c l) := by
  unfold spec_CountAvoiding.f avoiding
  refine Ev.bind (hiGood r c (by omega)) ?_
  by_cases hs : squareB r c l = true
  · rw [if_pos hs]
    refine Ev.congr (fun k => by rw [if_pos hs]) (Ev.bind (spec_hiNumbers hs) ?_)
    exact Ev.congr (fun k => by rw [if_pos (by rw [countsF_length]; omega)]) (Ev.now _)
  · rw [if_neg hs]
    exact Ev.congr (fun k => by rw [if_neg hs]) (Ev.now _)
theorem impl_avoid {r c : Int} {l : List Int} : Ev (fun k => impl_CountAvoiding.f r c l) (avoiding r c l) := by
  refine Ev.congr (f := fun k => some (avoiding r c l)) (fun k => ?_) (Ev.now _)
  unfold impl_CountAvoiding.f avoiding
  rw [impl_answer_f, Option.bind_some]
  unfold hitNumbers
  by_cases hs : squareB r c l = true
  · rw [if_pos hs, if_pos rfl, if_pos hs]
    simp only []
    rw [if_pos (by rw [countsF_length]; omega)]
  · rw [if_neg hs, if_neg (by simp), if_neg hs]

theorem FnExactCountAvoiding : laws_FnExactCountAvoiding.Pure := by
  intro r c l _ _ _ hl8 _
  unfold laws_FnExactCountAvoiding.f
  refine ends ?_
  refine Ev.congr (fun k => by rw [szBoard_f r c l hl8, Option.bind_some]) ?_
  by_cases hlb : l.length ≤ 1048576
  · refine Ev.congr (fun k => by rw [if_pos hlb, if_neg (by omega)]) ?_
    refine Ev.bind (toBoard r c hlb) (Ev.bind (spec_avoid hlb) (Ev.bind (toBoard r c hlb) (Ev.bind impl_avoid ?_)))
    refine Ev.congr (fun k => by rw [if_pos rfl]) ?_
    refine Ev.step (fun k => by rw [laws_FnExactCountAvoiding.j0, if_neg (by simp)]) ?_
    refine Ev.bind (toBoard r c hlb) (Ev.bind (eqBoard r c (by simp; omega)) ?_)
    exact Ev.congr (fun k => by rw [if_pos rfl]) (Ev.now _)
  · exact Ev.congr (fun k => by rw [if_neg hlb, if_pos (by omega)]) (Ev.now _)

end Go.Proofs.Ytiocgomkminmoaa.Pure
