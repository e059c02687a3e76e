/- The program's FreeCells returns what the reference's returns, for all arguments. No conditions. -/
import Derived.Test.YtooddciadjlbaaaQlawsFnExactFreeCells
import Derived.Test.YtooddciadjlbaaaFree
namespace Go.Proofs.Ytooddciadjlbaaa.Pure
set_option linter.unusedVariables false
open Go.RowKit Go.Proofs.Ytooddciadjlbaaa.Q Go.Proofs.YtooddciadjlbaaaW.PrintWords Go.Proofs.YtooddciadjlbaaaW.PrintLast Go.Proofs.YtooddciadjlbaaaW.PrintMore
open Go.Proofs.YtooddciadjlbaaaL Go.Proofs.Ytooddciadjlbaaa.LawK Go.Proofs.Ytooddciadjlbaaa.BoardK Go.Proofs.Ytooddciadjlbaaa.LensK Go.Proofs.Ytooddciadjlbaaa.FreeK

def freeAnswer (l p : List Int) : Int × Bool := if lenB l = true then (if placeB (rowsOf l) l.length l.length p = true then (allFree p l 0 0, true) else (0, false)) else (0, false)
theorem place_len {rows p : List Int} {R C : Int} (h : placeB rows R C p = true) : (p.length : Int) = R := by
  unfold placeB at h; simp only [Bool.and_eq_true, decide_eq_true_eq] at h; exact h.1
theorem spec_freeCells {l p : List Int} (hl : l.length ≤ 1048576) : Ev (fun k => spec_FreeCells.f k l p) (freeAnswer l p) := by
  unfold spec_FreeCells.f freeAnswer
  refine Ev.bind (spec_good hl) ?_
  by_cases h : lenB l = true
  · obtain ⟨h1, h2, h3⟩ := len_of h
    obtain ⟨r1, r2⟩ := rows_in h
    rw [if_pos h]
    refine Ev.congr (fun k => by rw [if_pos h]) (Ev.bind (spec_board h) (Ev.bind (spec_roGood (rows := rowsOf l) (p := p) (R := (l.length : Int)) (C := (l.length : Int)) (by omega) (by omega) (by omega) (by omega) r2) ?_))
    by_cases hq : placeB (rowsOf l) l.length l.length p = true
    · have hp := place_len hq
      rw [if_pos hq]
      refine Ev.congr (fun k => by rw [if_pos hq]) (Ev.bind (a := allFree p l 0 0) ?_ (Ev.now _))
      have := spec_rows h2 (fun i hi => by have := h3 i hi; omega) (p := p) (by omega) l.length 0 0 (by omega) (by omega) (by omega)
      rw [List.drop_zero] at this
      exact this
    · rw [if_neg hq]
      exact Ev.congr (fun k => by rw [if_neg hq]) (Ev.now _)
  · rw [if_neg h]
    exact Ev.congr (fun k => by rw [if_neg h]) (Ev.now _)
theorem impl_freeCells {l p : List Int} (hl : l.length ≤ 1048576) : Ev (fun k => impl_FreeCells.f k l p) (freeAnswer l p) := by
  unfold impl_FreeCells.f freeAnswer
  refine Ev.bind (impl_good hl) ?_
  by_cases h : lenB l = true
  · obtain ⟨h1, h2, h3⟩ := len_of h
    obtain ⟨r1, r2⟩ := rows_in h
    rw [if_pos h]
    refine Ev.congr (fun k => by rw [if_pos h]) (Ev.bind (impl_board h) (Ev.bind (impl_isPlacement (rows := rowsOf l) (p := p) (R := (l.length : Int)) (C := (l.length : Int)) (by omega) (by omega) (by omega) (by omega) r2) ?_))
    by_cases hq : placeB (rowsOf l) l.length l.length p = true
    · have hp := place_len hq
      rw [if_pos hq]
      refine Ev.congr (fun k => by rw [if_pos hq]) (Ev.bind (a := allFree p l 0 0) ?_ (Ev.now _))
      have := impl_rows h2 (fun i hi => by have := h3 i hi; omega) (p := p) (by omega) l.length 0 0 (by omega) (by omega) (by omega)
      rw [List.drop_zero] at this
      exact this
    · rw [if_neg hq]
      exact Ev.congr (fun k => by rw [if_neg hq]) (Ev.now _)
  · rw [if_neg h]
    exact Ev.congr (fun k => by rw [if_neg h]) (Ev.now _)
theorem FnExactFreeCells : laws_FnExactFreeCells.Pure := by
  intro l p _ _ _ _ _ _
  unfold laws_FnExactFreeCells.f
  by_cases h1 : (l.length : Int) > 1048576
  · exact ⟨0, by rw [if_pos h1]⟩
  · by_cases h2 : (p.length : Int) > 1048576
    · exact ⟨0, by rw [if_neg h1, if_pos h2]⟩
    · refine ends ?_
      have t1 := toIntS (l := l) (by omega)
      have t2 := toIntS (l := p) (by omega)
      refine Ev.congr (fun k => by rw [if_neg h1, if_neg h2]) ?_
      refine Ev.bind t1 (Ev.bind t2 (Ev.bind (spec_freeCells (by omega)) (Ev.bind t1 (Ev.bind t2 (Ev.bind (impl_freeCells (by omega)) ?_)))))
      refine Ev.congr (fun k => by rw [if_pos rfl]) ?_
      refine Ev.step (fun k => by rw [laws_FnExactFreeCells.j0, if_neg (by simp)]) ?_
      refine Ev.bind t1 (Ev.bind (eqIntS (by omega)) ?_)
      refine Ev.congr (fun k => by rw [if_pos (by simp)]) ?_
      refine Ev.bind t2 (Ev.bind (eqIntS (by omega)) ?_)
      exact Ev.congr (fun k => by rw [if_pos (by simp)]) (Ev.now _)

end Go.Proofs.Ytooddciadjlbaaa.Pure
