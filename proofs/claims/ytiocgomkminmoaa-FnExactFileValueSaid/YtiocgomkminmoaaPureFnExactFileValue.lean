/- The program's FileValue returns what the reference's returns, for all arguments. No conditions. -/
import Derived.Test.YtiocgomkminmoaaQlawsFnExactFileValue
import Derived.Test.YtiocgomkminmoaaHeights
namespace Go.Proofs.Ytiocgomkminmoaa.Pure
set_option linter.unusedVariables false
open Go.RowKit Go.Proofs.Ytiocgomkminmoaa.Q Go.Proofs.YtiocgomkminmoaaW.PrintWords Go.Proofs.YtiocgomkminmoaaW.PrintLast Go.Proofs.YtiocgomkminmoaaW.PrintMore
open Go.Proofs.YtiocgomkminmoaaL Go.Proofs.Ytiocgomkminmoaa.LawK Go.Proofs.Ytiocgomkminmoaa.BoardK Go.Proofs.Ytiocgomkminmoaa.HeightsK

def valueF (x : Int) : List Int → Int → Int
  | [], p => p
  | h :: t, p => valueF x t (wrap64 (p * wrap64 (x + h)))
theorem spec_value (x : Int) {l : List Int} (hl : l.length ≤ 6) : ∀ (d i : Nat) (p : Int), i + d = l.length → Ev (fun k => spec_FileValue.l0 k x p l (l.length : Int) i) (valueF x (l.drop i) p, true)
  | 0, i, p, hi => by
    refine Ev.step (f := fun _ => some (p, true)) (fun k => ?_) (evEq (Ev.now _) (by rw [List.drop_eq_nil_of_le (by omega)]; rfl))
    rw [spec_FileValue.l0, if_neg (by omega)]
  | d + 1, i, p, hi => by
    have hi2 : i < l.length := by omega
    have h1 : wrap64 ((i : Int) + 1) = ((i + 1 : Nat) : Int) := by rw [w64 (by omega) (by omega)]; rfl
    rw [List.drop_eq_getElem_cons hi2, valueF]
    refine Ev.step (fun k => ?_) (spec_value x hl d (i + 1) _ (by omega))
    rw [spec_FileValue.l0, if_pos (by omega), if_pos (by omega), if_pos (by omega), rd_lt _ _ hi2, h1]
theorem impl_value (x : Int) {l : List Int} (hl : l.length ≤ 6) : ∀ (d i : Nat) (p : Int), i + d = l.length → Ev (fun k => impl_FileValue.l0 k x p l (l.length : Int) i) (valueF x (l.drop i) p, true)
  | 0, i, p, hi => by
    refine Ev.step (f := fun _ => some (p, true)) (fun k => ?_) (evEq (Ev.now _) (by rw [List.drop_eq_nil_of_le (by omega)]; rfl))
    rw [impl_FileValue.l0, if_neg (by omega)]
  | d + 1, i, p, hi => by
    have hi2 : i < l.length := by omega
    have h1 : wrap64 ((i : Int) + 1) = ((i + 1 : Nat) : Int) := by rw [w64 (by omega) (by omega)]; rfl
    rw [List.drop_eq_getElem_cons hi2, valueF]
    refine Ev.step (fun k => ?_) (impl_value x hl d (i + 1) _ (by omega))
    rw [impl_FileValue.l0, if_pos (by omega), if_pos (by omega), if_pos (by omega), rd_lt _ _ hi2, h1]
def valueAnswer (r c : Int) (l : List Int) (x : Int) : Int × Bool := if isBoardB r c l && inR (-100) 100 x then (valueF x (heights l r.toNat c.toNat) 1, true) else (0, false)
theorem spec_fileValue {r c x : Int} {l : List Int} (hl : l.length ≤ 1048576) : Ev (fun k => spec_FileValue.f k r c l x) (valueAnswer r c l x) := by
  unfold spec_FileValue.f valueAnswer
  refine Ev.bind (boGood r c (by omega)) ?_
  by_cases hb : isBoardB r c l = true
  · rw [hb, Bool.true_and]
    refine Ev.congr (fun k => by rw [if_pos rfl, l1In_f, Option.bind_some]) ?_
    by_cases hx : inR (-100) 100 x = true
    · rw [hx, if_pos rfl]
      obtain ⟨R, C, rfl, rfl, hl', h1, h2, h3, h4, hbb⟩ := board_of hb
      refine Ev.step (fun k => by rw [spec_FileValue.j0, if_neg (by simp)]) ?_
      exact Ev.bind (spec_heights hb) (spec_value x (by rw [heights_length]; omega) C 0 1 (by rw [heights_length]; omega))
    · rw [if_neg hx]
      refine Ev.step (fun k => by rw [spec_FileValue.j0, if_pos (by simpa using hx)]) (Ev.now _)
  · have hbf : isBoardB r c l = false := by simpa using hb
    rw [hbf, Bool.false_and, if_neg (by simp)]
    refine Ev.step (fun k => by rw [if_neg (by simp), spec_FileValue.j0, if_pos rfl]) (Ev.now _)
theorem impl_fileValue {r c x : Int} {l : List Int} (hl : l.length ≤ 1048576) : Ev (fun k => impl_FileValue.f k r c l x) (valueAnswer r c l x) := by
  unfold impl_FileValue.f valueAnswer impl_IsBoard.f
  by_cases hb : isBoardB r c l = true
  · rw [hb, Bool.true_and]
    refine Ev.congr (fun k => by rw [Option.bind_some, if_pos rfl, within_f, Option.bind_some]) ?_
    by_cases hx : inR (-100) 100 x = true
    · rw [hx, if_pos rfl]
      unfold inR at hx
      obtain ⟨R, C, rfl, rfl, hl', h1, h2, h3, h4, hbb⟩ := board_of hb
      refine Ev.step (fun k => by rw [impl_FileValue.j0, if_neg (by rw [hx]; simp)]) ?_
      exact Ev.bind (impl_heights hb) (impl_value x (by rw [heights_length]; omega) C 0 1 (by rw [heights_length]; omega))
    · rw [if_neg hx]
      have hx2 : decide (-100 ≤ x ∧ x ≤ 100) = false := by simpa [inR] using hx
      refine Ev.step (fun k => by rw [impl_FileValue.j0, if_pos (by rw [hx2]; rfl)]) (Ev.now _)
  · have hbf : isBoardB r c l = false := by simpa using hb
    rw [hbf, Bool.false_and, if_neg (by simp)]
    refine Ev.step (fun k => by rw [Option.bind_some, if_neg (by simp), impl_FileValue.j0, if_pos rfl]) (Ev.now _)

theorem FnExactFileValue : laws_FnExactFileValue.Pure := by
  intro r c l x _ _ _ hl8 _ _
  unfold laws_FnExactFileValue.f
  refine ends ?_
  refine Ev.congr (fun k => by rw [szBoard_f r c l hl8, Option.bind_some]) ?_
  by_cases hlb : l.length ≤ 1048576
  · refine Ev.congr (fun k => by rw [if_pos hlb, if_neg (by omega)]) ?_
    refine Ev.bind (toBoard r c hlb) (Ev.bind (spec_fileValue hlb) (Ev.bind (toBoard r c hlb) (Ev.bind (impl_fileValue hlb) ?_)))
    refine Ev.congr (fun k => by rw [if_pos rfl]) ?_
    refine Ev.step (fun k => by rw [laws_FnExactFileValue.j0, if_neg (by simp)]) ?_
    refine Ev.bind (toBoard r c hlb) (Ev.bind (eqBoard r c (by simp; omega)) ?_)
    exact Ev.congr (fun k => by rw [if_pos rfl]) (Ev.now _)
  · exact Ev.congr (fun k => by rw [if_neg hlb, if_pos (by omega)]) (Ev.now _)

end Go.Proofs.Ytiocgomkminmoaa.Pure
