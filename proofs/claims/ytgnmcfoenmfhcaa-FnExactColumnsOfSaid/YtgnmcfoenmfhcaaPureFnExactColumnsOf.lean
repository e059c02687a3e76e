/- The program's ColumnsOf returns what the reference's returns, for all arguments. No conditions. -/
import Derived.Test.YtgnmcfoenmfhcaaQlawsFnExactColumnsOf
import Derived.Test.YtgnmcfoenmfhcaaLines
namespace Go.Proofs.Ytgnmcfoenmfhcaa.Pure
set_option linter.unusedVariables false
open Go.RowKit Go.Proofs.Ytgnmcfoenmfhcaa.Q Go.Proofs.YtgnmcfoenmfhcaaW.PrintWords Go.Proofs.YtgnmcfoenmfhcaaW.PrintLast Go.Proofs.YtgnmcfoenmfhcaaW.PrintMore
open Go.Proofs.YtgnmcfoenmfhcaaL Go.Proofs.Ytgnmcfoenmfhcaa.LawK Go.Proofs.Ytgnmcfoenmfhcaa.BoardK Go.Proofs.Ytgnmcfoenmfhcaa.LinesK

namespace ColumnsOfK
def ans (r c : Int) (l rows : List Int) : List Int × Bool := if (isBoardB r c l && risesB r 0 rows) = true then (colsS l rows false r.toNat c.toNat, true) else ([], false)
theorem impl_answer {r c : Int} {l rows : List Int} (hr : rows.length ≤ 1048576) : Ev (fun k => impl_ColumnsOf.f k r c l rows) (ans r c l rows) := by
  unfold impl_ColumnsOf.f ans
  refine Ev.congr (fun k => by rw [impl_IsBoard.f, Option.bind_some]) ?_
  by_cases hb : isBoardB r c l = true
  · obtain ⟨R, C, rfl, rfl, hlR, h1R, hR, h1C, hC, hbits⟩ := board_of hb
    refine Ev.congr (fun k => by rw [if_pos hb]) ?_
    refine Ev.bind (areSome (by omega) (by omega) (by omega)) ?_
    rw [hb, Bool.true_and]
    by_cases hs : risesB (R : Int) 0 rows = true
    · obtain ⟨m, hm, rfl, hmb⟩ := rises_mask (by omega) rows 0 (by omega) hs
      rw [if_pos hs, Int.toNat_natCast, Int.toNat_natCast, hs]
      refine Ev.step (fun k => by rw [impl_ColumnsOf.j0, if_neg (by simp)]) ?_
      refine Ev.bind (maskOf hm) (Ev.bind (columns (R : Int) (C : Int) hC hbits hm (fun i hi => by have := hmb i hi; omega)) (Ev.bind (a := listM (orM l (listM m))) ?_ ?_))
      · refine listOf ?_
        have h2 : orM l (listM m) < 2 ^ C := orFrom_lt hbits _ 0 (Nat.two_pow_pos C)
        have hp : 2 ^ C ≤ 2 ^ 6 := Nat.pow_le_pow_right (by decide) hC
        omega
      · rw [colsS_mask hlR hR hC hbits (fun i hi => by have := hmb i hi; omega)]
        exact Ev.now _
    · rw [if_neg hs]
      have hs2 : risesB (R : Int) 0 rows = false := by simpa using hs
      exact Ev.step (f := fun _ => some ([], false)) (fun k => by rw [impl_ColumnsOf.j0, hs2, if_pos (by rfl)]) (Ev.now _)
  · have hb2 : isBoardB r c l = false := by simpa using hb
    rw [hb2, Bool.false_and, if_neg (by simp)]
    refine Ev.congr (fun k => by rw [if_neg (by simp)]) ?_
    exact Ev.step (f := fun _ => some ([], false)) (fun k => by rw [impl_ColumnsOf.j0, if_pos rfl]) (Ev.now _)
theorem spec_answer {r c : Int} {l rows : List Int} (hl : l.length ≤ 1048576) (hr : rows.length ≤ 1048576) : Ev (fun k => spec_ColumnsOf.f k r c l rows) (ans r c l rows) := by
  unfold spec_ColumnsOf.f ans
  refine Ev.bind (boGood r c (by omega)) ?_
  by_cases hb : isBoardB r c l = true
  · obtain ⟨R, C, rfl, rfl, hlR, h1R, hR, h1C, hC, hbits⟩ := board_of hb
    refine Ev.congr (fun k => by rw [if_pos hb]) ?_
    refine Ev.bind (l1Rising (by omega) (by omega) (by omega)) ?_
    rw [hb, Bool.true_and]
    by_cases hs : risesB (R : Int) 0 rows = true
    · rw [if_pos hs, Int.toNat_natCast, Int.toNat_natCast]
      refine Ev.congr (fun k => by rw [if_pos hs]) ?_
      exact Ev.bind (lcColumns R C hlR hR hC (fun i hi => by have := hbits i hi; have := two_pow_six hC; omega) false (by omega)) (Ev.now _)
    · rw [if_neg hs]
      exact Ev.congr (fun k => by rw [if_neg hs]) (Ev.now _)
  · have hb2 : isBoardB r c l = false := by simpa using hb
    rw [hb2, Bool.false_and, if_neg (by simp)]
    exact Ev.congr (fun k => by rw [if_neg (by simp)]) (Ev.now _)
theorem ans_len (r c : Int) (l rows : List Int) : (ans r c l rows).1.length ≤ 1048576 := by
  unfold ans
  by_cases h : (isBoardB r c l && risesB r 0 rows) = true
  · rw [if_pos h]
    rw [Bool.and_eq_true] at h
    obtain ⟨R, C, rfl, rfl, hlR, h1R, hR, h1C, hC, hbits⟩ := board_of h.1
    have := List.length_filter_le (fun x => reachFrom l rows false x.toNat 0 R) (iota 0 C)
    rw [iota_length] at this
    show (colsS l rows false (R : Int).toNat (C : Int).toNat).length ≤ _
    rw [Int.toNat_natCast, Int.toNat_natCast]
    unfold colsS
    omega
  · rw [if_neg h]; simp
end ColumnsOfK
open ColumnsOfK

theorem FnExactColumnsOf : laws_FnExactColumnsOf.Pure := by
  intro r c l p _ _ _ hl8 _ hm2 _ _
  unfold laws_FnExactColumnsOf.f
  refine ends ?_
  by_cases hp : p.length ≤ 1048576
  · refine Ev.congr (fun k => by rw [if_neg (by omega), szBoard_f r c l hl8, Option.bind_some]) ?_
    by_cases hlb : l.length ≤ 1048576
    · have hn := ans_len r c l p
      refine Ev.congr (fun k => by rw [if_pos hlb, if_neg (by omega)]) ?_
      refine Ev.bind (toBoard r c hlb) (Ev.bind (toIntS hp) (Ev.bind (spec_answer hlb hp) (Ev.bind (toBoard r c hlb) (Ev.bind (toIntS hp) (Ev.bind (impl_answer hp) ?_)))))
      refine Ev.bind (eqIntS (by simp only []; omega)) ?_
      refine Ev.congr (fun k => by rw [if_pos (by simp)]) ?_
      refine Ev.step (fun k => by rw [laws_FnExactColumnsOf.j0, if_neg (by simp)]) ?_
      refine Ev.bind (toBoard r c hlb) (Ev.bind (eqBoard r c (by simp; omega)) ?_)
      refine Ev.congr (fun k => by rw [if_pos rfl]) ?_
      refine Ev.bind (toIntS hp) (Ev.bind (eqIntS (by omega)) ?_)
      refine Ev.congr (fun k => by rw [if_pos (by simp)]) ?_
      refine Ev.bind (a := (1 + (l.length : Int), iota 1 l.length)) (show Ev (fun k => laws_markBoard.f k r c l 1) (1 + (l.length : Int), iota 1 l.length) by unfold laws_markBoard.f; exact Ev.bind (markIntS l (by omega) (by omega)) (Ev.now _)) ?_
      refine Ev.bind (markIntS p (by simp only []; omega) (by simp only []; omega)) ?_
      refine Ev.congr (fun k => by rw [if_neg (by simp; omega)]) ?_
      refine Ev.bind (eqIntS (by simp only []; omega)) ?_
      refine Ev.congr (fun k => by rw [if_pos (by simp)]) ?_
      refine Ev.step (fun k => by rw [laws_FnExactColumnsOf.j1, if_neg (by simp)]) ?_
      refine Ev.bind (markIntS _ (by omega) (by simp only []; omega)) ?_
      refine Ev.bind (heldIntS _ (by omega) (by simp only []; omega)) ?_
      refine Ev.congr (fun k => by rw [if_neg (by omega), if_pos rfl]) ?_
      refine Ev.bind (toBoard r c hlb) (Ev.bind (toIntS hp) (Ev.bind (impl_answer hp) ?_))
      refine Ev.bind (eqIntS (by simp only []; omega)) ?_
      refine Ev.congr (fun k => by rw [if_pos (by simp)]) ?_
      refine Ev.step (fun k => by rw [laws_FnExactColumnsOf.j2, if_neg (by simp)]) ?_
      refine Ev.bind (heldIntS _ (by omega) (by simp only []; omega)) ?_
      exact Ev.congr (fun k => by rw [if_neg (by omega), if_pos rfl]) (Ev.now _)
    · exact Ev.congr (fun k => by rw [if_neg hlb, if_pos (by omega)]) (Ev.now _)
  · exact Ev.congr (fun k => by rw [if_pos (by omega)]) (Ev.now _)

end Go.Proofs.Ytgnmcfoenmfhcaa.Pure
