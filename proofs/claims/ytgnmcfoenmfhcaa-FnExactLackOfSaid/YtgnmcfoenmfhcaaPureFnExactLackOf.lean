/- The program's LackOf returns what the reference's returns, for all boards. No conditions. -/
import Derived.Test.YtgnmcfoenmfhcaaQlawsFnExactLackOf
import Derived.Test.YtgnmcfoenmfhcaaRowSets
namespace Go.Proofs.Ytgnmcfoenmfhcaa.Pure
set_option linter.unusedVariables false
open Go.RowKit Go.Proofs.Ytgnmcfoenmfhcaa.Q Go.Proofs.YtgnmcfoenmfhcaaW.PrintWords Go.Proofs.YtgnmcfoenmfhcaaW.PrintLast Go.Proofs.YtgnmcfoenmfhcaaW.PrintMore
open Go.Proofs.YtgnmcfoenmfhcaaL Go.Proofs.Ytgnmcfoenmfhcaa.LawK Go.Proofs.Ytgnmcfoenmfhcaa.BoardK Go.Proofs.Ytgnmcfoenmfhcaa.LinesK Go.Proofs.Ytgnmcfoenmfhcaa.SortM Go.Proofs.Ytgnmcfoenmfhcaa.RowSetsK

namespace LackOfK
/-- By how many some rows are more than their columns. -/
def lack (l : List Int) (m : Nat) : Int := ((listM m).length : Int) - ((listM (orM l (listM m))).length : Int)
def most (l : List Int) (S : List Nat) (a : Int) : Int := S.foldl (fun a m => if a > lack l m then a else lack l m) a
def ans (r c : Int) (l : List Int) : Int × Bool := if isBoardB r c l = true then (most l (setsM r.toNat) 0, true) else (0, false)
theorem mx_eq (a b : Int) : mx a b = if a > b then a else b := by
  unfold mx
  by_cases h : a < b
  · rw [if_pos h, if_neg (by omega)]
  · rw [if_neg h]
    by_cases h2 : a > b
    · rw [if_pos h2]
    · rw [if_neg h2]; omega
theorem impl_l0 {R C : Nat} {l : List Int} (hlR : l.length = R) (hR : R ≤ 6) (hC : C ≤ 6) (hb : ∀ i (hi : i < l.length), 0 ≤ l[i] ∧ l[i] < 2 ^ C) (S : List Nat) (hS : ∀ m ∈ S, m < 64 ∧ m < 2 ^ R) (hSl : S.length ≤ 64) : ∀ (d i : Nat) (a : Int), i + d = S.length →
    Ev (fun k => impl_LackOf.l0 k a (S.map fun (m : Nat) => (m : Int)) ((S.map fun (m : Nat) => (m : Int)).length : Int) i R C l) (most l (S.drop i) a, true)
  | 0, i, a, hi => by
    refine Ev.step (f := fun _ => some (a, true)) (fun k => ?_) (evEq (Ev.now _) (by rw [List.drop_eq_nil_of_le (by omega)]; rfl))
    rw [impl_LackOf.l0, if_neg (by rw [List.length_map]; omega)]
  | d + 1, i, a, hi => by
    have w1 : wrap64 ((i : Int) + 1) = ((i + 1 : Nat) : Int) := by rw [w64 (by omega) (by omega)]; rfl
    have hi2 : i < S.length := by omega
    obtain ⟨h64, hmR⟩ := hS S[i] (List.getElem_mem hi2)
    have hbit : ∀ j, S[i].testBit j = true → j < R := fun j hj => by
      by_cases h : j < R
      · exact h
      · rw [Nat.testBit_lt_two_pow (Nat.lt_of_lt_of_le hmR (Nat.pow_le_pow_right (by decide) (by omega)))] at hj; cases hj
    have hlt : orM l (listM S[i]) < 2 ^ C := orFrom_lt hb _ 0 (Nat.two_pow_pos C)
    have hp : 2 ^ C ≤ 2 ^ 6 := Nat.pow_le_pow_right (by decide) hC
    have l1 := listM_len S[i]
    have l2 := listM_len (orM l (listM S[i]))
    have ih := impl_l0 hlR hR hC hb S hS hSl d (i + 1) (if a > lack l S[i] then a else lack l S[i]) (by omega)
    rw [List.drop_eq_getElem_cons hi2]
    refine Ev.step (f := fun k => (impl_Board_columns.f k R C l (S[i] : Nat)).bind fun t108 => (impl_count.f t108).bind fun t109 => impl_LackOf.l0 k (mx a (wrap64 (((listM S[i]).length : Int) - t109))) (S.map fun (m : Nat) => (m : Int)) ((S.map fun (m : Nat) => (m : Int)).length : Int) ((i + 1 : Nat) : Int) R C l) (fun k => ?_) ?_
    · rw [impl_LackOf.l0, if_pos (by rw [List.length_map]; omega), if_pos (by omega), if_pos (by rw [List.length_map]; omega), rd_lt _ i (by rw [List.length_map]; exact hi2), List.getElem_map, count h64, Option.bind_some, w1]
    · refine Ev.bind (columns (R : Int) (C : Int) hC hb h64 (fun j hj => by have := hbit j hj; omega)) ?_
      refine Ev.congr (fun k => by rw [count (by omega), Option.bind_some, w64 (by omega) (by omega), mx_eq]; rfl) ih
theorem impl_answer {r c : Int} {l : List Int} : Ev (fun k => impl_LackOf.f k r c l) (ans r c l) := by
  unfold impl_LackOf.f ans
  refine Ev.congr (fun k => by rw [impl_IsBoard.f, Option.bind_some]) ?_
  by_cases hb : isBoardB r c l = true
  · obtain ⟨R, C, rfl, rfl, hlR, h1R, hR, h1C, hC, hbits⟩ := board_of hb
    refine Ev.congr (fun k => by rw [if_pos hb]) ?_
    rw [if_pos hb, Int.toNat_natCast]
    refine Ev.bind (rowSets hR _ _) ?_
    have hlen : (setsM R).length ≤ 64 := List.length_filter_le _ fullM
    exact impl_l0 hlR hR hC hbits (setsM R) (setsM_lt ⟨R, by omega⟩) hlen (setsM R).length 0 0 (by omega)
  · rw [if_neg hb]
    exact Ev.congr (fun k => by rw [if_neg hb]) (Ev.now _)
theorem spec_l0 {R C : Nat} {l : List Int} (hlR : l.length = R) (hR : R ≤ 6) (hC : C ≤ 6) (hb : ∀ i (hi : i < l.length), 0 ≤ l[i] ∧ l[i] < 2 ^ C) (S : List Nat) (hS : ∀ m ∈ S, m < 64 ∧ m < 2 ^ R) (hSl : S.length ≤ 64) : ∀ (d i : Nat) (a : Int), i + d = S.length →
    Ev (fun k => spec_LackOf.l0 k a (S.map listM) ((S.map listM).length : Int) i R C l) (most l (S.drop i) a, true)
  | 0, i, a, hi => by
    refine Ev.step (f := fun _ => some (a, true)) (fun k => ?_) (evEq (Ev.now _) (by rw [List.drop_eq_nil_of_le (by omega)]; rfl))
    rw [spec_LackOf.l0, if_neg (by rw [List.length_map]; omega)]
  | d + 1, i, a, hi => by
    have w1 : wrap64 ((i : Int) + 1) = ((i + 1 : Nat) : Int) := by rw [w64 (by omega) (by omega)]; rfl
    have hi2 : i < S.length := by omega
    obtain ⟨h64, hmR⟩ := hS S[i] (List.getElem_mem hi2)
    have hbit : ∀ j, S[i].testBit j = true → j < R := fun j hj => by
      by_cases h : j < R
      · exact h
      · rw [Nat.testBit_lt_two_pow (Nat.lt_of_lt_of_le hmR (Nat.pow_le_pow_right (by decide) (by omega)))] at hj; cases hj
    have l1 := listM_len S[i]
    have l2 := listM_len (orM l (listM S[i]))
    have ih := spec_l0 hlR hR hC hb S hS hSl d (i + 1) (if a > lack l S[i] then a else lack l S[i]) (by omega)
    have hrd : rd_L2 (S.map listM) (i : Int) = listM S[i] := by unfold rd_L2; rw [Int.toNat_natCast, gD_lt _ _ (by rw [List.length_map]; exact hi2), List.getElem_map]
    rw [List.drop_eq_getElem_cons hi2]
    refine Ev.step (f := fun k => (spec_lcColumns.f k R C l (listM S[i]) false).bind fun t107 => (spec_l1Most.f a (wrap64 (((listM S[i]).length : Int) - (t107.length : Int)))).bind fun t110 => spec_LackOf.l0 k t110 (S.map listM) ((S.map listM).length : Int) ((i + 1 : Nat) : Int) R C l) (fun k => ?_) ?_
    · rw [spec_LackOf.l0, if_pos (by rw [List.length_map]; omega), if_pos (by omega), if_pos (by rw [List.length_map]; omega), hrd, w1]
    · refine Ev.bind (lcColumns R C hlR hR hC (fun i hi => by have := hb i hi; have := two_pow_six hC; omega) false (by omega)) ?_
      rw [← colsS_mask hlR hR hC hb hbit]
      refine Ev.congr (fun k => ?_) ih
      rw [w64 (by omega) (by omega), spec_l1Most.f]
      by_cases h : a > lack l S[i]
      · rw [if_pos h]
        unfold lack at h
        rw [if_pos h, Option.bind_some]
      · rw [if_neg h]
        unfold lack at h
        rw [if_neg h, Option.bind_some]
        rfl
theorem spec_answer {r c : Int} {l : List Int} (hl : l.length ≤ 1048576) : Ev (fun k => spec_LackOf.f k r c l) (ans r c l) := by
  unfold spec_LackOf.f ans
  refine Ev.bind (boGood r c (by omega)) ?_
  by_cases hb : isBoardB r c l = true
  · obtain ⟨R, C, rfl, rfl, hlR, h1R, hR, h1C, hC, hbits⟩ := board_of hb
    refine Ev.congr (fun k => by rw [if_pos hb]) ?_
    rw [if_pos hb, Int.toNat_natCast]
    refine Ev.bind (lcSets hR) ?_
    have hlen : (setsM R).length ≤ 64 := List.length_filter_le _ fullM
    exact spec_l0 hlR hR hC hbits (setsM R) (setsM_lt ⟨R, by omega⟩) hlen (setsM R).length 0 0 (by omega)
  · rw [if_neg hb]
    exact Ev.congr (fun k => by rw [if_neg hb]) (Ev.now _)
end LackOfK
open LackOfK

theorem FnExactLackOf : laws_FnExactLackOf.Pure := by
  intro r c l _ _ _ hl8 _
  unfold laws_FnExactLackOf.f
  refine ends ?_
  refine Ev.congr (fun k => by rw [szBoard_f r c l hl8, Option.bind_some]) ?_
  by_cases hlb : l.length ≤ 1048576
  · refine Ev.congr (fun k => by rw [if_pos hlb, if_neg (by omega)]) ?_
    refine Ev.bind (toBoard r c hlb) (Ev.bind (spec_answer hlb) (Ev.bind (toBoard r c hlb) (Ev.bind impl_answer ?_)))
    refine Ev.congr (fun k => by rw [if_pos rfl]) ?_
    refine Ev.step (fun k => by rw [laws_FnExactLackOf.j0, if_neg (by simp)]) ?_
    refine Ev.bind (toBoard r c hlb) (Ev.bind (eqBoard r c (by simp; omega)) ?_)
    exact Ev.congr (fun k => by rw [if_pos rfl]) (Ev.now _)
  · exact Ev.congr (fun k => by rw [if_neg hlb, if_pos (by omega)]) (Ev.now _)

end Go.Proofs.Ytgnmcfoenmfhcaa.Pure
