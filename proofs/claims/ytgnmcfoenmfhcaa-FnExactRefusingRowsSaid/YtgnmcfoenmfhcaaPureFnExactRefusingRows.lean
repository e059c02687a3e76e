/- The program's RefusingRows returns what the reference's returns, for all boards. No conditions. -/
import Derived.Test.YtgnmcfoenmfhcaaQlawsFnExactRefusingRows
import Derived.Test.YtgnmcfoenmfhcaaRowSets
namespace Go.Proofs.Ytgnmcfoenmfhcaa.Pure
set_option linter.unusedVariables false
open Go.RowKit Go.Proofs.Ytgnmcfoenmfhcaa.Q Go.Proofs.YtgnmcfoenmfhcaaW.PrintWords Go.Proofs.YtgnmcfoenmfhcaaW.PrintLast Go.Proofs.YtgnmcfoenmfhcaaW.PrintMore
open Go.Proofs.YtgnmcfoenmfhcaaL Go.Proofs.Ytgnmcfoenmfhcaa.LawK Go.Proofs.Ytgnmcfoenmfhcaa.BoardK Go.Proofs.Ytgnmcfoenmfhcaa.LinesK Go.Proofs.Ytgnmcfoenmfhcaa.SortM Go.Proofs.Ytgnmcfoenmfhcaa.RowSetsK

namespace RefusingRowsK
/-- Do some rows have cells in fewer columns? -/
def fewer (l : List Int) (m : Nat) : Bool := decide ((listM (orM l (listM m))).length < (listM m).length)
def first (l : List Int) : List Nat → List Int × Bool
  | [] => ([], false)
  | m :: t => if fewer l m = true then (listM m, true) else first l t
def ans (r c : Int) (l : List Int) : List Int × Bool := if isBoardB r c l = true then first l (setsM r.toNat) else ([], false)
theorem first_len (l : List Int) : ∀ S : List Nat, (first l S).1.length ≤ 6
  | [] => by simp [first]
  | m :: t => by
    rw [first]
    by_cases h : fewer l m = true
    · rw [if_pos h]; exact listM_len m
    · rw [if_neg h]; exact first_len l t
theorem ans_len (r c : Int) (l : List Int) : (ans r c l).1.length ≤ 6 := by
  unfold ans
  by_cases h : isBoardB r c l = true
  · rw [if_pos h]; exact first_len _ _
  · rw [if_neg h]; simp
theorem impl_l0 {R C : Nat} {l : List Int} (hlR : l.length = R) (hR : R ≤ 6) (hC : C ≤ 6) (hb : ∀ i (hi : i < l.length), 0 ≤ l[i] ∧ l[i] < 2 ^ C) (S : List Nat) (hS : ∀ m ∈ S, m < 64 ∧ m < 2 ^ R) (hSl : S.length ≤ 64) : ∀ (d i : Nat), i + d = S.length →
    Ev (fun k => impl_RefusingRows.l0 k (S.map fun (m : Nat) => (m : Int)) ((S.map fun (m : Nat) => (m : Int)).length : Int) i R C l) (first l (S.drop i))
  | 0, i, hi => by
    refine Ev.step (f := fun _ => some ([], false)) (fun k => ?_) (evEq (Ev.now _) (by rw [List.drop_eq_nil_of_le (by omega)]; rfl))
    rw [impl_RefusingRows.l0, if_neg (by rw [List.length_map]; omega)]
  | d + 1, i, hi => by
    have w1 : wrap64 ((i : Int) + 1) = ((i + 1 : Nat) : Int) := by rw [w64 (by omega) (by omega)]; rfl
    have hi2 : i < S.length := by omega
    obtain ⟨h64, hmR⟩ := hS S[i] (List.getElem_mem hi2)
    have hbit : ∀ j, S[i].testBit j = true → j < R := fun j hj => by
      by_cases h : j < R
      · exact h
      · rw [Nat.testBit_lt_two_pow (Nat.lt_of_lt_of_le hmR (Nat.pow_le_pow_right (by decide) (by omega)))] at hj; cases hj
    have hlt : orM l (listM S[i]) < 2 ^ C := orFrom_lt hb _ 0 (Nat.two_pow_pos C)
    have hp : 2 ^ C ≤ 2 ^ 6 := Nat.pow_le_pow_right (by decide) hC
    have ih := impl_l0 hlR hR hC hb S hS hSl d (i + 1) (by omega)
    rw [List.drop_eq_getElem_cons hi2, first]
    refine Ev.step (f := fun k => (impl_Board_columns.f k R C l (S[i] : Nat)).bind fun t107 => (impl_count.f t107).bind fun t108 => if t108 < ((listM S[i]).length : Int) then (impl_listOf.f k (S[i] : Nat)).bind fun t110 => some (t110, true) else impl_RefusingRows.l0 k (S.map fun (m : Nat) => (m : Int)) ((S.map fun (m : Nat) => (m : Int)).length : Int) ((i + 1 : Nat) : Int) R C l) (fun k => ?_) ?_
    · rw [impl_RefusingRows.l0, if_pos (by rw [List.length_map]; omega), if_pos (by omega), if_pos (by rw [List.length_map]; omega), rd_lt _ i (by rw [List.length_map]; exact hi2), List.getElem_map, count h64, w1]
      rfl
    · refine Ev.bind (columns (R : Int) (C : Int) hC hb h64 (fun j hj => by have := hbit j hj; omega)) ?_
      by_cases h : fewer l S[i] = true
      · have h2 := of_decide_eq_true h
        rw [if_pos h]
        refine Ev.congr (fun k => by rw [count (by omega), Option.bind_some, if_pos (by omega)]) ?_
        exact Ev.bind (listOf h64) (Ev.now _)
      · have h2 : ¬ ((listM (orM l (listM S[i]))).length < (listM S[i]).length) := fun h3 => h (decide_eq_true h3)
        rw [if_neg h]
        exact Ev.congr (fun k => by rw [count (by omega), Option.bind_some, if_neg (by omega)]) ih
theorem impl_answer {r c : Int} {l : List Int} : Ev (fun k => impl_RefusingRows.f k r c l) (ans r c l) := by
  unfold impl_RefusingRows.f ans
  refine Ev.congr (fun k => by rw [impl_IsBoard.f, Option.bind_some]) ?_
  by_cases hb : isBoardB r c l = true
  · obtain ⟨R, C, rfl, rfl, hlR, h1R, hR, h1C, hC, hbits⟩ := board_of hb
    refine Ev.congr (fun k => by rw [if_pos hb]) ?_
    rw [if_pos hb, Int.toNat_natCast]
    refine Ev.bind (rowSets hR _ _) ?_
    have hlen : (setsM R).length ≤ 64 := List.length_filter_le _ fullM
    exact impl_l0 hlR hR hC hbits (setsM R) (setsM_lt ⟨R, by omega⟩) hlen (setsM R).length 0 (by omega)
  · rw [if_neg hb]
    exact Ev.congr (fun k => by rw [if_neg hb]) (Ev.now _)
theorem spec_l0 {R C : Nat} {l : List Int} (hlR : l.length = R) (hR : R ≤ 6) (hC : C ≤ 6) (hb : ∀ i (hi : i < l.length), 0 ≤ l[i] ∧ l[i] < 2 ^ C) (S : List Nat) (hS : ∀ m ∈ S, m < 64 ∧ m < 2 ^ R) (hSl : S.length ≤ 64) : ∀ (d i : Nat), i + d = S.length →
    Ev (fun k => spec_RefusingRows.l0 k (S.map listM) ((S.map listM).length : Int) i R C l) (first l (S.drop i))
  | 0, i, hi => by
    refine Ev.step (f := fun _ => some ([], false)) (fun k => ?_) (evEq (Ev.now _) (by rw [List.drop_eq_nil_of_le (by omega)]; rfl))
    rw [spec_RefusingRows.l0, if_neg (by rw [List.length_map]; omega)]
  | d + 1, i, hi => by
    have w1 : wrap64 ((i : Int) + 1) = ((i + 1 : Nat) : Int) := by rw [w64 (by omega) (by omega)]; rfl
    have hi2 : i < S.length := by omega
    obtain ⟨h64, hmR⟩ := hS S[i] (List.getElem_mem hi2)
    have hbit : ∀ j, S[i].testBit j = true → j < R := fun j hj => by
      by_cases h : j < R
      · exact h
      · rw [Nat.testBit_lt_two_pow (Nat.lt_of_lt_of_le hmR (Nat.pow_le_pow_right (by decide) (by omega)))] at hj; cases hj
    have l1 := listM_len S[i]
    have ih := spec_l0 hlR hR hC hb S hS hSl d (i + 1) (by omega)
    have hrd : rd_L2 (S.map listM) (i : Int) = listM S[i] := by unfold rd_L2; rw [Int.toNat_natCast, gD_lt _ _ (by rw [List.length_map]; exact hi2), List.getElem_map]
    rw [List.drop_eq_getElem_cons hi2, first]
    refine Ev.step (f := fun k => (spec_lcColumns.f k R C l (listM S[i]) false).bind fun t107 => if (t107.length : Int) < ((listM S[i]).length : Int) then some (listM S[i], true) else spec_RefusingRows.l0 k (S.map listM) ((S.map listM).length : Int) ((i + 1 : Nat) : Int) R C l) (fun k => ?_) ?_
    · rw [spec_RefusingRows.l0, if_pos (by rw [List.length_map]; omega), if_pos (by omega), if_pos (by rw [List.length_map]; omega), hrd, w1]
    · refine Ev.bind (lcColumns R C hlR hR hC (fun i hi => by have := hb i hi; have := two_pow_six hC; omega) false (by omega)) ?_
      rw [← colsS_mask hlR hR hC hb hbit]
      by_cases h : fewer l S[i] = true
      · have h2 := of_decide_eq_true h
        rw [if_pos h]
        exact Ev.congr (fun k => by rw [if_pos (by omega)]) (Ev.now _)
      · have h2 : ¬ ((listM (orM l (listM S[i]))).length < (listM S[i]).length) := fun h3 => h (decide_eq_true h3)
        rw [if_neg h]
        exact Ev.congr (fun k => by rw [if_neg (by omega)]) ih
theorem spec_answer {r c : Int} {l : List Int} (hl : l.length ≤ 1048576) : Ev (fun k => spec_RefusingRows.f k r c l) (ans r c l) := by
  unfold spec_RefusingRows.f ans
  refine Ev.bind (boGood r c (by omega)) ?_
  by_cases hb : isBoardB r c l = true
  · obtain ⟨R, C, rfl, rfl, hlR, h1R, hR, h1C, hC, hbits⟩ := board_of hb
    refine Ev.congr (fun k => by rw [if_pos hb]) ?_
    rw [if_pos hb, Int.toNat_natCast]
    refine Ev.bind (lcSets hR) ?_
    have hlen : (setsM R).length ≤ 64 := List.length_filter_le _ fullM
    exact spec_l0 hlR hR hC hbits (setsM R) (setsM_lt ⟨R, by omega⟩) hlen (setsM R).length 0 (by omega)
  · rw [if_neg hb]
    exact Ev.congr (fun k => by rw [if_neg hb]) (Ev.now _)
end RefusingRowsK
open RefusingRowsK

theorem FnExactRefusingRows : laws_FnExactRefusingRows.Pure := by
  intro r c l _ _ _ hl8 _
  unfold laws_FnExactRefusingRows.f
  refine ends ?_
  refine Ev.congr (fun k => by rw [szBoard_f r c l hl8, Option.bind_some]) ?_
  have hn := ans_len r c l
  by_cases hlb : l.length ≤ 1048576
  · refine Ev.congr (fun k => by rw [if_pos hlb, if_neg (by omega)]) ?_
    refine Ev.bind (toBoard r c hlb) (Ev.bind (spec_answer hlb) (Ev.bind (toBoard r c hlb) (Ev.bind impl_answer ?_)))
    refine Ev.bind (eqIntS (by simp only []; omega)) ?_
    refine Ev.congr (fun k => by rw [if_pos (by simp)]) ?_
    refine Ev.step (fun k => by rw [laws_FnExactRefusingRows.j0, if_neg (by simp)]) ?_
    refine Ev.bind (toBoard r c hlb) (Ev.bind (eqBoard r c (by simp; omega)) ?_)
    refine Ev.congr (fun k => by rw [if_pos rfl]) ?_
    refine Ev.bind (a := (1 + (l.length : Int), iota 1 l.length)) (show Ev (fun k => laws_markBoard.f k r c l 1) (1 + (l.length : Int), iota 1 l.length) by unfold laws_markBoard.f; exact Ev.bind (markIntS l (by omega) (by omega)) (Ev.now _)) ?_
    refine Ev.congr (fun k => by rw [if_neg (by simp only []; omega)]) ?_
    refine Ev.bind (eqIntS (by simp only []; omega)) ?_
    refine Ev.congr (fun k => by rw [if_pos (by simp)]) ?_
    refine Ev.step (fun k => by rw [laws_FnExactRefusingRows.j1, if_neg (by simp)]) ?_
    refine Ev.bind (markIntS _ (by omega) (by simp only []; omega)) ?_
    refine Ev.bind (heldIntS _ (by omega) (by simp only []; omega)) ?_
    refine Ev.congr (fun k => by rw [if_neg (by omega), if_pos rfl]) ?_
    refine Ev.bind (toBoard r c hlb) (Ev.bind impl_answer ?_)
    refine Ev.bind (eqIntS (by simp only []; omega)) ?_
    refine Ev.congr (fun k => by rw [if_pos (by simp)]) ?_
    refine Ev.step (fun k => by rw [laws_FnExactRefusingRows.j2, if_neg (by simp)]) ?_
    refine Ev.bind (heldIntS _ (by omega) (by simp only []; omega)) ?_
    exact Ev.congr (fun k => by rw [if_neg (by omega), if_pos rfl]) (Ev.now _)
  · exact Ev.congr (fun k => by rw [if_neg hlb, if_pos (by omega)]) (Ev.now _)

end Go.Proofs.Ytgnmcfoenmfhcaa.Pure
