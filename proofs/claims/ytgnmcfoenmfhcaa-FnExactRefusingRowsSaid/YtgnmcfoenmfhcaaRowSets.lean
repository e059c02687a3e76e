/- All sets of rows, the program's masks and the reference's lists, in one order; lacks and refusing rows of sets. No conditions but a side up to six. -/
import Derived.Test.YtgnmcfoenmfhcaaLines
import Derived.Test.YtgnmcfoenmfhcaaHandSortM
import Derived.Test.YtgnmcfoenmfhcaaQimplBoardrowSets
import Derived.Test.YtgnmcfoenmfhcaaQspeclcSets
import Derived.Test.YtgnmcfoenmfhcaaQimplcount
namespace Go.Proofs.Ytgnmcfoenmfhcaa.RowSetsK
set_option linter.unusedVariables false
open Go.RowKit Go.Proofs Go.Sort Go.Proofs.Ytgnmcfoenmfhcaa.Q Go.Proofs.YtgnmcfoenmfhcaaW.PrintWords Go.Proofs.YtgnmcfoenmfhcaaW.PrintLast Go.Proofs.YtgnmcfoenmfhcaaW.PrintMore
open Go.Proofs.YtgnmcfoenmfhcaaL Go.Proofs.Ytgnmcfoenmfhcaa.LawK Go.Proofs.Ytgnmcfoenmfhcaa.BoardK Go.Proofs.Ytgnmcfoenmfhcaa.LinesK Go.Proofs.Ytgnmcfoenmfhcaa.SortM
/-- The masks below a power of two, in the sets' order. -/
def setsM (R : Nat) : List Nat := fullM.filter (fun m => decide (m < 2 ^ R))
theorem setsM_lt : ∀ R : Fin 7, ∀ m ∈ setsM R.val, m < 64 ∧ m < 2 ^ R.val := by decide +kernel
theorem setsM_pair : ∀ R : Fin 7, List.Pairwise (fun x y => rankM x < rankM y) (setsM R.val) := by decide +kernel
theorem iota_all : ∀ R : Fin 7, (iota 0 (2 ^ R.val)).all isMask = true := by decide +kernel
theorem setsM_perm : ∀ R : Fin 7, List.Perm ((iota 0 (2 ^ R.val)).map toF) ((setsM R.val).map fun (m : Nat) => toF (m : Int)) := by decide +kernel
theorem toF_nat {m : Nat} (h : m < 64) : (toF (m : Int)).val = m := by unfold toF; simp only []; omega
theorem sorted_all {R : Nat} (hR : R ≤ 6) : sortedM (iota 0 (2 ^ R)) = (setsM R).map fun (m : Nat) => (m : Int) := by
  have hp := setsM_perm ⟨R, by omega⟩
  have hq := setsM_pair ⟨R, by omega⟩
  have hl := setsM_lt ⟨R, by omega⟩
  simp only [] at hp hq hl
  have e : ((iota 0 (2 ^ R)).map toF).mergeSort (fun x y => !(ltOf cfM) y x) = (setsM R).map fun (m : Nat) => toF (m : Int) := by
    refine List.Perm.eq_of_pairwise (le := fun x y => (!(ltOf cfM) y x) = true) ?_ ?_ ?_ ((List.mergeSort_perm _ _).trans hp)
    · intro a b _ _ h1 h2
      exact totM a b (by simpa using h2) (by simpa using h1)
    · refine List.pairwise_mergeSort ?_ ?_ _
      · intro a b c h1 h2
        rw [ltM] at *
        simp at *
        omega
      · intro a b
        rw [ltM, ltM]
        simp
        omega
    · rw [List.pairwise_map]
      refine List.Pairwise.imp_of_mem ?_ hq
      intro a b ha hb h
      rw [ltM, toF_nat (hl a ha).1, toF_nat (hl b hb).1]
      simp
      omega
  unfold sortedM
  rw [e, List.map_map]
  apply List.map_congr_left
  intro m hm
  show ((toF (m : Int)).val : Int) = m
  rw [toF_nat (hl m hm).1]
theorem rowSets_l0 (X : List Int) (n : Nat) (hn : n ≤ 64) (hX : slices_SortFunc_int_int__at_impl_Board_rowSets_1.f (iota 0 n) = some X) : ∀ (d i : Nat), i + d = n → Ev (fun k => impl_Board_rowSets.l0 k (iota 0 i) (n : Int) i) X
  | 0, i, hi => by
    refine Ev.step (f := fun _ => some X) (fun k => ?_) (Ev.now _)
    rw [impl_Board_rowSets.l0, if_neg (by omega), show i = n by omega, hX]; rfl
  | d + 1, i, hi => by
    have w1 : wrap64 ((i : Int) + 1) = ((i + 1 : Nat) : Int) := by rw [w64 (by omega) (by omega)]; rfl
    have ih := rowSets_l0 X n hn hX d (i + 1) (by omega)
    rw [iota_snoc, Int.zero_add] at ih
    refine Ev.step (fun k => ?_) ih
    rw [impl_Board_rowSets.l0, if_pos (by omega), if_pos (by rw [iota_length]; omega), w1]
theorem rowSets {R : Nat} (hR : R ≤ 6) (c : Int) (l : List Int) : Ev (fun k => impl_Board_rowSets.f k R c l) ((setsM R).map fun (m : Nat) => (m : Int)) := by
  have hp : 2 ^ R ≤ 2 ^ 6 := Nat.pow_le_pow_right (by decide) hR
  have hp1 : 1 ≤ 2 ^ R := Nat.one_le_two_pow
  unfold impl_Board_rowSets.f
  have h := rowSets_l0 (sortedM (iota 0 (2 ^ R))) (2 ^ R) (by omega) (by
    unfold slices_SortFunc_int_int__at_impl_Board_rowSets_1.f
    rw [if_pos ⟨iota_all ⟨R, by omega⟩, by rw [iota_length]; omega, by rw [iota_length]; omega⟩]) (2 ^ R) 0 (by omega)
  rw [sorted_all hR] at h
  refine Ev.congr (fun k => ?_) h
  rw [if_pos (by omega), shl_one R (by omega)]
  rfl
theorem lcSets_all : ∀ R : Fin 7, spec_lcSets.f 40 (R.val : Int) = some ((setsM R.val).map listM) := by decide +kernel
theorem lcSets {R : Nat} (hR : R ≤ 6) : Ev (fun k => spec_lcSets.f k R) ((setsM R).map listM) := Ev.of (fun k => spec_lcSets.mono _ k) (lcSets_all ⟨R, by omega⟩)
theorem count {m : Nat} (hm : m < 64) : impl_count.f (m : Int) = some ((listM m).length : Int) := count_all ⟨m, hm⟩
end Go.Proofs.Ytgnmcfoenmfhcaa.RowSetsK
