/- Texts of this claim put together (14): words, what the functions compute, and plain facts. No conditions. -/
import Derived.Test.YtgnmcfoenmfhcaaSFnRefusingRows8
import Derived.Test.YtgnmcfoenmfhcaaSFnRefusingRows12
import Derived.Test.YtgnmcfoenmfhcaaSFnRefusingRows9
import Derived.Test.YtgnmcfoenmfhcaaSFnRefusingRows4
import Derived.Test.YtgnmcfoenmfhcaaSFnRefusingRows7
import Derived.Test.YtgnmcfoenmfhcaaSFnRefusingRows11
import Derived.Test.YtgnmcfoenmfhcaaSFnRefusingRows13
import Derived.Test.YtgnmcfoenmfhcaaSFnRefusingRows0
section
namespace Go.Proofs.Ytgnmcfoenmfhcaa.RowSetsK
set_option linter.unusedVariables false
open Go.RowKit Go.Proofs Go.Sort Go.Proofs.Ytgnmcfoenmfhcaa.Q Go.Proofs.YtgnmcfoenmfhcaaW.PrintWords Go.Proofs.YtgnmcfoenmfhcaaW.PrintLast Go.Proofs.YtgnmcfoenmfhcaaW.PrintMore
open Go.Proofs.YtgnmcfoenmfhcaaL Go.Proofs.Ytgnmcfoenmfhcaa.LawK Go.Proofs.Ytgnmcfoenmfhcaa.BoardK Go.Proofs.Ytgnmcfoenmfhcaa.LinesK Go.Proofs.Ytgnmcfoenmfhcaa.SortM
def setsM (R : Nat) : List Nat := fullM.filter (fun m => decide (m < 2 ^ R))
theorem setsM_lt : ∀ R : Fin 7, ∀ m ∈ setsM R.val, m < 64 ∧ m < 2 ^ R.val := by decide +kernel
theorem setsM_pair : ∀ R : Fin 7, List.Pairwise (fun x y => rankM x < rankM y) (setsM R.val) := by decide +kernel
theorem iota_all : ∀ R : Fin 7, (iota 0 (2 ^ R.val)).all isMask = true := by decide +kernel
theorem setsM_perm : ∀ R : Fin 7, List.Perm ((iota 0 (2 ^ R.val)).map toF) ((setsM R.val).map fun (m : Nat) => toF (m : Int)) := by decide +kernel
theorem toF_nat {m : Nat} (h : m < 64) : (toF (m : Int)).val = m := by unfold toF; simp only []; omega
theorem sorted_all {R : Nat} (hR : R ≤ 6) : sortedM (iota 0 (2 ^ R)) = (setsM R).map fun (m : Nat) => (m : Int) := by
  have hp := setsM_perm ⟨R, by omega⟩
  have hq := setsM_pair ⟨R, by omega⟩
  have hl := setsM_lt ⟨R, by omega⟩
  simp only [] at hp hq hl
  have e : ((iota 0 (2 ^ R)).map toF).mergeSort (fun x y => !(ltOf cfM) y x) = (setsM R).map fun (m : Nat) => toF (m : Int) := by
    refine List.Perm.eq_of_pairwise (le := fun x y => (!(ltOf cfM) y x) = true) ?_ ?_ ?_ ((List.mergeSort_perm _ _).trans hp)
    · intro a b _ _ h1 h2
      exact totM a b (by simpa using h2) (by simpa using h1)
    · refine List.pairwise_mergeSort ?_ ?_ _
      · intro a b c h1 h2
        rw [ltM] at *
        simp at *
        omega
      · intro a b
        rw [ltM, ltM]
        simp
        omega
    · rw [List.pairwise_map]
      refine List.Pairwise.imp_of_mem ?_ hq
      intro a b ha hb h
      rw [ltM, toF_nat (hl a ha).1, toF_nat (hl b hb).1]
      simp
      omega
  unfold sortedM
  rw [e, List.map_map]
  apply List.map_congr_left
  intro m hm
  show ((toF (m : Int)).val : Int) = m
  rw [toF_nat (hl m hm).1]
theorem rowSets_l0 (X : List Int) (n : Nat) (hn : n ≤ 64) (hX : slices_SortFunc_int_int__at_impl_Board_rowSets_1.f (iota 0 n) = some X) : ∀ (d i : Nat), i + d = n → Ev (fun k => impl_Board_rowSets.l0 k (iota 0 i) (n : Int) i) X
  | 0, i, hi => by
    refine Ev.step (f := fun _ => some X) (fun k => ?_) (Ev.now _)
    rw [impl_Board_rowSets.l0, if_neg (by omega), show i = n by omega, hX]; rfl
  | d + 1, i, hi => by
    have w1 : wrap64 ((i : Int) + 1) = ((i + 1 : Nat) : Int) := by rw [w64 (by omega) (by omega)]; rfl
    have ih := rowSets_l0 X n hn hX d (i + 1) (by omega)
    rw [iota_snoc, Int.zero_add] at ih
    refine Ev.step (fun k => ?_) ih
    rw [impl_Board_rowSets.l0, if_pos (by omega), if_pos (by rw [iota_length]; omega), w1]
theorem rowSets {R : Nat} (hR : R ≤ 6) (c : Int) (l : List Int) : Ev (fun k => impl_Board_rowSets.f k R c l) ((setsM R).map fun (m : Nat) => (m : Int)) := by
  have hp : 2 ^ R ≤ 2 ^ 6 := Nat.pow_le_pow_right (by decide) hR
  have hp1 : 1 ≤ 2 ^ R := Nat.one_le_two_pow
  unfold impl_Board_rowSets.f
  have h := rowSets_l0 (sortedM (iota 0 (2 ^ R))) (2 ^ R) (by omega) (by
    unfold slices_SortFunc_int_int__at_impl_Board_rowSets_1.f
    rw [if_pos ⟨iota_all ⟨R, by omega⟩, by rw [iota_length]; omega, by rw [iota_length]; omega⟩]) (2 ^ R) 0 (by omega)
  rw [sorted_all hR] at h
  refine Ev.congr (fun k => ?_) h
  rw [if_pos (by omega), shl_one R (by omega)]
  rfl
theorem lcSets_all : ∀ R : Fin 7, spec_lcSets.f 40 (R.val : Int) = some ((setsM R.val).map listM) := by decide +kernel
theorem lcSets {R : Nat} (hR : R ≤ 6) : Ev (fun k => spec_lcSets.f k R) ((setsM R).map listM) := Ev.of (fun k => spec_lcSets.mono _ k) (lcSets_all ⟨R, by omega⟩)
theorem count {m : Nat} (hm : m < 64) : impl_count.f (m : Int) = some ((listM m).length : Int) := count_all ⟨m, hm⟩
end Go.Proofs.Ytgnmcfoenmfhcaa.RowSetsK
end
section
namespace Go.Proofs.Ytgnmcfoenmfhcaa.CoversK
set_option linter.unusedVariables false
open Go.RowKit Go.Proofs.Ytgnmcfoenmfhcaa.Q Go.Proofs.YtgnmcfoenmfhcaaW.PrintWords Go.Proofs.YtgnmcfoenmfhcaaW.PrintLast Go.Proofs.YtgnmcfoenmfhcaaW.PrintMore
open Go.Proofs.YtgnmcfoenmfhcaaL Go.Proofs.Ytgnmcfoenmfhcaa.LawK Go.Proofs.Ytgnmcfoenmfhcaa.BoardK Go.Proofs.Ytgnmcfoenmfhcaa.LinesK Go.Proofs.Ytgnmcfoenmfhcaa.SortM Go.Proofs.Ytgnmcfoenmfhcaa.RowSetsK Go.Proofs.Ytgnmcfoenmfhcaa.Koenig Go.Proofs.Ytgnmcfoenmfhcaa.MostK
def comp (R m : Nat) : Nat := (2 ^ R - 1) &&& (63 ^^^ m)
theorem comp_lt {R m : Nat} : comp R m < 2 ^ R := by
  unfold comp
  have := Nat.two_pow_pos R
  exact Nat.lt_of_le_of_lt Nat.and_le_left (by omega)
set_option maxRecDepth 20000 in
theorem comp_all : ∀ R : Fin 7, ∀ m : Fin 64, ∀ i : Fin 6, (comp R.val m.val).testBit i.val = (decide (i.val < R.val) && !m.val.testBit i.val) := by decide +kernel
theorem comp_bit {R m : Nat} (hR : R ≤ 6) (hm : m < 64) {i : Nat} (hi : i < 6) : (comp R m).testBit i = (decide (i < R) && !m.testBit i) := comp_all ⟨R, by omega⟩ ⟨m, hm⟩ ⟨i, hi⟩
theorem bit_lt {m R i : Nat} (h : m < 2 ^ R) (hi : m.testBit i = true) : i < R := by
  by_cases hlt : i < R
  · exact hlt
  · rw [Nat.testBit_lt_two_pow (Nat.lt_of_lt_of_le h (Nat.pow_le_pow_right (by decide) (by omega)))] at hi; cases hi
def colM (l : List Int) (R m : Nat) : Nat := orM l (listM (comp R m))
def nM (l : List Int) (R m : Nat) : Nat := (listM m).length + (listM (colM l R m)).length
set_option maxRecDepth 20000 in
theorem cnt_all : ∀ m : Fin 64, (listM m.val).length = cnt (fun i => m.val.testBit i) := by decide +kernel
theorem cell_far {l : List Int} {r c : Nat} (h : l.length ≤ r) : cell l r c = false := by
  unfold cell
  rw [gD_ge _ _ h]
  simp
theorem colM_lt {l : List Int} {R C m : Nat} (hC : C ≤ 6) (hb : ∀ i (hi : i < l.length), 0 ≤ l[i] ∧ l[i] < 2 ^ C) : colM l R m < 64 := by
  have h2 : colM l R m < 2 ^ C := orFrom_lt hb _ 0 (Nat.two_pow_pos C)
  have hp : 2 ^ C ≤ 2 ^ 6 := Nat.pow_le_pow_right (by decide) hC
  omega
theorem nM_kap {l : List Int} {R C m : Nat} (hlR : l.length = R) (hR : R ≤ 6) (hC : C ≤ 6) (hb : ∀ i (hi : i < l.length), 0 ≤ l[i] ∧ l[i] < 2 ^ C) (hm : m < 64) : nM l R m = kap (cell l) (fun r => !m.testBit r) := by
  unfold nM kap
  rw [cnt_all ⟨m, hm⟩, cnt_all ⟨colM l R m, colM_lt hC hb⟩]
  congr 1
  · refine cnt_congr fun x _ => ?_
    simp
  · refine cnt_congr fun c hc => ?_
    show (orM l (listM (comp R m))).testBit c = _
    rw [orM_bit, Bool.eq_iff_iff, List.any_eq_true, nb_iff]
    constructor
    · rintro ⟨x, hx, h⟩
      obtain ⟨h1, h2, h3⟩ := mem_listM.1 hx
      rw [comp_bit hR hm (by omega), Bool.and_eq_true] at h3
      exact ⟨x.toNat, by omega, h3.2, h⟩
    · rintro ⟨r, h1, h2, h3⟩
      have hr : r < R := by
        by_cases hr : r < R
        · exact hr
        · rw [cell_far (by omega)] at h3; cases h3
      refine ⟨(r : Int), mem_listM.2 ⟨by omega, by omega, ?_⟩, by rw [Int.toNat_natCast]; exact h3⟩
      rw [Int.toNat_natCast, comp_bit hR hm h1, h2, decide_eq_true hr]
      rfl
theorem mask_of (p : Nat → Bool) : ∀ n, ∃ m, m < 2 ^ n ∧ ∀ r, m.testBit r = (decide (r < n) && p r)
  | 0 => ⟨0, by decide, fun r => by simp⟩
  | n + 1 => by
    obtain ⟨m, h1, h2⟩ := mask_of p n
    by_cases hp : p n = true
    · refine ⟨m ||| 2 ^ n, Nat.or_lt_two_pow (Nat.lt_of_lt_of_le h1 (Nat.pow_le_pow_right (by decide) (by omega))) (Nat.pow_lt_pow_right (by decide) (by omega)), fun r => ?_⟩
      rw [Nat.testBit_or, h2, Nat.testBit_two_pow]
      by_cases e : r = n
      · subst e; simp [hp]
      · by_cases h : r < n
        · simp [h, show r < n + 1 by omega, show ¬ n = r by omega]
        · simp [h, show ¬ r < n + 1 by omega, show ¬ n = r by omega]
    · refine ⟨m, Nat.lt_of_lt_of_le h1 (Nat.pow_le_pow_right (by decide) (by omega)), fun r => ?_⟩
      rw [h2]
      by_cases e : r = n
      · subst e; simp at hp; simp [hp]
      · by_cases h : r < n
        · simp [h, show r < n + 1 by omega]
        · simp [h, show ¬ r < n + 1 by omega]
set_option maxRecDepth 20000 in
theorem setsM_all : ∀ R : Fin 7, ∀ m : Fin 64, m.val < 2 ^ R.val → m.val ∈ setsM R.val := by decide +kernel
theorem nM_min {l : List Int} {R C : Nat} (hlR : l.length = R) (hR : R ≤ 6) (hC : C ≤ 6) (hb : ∀ i (hi : i < l.length), 0 ≤ l[i] ∧ l[i] < 2 ^ C) : (∃ m ∈ setsM R, nM l R m = mostN l C R 0 0) ∧ ∀ m ∈ setsM R, mostN l C R 0 0 ≤ nM l R m := by
  obtain ⟨⟨S, hS⟩, hmin⟩ := most_min hlR hR hC hb
  have hlt := setsM_lt ⟨R, by omega⟩
  refine ⟨?_, fun m hm => by rw [nM_kap hlR hR hC hb (hlt m hm).1]; exact hmin _⟩
  obtain ⟨m, h1, h2⟩ := mask_of (fun r => !S r) R
  have hp : 2 ^ R ≤ 2 ^ 6 := Nat.pow_le_pow_right (by decide) hR
  refine ⟨m, setsM_all ⟨R, by omega⟩ ⟨m, by omega⟩ h1, ?_⟩
  rw [nM_kap hlR hR hC hb (by omega)]
  refine Nat.le_antisymm ?_ (hmin _)
  rw [← hS]
  unfold kap
  have e1 : nb (cell l) (fun r => !m.testBit r) = nb (cell l) S := by
    funext c
    rw [Bool.eq_iff_iff, nb_iff, nb_iff]
    constructor
    · rintro ⟨r, g1, g2, g3⟩
      have hr : r < R := by
        by_cases hr : r < R
        · exact hr
        · rw [cell_far (by omega)] at g3; cases g3
      refine ⟨r, g1, ?_, g3⟩
      rw [h2, decide_eq_true hr] at g2
      simpa using g2
    · rintro ⟨r, g1, g2, g3⟩
      refine ⟨r, g1, ?_, g3⟩
      rw [h2, g2]
      simp
  rw [e1]
  refine Nat.add_le_add_right (cnt_mono fun x hx h => ?_) _
  have h' : (!(!m.testBit x)) = true := h
  rw [h2] at h'
  simp at h'
  simp [h'.2]
end Go.Proofs.Ytgnmcfoenmfhcaa.CoversK
end
section
namespace Go.Proofs.Ytgnmcfoenmfhcaa.Q
open Go.RowKit Go.Proofs.YtgnmcfoenmfhcaaW.PrintWords Go.Proofs.YtgnmcfoenmfhcaaW.PrintLast Go.Proofs.YtgnmcfoenmfhcaaW.PrintMore
attribute [local go_sem] max2_int min2_int max_two min_two max_three min_three max_four min_four   -- for this text's walks alone
set_option linter.unusedVariables false
set_option linter.unusedSimpArgs false
mutual
def laws_FnExactRefusingRows.j0 : Nat → List Int → Bool → List Int → Bool → Bool → Int → Int → List Int → Int → Int → List Int → Option (Bool)
 | 0, _, _, _, _, _, _, _, _, _, _, _ => none
 | k + 1, x4, x5, x7, x8, x40, x102000, x102001, x102002, x118000, x118001, x118002 => if x40 = true then (some false) else ((laws_toBoard.f k x102000 x102001 x102002).bind fun bt123 => ((laws_eqBoard.f k x118000 x118001 x118002 bt123.1 bt123.2.1 bt123.2.2).bind fun t128 => (if t128 = true then ((laws_markBoard.f k x118000 x118001 x118002 1).bind fun bt129 => (if bt129.1 < 0 then (laws_FnExactRefusingRows.j1 k x4 x5 x7 true x102000 x102001 x102002) else ((laws_eqIntS.f k x7 x4).bind fun t131 => (if t131 = true then (laws_FnExactRefusingRows.j1 k x4 x5 x7 (x8 != x5) x102000 x102001 x102002) else (laws_FnExactRefusingRows.j1 k x4 x5 x7 true x102000 x102001 x102002))))) else (some false))))
def laws_FnExactRefusingRows.j1 : Nat → List Int → Bool → List Int → Bool → Int → Int → List Int → Option (Bool)
 | 0, _, _, _, _, _, _, _ => none
 | k + 1, x4, x5, x7, x61, x102000, x102001, x102002 => if x61 = true then (some false) else ((laws_markIntS.f k x7 1).bind fun bt132 => ((laws_heldIntS.f k bt132.2 1).bind fun t134 => (if t134 < 0 then (some false) else (if t134 = bt132.1 then ((laws_toBoard.f k x102000 x102001 x102002).bind fun bt135 => ((impl_RefusingRows.f k bt135.1 bt135.2.1 bt135.2.2).bind fun bt140 => ((laws_eqIntS.f k bt140.1 x4).bind fun t144 => (if t144 = true then (laws_FnExactRefusingRows.j2 k bt132.2 bt132.1 (bt140.2 != x5)) else (laws_FnExactRefusingRows.j2 k bt132.2 bt132.1 true))))) else (some false)))))
def laws_FnExactRefusingRows.j2 : Nat → List Int → Int → Bool → Option (Bool)
 | 0, _, _, _ => none
 | k + 1, x7, x10, x87 => if x87 = true then (some false) else ((laws_heldIntS.f k x7 1).bind fun t145 => (if t145 < 0 then (some false) else (if t145 = x10 then (some true) else (some false))))
end
def laws_FnExactRefusingRows.f (k : Nat) (a0_0 : Int) (a0_1 : Int) (l0_2 : List Int) : Option (Bool) := (laws_szBoard.f a0_0 a0_1 l0_2 1048576).bind fun t102 => (if t102 < 0 then (some true) else ((laws_toBoard.f k a0_0 a0_1 l0_2).bind fun bt103 => ((spec_RefusingRows.f k bt103.1 bt103.2.1 bt103.2.2).bind fun bt108 => ((laws_toBoard.f k a0_0 a0_1 l0_2).bind fun bt112 => ((impl_RefusingRows.f k bt112.1 bt112.2.1 bt112.2.2).bind fun bt118 => ((laws_eqIntS.f k bt118.1 bt108.1).bind fun t122 => (if t122 = true then (laws_FnExactRefusingRows.j0 k bt108.1 bt108.2 bt118.1 bt118.2 (bt118.2 != bt108.2) a0_0 a0_1 l0_2 bt112.1 bt112.2.1 bt112.2.2) else (laws_FnExactRefusingRows.j0 k bt108.1 bt108.2 bt118.1 bt118.2 true a0_0 a0_1 l0_2 bt112.1 bt112.2.1 bt112.2.2))))))))
def laws_FnExactRefusingRows.Pure : Prop := ∀ (a0_0 : Int) (a0_1 : Int) (l0_2 : List Int), (Lit.int .i64 a0_0).wf = true → (Lit.int .i64 a0_1).wf = true → l0_2.length ≤ maxLen → l0_2.length * 8 ≤ 140737488351232 → (∀ x ∈ l0_2, (Lit.int .i64 x).wf = true) → ∃ k, laws_FnExactRefusingRows.f k a0_0 a0_1 l0_2 = some true
end Go.Proofs.Ytgnmcfoenmfhcaa.Q
end
section
namespace Go.Proofs.Ytgnmcfoenmfhcaa.Pure
set_option linter.unusedVariables false
open Go.RowKit Go.Proofs.Ytgnmcfoenmfhcaa.Q Go.Proofs.YtgnmcfoenmfhcaaW.PrintWords Go.Proofs.YtgnmcfoenmfhcaaW.PrintLast Go.Proofs.YtgnmcfoenmfhcaaW.PrintMore
open Go.Proofs.YtgnmcfoenmfhcaaL Go.Proofs.Ytgnmcfoenmfhcaa.LawK Go.Proofs.Ytgnmcfoenmfhcaa.BoardK Go.Proofs.Ytgnmcfoenmfhcaa.LinesK Go.Proofs.Ytgnmcfoenmfhcaa.SortM Go.Proofs.Ytgnmcfoenmfhcaa.RowSetsK
namespace RefusingRowsK
def fewer (l : List Int) (m : Nat) : Bool := decide ((listM (orM l (listM m))).length < (listM m).length)
def first (l : List Int) : List Nat → List Int × Bool
  | [] => ([], false)
  | m :: t => if fewer l m = true then (listM m, true) else first l t
def ans (r c : Int) (l : List Int) : List Int × Bool := if isBoardB r c l = true then first l (setsM r.toNat) else ([], false)
theorem first_len (l : List Int) : ∀ S : List Nat, (first l S).1.length ≤ 6
  | [] => by simp [first]
  | m :: t => by
    rw [first]
    by_cases h : fewer l m = true
    · rw [if_pos h]; exact listM_len m
    · rw [if_neg h]; exact first_len l t
theorem ans_len (r c : Int) (l : List Int) : (ans r c l).1.length ≤ 6 := by
  unfold ans
  by_cases h : isBoardB r c l = true
  · rw [if_pos h]; exact first_len _ _
  · rw [if_neg h]; simp
theorem impl_l0 {R C : Nat} {l : List Int} (hlR : l.length = R) (hR : R ≤ 6) (hC : C ≤ 6) (hb : ∀ i (hi : i < l.length), 0 ≤ l[i] ∧ l[i] < 2 ^ C) (S : List Nat) (hS : ∀ m ∈ S, m < 64 ∧ m < 2 ^ R) (hSl : S.length ≤ 64) : ∀ (d i : Nat), i + d = S.length →
    Ev (fun k => impl_RefusingRows.l0 k (S.map fun (m : Nat) => (m : Int)) ((S.map fun (m : Nat) => (m : Int)).length : Int) i R C l) (first l (S.drop i))
  | 0, i, hi => by
    refine Ev.step (f := fun _ => some ([], false)) (fun k => ?_) (evEq (Ev.now _) (by rw [List.drop_eq_nil_of_le (by omega)]; rfl))
    rw [impl_RefusingRows.l0, if_neg (by rw [List.length_map]; omega)]
  | d + 1, i, hi => by
    have w1 : wrap64 ((i : Int) + 1) = ((i + 1 : Nat) : Int) := by rw [w64 (by omega) (by omega)]; rfl
    have hi2 : i < S.length := by omega
    obtain ⟨h64, hmR⟩ := hS S[i] (List.getElem_mem hi2)
    have hbit : ∀ j, S[i].testBit j = true → j < R := fun j hj => by
      by_cases h : j < R
      · exact h
      · rw [Nat.testBit_lt_two_pow (Nat.lt_of_lt_of_le hmR (Nat.pow_le_pow_right (by decide) (by omega)))] at hj; cases hj
    have hlt : orM l (listM S[i]) < 2 ^ C := orFrom_lt hb _ 0 (Nat.two_pow_pos C)
    have hp : 2 ^ C ≤ 2 ^ 6 := Nat.pow_le_pow_right (by decide) hC
    have ih := impl_l0 hlR hR hC hb S hS hSl d (i + 1) (by omega)
    rw [List.drop_eq_getElem_cons hi2, first]
    refine Ev.step (f := fun k => (impl_Board_columns.f k R C l (S[i] : Nat)).bind fun t107 => (impl_count.f t107).bind fun t108 => if t108 < ((listM S[i]).length : Int) then (impl_listOf.f k (S[i] : Nat)).bind fun t110 => some (t110, true) else impl_RefusingRows.l0 k (S.map fun (m : Nat) => (m : Int)) ((S.map fun (m : Nat) => (m : Int)).length : Int) ((i + 1 : Nat) : Int) R C l) (fun k => ?_) ?_
    · rw [impl_RefusingRows.l0, if_pos (by rw [List.length_map]; omega), if_pos (by omega), if_pos (by rw [List.length_map]; omega), rd_lt _ i (by rw [List.length_map]; exact hi2), List.getElem_map, count h64, w1]
      rfl
    · refine Ev.bind (columns (R : Int) (C : Int) hC hb h64 (fun j hj => by have := hbit j hj; omega)) ?_
      by_cases h : fewer l S[i] = true
      · have h2 := of_decide_eq_true h
        rw [if_pos h]
        refine Ev.congr (fun k => by rw [count (by omega), Option.bind_some, if_pos (by omega)]) ?_
        exact Ev.bind (listOf h64) (Ev.now _)
      · have h2 : ¬ ((listM (orM l (listM S[i]))).length < (listM S[i]).length) := fun h3 => h (decide_eq_true h3)
        rw [if_neg h]
        exact Ev.congr (fun k => by rw [count (by omega), Option.bind_some, if_neg (by omega)]) ih
theorem impl_answer {r c : Int} {l : List Int} : Ev (fun k => impl_RefusingRows.f k r c l) (ans r c l) := by
  unfold impl_RefusingRows.f ans
  refine Ev.congr (fun k => by rw [impl_IsBoard.f, Option.bind_some]) ?_
  by_cases hb : isBoardB r c l = true
  · obtain ⟨R, C, rfl, rfl, hlR, h1R, hR, h1C, hC, hbits⟩ := board_of hb
    refine Ev.congr (fun k => by rw [if_pos hb]) ?_
    rw [if_pos hb, Int.toNat_natCast]
    refine Ev.bind (rowSets hR _ _) ?_
    have hlen : (setsM R).length ≤ 64 := List.length_filter_le _ fullM
    exact impl_l0 hlR hR hC hbits (setsM R) (setsM_lt ⟨R, by omega⟩) hlen (setsM R).length 0 (by omega)
  · rw [if_neg hb]
    exact Ev.congr (fun k => by rw [if_neg hb]) (Ev.now _)
theorem spec_l0 {R C : Nat} {l : List Int} (hlR : l.length = R) (hR : R ≤ 6) (hC : C ≤ 6) (hb : ∀ i (hi : i < l.length), 0 ≤ l[i] ∧ l[i] < 2 ^ C) (S : List Nat) (hS : ∀ m ∈ S, m < 64 ∧ m < 2 ^ R) (hSl : S.length ≤ 64) : ∀ (d i : Nat), i + d = S.length →
    Ev (fun k => spec_RefusingRows.l0 k (S.map listM) ((S.map listM).length : Int) i R C l) (first l (S.drop i))
  | 0, i, hi => by
    refine Ev.step (f := fun _ => some ([], false)) (fun k => ?_) (evEq (Ev.now _) (by rw [List.drop_eq_nil_of_le (by omega)]; rfl))
    rw [spec_RefusingRows.l0, if_neg (by rw [List.length_map]; omega)]
  | d + 1, i, hi => by
    have w1 : wrap64 ((i : Int) + 1) = ((i + 1 : Nat) : Int) := by rw [w64 (by omega) (by omega)]; rfl
    have hi2 : i < S.length := by omega
    obtain ⟨h64, hmR⟩ := hS S[i] (List.getElem_mem hi2)
    have hbit : ∀ j, S[i].testBit j = true → j < R := fun j hj => by
      by_cases h : j < R
      · exact h
      · rw [Nat.testBit_lt_two_pow (Nat.lt_of_lt_of_le hmR (Nat.pow_le_pow_right (by decide) (by omega)))] at hj; cases hj
    have l1 := listM_len S[i]
    have ih := spec_l0 hlR hR hC hb S hS hSl d (i + 1) (by omega)
    have hrd : rd_L2 (S.map listM) (i : Int) = listM S[i] := by unfold rd_L2; rw [Int.toNat_natCast, gD_lt _ _ (by rw [List.length_map]; exact hi2), List.getElem_map]
    rw [List.drop_eq_getElem_cons hi2, first]
    refine Ev.step (f := fun k => (spec_lcColumns.f k R C l (listM S[i]) false).bind fun t107 => if (t107.length : Int) < ((listM S[i]).length : Int) then some (listM S[i], true) else spec_RefusingRows.l0 k (S.map listM) ((S.map listM).length : Int) ((i + 1 : Nat) : Int) R C l) (fun k => ?_) ?_
    · rw [spec_RefusingRows.l0, if_pos (by rw [List.length_map]; omega), if_pos (by omega), if_pos (by rw [List.length_map]; omega), hrd, w1]
    · refine Ev.bind (lcColumns R C hlR hR hC (fun i hi => by have := hb i hi; have := two_pow_six hC; omega) false (by omega)) ?_
      rw [← colsS_mask hlR hR hC hb hbit]
      by_cases h : fewer l S[i] = true
      · have h2 := of_decide_eq_true h
        rw [if_pos h]
        exact Ev.congr (fun k => by rw [if_pos (by omega)]) (Ev.now _)
      · have h2 : ¬ ((listM (orM l (listM S[i]))).length < (listM S[i]).length) := fun h3 => h (decide_eq_true h3)
        rw [if_neg h]
        exact Ev.congr (fun k => by rw [if_neg (by omega)]) ih
theorem spec_answer {r c : Int} {l : List Int} (hl : l.length ≤ 1048576) : Ev (fun k => spec_RefusingRows.f k r c l) (ans r c l) := by
  unfold spec_RefusingRows.f ans
  refine Ev.bind (boGood r c (by omega)) ?_
  by_cases hb : isBoardB r c l = true
  · obtain ⟨R, C, rfl, rfl, hlR, h1R, hR, h1C, hC, hbits⟩ := board_of hb
    refine Ev.congr (fun k => by rw [if_pos hb]) ?_
    rw [if_pos hb, Int.toNat_natCast]
    refine Ev.bind (lcSets hR) ?_
    have hlen : (setsM R).length ≤ 64 := List.length_filter_le _ fullM
    exact spec_l0 hlR hR hC hbits (setsM R) (setsM_lt ⟨R, by omega⟩) hlen (setsM R).length 0 (by omega)
  · rw [if_neg hb]
    exact Ev.congr (fun k => by rw [if_neg hb]) (Ev.now _)
end RefusingRowsK
open RefusingRowsK
theorem FnExactRefusingRows : laws_FnExactRefusingRows.Pure := by
  intro r c l _ _ _ hl8 _
  unfold laws_FnExactRefusingRows.f
  refine ends ?_
  refine Ev.congr (fun k => by rw [szBoard_f r c l hl8, Option.bind_some]) ?_
  have hn := ans_len r c l
  by_cases hlb : l.length ≤ 1048576
  · refine Ev.congr (fun k => by rw [if_pos hlb, if_neg (by omega)]) ?_
    refine Ev.bind (toBoard r c hlb) (Ev.bind (spec_answer hlb) (Ev.bind (toBoard r c hlb) (Ev.bind impl_answer ?_)))
    refine Ev.bind (eqIntS (by simp only []; omega)) ?_
    refine Ev.congr (fun k => by rw [if_pos (by simp)]) ?_
    refine Ev.step (fun k => by rw [laws_FnExactRefusingRows.j0, if_neg (by simp)]) ?_
    refine Ev.bind (toBoard r c hlb) (Ev.bind (eqBoard r c (by simp; omega)) ?_)
    refine Ev.congr (fun k => by rw [if_pos rfl]) ?_
    refine Ev.bind (a := (1 + (l.length : Int), iota 1 l.length)) (show Ev (fun k => laws_markBoard.f k r c l 1) (1 + (l.length : Int), iota 1 l.length) by unfold laws_markBoard.f; exact Ev.bind (markIntS l (by omega) (by omega)) (Ev.now _)) ?_
    refine Ev.congr (fun k => by rw [if_neg (by simp only []; omega)]) ?_
    refine Ev.bind (eqIntS (by simp only []; omega)) ?_
    refine Ev.congr (fun k => by rw [if_pos (by simp)]) ?_
    refine Ev.step (fun k => by rw [laws_FnExactRefusingRows.j1, if_neg (by simp)]) ?_
    refine Ev.bind (markIntS _ (by omega) (by simp only []; omega)) ?_
    refine Ev.bind (heldIntS _ (by omega) (by simp only []; omega)) ?_
    refine Ev.congr (fun k => by rw [if_neg (by omega), if_pos rfl]) ?_
    refine Ev.bind (toBoard r c hlb) (Ev.bind impl_answer ?_)
    refine Ev.bind (eqIntS (by simp only []; omega)) ?_
    refine Ev.congr (fun k => by rw [if_pos (by simp)]) ?_
    refine Ev.step (fun k => by rw [laws_FnExactRefusingRows.j2, if_neg (by simp)]) ?_
    refine Ev.bind (heldIntS _ (by omega) (by simp only []; omega)) ?_
    exact Ev.congr (fun k => by rw [if_neg (by omega), if_pos rfl]) (Ev.now _)
  · exact Ev.congr (fun k => by rw [if_neg hlb, if_pos (by omega)]) (Ev.now _)
end Go.Proofs.Ytgnmcfoenmfhcaa.Pure
end
section
namespace Go.Proofs.Ytgnmcfoenmfhcaa.Q
open Go.RowKit Go.Proofs.YtgnmcfoenmfhcaaW.PrintWords Go.Proofs.YtgnmcfoenmfhcaaW.PrintLast Go.Proofs.YtgnmcfoenmfhcaaW.PrintMore
attribute [local go_sem] max2_int min2_int max_two min_two max_three min_three max_four min_four   -- for this text's walks alone
set_option linter.unusedVariables false
set_option linter.unusedSimpArgs false
def laws_FnExactLackOf.j0 : Nat → Bool → Int → Int → List Int → Int → Int → List Int → Option (Bool)
 | 0, _, _, _, _, _, _, _ => none
 | k + 1, x34, x102000, x102001, x102002, x116000, x116001, x116002 => if x34 = true then (some false) else ((laws_toBoard.f k x102000 x102001 x102002).bind fun bt118 => ((laws_eqBoard.f k x116000 x116001 x116002 bt118.1 bt118.2.1 bt118.2.2).bind fun t123 => (if t123 = true then (some true) else (some false))))
def laws_FnExactLackOf.f (k : Nat) (a0_0 : Int) (a0_1 : Int) (l0_2 : List Int) : Option (Bool) := (laws_szBoard.f a0_0 a0_1 l0_2 1048576).bind fun t102 => (if t102 < 0 then (some true) else ((laws_toBoard.f k a0_0 a0_1 l0_2).bind fun bt103 => ((spec_LackOf.f k bt103.1 bt103.2.1 bt103.2.2).bind fun bt108 => ((laws_toBoard.f k a0_0 a0_1 l0_2).bind fun bt110 => ((impl_LackOf.f k bt110.1 bt110.2.1 bt110.2.2).bind fun bt116 => (if bt116.1 = bt108.1 then (laws_FnExactLackOf.j0 k (bt116.2 != bt108.2) a0_0 a0_1 l0_2 bt110.1 bt110.2.1 bt110.2.2) else (laws_FnExactLackOf.j0 k true a0_0 a0_1 l0_2 bt110.1 bt110.2.1 bt110.2.2)))))))
def laws_FnExactLackOf.Pure : Prop := ∀ (a0_0 : Int) (a0_1 : Int) (l0_2 : List Int), (Lit.int .i64 a0_0).wf = true → (Lit.int .i64 a0_1).wf = true → l0_2.length ≤ maxLen → l0_2.length * 8 ≤ 140737488351232 → (∀ x ∈ l0_2, (Lit.int .i64 x).wf = true) → ∃ k, laws_FnExactLackOf.f k a0_0 a0_1 l0_2 = some true
end Go.Proofs.Ytgnmcfoenmfhcaa.Q
end
section
namespace Go.Proofs.Ytgnmcfoenmfhcaa.Pure
set_option linter.unusedVariables false
open Go.RowKit Go.Proofs.Ytgnmcfoenmfhcaa.Q Go.Proofs.YtgnmcfoenmfhcaaW.PrintWords Go.Proofs.YtgnmcfoenmfhcaaW.PrintLast Go.Proofs.YtgnmcfoenmfhcaaW.PrintMore
open Go.Proofs.YtgnmcfoenmfhcaaL Go.Proofs.Ytgnmcfoenmfhcaa.LawK Go.Proofs.Ytgnmcfoenmfhcaa.BoardK Go.Proofs.Ytgnmcfoenmfhcaa.LinesK Go.Proofs.Ytgnmcfoenmfhcaa.SortM Go.Proofs.Ytgnmcfoenmfhcaa.RowSetsK
namespace LackOfK
def lack (l : List Int) (m : Nat) : Int := ((listM m).length : Int) - ((listM (orM l (listM m))).length : Int)
def most (l : List Int) (S : List Nat) (a : Int) : Int := S.foldl (fun a m => if a > lack l m then a else lack l m) a
def ans (r c : Int) (l : List Int) : Int × Bool := if isBoardB r c l = true then (most l (setsM r.toNat) 0, true) else (0, false)
theorem mx_eq (a b : Int) : mx a b = if a > b then a else b := by
  unfold mx
  by_cases h : a < b
  · rw [if_pos h, if_neg (by omega)]
  · rw [if_neg h]
    by_cases h2 : a > b
    · rw [if_pos h2]
    · rw [if_neg h2]; omega
theorem impl_l0 {R C : Nat} {l : List Int} (hlR : l.length = R) (hR : R ≤ 6) (hC : C ≤ 6) (hb : ∀ i (hi : i < l.length), 0 ≤ l[i] ∧ l[i] < 2 ^ C) (S : List Nat) (hS : ∀ m ∈ S, m < 64 ∧ m < 2 ^ R) (hSl : S.length ≤ 64) : ∀ (d i : Nat) (a : Int), i + d = S.length →
    Ev (fun k => impl_LackOf.l0 k a (S.map fun (m : Nat) => (m : Int)) ((S.map fun (m : Nat) => (m : Int)).length : Int) i R C l) (most l (S.drop i) a, true)
  | 0, i, a, hi => by
    refine Ev.step (f := fun _ => some (a, true)) (fun k => ?_) (evEq (Ev.now _) (by rw [List.drop_eq_nil_of_le (by omega)]; rfl))
    rw [impl_LackOf.l0, if_neg (by rw [List.length_map]; omega)]
  | d + 1, i, a, hi => by
    have w1 : wrap64 ((i : Int) + 1) = ((i + 1 : Nat) : Int) := by rw [w64 (by omega) (by omega)]; rfl
    have hi2 : i < S.length := by omega
    obtain ⟨h64, hmR⟩ := hS S[i] (List.getElem_mem hi2)
    have hbit : ∀ j, S[i].testBit j = true → j < R := fun j hj => by
      by_cases h : j < R
      · exact h
      · rw [Nat.testBit_lt_two_pow (Nat.lt_of_lt_of_le hmR (Nat.pow_le_pow_right (by decide) (by omega)))] at hj; cases hj
    have hlt : orM l (listM S[i]) < 2 ^ C := orFrom_lt hb _ 0 (Nat.two_pow_pos C)
    have hp : 2 ^ C ≤ 2 ^ 6 := Nat.pow_le_pow_right (by decide) hC
    have l1 := listM_len S[i]
    have l2 := listM_len (orM l (listM S[i]))
    have ih := impl_l0 hlR hR hC hb S hS hSl d (i + 1) (if a > lack l S[i] then a else lack l S[i]) (by omega)
    rw [List.drop_eq_getElem_cons hi2]
    refine Ev.step (f := fun k => (impl_Board_columns.f k R C l (S[i] : Nat)).bind fun t108 => (impl_count.f t108).bind fun t109 => impl_LackOf.l0 k (mx a (wrap64 (((listM S[i]).length : Int) - t109))) (S.map fun (m : Nat) => (m : Int)) ((S.map fun (m : Nat) => (m : Int)).length : Int) ((i + 1 : Nat) : Int) R C l) (fun k => ?_) ?_
    · rw [impl_LackOf.l0, if_pos (by rw [List.length_map]; omega), if_pos (by omega), if_pos (by rw [List.length_map]; omega), rd_lt _ i (by rw [List.length_map]; exact hi2), List.getElem_map, count h64, Option.bind_some, w1]
    · refine Ev.bind (columns (R : Int) (C : Int) hC hb h64 (fun j hj => by have := hbit j hj; omega)) ?_
      refine Ev.congr (fun k => by rw [count (by omega), Option.bind_some, w64 (by omega) (by omega), mx_eq]; rfl) ih
theorem impl_answer {r c : Int} {l : List Int} : Ev (fun k => impl_LackOf.f k r c l) (ans r c l) := by
  unfold impl_LackOf.f ans
  refine Ev.congr (fun k => by rw [impl_IsBoard.f, Option.bind_some]) ?_
  by_cases hb : isBoardB r c l = true
  · obtain ⟨R, C, rfl, rfl, hlR, h1R, hR, h1C, hC, hbits⟩ := board_of hb
    refine Ev.congr (fun k => by rw [if_pos hb]) ?_
    rw [if_pos hb, Int.toNat_natCast]
    refine Ev.bind (rowSets hR _ _) ?_
    have hlen : (setsM R).length ≤ 64 := List.length_filter_le _ fullM
    exact impl_l0 hlR hR hC hbits (setsM R) (setsM_lt ⟨R, by omega⟩) hlen (setsM R).length 0 0 (by omega)
  · rw [if_neg hb]
    exact Ev.congr (fun k => by rw [if_neg hb]) (Ev.now _)
theorem spec_l0 {R C : Nat} {l : List Int} (hlR : l.length = R) (hR : R ≤ 6) (hC : C ≤ 6) (hb : ∀ i (hi : i < l.length), 0 ≤ l[i] ∧ l[i] < 2 ^ C) (S : List Nat) (hS : ∀ m ∈ S, m < 64 ∧ m < 2 ^ R) (hSl : S.length ≤ 64) : ∀ (d i : Nat) (a : Int), i + d = S.length →
    Ev (fun k => spec_LackOf.l0 k a (S.map listM) ((S.map listM).length : Int) i R C l) (most l (S.drop i) a, true)
  | 0, i, a, hi => by
    refine Ev.step (f := fun _ => some (a, true)) (fun k => ?_) (evEq (Ev.now _) (by rw [List.drop_eq_nil_of_le (by omega)]; rfl))
    rw [spec_LackOf.l0, if_neg (by rw [List.length_map]; omega)]
  | d + 1, i, a, hi => by
    have w1 : wrap64 ((i : Int) + 1) = ((i + 1 : Nat) : Int) := by rw [w64 (by omega) (by omega)]; rfl
    have hi2 : i < S.length := by omega
    obtain ⟨h64, hmR⟩ := hS S[i] (List.getElem_mem hi2)
    have hbit : ∀ j, S[i].testBit j = true → j < R := fun j hj => by
      by_cases h : j < R
      · exact h
      · rw [Nat.testBit_lt_two_pow (Nat.lt_of_lt_of_le hmR (Nat.pow_le_pow_right (by decide) (by omega)))] at hj; cases hj
    have l1 := listM_len S[i]
    have l2 := listM_len (orM l (listM S[i]))
    have ih := spec_l0 hlR hR hC hb S hS hSl d (i + 1) (if a > lack l S[i] then a else lack l S[i]) (by omega)
    have hrd : rd_L2 (S.map listM) (i : Int) = listM S[i] := by unfold rd_L2; rw [Int.toNat_natCast, gD_lt _ _ (by rw [List.length_map]; exact hi2), List.getElem_map]
    rw [List.drop_eq_getElem_cons hi2]
    refine Ev.step (f := fun k => (spec_lcColumns.f k R C l (listM S[i]) false).bind fun t107 => (spec_l1Most.f a (wrap64 (((listM S[i]).length : Int) - (t107.length : Int)))).bind fun t110 => spec_LackOf.l0 k t110 (S.map listM) ((S.map listM).length : Int) ((i + 1 : Nat) : Int) R C l) (fun k => ?_) ?_
    · rw [spec_LackOf.l0, if_pos (by rw [List.length_map]; omega), if_pos (by omega), if_pos (by rw [List.length_map]; omega), hrd, w1]
    · refine Ev.bind (lcColumns R C hlR hR hC (fun i hi => by have := hb i hi; have := two_pow_six hC; omega) false (by omega)) ?_
      rw [← colsS_mask hlR hR hC hb hbit]
      refine Ev.congr (fun k => ?_) ih
      rw [w64 (by omega) (by omega), spec_l1Most.f]
      by_cases h : a > lack l S[i]
      · rw [if_pos h]
        unfold lack at h
        rw [if_pos h, Option.bind_some]
      · rw [if_neg h]
        unfold lack at h
        rw [if_neg h, Option.bind_some]
        rfl
theorem spec_answer {r c : Int} {l : List Int} (hl : l.length ≤ 1048576) : Ev (fun k => spec_LackOf.f k r c l) (ans r c l) := by
  unfold spec_LackOf.f ans
  refine Ev.bind (boGood r c (by omega)) ?_
  by_cases hb : isBoardB r c l = true
  · obtain ⟨R, C, rfl, rfl, hlR, h1R, hR, h1C, hC, hbits⟩ := board_of hb
    refine Ev.congr (fun k => by rw [if_pos hb]) ?_
    rw [if_pos hb, Int.toNat_natCast]
    refine Ev.bind (lcSets hR) ?_
    have hlen : (setsM R).length ≤ 64 := List.length_filter_le _ fullM
    exact spec_l0 hlR hR hC hbits (setsM R) (setsM_lt ⟨R, by omega⟩) hlen (setsM R).length 0 0 (by omega)
  · rw [if_neg hb]
    exact Ev.congr (fun k => by rw [if_neg hb]) (Ev.now _)
end LackOfK
open LackOfK
theorem FnExactLackOf : laws_FnExactLackOf.Pure := by
  intro r c l _ _ _ hl8 _
  unfold laws_FnExactLackOf.f
  refine ends ?_
  refine Ev.congr (fun k => by rw [szBoard_f r c l hl8, Option.bind_some]) ?_
  by_cases hlb : l.length ≤ 1048576
  · refine Ev.congr (fun k => by rw [if_pos hlb, if_neg (by omega)]) ?_
    refine Ev.bind (toBoard r c hlb) (Ev.bind (spec_answer hlb) (Ev.bind (toBoard r c hlb) (Ev.bind impl_answer ?_)))
    refine Ev.congr (fun k => by rw [if_pos rfl]) ?_
    refine Ev.step (fun k => by rw [laws_FnExactLackOf.j0, if_neg (by simp)]) ?_
    refine Ev.bind (toBoard r c hlb) (Ev.bind (eqBoard r c (by simp; omega)) ?_)
    exact Ev.congr (fun k => by rw [if_pos rfl]) (Ev.now _)
  · exact Ev.congr (fun k => by rw [if_neg hlb, if_pos (by omega)]) (Ev.now _)
end Go.Proofs.Ytgnmcfoenmfhcaa.Pure
end
section
namespace Go.Proofs.Ytgnmcfoenmfhcaa.LackK
set_option linter.unusedVariables false
open Go.RowKit Go.Proofs.Ytgnmcfoenmfhcaa.Q Go.Proofs.YtgnmcfoenmfhcaaW.PrintWords Go.Proofs.YtgnmcfoenmfhcaaW.PrintLast Go.Proofs.YtgnmcfoenmfhcaaW.PrintMore
open Go.Proofs.YtgnmcfoenmfhcaaL Go.Proofs.Ytgnmcfoenmfhcaa.LawK Go.Proofs.Ytgnmcfoenmfhcaa.BoardK Go.Proofs.Ytgnmcfoenmfhcaa.LinesK Go.Proofs.Ytgnmcfoenmfhcaa.SortM Go.Proofs.Ytgnmcfoenmfhcaa.RowSetsK Go.Proofs.Ytgnmcfoenmfhcaa.Koenig Go.Proofs.Ytgnmcfoenmfhcaa.MostK Go.Proofs.Ytgnmcfoenmfhcaa.CoversK Go.Proofs.Ytgnmcfoenmfhcaa.Pure
theorem comp_comp : ∀ R : Fin 7, ∀ m : Fin 64, m.val < 2 ^ R.val → comp R.val (comp R.val m.val) = m.val ∧ (listM (comp R.val m.val)).length + (listM m.val).length = R.val := by decide +kernel
section
variable {l : List Int} {R C : Nat} (hlR : l.length = R) (hR : R ≤ 6) (hC : C ≤ 6) (hb : ∀ i (hi : i < l.length), 0 ≤ l[i] ∧ l[i] < 2 ^ C)
theorem lack_comp (hR : R ≤ 6) {m : Nat} (hm : m < 2 ^ R) : LackOfK.lack l m = (R : Int) - (nM l R (comp R m) : Int) := by
  have h64 : m < 64 := Nat.lt_of_lt_of_le hm (Nat.pow_le_pow_right (n := 2) (by decide) hR)
  obtain ⟨h1, h2⟩ := comp_comp ⟨R, by omega⟩ ⟨m, h64⟩ hm
  simp only [] at h1 h2
  unfold LackOfK.lack nM colM
  rw [h1]
  omega
theorem most_fold (v : Int) : ∀ (S : List Nat) (a : Int), (∀ m ∈ S, LackOfK.lack l m ≤ v) → a ≤ v → (v = a ∨ ∃ m ∈ S, LackOfK.lack l m = v) → LackOfK.most l S a = v
  | [], a, _, _, h => by
    rcases h with h | ⟨m, hm, _⟩
    · exact h.symm
    · cases hm
  | x :: t, a, h1, h2, h => by
    have hx := h1 x (by simp)
    refine most_fold v t (if a > LackOfK.lack l x then a else LackOfK.lack l x) (fun m hm => h1 m (by simp [hm])) (by split <;> omega) ?_
    rcases h with h | ⟨m, hm, e⟩
    · left; split <;> omega
    · rcases List.mem_cons.1 hm with rfl | hm
      · left; split <;> omega
      · exact .inr ⟨m, hm, e⟩
include hlR hR hC hb
theorem lack_most : LackOfK.most l (setsM R) 0 = (R : Int) - (mostN l C R 0 0 : Int) := by
  obtain ⟨⟨m, hm, e⟩, hall⟩ := nM_min hlR hR hC hb
  have hmn := mostN_le l C R 0 0
  have hlt := setsM_lt ⟨R, by omega⟩
  have hcl : ∀ x : Nat, comp R x < 2 ^ R := fun x => comp_lt
  have hp : 2 ^ R ≤ 2 ^ 6 := Nat.pow_le_pow_right (by decide) hR
  have hmem : ∀ x : Nat, x < 2 ^ R → x ∈ setsM R := fun x hx => setsM_all ⟨R, by omega⟩ ⟨x, by omega⟩ hx
  refine most_fold _ (setsM R) 0 (fun x hx => ?_) (by omega) (.inr ⟨comp R m, hmem _ (hcl m), ?_⟩)
  · have h2 := (hlt x hx).2
    rw [lack_comp hR h2]
    have := hall _ (hmem _ (hcl x))
    omega
  · rw [lack_comp hR (hcl m)]
    have h3 := (comp_comp ⟨R, by omega⟩ ⟨m, (hlt m hm).1⟩ (hlt m hm).2).1
    simp only [] at h3
    rw [h3, e]
end
theorem fewer_lack {l : List Int} {m : Nat} : RefusingRowsK.fewer l m = true ↔ 0 < LackOfK.lack l m := by
  unfold RefusingRowsK.fewer LackOfK.lack
  rw [decide_eq_true_eq]
  omega
theorem first_cut (l : List Int) : ∀ S : List Nat, (RefusingRowsK.first l S = ([], false) ∧ ∀ m ∈ S, RefusingRowsK.fewer l m = false) ∨ ∃ a m b, S = a ++ m :: b ∧ RefusingRowsK.fewer l m = true ∧ (∀ x ∈ a, RefusingRowsK.fewer l x = false) ∧ RefusingRowsK.first l S = (listM m, true)
  | [] => .inl ⟨rfl, fun m hm => by cases hm⟩
  | x :: t => by
    rw [RefusingRowsK.first]
    by_cases h : RefusingRowsK.fewer l x = true
    · rw [if_pos h]
      exact .inr ⟨[], x, t, rfl, h, (fun y hy => by cases hy), rfl⟩
    · rw [if_neg h]
      have h2 : RefusingRowsK.fewer l x = false := Bool.eq_false_iff.2 h
      rcases first_cut l t with ⟨h3, h4⟩ | ⟨a, m, b, e, h3, h4, h5⟩
      · exact .inl ⟨h3, fun m hm => by
          rcases List.mem_cons.1 hm with rfl | hm
          · exact h2
          · exact h4 m hm⟩
      · exact .inr ⟨x :: a, m, b, by rw [e]; rfl, h3, (fun y hy => by
          rcases List.mem_cons.1 hy with rfl | hy
          · exact h2
          · exact h4 y hy), h5⟩
def delM (m i : Nat) : Nat := m - 2 ^ ((listM m).getD i 0).toNat
theorem del_all : ∀ m : Fin 64, ∀ i : Fin 6, i.val < (listM m.val).length → (listM m.val).take i.val ++ (listM m.val).drop (i.val + 1) = listM (delM m.val i.val) ∧ rankM (delM m.val i.val) < rankM m.val ∧ delM m.val i.val < m.val := by decide +kernel
theorem rises_all : ∀ R : Fin 7, ∀ m : Fin 64, m.val < 2 ^ R.val → risesB (R.val : Int) 0 (listM m.val) = true := by decide +kernel
theorem cols_ans {l : List Int} {R C m : Nat} (hlR : l.length = R) (hb : isBoardB R C l = true) (hm : m < 2 ^ R) : ColumnsOfK.ans R C l (listM m) = (listM (orM l (listM m)), true) := by
  obtain ⟨R', C', e1, e2, hlR', h1R, hR, h1C, hC, hbits⟩ := board_of hb
  have e1 : R' = R := by omega
  have e2 : C' = C := by omega
  subst e1 e2
  have h64 : m < 64 := Nat.lt_of_lt_of_le hm (Nat.pow_le_pow_right (n := 2) (by decide) hR)
  unfold ColumnsOfK.ans
  rw [hb, Bool.true_and, if_pos (rises_all ⟨R', by omega⟩ ⟨m, h64⟩ hm), Int.toNat_natCast, Int.toNat_natCast, colsS_mask hlR hR hC hbits (fun i hi => bit_lt hm hi)]
theorem refuse {l : List Int} {R C : Nat} (hlR : l.length = R) (hR : R ≤ 6) (hC : C ≤ 6) (hb : ∀ i (hi : i < l.length), 0 ≤ l[i] ∧ l[i] < 2 ^ C) :
    (mostN l C R 0 0 = R ∧ RefusingRowsK.first l (setsM R) = ([], false)) ∨ mostN l C R 0 0 < R ∧ ∃ m, m < 2 ^ R ∧ m < 64 ∧ RefusingRowsK.first l (setsM R) = (listM m, true) ∧ (listM (orM l (listM m))).length < (listM m).length ∧
      ∀ i, i < (listM m).length → ∃ m', m' < 2 ^ R ∧ (listM m).take i ++ (listM m).drop (i + 1) = listM m' ∧ (listM m').length ≤ (listM (orM l (listM m'))).length := by
  have hmn := mostN_le l C R 0 0
  have hlt := setsM_lt ⟨R, by omega⟩
  have hle : ∀ m ∈ setsM R, LackOfK.lack l m ≤ (R : Int) - mostN l C R 0 0 := by
    intro m hm
    rw [lack_comp hR (hlt m hm).2]
    have := (nM_min hlR hR hC hb).2 (comp R m) (setsM_all ⟨R, by omega⟩ ⟨comp R m, Nat.lt_of_lt_of_le comp_lt (Nat.pow_le_pow_right (n := 2) (by decide) hR)⟩ comp_lt)
    omega
  rcases first_cut l (setsM R) with ⟨h1, h2⟩ | ⟨a, m, b, e, h3, h4, h5⟩
  · left
    refine ⟨?_, h1⟩
    obtain ⟨⟨m, hm, e⟩, _⟩ := nM_min hlR hR hC hb
    have hcm : comp R m ∈ setsM R := setsM_all ⟨R, by omega⟩ ⟨comp R m, Nat.lt_of_lt_of_le comp_lt (Nat.pow_le_pow_right (n := 2) (by decide) hR)⟩ comp_lt
    have h3 := h2 _ hcm
    have h4 : ¬ 0 < LackOfK.lack l (comp R m) := fun h => by rw [fewer_lack.2 h] at h3; cases h3
    rw [lack_comp hR comp_lt] at h4
    have h5 := (comp_comp ⟨R, by omega⟩ ⟨m, (hlt m hm).1⟩ (hlt m hm).2).1
    simp only [] at h5
    rw [h5, e] at h4
    omega
  · right
    have hmem : m ∈ setsM R := by rw [e]; simp
    have hm2 := hlt m hmem
    have hl := fewer_lack.1 h3
    have hle2 := hle m hmem
    refine ⟨by omega, m, hm2.2, hm2.1, h5, of_decide_eq_true h3, fun i hi => ?_⟩
    have h6 := listM_len m
    obtain ⟨g1, g2, g3⟩ := del_all ⟨m, hm2.1⟩ ⟨i, by omega⟩ hi
    simp only [] at g1 g2 g3
    refine ⟨delM m i, Nat.lt_trans g3 hm2.2, g1, ?_⟩
    have hd : delM m i ∈ setsM R := setsM_all ⟨R, by omega⟩ ⟨delM m i, by omega⟩ (Nat.lt_trans g3 hm2.2)
    have hp := setsM_pair ⟨R, by omega⟩
    simp only [] at hp hd
    rw [e] at hp hd
    rw [List.pairwise_append] at hp
    have hda : delM m i ∈ a := by
      rcases List.mem_append.1 hd with h | h
      · exact h
      · rcases List.mem_cons.1 h with h | h
        · rw [h] at g2; omega
        · have := (List.pairwise_cons.1 hp.2.1).1 _ h
          omega
    have h7 := h4 _ hda
    unfold RefusingRowsK.fewer at h7
    have := of_decide_eq_false h7
    omega
end Go.Proofs.Ytgnmcfoenmfhcaa.LackK
end
section
namespace Go.Proofs.Ytgnmcfoenmfhcaa.Pure
set_option linter.unusedVariables false
open Go.RowKit Go.Proofs.Ytgnmcfoenmfhcaa.Q Go.Proofs.YtgnmcfoenmfhcaaW.PrintWords Go.Proofs.YtgnmcfoenmfhcaaW.PrintLast Go.Proofs.YtgnmcfoenmfhcaaW.PrintMore
open Go.Proofs.YtgnmcfoenmfhcaaL Go.Proofs.Ytgnmcfoenmfhcaa.LawK Go.Proofs.Ytgnmcfoenmfhcaa.BoardK Go.Proofs.Ytgnmcfoenmfhcaa.LinesK Go.Proofs.Ytgnmcfoenmfhcaa.SortM Go.Proofs.Ytgnmcfoenmfhcaa.RowSetsK Go.Proofs.Ytgnmcfoenmfhcaa.MostK Go.Proofs.Ytgnmcfoenmfhcaa.LackK Go.Proofs.Ytgnmcfoenmfhcaa.DrawK
namespace RefuseK
theorem zero_at : At 0 0 := ⟨by omega, by omega, by omega⟩
theorem draw_board {code : List Int} (hc : Bytes code) : Run (fun k => spec_DrawRefusingRows.f k code) (fun x => x.2.2.length ≤ 7) := by
  unfold spec_DrawRefusingRows.f spec_DrawLargestPlacement.f
  refine Run.bind (P := fun x => x.2.2.length ≤ 7) (Run.bind (sparse_run hc zero_at (by omega)) ?_) ?_
  · rintro ⟨r, c, l, a, s⟩ ⟨hl, ha⟩
    exact Run.now hl
  · rintro ⟨r, c, l⟩ hl
    exact Run.now hl
theorem cols_l0 {code : List Int} (hc : Bytes code) (r c : Int) (l : List Int) : ∀ (d i M : Nat) (a s : Int) (x : List Int), i + d = 6 → x.length ≤ i → At M a → M + 2 * d + 10 ≤ 1000000 → Run (fun k => spec_DrawColumnsOf.l0 k x (i : Int) code a s r c l) (fun y => y.2.2.1 = l ∧ y.2.2.2.length ≤ 7)
  | 0, i, M, a, s, x, hi, hx, ha, hm => by
    refine Run.step (fun k => by rw [spec_DrawColumnsOf.l0, if_neg (by omega)]) ?_
    refine Run.bind (one_R hc ha (by omega) 15) ?_
    rintro ⟨b, a1, s1⟩ ha1
    refine Run.ite (fun _ => ?_) (fun _ => ?_)
    · refine Run.bind (among_R hc ha1 (by omega) (by simp)) ?_
      rintro ⟨v, a2, s2⟩ ⟨hv, ha2⟩
      exact Run.congr (fun k => if_pos (by omega)) (Run.now ⟨rfl, by simp only [List.length_append, List.length_singleton]; omega⟩)
    · exact Run.now ⟨rfl, by simp only []; omega⟩
  | d + 1, i, M, a, s, x, hi, hx, ha, hm => by
    have w1 := Aside0.mk (show wrap64 ((i : Int) + 1) = ((i + 1 : Nat) : Int) from by rw [w64 (by omega) (by omega)]; rfl)
    refine Run.step (fun k => by rw [spec_DrawColumnsOf.l0, if_pos (by omega), w1.out]) ?_
    refine Run.ite (fun _ => ?_) (fun _ => cols_l0 hc r c l d (i + 1) M a s x (by omega) (by omega) ha (by omega))
    refine Run.bind (one_R hc ha (by omega) 2) ?_
    rintro ⟨b, a1, s1⟩ ha1
    refine Run.ite (fun _ => ?_) (fun _ => cols_l0 hc r c l d (i + 1) (M + 2) a1 s1 x (by omega) (by omega) ha1 (by omega))
    exact Run.congr (fun k => if_pos (by omega)) (cols_l0 hc r c l d (i + 1) (M + 2) a1 s1 (x ++ [(i : Int)]) (by omega) (by rw [List.length_append, List.length_singleton]; omega) ha1 (by omega))
theorem draw_cols {code : List Int} (hc : Bytes code) : Run (fun k => spec_DrawColumnsOf.f k code) (fun y => y.2.2.1.length ≤ 7 ∧ y.2.2.2.length ≤ 7) := by
  unfold spec_DrawColumnsOf.f
  refine Run.bind (sparse_run hc zero_at (by omega)) ?_
  rintro ⟨r, c, l, a, s⟩ ⟨hl, ha⟩
  exact (cols_l0 hc r c l 6 0 _ a s [] (by omega) (by simp) ha (by omega)).mono (fun y hy => ⟨by rw [hy.1]; exact hl, hy.2⟩)
theorem mostRooks {r c : Int} {l : List Int} : Ev (fun k => impl_MostRooks.f k r c l) (if isBoardB r c l = true then (((mostN l c.toNat r.toNat 0 0 : Nat) : Int), true) else (0, false)) := by
  unfold impl_MostRooks.f
  refine Ev.congr (fun k => by rw [impl_IsBoard.f, Option.bind_some]) ?_
  by_cases hb : isBoardB r c l = true
  · obtain ⟨R, C, rfl, rfl, _⟩ := board_of hb
    rw [if_pos hb, Int.toNat_natCast, Int.toNat_natCast]
    exact Ev.congr (fun k => by rw [if_pos hb]) (Ev.bind (most hb) (Ev.now _))
  · rw [if_neg hb]
    exact Ev.congr (fun k => by rw [if_neg hb]) (Ev.now _)
theorem last {more : List Int} (hc : Bytes more) : Ev (fun k => laws_FnRefusingRows.j3 k more) true := by
  obtain ⟨⟨r, c, l, rows⟩, hd, hl, hr⟩ := draw_cols hc
  refine Ev.step (fun k => by rw [laws_FnRefusingRows.j3]) ?_
  refine Ev.bind hd ?_
  refine Ev.bind (ColumnsOfK.impl_answer (by omega)) (Ev.bind (ColumnsOfK.spec_answer (by omega) (by omega)) ?_)
  refine Ev.congr (fun k => by rw [if_pos (by simp)]) ?_
  have := ColumnsOfK.ans_len r c l rows
  exact Ev.bind (kSame_self (by simp only []; omega)) (Ev.now _)
section
variable {l : List Int} {R C : Nat} (hlR : l.length = R) (hb : isBoardB R C l = true) {more : List Int} (hc : Bytes more)
include hlR hb hc
theorem parts {m : Nat} (hm : m < 2 ^ R) (hp : ∀ i, i < (listM m).length → ∃ m', m' < 2 ^ R ∧ (listM m).take i ++ (listM m).drop (i + 1) = listM m' ∧ (listM m').length ≤ (listM (orM l (listM m'))).length) :
    ∀ (d i : Nat), i + d = (listM m).length → Ev (fun k => laws_FnRefusingRows.l0 k more (listM m) ((listM m).length : Int) i R C l) true
  | 0, i, hi => by
    refine Ev.step (fun k => ?_) (last hc)
    rw [laws_FnRefusingRows.l0, if_neg (by omega)]
  | d + 1, i, hi => by
    have h6 := listM_len m
    have w1 := Aside0.mk (show wrap64 ((i : Int) + 1) = ((i + 1 : Nat) : Int) from by rw [w64 (by omega) (by omega)]; rfl)
    obtain ⟨m', hm', e, hle⟩ := hp i (by omega)
    have hm6 := listM_len m'
    have hA := ColumnsOfK.impl_answer (r := (R : Int)) (c := (C : Int)) (l := l) (rows := listM m') (by omega)
    rw [cols_ans hlR hb hm'] at hA
    have he : [] ++ (listM m).take (i : Int).toNat ++ (listM m).drop ((i + 1 : Nat) : Int).toNat = listM m' := by rw [List.nil_append, Int.toNat_natCast, Int.toNat_natCast]; exact e
    have hlen := congrArg List.length he
    rw [List.length_append] at hlen
    refine Ev.step (f := fun k => (impl_ColumnsOf.f k R C l (listM m')).bind fun bt144 => if bt144.2 = true then (if (bt144.1.length : Int) < ((listM m').length : Int) then some false else laws_FnRefusingRows.l0 k more (listM m) ((listM m).length : Int) ((i + 1 : Nat) : Int) R C l) else some false) (fun k => ?_) ?_
    · rw [laws_FnRefusingRows.l0, if_pos (by omega), Option.bind_some, if_pos (by omega), if_pos (by omega), Option.bind_some, if_pos (by simp only [List.length_nil, List.length_take]; omega), Option.bind_some, w1.out, if_pos (by omega), if_pos (by omega), Option.bind_some, if_pos (by omega), Option.bind_some, he]
    · refine Ev.bind hA ?_
      refine Ev.congr (fun k => by rw [if_pos rfl, if_neg (by simp only []; omega)]) ?_
      exact parts hm hp d (i + 1) (by omega)
end
end RefuseK
open RefuseK
theorem FnRefusingRows : laws_FnRefusingRows.Pure := by
  intro code more hcl _ hcw hml hm8 hmw
  unfold laws_FnRefusingRows.f
  refine ends ?_
  rcases big_f code more (by omega) with hbig | ⟨hbig, h1, h2⟩
  · exact Ev.congr (fun k => by rw [hbig, Option.bind_some, if_pos rfl]) (Ev.now _)
  have hc : Bytes code := ⟨h1, fun x hx => byte_of (hcw x hx)⟩
  have hm : Bytes more := ⟨h2, fun x hx => byte_of (hmw x hx)⟩
  refine Ev.congr (fun k => by rw [hbig, Option.bind_some, if_neg (by simp)]) ?_
  obtain ⟨⟨r, c, l⟩, hd, hl⟩ := draw_board hc
  simp only [] at hl
  refine Ev.bind hd ?_
  refine Ev.bind RefusingRowsK.impl_answer (Ev.bind (RefusingRowsK.spec_answer (by simp only []; omega)) ?_)
  refine Ev.bind LackOfK.impl_answer (Ev.bind (LackOfK.spec_answer (by simp only []; omega)) ?_)
  refine Ev.bind mostRooks ?_
  have hn := RefusingRowsK.ans_len r c l
  refine Ev.congr (fun k => by rw [if_neg (by simp)]) ?_
  refine Ev.bind (kSame_self (by simp only []; omega)) ?_
  refine Ev.congr (fun k => by rw [if_pos rfl, if_neg (by simp), if_pos rfl]) ?_
  by_cases hb : isBoardB r c l = true
  · obtain ⟨R, C, rfl, rfl, hlR, h1R, hR, h1C, hC, hbits⟩ := board_of hb
    have hmn := mostN_le l C R 0 0
    simp only [RefusingRowsK.ans, LackOfK.ans, if_pos hb, Int.toNat_natCast]
    rw [lack_most hlR hR hC hbits]
    refine Ev.congr (fun k => by rw [if_neg (by simp), if_pos trivial, if_pos (by rw [w64 (by omega) (by omega)])]) ?_
    rcases refuse hlR hR hC hbits with ⟨e1, e2⟩ | ⟨e1, m, hm2, hm64, e2, e3, e4⟩
    · rw [e2]
      refine Ev.step (f := fun k => laws_FnRefusingRows.j3 k more) (fun k => ?_) (last hm)
      rw [laws_FnRefusingRows.j0, if_neg (by simp; omega), if_neg (by simp)]
    · rw [e2]
      have h6 := listM_len m
      have hA := ColumnsOfK.impl_answer (r := (R : Int)) (c := (C : Int)) (l := l) (rows := listM m) (by omega)
      rw [cols_ans hlR hb hm2] at hA
      refine Ev.step (fun k => by rw [laws_FnRefusingRows.j0, if_neg (by simp; omega), if_pos rfl]) ?_
      refine Ev.bind hA ?_
      refine Ev.congr (fun k => by rw [if_pos rfl]) ?_
      refine Ev.step (fun k => by rw [laws_FnRefusingRows.j1, if_neg (by simp; omega)]) ?_
      exact parts hlR hb hm hm2 e4 (listM m).length 0 (by omega)
  · simp only [RefusingRowsK.ans, LackOfK.ans, if_neg hb]
    refine Ev.congr (fun k => by rw [if_neg (by simp), if_neg (by simp)]) ?_
    refine Ev.step (f := fun k => laws_FnRefusingRows.j3 k more) (fun k => ?_) (last hm)
    rw [laws_FnRefusingRows.j0, if_neg (by simp), if_neg (by simp)]
end Go.Proofs.Ytgnmcfoenmfhcaa.Pure
end
