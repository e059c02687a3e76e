/- Lengths of ordered rows: what the reference's and the program's looks at them answer; the board of lengths; placements on it. No conditions. -/
import Derived.Test.YtlhblnphfpijkaaCellA
import Derived.Test.YtlhblnphfpijkaaQimplAreLengths
import Derived.Test.YtlhblnphfpijkaaQspecfeGood
import Derived.Test.YtlhblnphfpijkaaQimplboardOf
namespace Go.Proofs.Ytlhblnphfpijkaa.LensK
set_option linter.unusedVariables false
open Go.RowKit Go.Proofs.Ytlhblnphfpijkaa.Q Go.Proofs.YtlhblnphfpijkaaW.PrintWords Go.Proofs.YtlhblnphfpijkaaW.PrintLast Go.Proofs.YtlhblnphfpijkaaW.PrintMore
open Go.Proofs.YtlhblnphfpijkaaL Go.Proofs.Ytlhblnphfpijkaa.LawK Go.Proofs.Ytlhblnphfpijkaa.BoardK
theorem evEq {α : Type} {g : Nat → Option α} {a b : α} (h : Ev g a) (e : a = b) : Ev g b := e ▸ h

/-- Do numbers rise from place i - 1 on? -/
def riseFrom (l : List Int) (i : Nat) : Bool := decide (∀ j, j < l.length - 1 → i ≤ j + 1 → l.getD j 0 ≤ l.getD (j + 1) 0)
/-- .. up to place i? -/
def riseTo (l : List Int) (i : Nat) : Bool := decide (∀ j, j < i → l.getD j 0 ≤ l.getD (j + 1) 0)
theorem spec_rise {l : List Int} (hl : l.length ≤ 6) : ∀ (d i : Nat), i + d = l.length → 1 ≤ i → Ev (fun k => spec_feGood.l0 k l i) (riseFrom l i)
  | 0, i, hi, h1 => by
    refine Ev.step (f := fun _ => some true) (fun k => ?_) (evEq (Ev.now _) (Eq.symm (decide_eq_true (fun j hj h => by omega))))
    rw [spec_feGood.l0, if_neg (by omega)]
  | d + 1, i, hi, h1 => by
    have e1 : wrap64 ((i : Int) + 1) = ((i + 1 : Nat) : Int) := by rw [w64 (by omega) (by omega)]; rfl
    have e2 : wrap64 ((i : Int) - 1) = ((i - 1 : Nat) : Int) := by rw [w64 (by omega) (by omega)]; omega
    have hstep : ∀ k, spec_feGood.l0 (k + 1) l i = if l.getD i 0 < l.getD (i - 1) 0 then some false else spec_feGood.l0 k l ((i + 1 : Nat) : Int) := by
      intro k
      rw [spec_feGood.l0, if_pos (by omega), if_pos (by omega), e2, if_pos (by omega), if_pos (by omega), e1, rd_nat, rd_nat]
    by_cases hc : l.getD i 0 < l.getD (i - 1) 0
    · refine Ev.step (f := fun _ => some false) (fun k => by rw [hstep, if_pos hc]) (evEq (Ev.now _) (Eq.symm (decide_eq_false (fun h => ?_))))
      have := h (i - 1) (by omega) (by omega)
      rw [show i - 1 + 1 = i by omega] at this
      omega
    · refine Ev.step (fun k => by rw [hstep, if_neg hc]) (evEq (spec_rise hl d (i + 1) (by omega) (by omega)) ?_)
      apply decide_eq_decide.2
      constructor
      · intro h j hj hij
        by_cases e : j + 1 = i
        · subst e; simp only [Nat.add_sub_cancel] at hc; omega
        · exact h j hj (by omega)
      · intro h j hj hij
        exact h j hj (by omega)
theorem less_f (a b : Int) : cmp_Less_int.f a b = some (decide (a < b)) := by
  unfold cmp_Less_int.f cmp_isNaN_int.f
  rw [Option.bind_some, if_neg (by simp)]
theorem impl_rise {l : List Int} (hl : l.length ≤ 6) : ∀ (i : Nat), i < l.length → Ev (fun k => slices_IsSorted_int_int.l0 k l i) (riseTo l i)
  | 0, hi => by
    refine Ev.step (f := fun _ => some true) (fun k => ?_) (evEq (Ev.now _) (Eq.symm (decide_eq_true (fun j hj => by omega))))
    rw [slices_IsSorted_int_int.l0, if_neg (by omega)]
  | i + 1, hi => by
    have e2 : wrap64 (((i + 1 : Nat) : Int) - 1) = ((i : Nat) : Int) := by rw [w64 (by omega) (by omega)]; omega
    have hstep : ∀ k, slices_IsSorted_int_int.l0 (k + 1) l ((i + 1 : Nat) : Int) = if l.getD (i + 1) 0 < l.getD i 0 then some false else slices_IsSorted_int_int.l0 k l (i : Int) := by
      intro k
      rw [slices_IsSorted_int_int.l0, if_pos (by omega), if_pos (by omega), if_pos (by omega), e2, if_pos (by omega), if_pos (by omega), less_f, Option.bind_some, rd_nat, rd_nat]
      by_cases hc : l.getD (i + 1) 0 < l.getD i 0
      · rw [if_pos (decide_eq_true hc), if_pos hc]
      · rw [if_neg (by simpa using hc), if_neg hc]
    by_cases hc : l.getD (i + 1) 0 < l.getD i 0
    · refine Ev.step (f := fun _ => some false) (fun k => by rw [hstep, if_pos hc]) (evEq (Ev.now _) (Eq.symm (decide_eq_false (fun h => ?_))))
      have := h i (by omega)
      omega
    · refine Ev.step (fun k => by rw [hstep, if_neg hc]) (evEq (impl_rise hl i (by omega)) ?_)
      apply decide_eq_decide.2
      constructor
      · intro h j hj
        by_cases e : j = i
        · subst e; omega
        · exact h j (by omega)
      · intro h j hj
        exact h j (by omega)
/-- Are numbers lengths? -/
def lenB (l : List Int) : Bool := inR 1 6 l.length && l.all (inR 0 l.length) && riseFrom l 1
theorem spec_good {l : List Int} (hl : l.length ≤ 1048576) : Ev (fun k => spec_feGood.f k l) (lenB l) := by
  unfold spec_feGood.f lenB
  by_cases h1 : inR 1 6 l.length = true
  · have h6 : 1 ≤ l.length ∧ l.length ≤ 6 := by unfold inR at h1; simp only [decide_eq_true_eq] at h1; omega
    refine Ev.congr (fun k => by rw [boSide_f, Option.bind_some, if_pos h1]) ?_
    refine Ev.bind (l1All 0 l.length (by omega)) ?_
    rw [h1, Bool.true_and]
    by_cases h2 : l.all (inR 0 l.length) = true
    · rw [h2, Bool.true_and]
      refine Ev.step (fun k => by rw [spec_feGood.j0, if_neg (by simp)]) ?_
      exact spec_rise h6.2 (l.length - 1) 1 (by omega) (by omega)
    · have h2f : l.all (inR 0 l.length) = false := by simpa using h2
      rw [h2f, Bool.false_and]
      refine Ev.step (fun k => by rw [spec_feGood.j0, if_pos (by simp)]) (Ev.now _)
  · have h1f : inR 1 6 l.length = false := by simpa using h1
    rw [h1f, Bool.false_and, Bool.false_and]
    refine Ev.step (fun k => by rw [boSide_f, Option.bind_some, if_neg h1, spec_feGood.j0, if_pos rfl]) (Ev.now _)
theorem rise_le {l : List Int} (h : riseFrom l 1 = true) : ∀ d i, i + d < l.length → l.getD i 0 ≤ l.getD (i + d) 0
  | 0, i, _ => Int.le_refl _
  | d + 1, i, hi => by
    have h1 := rise_le h d i (by omega)
    have h2 := of_decide_eq_true h (i + d) (by omega) (by omega)
    rw [show i + (d + 1) = i + d + 1 by omega]
    omega
theorem impl_good {l : List Int} (hl : l.length ≤ 1048576) : Ev (fun k => impl_AreLengths.f k l) (lenB l) := by
  unfold impl_AreLengths.f lenB
  by_cases h1 : inR 1 6 l.length = true
  · have h6 : 1 ≤ l.length ∧ l.length ≤ 6 := by unfold inR at h1; simp only [decide_eq_true_eq] at h1; omega
    have e0 : wrap64 ((l.length : Int) - 1) = ((l.length - 1 : Nat) : Int) := by rw [w64 (by omega) (by omega)]; omega
    refine Ev.congr (fun k => by rw [isSide_f, Option.bind_some, if_pos (show decide (1 ≤ (l.length : Int) ∧ (l.length : Int) ≤ 6) = true from h1)]) ?_
    rw [h1, Bool.true_and]
    have er : riseTo l (l.length - 1) = riseFrom l 1 := decide_eq_decide.2 ⟨fun h j hj _ => h j hj, fun h j hj => h j hj (by omega)⟩
    refine Ev.bind (a := riseFrom l 1) (by unfold slices_IsSorted_int_int.f; rw [e0, ← er]; exact impl_rise h6.2 (l.length - 1) (by omega)) ?_
    by_cases h2 : riseFrom l 1 = true
    · rw [h2, Bool.and_true]
      refine Ev.congr (fun k => by rw [if_pos rfl, if_pos (by omega), within_f, Option.bind_some, e0]) ?_
      have hall : l.all (inR 0 l.length) = (inR 0 l.length (l.getD 0 0) && inR 0 l.length (l.getD (l.length - 1) 0)) := by
        rw [Bool.eq_iff_iff, Bool.and_eq_true, List.all_eq_true]
        constructor
        · intro h
          rw [gD_lt _ _ (by omega), gD_lt _ _ (by omega)]
          exact ⟨h _ (List.getElem_mem _), h _ (List.getElem_mem _)⟩
        · rintro ⟨ha, hb⟩ x hx
          obtain ⟨i, hi, e⟩ := List.mem_iff_getElem.1 hx
          have q1 := rise_le h2 i 0 (by omega)
          have q2 := rise_le h2 (l.length - 1 - i) i (by omega)
          rw [show i + (l.length - 1 - i) = l.length - 1 by omega] at q2
          rw [Nat.zero_add, gD_lt l 0 hi, e] at q1
          rw [gD_lt l 0 hi, e] at q2
          unfold inR at ha hb ⊢
          simp only [decide_eq_true_eq] at ha hb ⊢
          omega
      rw [hall]
      have r0 : rd l 0 = l.getD 0 0 := rd_nat l 0
      by_cases h3 : inR 0 l.length (l.getD 0 0) = true
      · rw [h3, Bool.true_and]
        refine Ev.congr (fun k => by rw [r0, if_pos (show decide (0 ≤ l.getD 0 0 ∧ l.getD 0 0 ≤ (l.length : Int)) = true from h3), if_pos (by omega), if_pos (by omega), within_f, Option.bind_some, rd_nat]; rfl) (Ev.now _)
      · have h3f : inR 0 l.length (l.getD 0 0) = false := by simpa using h3
        rw [h3f, Bool.false_and]
        exact Ev.congr (fun k => by rw [r0, if_neg (show ¬ decide (0 ≤ l.getD 0 0 ∧ l.getD 0 0 ≤ (l.length : Int)) = true from h3)]) (Ev.now _)
    · have h2f : riseFrom l 1 = false := by simpa using h2
      rw [h2f, Bool.and_false]
      exact Ev.congr (fun k => by rw [if_neg (by simp)]) (Ev.now _)
  · have h1f : inR 1 6 l.length = false := by simpa using h1
    rw [h1f, Bool.false_and, Bool.false_and]
    exact Ev.congr (fun k => by rw [isSide_f, Option.bind_some, if_neg (show ¬ decide (1 ≤ (l.length : Int) ∧ (l.length : Int) ≤ 6) = true from h1)]) (Ev.now _)
/-- The rows of the board of lengths. -/
def rowsOf (l : List Int) : List Int := l.map fun m => 2 ^ m.toNat - 1
theorem len_of {l : List Int} (h : lenB l = true) : 1 ≤ l.length ∧ l.length ≤ 6 ∧ ∀ i (hi : i < l.length), 0 ≤ l[i] ∧ l[i] ≤ l.length := by
  unfold lenB at h
  simp only [Bool.and_eq_true, List.all_eq_true] at h
  obtain ⟨⟨h1, h2⟩, h3⟩ := h
  unfold inR at h1 h2
  simp only [decide_eq_true_eq] at h1 h2
  exact ⟨by omega, by omega, fun i hi => h2 _ (List.getElem_mem hi)⟩
def board0 (l : List Int) (i : Nat) : List Int := (rowsOf l).take i ++ List.replicate (l.length - i) 0
theorem board0_length (l : List Int) (i : Nat) (hi : i ≤ l.length) : (board0 l i).length = l.length := by simp [board0, rowsOf]; omega
theorem board0_set (l : List Int) (i : Nat) (hi : i < l.length) : (board0 l i).set i (2 ^ l[i].toNat - 1) = board0 l (i + 1) := by
  unfold board0
  have hr : (rowsOf l).length = l.length := by simp [rowsOf]
  have ht : ((rowsOf l).take i).length = i := by rw [List.length_take, hr]; omega
  have e1 : List.replicate (l.length - i) (0 : Int) = 0 :: List.replicate (l.length - (i + 1)) 0 := by rw [show l.length - i = (l.length - (i + 1)) + 1 by omega]; rfl
  rw [e1, List.set_append_right (h := by omega), ht, Nat.sub_self, List.set_cons_zero, List.take_add_one, List.append_assoc]
  congr 1
  simp [rowsOf, hi]
theorem mask_f {m : Int} (h0 : 0 ≤ m) (h6 : m ≤ 6) : wrap64 (shl .i64 1 m - 1) = 2 ^ m.toNat - 1 := by
  obtain ⟨n, rfl⟩ : ∃ n : Nat, m = n := ⟨m.toNat, by omega⟩
  have h4 : 2 ^ n ≤ 2 ^ 6 := Nat.pow_le_pow_right (by decide) (by omega)
  have h5 : 0 < 2 ^ n := Nat.two_pow_pos n
  rw [shl_one n (by omega), w64 (by omega) (by omega), Int.toNat_natCast]; simp
theorem impl_board {l : List Int} (h : lenB l = true) : Ev (fun k => impl_boardOf.f k l) ((l.length : Int), (l.length : Int), rowsOf l) := by
  obtain ⟨h1, h2, h3⟩ := len_of h
  have key : ∀ d i, i + d = l.length → Ev (fun k => impl_boardOf.l0 k l (l.length : Int) i (l.length : Int) (l.length : Int) (board0 l i)) ((l.length : Int), (l.length : Int), rowsOf l) := by
    intro d
    induction d with
    | zero =>
      intro i hi
      refine Ev.step (f := fun _ => some ((l.length : Int), (l.length : Int), board0 l i)) (fun k => ?_) (evEq (Ev.now _) (by rw [show i = l.length by omega]; unfold board0; rw [List.take_of_length_le (by simp [rowsOf])]; simp))
      rw [impl_boardOf.l0, if_neg (by omega)]
    | succ d ih =>
      intro i hi
      have hi2 : i < l.length := by omega
      have e1 : wrap64 ((i : Int) + 1) = ((i + 1 : Nat) : Int) := by rw [w64 (by omega) (by omega)]; rfl
      have := h3 i hi2
      refine Ev.step (fun k => ?_) (ih (i + 1) (by omega))
      rw [impl_boardOf.l0, if_pos (by omega), if_pos (by omega), if_pos (by omega), rd_lt _ _ hi2, if_pos this.1, if_pos (by rw [board0_length _ _ (by omega)]; omega), e1, mask_f this.1 (by omega), Int.toNat_natCast, board0_set _ _ hi2]
  unfold impl_boardOf.f impl_newBoard.f
  refine Ev.congr (fun k => ?_) (key l.length 0 (by omega))
  rw [if_pos (by omega), if_pos (by omega), Option.bind_some, Int.toNat_natCast]
  simp [board0]
theorem rows_in {l : List Int} (h : lenB l = true) : (rowsOf l).length = l.length ∧ ∀ i (hi : i < (rowsOf l).length), 0 ≤ (rowsOf l)[i] ∧ (rowsOf l)[i] < 64 := by
  obtain ⟨h1, h2, h3⟩ := len_of h
  refine ⟨by simp [rowsOf], fun i hi => ?_⟩
  have hi2 : i < l.length := by simpa [rowsOf] using hi
  have h4 := h3 i hi2
  have e : (rowsOf l)[i] = 2 ^ l[i].toNat - 1 := by simp [rowsOf]
  have h5 : 2 ^ l[i].toNat ≤ 2 ^ 6 := Nat.pow_le_pow_right (by decide) (by omega)
  have h6 : 0 < 2 ^ l[i].toNat := Nat.two_pow_pos _
  have h7 : ((2 ^ l[i].toNat : Nat) : Int) = 2 ^ l[i].toNat := by simp
  rw [e]
  omega

end Go.Proofs.Ytlhblnphfpijkaa.LensK
