/- Texts of this claim put together (7): words, what the functions compute, and plain facts. No conditions. -/
import Derived.Test.YtihnjbfjdkdhaaaGreatSFnWeightsOfRooks6
import Derived.Test.YtihnjbfjdkdhaaaGreatSFnWeightsOfRooks5
import Derived.Test.YtihnjbfjdkdhaaaGreatSFnWeightsOfRooks4
import Derived.Outline
import Derived.Lib.Hide
import Derived.Deep.RegionWith
import Derived.Deep.RegionLaw
import Derived.Test.YtihnjbfjdkdhaaaGreatSFnWeightsOfRooks0
section
namespace Go.Proofs.YtihnjbfjdkdhaaaGreat.Q
open Go.RowKit Go.Proofs.YtihnjbfjdkdhaaaGreatW.PrintWords Go.Proofs.YtihnjbfjdkdhaaaGreatW.PrintLast Go.Proofs.YtihnjbfjdkdhaaaGreatW.PrintMore
theorem within_f (a b c : Int) : impl_within.f a b c = some (decide (b ≤ a ∧ a ≤ c)) := by
  unfold impl_within.f
  by_cases h : b ≤ a
  · rw [if_pos h]; simp [h]
  · rw [if_neg h]; simp [h]
theorem isSide_f (a : Int) : impl_isSide.f a = some (decide (1 ≤ a ∧ a ≤ 6)) := by
  unfold impl_isSide.f; rw [within_f]; rfl
end Go.Proofs.YtihnjbfjdkdhaaaGreat.Q
namespace Go.Proofs.YtihnjbfjdkdhaaaGreat.BoardK
set_option linter.unusedVariables false
open Go.RowKit Go.Proofs.YtihnjbfjdkdhaaaGreat.Q Go.Proofs.YtihnjbfjdkdhaaaGreatW.PrintWords Go.Proofs.YtihnjbfjdkdhaaaGreatW.PrintLast Go.Proofs.YtihnjbfjdkdhaaaGreatW.PrintMore
open Go.Proofs.YtihnjbfjdkdhaaaGreatL Go.Proofs.YtihnjbfjdkdhaaaGreat.LawK
def inR (lo hi x : Int) : Bool := decide (lo ≤ x ∧ x ≤ hi)
theorem l1In_f (a b c : Int) : spec_l1In.f a b c = some (inR b c a) := by
  unfold spec_l1In.f inR
  by_cases h : a ≥ b
  · rw [if_pos h]; simp [h]
  · rw [if_neg h]; congr 1; exact (decide_eq_false (by omega)).symm
theorem l1All_l0 {l : List Int} (lo hi : Int) (hl : l.length ≤ 4611686018427387904) : ∀ (d i : Nat), i + d = l.length → Ev (fun k => spec_l1All.l0 k lo hi l (l.length : Int) i) ((l.drop i).all (inR lo hi))
  | 0, i, hi' => by
    refine Ev.step (f := fun _ => some ((l.drop i).all (inR lo hi))) (fun k => ?_) (Ev.now _)
    rw [spec_l1All.l0, if_neg (by omega), List.drop_eq_nil_of_le (by omega)]; rfl
  | d + 1, i, hi' => by
    have h1 : wrap64 ((i : Int) + 1) = ((i + 1 : Nat) : Int) := by rw [w64 (by omega) (by omega)]; rfl
    have hi2 : i < l.length := by omega
    rw [List.drop_eq_getElem_cons hi2, List.all_cons]
    by_cases e : inR lo hi l[i] = true
    · rw [e, Bool.true_and]
      refine Ev.step (fun k => ?_) (l1All_l0 lo hi hl d (i + 1) (by omega))
      rw [spec_l1All.l0, if_pos (by omega), if_pos (by omega), if_pos (by omega), l1In_f, Option.bind_some, rd_lt _ _ hi2, if_pos e, h1]
    · have e' : inR lo hi l[i] = false := by simpa using e
      rw [e', Bool.false_and]
      refine Ev.step (f := fun _ => some false) (fun k => ?_) (Ev.now _)
      rw [spec_l1All.l0, if_pos (by omega), if_pos (by omega), if_pos (by omega), l1In_f, Option.bind_some, rd_lt _ _ hi2, if_neg e]
theorem l1All {l : List Int} (lo hi : Int) (hl : l.length ≤ 4611686018427387904) : Ev (fun k => spec_l1All.f k l lo hi) (l.all (inR lo hi)) := by
  refine Ev.congr (fun k => ?_) (l1All_l0 lo hi hl l.length 0 (by omega))
  unfold spec_l1All.f; rfl
theorem boSide_f (a : Int) : spec_boSide.f a = some (inR 1 6 a) := by unfold spec_boSide.f; rw [l1In_f]; rfl
def cell (l : List Int) (r c : Nat) : Bool := (l.getD r 0).toNat.testBit c
theorem two_pow_six {C : Nat} (h : C ≤ 6) : (2 : Int) ^ C ≤ 64 := by
  have : 2 ^ C ≤ 2 ^ 6 := Nat.pow_le_pow_right (by decide) h
  exact_mod_cast this
theorem boHas_f {l : List Int} (r c : Int) {i j : Nat} (hi : i < l.length) (h0 : 0 ≤ l[i]) (h1 : l[i] < 64) (hj : j ≤ 64) : spec_boHas.f r c l i j = some (cell l i j) := by
  unfold spec_boHas.f
  rw [if_pos (by omega), if_pos (by omega), if_pos (by omega), rd_lt _ _ hi]
  obtain ⟨m, hm⟩ : ∃ m : Nat, l[i] = m := ⟨l[i].toNat, by omega⟩
  rw [hm, bit_mod m j hj]
  unfold cell
  rw [gD_lt _ _ hi, hm, Int.toNat_natCast]
  by_cases hb : m.testBit j = true <;> simp [hb]
theorem has_f {l : List Int} (r c : Int) {i j : Nat} (hi : i < l.length) (h0 : 0 ≤ l[i]) (h1 : l[i] < 64) (hj : j ≤ 64) : impl_Board_has.f r c l i j = some (cell l i j) := by
  unfold impl_Board_has.f
  rw [if_pos (by omega), if_pos (by omega), if_pos (by omega), rd_lt _ _ hi]
  obtain ⟨m, hm⟩ : ∃ m : Nat, l[i] = m := ⟨l[i].toNat, by omega⟩
  rw [hm, bit_and m j (by omega) hj]
  unfold cell
  rw [gD_lt _ _ hi, hm, Int.toNat_natCast]
  by_cases hb : m.testBit j = true <;> simp [hb]
end Go.Proofs.YtihnjbfjdkdhaaaGreat.BoardK
end
section
namespace Go.Proofs.YtihnjbfjdkdhaaaGreat.PermK
set_option linter.unusedVariables false
open Go.RowKit Go.Proofs.YtihnjbfjdkdhaaaGreat.Q Go.Proofs.YtihnjbfjdkdhaaaGreatW.PrintWords Go.Proofs.YtihnjbfjdkdhaaaGreatW.PrintLast Go.Proofs.YtihnjbfjdkdhaaaGreatW.PrintMore
open Go.Proofs.YtihnjbfjdkdhaaaGreatL
theorem l1Has_l0 {l : List Int} (x : Int) (hl : l.length ≤ 4611686018427387904) : ∀ (d i : Nat), i + d = l.length → Ev (fun k => spec_l1Has.l0 k x l (l.length : Int) i) (decide (x ∈ l.drop i))
  | 0, i, hi => by
    refine Ev.step (f := fun _ => some (decide (x ∈ l.drop i))) (fun k => ?_) (Ev.now _)
    rw [spec_l1Has.l0, if_neg (by omega), List.drop_eq_nil_of_le (by omega)]; rfl
  | d + 1, i, hi => by
    have h1 : wrap64 ((i : Int) + 1) = ((i + 1 : Nat) : Int) := by rw [w64 (by omega) (by omega)]; rfl
    have hi2 : i < l.length := by omega
    rw [List.drop_eq_getElem_cons hi2]
    by_cases e : l[i] = x
    · refine Ev.step (f := fun _ => some (decide (x ∈ l[i] :: l.drop (i + 1)))) (fun k => ?_) (Ev.now _)
      rw [spec_l1Has.l0, if_pos (by omega), if_pos (by omega), if_pos (by omega), rd_lt _ _ hi2, if_pos e, decide_eq_true (by simp [e])]
    · have : (x ∈ l[i] :: l.drop (i + 1)) ↔ x ∈ l.drop (i + 1) := by
        rw [List.mem_cons]; exact ⟨fun h => h.resolve_left (fun h => e h.symm), Or.inr⟩
      rw [decide_eq_decide.mpr this]
      refine Ev.step (fun k => ?_) (l1Has_l0 x hl d (i + 1) (by omega))
      rw [spec_l1Has.l0, if_pos (by omega), if_pos (by omega), if_pos (by omega), rd_lt _ _ hi2, if_neg e, h1]
theorem l1Has {l : List Int} (x : Int) (hl : l.length ≤ 4611686018427387904) : Ev (fun k => spec_l1Has.f k l x) (decide (x ∈ l)) := by
  refine Ev.congr (fun k => ?_) (l1Has_l0 x hl l.length 0 (by omega))
  unfold spec_l1Has.f; rfl
theorem index_l0 {l : List Int} (x : Int) (hl : l.length ≤ 4611686018427387904) : ∀ (d i : Nat), i + d = l.length → ∃ r : Int, (decide (r ≥ 0) = decide (x ∈ l.drop i)) ∧ Ev (fun k => slices_Index_int_int.l0 k l x (l.length : Int) i) r
  | 0, i, hi => by
    refine ⟨-1, by rw [List.drop_eq_nil_of_le (by omega)]; rfl, Ev.step (f := fun _ => some (-1)) (fun k => ?_) (Ev.now _)⟩
    rw [slices_Index_int_int.l0, if_neg (by omega)]
  | d + 1, i, hi => by
    have h1 : wrap64 ((i : Int) + 1) = ((i + 1 : Nat) : Int) := by rw [w64 (by omega) (by omega)]; rfl
    have hi2 : i < l.length := by omega
    rw [List.drop_eq_getElem_cons hi2]
    by_cases e : x = l[i]
    · refine ⟨i, by rw [decide_eq_true (show x ∈ l[i] :: l.drop (i + 1) from List.mem_cons.2 (Or.inl e))]; simp, Ev.step (f := fun _ => some (i : Int)) (fun k => ?_) (Ev.now _)⟩
      rw [slices_Index_int_int.l0, if_pos (by omega), if_pos (by omega), if_pos (by omega), rd_lt _ _ hi2, if_pos e]
    · have : (x ∈ l[i] :: l.drop (i + 1)) ↔ x ∈ l.drop (i + 1) := by
        rw [List.mem_cons]; exact ⟨fun h => h.resolve_left e, Or.inr⟩
      rw [decide_eq_decide.mpr this]
      obtain ⟨r, hr, hev⟩ := index_l0 x hl d (i + 1) (by omega)
      refine ⟨r, hr, Ev.step (fun k => ?_) hev⟩
      rw [slices_Index_int_int.l0, if_pos (by omega), if_pos (by omega), if_pos (by omega), rd_lt _ _ hi2, if_neg e, h1]
theorem contains {l : List Int} (x : Int) (hl : l.length ≤ 4611686018427387904) : Ev (fun k => slices_Contains_int_int.f k l x) (decide (x ∈ l)) := by
  obtain ⟨r, hr, hev⟩ := index_l0 x hl l.length 0 (by omega)
  rw [List.drop_zero] at hr
  rw [← hr]
  unfold slices_Contains_int_int.f slices_Index_int_int.f
  exact Ev.bind (a := r) hev (Ev.now _)
end Go.Proofs.YtihnjbfjdkdhaaaGreat.PermK
end
section
namespace Go.Proofs.YtihnjbfjdkdhaaaGreat.LensK
set_option linter.unusedVariables false
open Go.RowKit Go.Proofs.YtihnjbfjdkdhaaaGreat.Q Go.Proofs.YtihnjbfjdkdhaaaGreatW.PrintWords Go.Proofs.YtihnjbfjdkdhaaaGreatW.PrintLast Go.Proofs.YtihnjbfjdkdhaaaGreatW.PrintMore
open Go.Proofs.YtihnjbfjdkdhaaaGreatL Go.Proofs.YtihnjbfjdkdhaaaGreat.LawK Go.Proofs.YtihnjbfjdkdhaaaGreat.BoardK Go.Proofs.YtihnjbfjdkdhaaaGreat.PermK
theorem evEq {α : Type} {g : Nat → Option α} {a b : α} (h : Ev g a) (e : a = b) : Ev g b := e ▸ h
def riseFrom (l : List Int) (i : Nat) : Bool := decide (∀ j, j < l.length - 1 → i ≤ j + 1 → l.getD j 0 ≤ l.getD (j + 1) 0)
def riseTo (l : List Int) (i : Nat) : Bool := decide (∀ j, j < i → l.getD j 0 ≤ l.getD (j + 1) 0)
theorem spec_rise {l : List Int} (hl : l.length ≤ 6) : ∀ (d i : Nat), i + d = l.length → 1 ≤ i → Ev (fun k => spec_feGood.l0 k l i) (riseFrom l i)
  | 0, i, hi, h1 => by
    refine Ev.step (f := fun _ => some true) (fun k => ?_) (evEq (Ev.now _) (Eq.symm (decide_eq_true (fun j hj h => by omega))))
    rw [spec_feGood.l0, if_neg (by omega)]
  | d + 1, i, hi, h1 => by
    have e1 : wrap64 ((i : Int) + 1) = ((i + 1 : Nat) : Int) := by rw [w64 (by omega) (by omega)]; rfl
    have e2 : wrap64 ((i : Int) - 1) = ((i - 1 : Nat) : Int) := by rw [w64 (by omega) (by omega)]; omega
    have hstep : ∀ k, spec_feGood.l0 (k + 1) l i = if l.getD i 0 < l.getD (i - 1) 0 then some false else spec_feGood.l0 k l ((i + 1 : Nat) : Int) := by
      intro k
      rw [spec_feGood.l0, if_pos (by omega), if_pos (by omega), e2, if_pos (by omega), if_pos (by omega), e1, rd_nat, rd_nat]
    by_cases hc : l.getD i 0 < l.getD (i - 1) 0
    · refine Ev.step (f := fun _ => some false) (fun k => by rw [hstep, if_pos hc]) (evEq (Ev.now _) (Eq.symm (decide_eq_false (fun h => ?_))))
      have := h (i - 1) (by omega) (by omega)
      rw [show i - 1 + 1 = i by omega] at this
      omega
    · refine Ev.step (fun k => by rw [hstep, if_neg hc]) (evEq (spec_rise hl d (i + 1) (by omega) (by omega)) ?_)
      apply decide_eq_decide.2
      constructor
      · intro h j hj hij
        by_cases e : j + 1 = i
        · subst e; simp only [Nat.add_sub_cancel] at hc; omega
        · exact h j hj (by omega)
      · intro h j hj hij
        exact h j hj (by omega)
theorem less_f (a b : Int) : cmp_Less_int.f a b = some (decide (a < b)) := by
  unfold cmp_Less_int.f cmp_isNaN_int.f
  rw [Option.bind_some, if_neg (by simp)]
theorem impl_rise {l : List Int} (hl : l.length ≤ 6) : ∀ (i : Nat), i < l.length → Ev (fun k => slices_IsSorted_int_int.l0 k l i) (riseTo l i)
  | 0, hi => by
    refine Ev.step (f := fun _ => some true) (fun k => ?_) (evEq (Ev.now _) (Eq.symm (decide_eq_true (fun j hj => by omega))))
    rw [slices_IsSorted_int_int.l0, if_neg (by omega)]
  | i + 1, hi => by
    have e2 : wrap64 (((i + 1 : Nat) : Int) - 1) = ((i : Nat) : Int) := by rw [w64 (by omega) (by omega)]; omega
    have hstep : ∀ k, slices_IsSorted_int_int.l0 (k + 1) l ((i + 1 : Nat) : Int) = if l.getD (i + 1) 0 < l.getD i 0 then some false else slices_IsSorted_int_int.l0 k l (i : Int) := by
      intro k
      rw [slices_IsSorted_int_int.l0, if_pos (by omega), if_pos (by omega), if_pos (by omega), e2, if_pos (by omega), if_pos (by omega), less_f, Option.bind_some, rd_nat, rd_nat]
      by_cases hc : l.getD (i + 1) 0 < l.getD i 0
      · rw [if_pos (decide_eq_true hc), if_pos hc]
      · rw [if_neg (by simpa using hc), if_neg hc]
    by_cases hc : l.getD (i + 1) 0 < l.getD i 0
    · refine Ev.step (f := fun _ => some false) (fun k => by rw [hstep, if_pos hc]) (evEq (Ev.now _) (Eq.symm (decide_eq_false (fun h => ?_))))
      have := h i (by omega)
      omega
    · refine Ev.step (fun k => by rw [hstep, if_neg hc]) (evEq (impl_rise hl i (by omega)) ?_)
      apply decide_eq_decide.2
      constructor
      · intro h j hj
        by_cases e : j = i
        · subst e; omega
        · exact h j (by omega)
      · intro h j hj
        exact h j (by omega)
def lenB (l : List Int) : Bool := inR 1 6 l.length && l.all (inR 0 l.length) && riseFrom l 1
theorem spec_good {l : List Int} (hl : l.length ≤ 1048576) : Ev (fun k => spec_feGood.f k l) (lenB l) := by
  unfold spec_feGood.f lenB
  by_cases h1 : inR 1 6 l.length = true
  · have h6 : 1 ≤ l.length ∧ l.length ≤ 6 := by unfold inR at h1; simp only [decide_eq_true_eq] at h1; omega
    refine Ev.congr (fun k => by rw [boSide_f, Option.bind_some, if_pos h1]) ?_
    refine Ev.bind (l1All 0 l.length (by omega)) ?_
    rw [h1, Bool.true_and]
    by_cases h2 : l.all (inR 0 l.length) = true
    · rw [h2, Bool.true_and]
      refine Ev.step (fun k => by rw [spec_feGood.j0, if_neg (by simp)]) ?_
      exact spec_rise h6.2 (l.length - 1) 1 (by omega) (by omega)
    · have h2f : l.all (inR 0 l.length) = false := by simpa using h2
      rw [h2f, Bool.false_and]
      refine Ev.step (fun k => by rw [spec_feGood.j0, if_pos (by simp)]) (Ev.now _)
  · have h1f : inR 1 6 l.length = false := by simpa using h1
    rw [h1f, Bool.false_and, Bool.false_and]
    refine Ev.step (fun k => by rw [boSide_f, Option.bind_some, if_neg h1, spec_feGood.j0, if_pos rfl]) (Ev.now _)
theorem rise_le {l : List Int} (h : riseFrom l 1 = true) : ∀ d i, i + d < l.length → l.getD i 0 ≤ l.getD (i + d) 0
  | 0, i, _ => Int.le_refl _
  | d + 1, i, hi => by
    have h1 := rise_le h d i (by omega)
    have h2 := of_decide_eq_true h (i + d) (by omega) (by omega)
    rw [show i + (d + 1) = i + d + 1 by omega]
    omega
theorem impl_good {l : List Int} (hl : l.length ≤ 1048576) : Ev (fun k => impl_AreLengths.f k l) (lenB l) := by
  unfold impl_AreLengths.f lenB
  by_cases h1 : inR 1 6 l.length = true
  · have h6 : 1 ≤ l.length ∧ l.length ≤ 6 := by unfold inR at h1; simp only [decide_eq_true_eq] at h1; omega
    have e0 : wrap64 ((l.length : Int) - 1) = ((l.length - 1 : Nat) : Int) := by rw [w64 (by omega) (by omega)]; omega
    refine Ev.congr (fun k => by rw [isSide_f, Option.bind_some, if_pos (show decide (1 ≤ (l.length : Int) ∧ (l.length : Int) ≤ 6) = true from h1)]) ?_
    rw [h1, Bool.true_and]
    have er : riseTo l (l.length - 1) = riseFrom l 1 := decide_eq_decide.2 ⟨fun h j hj _ => h j hj, fun h j hj => h j hj (by omega)⟩
    refine Ev.bind (a := riseFrom l 1) (by unfold slices_IsSorted_int_int.f; rw [e0, ← er]; exact impl_rise h6.2 (l.length - 1) (by omega)) ?_
    by_cases h2 : riseFrom l 1 = true
    · rw [h2, Bool.and_true]
      refine Ev.congr (fun k => by rw [if_pos rfl, if_pos (by omega), within_f, Option.bind_some, e0]) ?_
      have hall : l.all (inR 0 l.length) = (inR 0 l.length (l.getD 0 0) && inR 0 l.length (l.getD (l.length - 1) 0)) := by
        rw [Bool.eq_iff_iff, Bool.and_eq_true, List.all_eq_true]
        constructor
        · intro h
          rw [gD_lt _ _ (by omega), gD_lt _ _ (by omega)]
          exact ⟨h _ (List.getElem_mem _), h _ (List.getElem_mem _)⟩
        · rintro ⟨ha, hb⟩ x hx
          obtain ⟨i, hi, e⟩ := List.mem_iff_getElem.1 hx
          have q1 := rise_le h2 i 0 (by omega)
          have q2 := rise_le h2 (l.length - 1 - i) i (by omega)
          rw [show i + (l.length - 1 - i) = l.length - 1 by omega] at q2
          rw [Nat.zero_add, gD_lt l 0 hi, e] at q1
          rw [gD_lt l 0 hi, e] at q2
          unfold inR at ha hb ⊢
          simp only [decide_eq_true_eq] at ha hb ⊢
          omega
      rw [hall]
      have r0 : rd l 0 = l.getD 0 0 := rd_nat l 0
      by_cases h3 : inR 0 l.length (l.getD 0 0) = true
      · rw [h3, Bool.true_and]
        refine Ev.congr (fun k => by rw [r0, if_pos (show decide (0 ≤ l.getD 0 0 ∧ l.getD 0 0 ≤ (l.length : Int)) = true from h3), if_pos (by omega), if_pos (by omega), within_f, Option.bind_some, rd_nat]; rfl) (Ev.now _)
      · have h3f : inR 0 l.length (l.getD 0 0) = false := by simpa using h3
        rw [h3f, Bool.false_and]
        exact Ev.congr (fun k => by rw [r0, if_neg (show ¬ decide (0 ≤ l.getD 0 0 ∧ l.getD 0 0 ≤ (l.length : Int)) = true from h3)]) (Ev.now _)
    · have h2f : riseFrom l 1 = false := by simpa using h2
      rw [h2f, Bool.and_false]
      exact Ev.congr (fun k => by rw [if_neg (by simp)]) (Ev.now _)
  · have h1f : inR 1 6 l.length = false := by simpa using h1
    rw [h1f, Bool.false_and, Bool.false_and]
    exact Ev.congr (fun k => by rw [isSide_f, Option.bind_some, if_neg (show ¬ decide (1 ≤ (l.length : Int) ∧ (l.length : Int) ≤ 6) = true from h1)]) (Ev.now _)
def rowsOf (l : List Int) : List Int := l.map fun m => 2 ^ m.toNat - 1
theorem len_of {l : List Int} (h : lenB l = true) : 1 ≤ l.length ∧ l.length ≤ 6 ∧ ∀ i (hi : i < l.length), 0 ≤ l[i] ∧ l[i] ≤ l.length := by
  unfold lenB at h
  simp only [Bool.and_eq_true, List.all_eq_true] at h
  obtain ⟨⟨h1, h2⟩, h3⟩ := h
  unfold inR at h1 h2
  simp only [decide_eq_true_eq] at h1 h2
  exact ⟨by omega, by omega, fun i hi => h2 _ (List.getElem_mem hi)⟩
def board0 (l : List Int) (i : Nat) : List Int := (rowsOf l).take i ++ List.replicate (l.length - i) 0
theorem board0_length (l : List Int) (i : Nat) (hi : i ≤ l.length) : (board0 l i).length = l.length := by simp [board0, rowsOf]; omega
theorem board0_set (l : List Int) (i : Nat) (hi : i < l.length) : (board0 l i).set i (2 ^ l[i].toNat - 1) = board0 l (i + 1) := by
  unfold board0
  have hr : (rowsOf l).length = l.length := by simp [rowsOf]
  have ht : ((rowsOf l).take i).length = i := by rw [List.length_take, hr]; omega
  have e1 : List.replicate (l.length - i) (0 : Int) = 0 :: List.replicate (l.length - (i + 1)) 0 := by rw [show l.length - i = (l.length - (i + 1)) + 1 by omega]; rfl
  rw [e1, List.set_append_right (h := by omega), ht, Nat.sub_self, List.set_cons_zero, List.take_add_one, List.append_assoc]
  congr 1
  simp [rowsOf, hi]
theorem mask_f {m : Int} (h0 : 0 ≤ m) (h6 : m ≤ 6) : wrap64 (shl .i64 1 m - 1) = 2 ^ m.toNat - 1 := by
  obtain ⟨n, rfl⟩ : ∃ n : Nat, m = n := ⟨m.toNat, by omega⟩
  have h4 : 2 ^ n ≤ 2 ^ 6 := Nat.pow_le_pow_right (by decide) (by omega)
  have h5 : 0 < 2 ^ n := Nat.two_pow_pos n
  rw [shl_one n (by omega), w64 (by omega) (by omega), Int.toNat_natCast]; simp
theorem impl_board {l : List Int} (h : lenB l = true) : Ev (fun k => impl_boardOf.f k l) ((l.length : Int), (l.length : Int), rowsOf l) := by
  obtain ⟨h1, h2, h3⟩ := len_of h
  have key : ∀ d i, i + d = l.length → Ev (fun k => impl_boardOf.l0 k l (l.length : Int) i (l.length : Int) (l.length : Int) (board0 l i)) ((l.length : Int), (l.length : Int), rowsOf l) := by
    intro d
    induction d with
    | zero =>
      intro i hi
      refine Ev.step (f := fun _ => some ((l.length : Int), (l.length : Int), board0 l i)) (fun k => ?_) (evEq (Ev.now _) (by rw [show i = l.length by omega]; unfold board0; rw [List.take_of_length_le (by simp [rowsOf])]; simp))
      rw [impl_boardOf.l0, if_neg (by omega)]
    | succ d ih =>
      intro i hi
      have hi2 : i < l.length := by omega
      have e1 : wrap64 ((i : Int) + 1) = ((i + 1 : Nat) : Int) := by rw [w64 (by omega) (by omega)]; rfl
      have := h3 i hi2
      refine Ev.step (fun k => ?_) (ih (i + 1) (by omega))
      rw [impl_boardOf.l0, if_pos (by omega), if_pos (by omega), if_pos (by omega), rd_lt _ _ hi2, if_pos this.1, if_pos (by rw [board0_length _ _ (by omega)]; omega), e1, mask_f this.1 (by omega), Int.toNat_natCast, board0_set _ _ hi2]
  unfold impl_boardOf.f impl_newBoard.f
  refine Ev.congr (fun k => ?_) (key l.length 0 (by omega))
  rw [if_pos (by omega), if_pos (by omega), Option.bind_some, Int.toNat_natCast]
  simp [board0]
theorem spec_board {l : List Int} (h : lenB l = true) : Ev (fun k => spec_feBoard.f k l) ((l.length : Int), (l.length : Int), rowsOf l) := by
  obtain ⟨h1, h2, h3⟩ := len_of h
  have key : ∀ d i, i + d = l.length → Ev (fun k => spec_feBoard.l0 k l (l.length : Int) i (l.length : Int) (l.length : Int) (board0 l i)) ((l.length : Int), (l.length : Int), rowsOf l) := by
    intro d
    induction d with
    | zero =>
      intro i hi
      refine Ev.step (f := fun _ => some ((l.length : Int), (l.length : Int), board0 l i)) (fun k => ?_) (evEq (Ev.now _) (by rw [show i = l.length by omega]; unfold board0; rw [List.take_of_length_le (by simp [rowsOf])]; simp))
      rw [spec_feBoard.l0, if_neg (by omega)]
    | succ d ih =>
      intro i hi
      have hi2 : i < l.length := by omega
      have e1 : wrap64 ((i : Int) + 1) = ((i + 1 : Nat) : Int) := by rw [w64 (by omega) (by omega)]; rfl
      have := h3 i hi2
      refine Ev.step (fun k => ?_) (ih (i + 1) (by omega))
      rw [spec_feBoard.l0, if_pos (by omega), if_pos (by omega), if_pos (by omega), rd_lt _ _ hi2, if_pos this.1, if_pos (by rw [board0_length _ _ (by omega)]; omega), e1, mask_f this.1 (by omega), Int.toNat_natCast, board0_set _ _ hi2]
  unfold spec_feBoard.f spec_boEmpty.f
  refine Ev.congr (fun k => ?_) (key l.length 0 (by omega))
  rw [if_pos (by omega), if_pos (by omega), Option.bind_some, Int.toNat_natCast]
  simp [board0]
theorem rows_in {l : List Int} (h : lenB l = true) : (rowsOf l).length = l.length ∧ ∀ i (hi : i < (rowsOf l).length), 0 ≤ (rowsOf l)[i] ∧ (rowsOf l)[i] < 64 := by
  obtain ⟨h1, h2, h3⟩ := len_of h
  refine ⟨by simp [rowsOf], fun i hi => ?_⟩
  have hi2 : i < l.length := by simpa [rowsOf] using hi
  have h4 := h3 i hi2
  have e : (rowsOf l)[i] = 2 ^ l[i].toNat - 1 := by simp [rowsOf]
  have h5 : 2 ^ l[i].toNat ≤ 2 ^ 6 := Nat.pow_le_pow_right (by decide) (by omega)
  have h6 : 0 < 2 ^ l[i].toNat := Nat.two_pow_pos _
  have h7 : ((2 ^ l[i].toNat : Nat) : Int) = 2 ^ l[i].toNat := by simp
  rw [e]
  omega
def placeF (rows : List Int) (C : Int) (p : List Int) : List Int → Nat → Bool
  | [], _ => true
  | x :: t, i => (x == -1 || (inR 0 (C - 1) x && cell rows i x.toNat && !decide (x ∈ p.take i))) && placeF rows C p t (i + 1)
def placeB (rows : List Int) (R C : Int) (p : List Int) : Bool := decide ((p.length : Int) = R) && placeF rows C p p 0
section
variable {rows p : List Int} {R C : Int} (hR : rows.length = R) (hR6 : rows.length ≤ 6) (hC1 : 1 ≤ C) (hC : C ≤ 6) (hb : ∀ i (hi : i < rows.length), 0 ≤ rows[i] ∧ rows[i] < 64) (hp : p.length = rows.length)
include hR hR6 hC1 hC hb hp
theorem spec_place : ∀ (d i : Nat), i + d = p.length → Ev (fun k => spec_roGood.l0 k p p (p.length : Int) i R C rows) (placeF rows C p (p.drop i) i)
  | 0, i, hi => by
    refine Ev.step (f := fun _ => some true) (fun k => ?_) (evEq (Ev.now _) (by rw [List.drop_eq_nil_of_le (by omega)]; rfl))
    rw [spec_roGood.l0, if_neg (by omega)]
  | d + 1, i, hi => by
    have ih := spec_place d (i + 1) (by omega)
    have hi2 : i < p.length := by omega
    have e1 : wrap64 ((i : Int) + 1) = ((i + 1 : Nat) : Int) := by rw [w64 (by omega) (by omega)]; rfl
    have e2 : wrap64 (C - 1) = C - 1 := w64 (by omega) (by omega)
    rw [List.drop_eq_getElem_cons hi2, placeF]
    have hstep : ∀ k, spec_roGood.l0 (k + 1) p p (p.length : Int) i R C rows = _ := fun k => by rw [spec_roGood.l0, if_pos (by omega), if_pos (by omega), if_pos (by omega), rd_lt _ _ hi2, e1, e2]
    by_cases h1 : p[i] = -1
    · refine Ev.step (fun k => by rw [hstep, if_pos h1]) (evEq ih (by simp [h1]))
    · by_cases h2 : inR 0 (C - 1) p[i] = true
      · obtain ⟨m, hm⟩ : ∃ m : Nat, p[i] = m := ⟨p[i].toNat, by unfold inR at h2; simp only [decide_eq_true_eq] at h2; omega⟩
        have hm6 : m ≤ 64 := by unfold inR at h2; simp only [decide_eq_true_eq] at h2; omega
        have hc := boHas_f R C (l := rows) (i := i) (j := m) (by omega) (hb i (by omega)).1 (hb i (by omega)).2 hm6
        rw [← hm] at hc
        by_cases h3 : cell rows i m = true
        · refine Ev.step (fun k => by rw [hstep, if_neg h1, l1In_f, Option.bind_some, if_pos h2, hc, Option.bind_some, if_pos h3, if_pos (by omega), Int.toNat_natCast]) ?_
          refine Ev.bind (l1Has p[i] (by simp; omega)) ?_
          by_cases h4 : p[i] ∈ p.take i
          · refine Ev.congr (fun k => by rw [if_pos (by simpa using h4)]) (evEq (Ev.now _) ?_)
            simp [h1, h4]
          · refine Ev.congr (fun k => by rw [if_neg (by simpa using h4)]) (evEq ih ?_)
            rw [h2, show cell rows i p[i].toNat = true by rw [hm, Int.toNat_natCast]; exact h3]
            simp [h4]
        · have h3f : cell rows i m = false := by simpa using h3
          refine Ev.step (fun k => by rw [hstep, if_neg h1, l1In_f, Option.bind_some, if_pos h2, hc, Option.bind_some, if_neg h3]) (evEq (Ev.now _) ?_)
          rw [show cell rows i p[i].toNat = false by rw [hm, Int.toNat_natCast]; exact h3f]
          simp [h1]
      · have h2f : inR 0 (C - 1) p[i] = false := by simpa using h2
        refine Ev.step (fun k => by rw [hstep, if_neg h1, l1In_f, Option.bind_some, if_neg h2]) (evEq (Ev.now _) ?_)
        rw [h2f]; simp [h1]
theorem impl_place : ∀ (d i : Nat), i + d = p.length → Ev (fun k => impl_Board_isPlacement.l0 k p p (p.length : Int) i R C rows) (placeF rows C p (p.drop i) i)
  | 0, i, hi => by
    refine Ev.step (f := fun _ => some true) (fun k => ?_) (evEq (Ev.now _) (by rw [List.drop_eq_nil_of_le (by omega)]; rfl))
    rw [impl_Board_isPlacement.l0, if_neg (by omega)]
  | d + 1, i, hi => by
    have ih := impl_place d (i + 1) (by omega)
    have hi2 : i < p.length := by omega
    have e1 : wrap64 ((i : Int) + 1) = ((i + 1 : Nat) : Int) := by rw [w64 (by omega) (by omega)]; rfl
    have e2 : wrap64 (C - 1) = C - 1 := w64 (by omega) (by omega)
    have e3 : wrap64 (R - 1) = R - 1 := w64 (by omega) (by omega)
    have hpl : ∀ x, impl_Board_place.f R C rows i x = some (inR 0 (C - 1) x) := by
      intro x
      unfold impl_Board_place.f
      rw [within_f, e3, Option.bind_some, if_pos (decide_eq_true (by omega)), within_f, e2, Option.bind_some]; rfl
    rw [List.drop_eq_getElem_cons hi2, placeF]
    have hstep : ∀ k, impl_Board_isPlacement.l0 (k + 1) p p (p.length : Int) i R C rows = _ := fun k => by rw [impl_Board_isPlacement.l0, if_pos (by omega), if_pos (by omega), if_pos (by omega), rd_lt _ _ hi2, e1, hpl, Option.bind_some]
    by_cases h1 : p[i] = -1
    · refine Ev.step (fun k => by rw [hstep, if_pos h1]) (evEq ih (by simp [h1]))
    · by_cases h2 : inR 0 (C - 1) p[i] = true
      · obtain ⟨m, hm⟩ : ∃ m : Nat, p[i] = m := ⟨p[i].toNat, by unfold inR at h2; simp only [decide_eq_true_eq] at h2; omega⟩
        have hm6 : m ≤ 64 := by unfold inR at h2; simp only [decide_eq_true_eq] at h2; omega
        have hc := has_f R C (l := rows) (i := i) (j := m) (by omega) (hb i (by omega)).1 (hb i (by omega)).2 hm6
        rw [← hm] at hc
        by_cases h3 : cell rows i m = true
        · refine Ev.step (fun k => by rw [hstep, if_neg h1, if_pos h2, hc, Option.bind_some, if_pos h3, if_pos (by omega), Int.toNat_natCast]) ?_
          refine Ev.bind (contains p[i] (by simp; omega)) ?_
          by_cases h4 : p[i] ∈ p.take i
          · refine Ev.congr (fun k => by rw [if_pos (by simpa using h4)]) (evEq (Ev.now _) ?_)
            simp [h1, h4]
          · refine Ev.congr (fun k => by rw [if_neg (by simpa using h4)]) (evEq ih ?_)
            rw [h2, show cell rows i p[i].toNat = true by rw [hm, Int.toNat_natCast]; exact h3]
            simp [h4]
        · have h3f : cell rows i m = false := by simpa using h3
          refine Ev.step (fun k => by rw [hstep, if_neg h1, if_pos h2, hc, Option.bind_some, if_neg h3]) (evEq (Ev.now _) ?_)
          rw [show cell rows i p[i].toNat = false by rw [hm, Int.toNat_natCast]; exact h3f]
          simp [h1]
      · have h2f : inR 0 (C - 1) p[i] = false := by simpa using h2
        refine Ev.step (fun k => by rw [hstep, if_neg h1, if_neg h2]) (evEq (Ev.now _) ?_)
        rw [h2f]; simp [h1]
end
theorem spec_roGood {rows p : List Int} {R C : Int} (hR : rows.length = R) (hR6 : rows.length ≤ 6) (hC1 : 1 ≤ C) (hC : C ≤ 6) (hb : ∀ i (hi : i < rows.length), 0 ≤ rows[i] ∧ rows[i] < 64) : Ev (fun k => spec_roGood.f k R C rows p) (placeB rows R C p) := by
  unfold spec_roGood.f placeB
  by_cases hp : (p.length : Int) = R
  · rw [decide_eq_true hp, Bool.true_and]
    have := spec_place hR hR6 hC1 hC hb (p := p) (by omega) p.length 0 (by omega)
    rw [List.drop_zero] at this
    exact Ev.congr (fun k => by rw [if_pos hp]; rfl) this
  · rw [decide_eq_false hp, Bool.false_and]
    exact Ev.congr (fun k => by rw [if_neg hp]) (Ev.now _)
theorem impl_isPlacement {rows p : List Int} {R C : Int} (hR : rows.length = R) (hR6 : rows.length ≤ 6) (hC1 : 1 ≤ C) (hC : C ≤ 6) (hb : ∀ i (hi : i < rows.length), 0 ≤ rows[i] ∧ rows[i] < 64) : Ev (fun k => impl_Board_isPlacement.f k R C rows p) (placeB rows R C p) := by
  unfold impl_Board_isPlacement.f placeB
  by_cases hp : (p.length : Int) = R
  · rw [decide_eq_true hp, Bool.true_and]
    have := impl_place hR hR6 hC1 hC hb (p := p) (by omega) p.length 0 (by omega)
    rw [List.drop_zero] at this
    exact Ev.congr (fun k => by rw [if_pos hp]; rfl) this
  · rw [decide_eq_false hp, Bool.false_and]
    exact Ev.congr (fun k => by rw [if_neg hp]) (Ev.now _)
end Go.Proofs.YtihnjbfjdkdhaaaGreat.LensK
end
section
namespace Go.Proofs.YtihnjbfjdkdhaaaGreat.Q
open Go.RowKit Go.Proofs.YtihnjbfjdkdhaaaGreatW.PrintWords Go.Proofs.YtihnjbfjdkdhaaaGreatW.PrintLast Go.Proofs.YtihnjbfjdkdhaaaGreatW.PrintMore
open Go.Proofs.YtihnjbfjdkdhaaaGreatL
set_option linter.unusedVariables false
def rowIn (c : Int) (m : Int) : Bool := decide (0 ≤ m ∧ m ≤ 2 ^ c.toNat - 1)
def isBoardB (r c : Int) (l : List Int) : Bool := decide (1 ≤ r ∧ r ≤ 6 ∧ 1 ≤ c ∧ c ≤ 6 ∧ (l.length : Int) = r) && l.all (rowIn c)
set_option maxHeartbeats 1000000 in
theorem isBoard1 (m c : Int) (B : Nat) (w : World) (hc : w.cell? ⟨B, 1, none⟩ = some (.int .i64 c)) (h1 : 1 ≤ c) (h6 : c ≤ 6) :
    Calls Tryz.prog 83 #[.int .i64 m, .pointer (some ⟨B, 0, none⟩)] w fun e w' => e = .returned (.bool (!rowIn c m)) ∧ Drawn0 w w' := by
  have key : ∀ x : Int, x = 2 ^ c.toNat - 1 → Aside0 (impl_within.f m 0 x = some (rowIn c m)) := fun x hx => ⟨by rw [hx]; exact within_f m 0 _⟩
  obtain rfl | rfl | rfl | rfl | rfl | rfl : c = 1 ∨ c = 2 ∨ c = 3 ∨ c = 4 ∨ c = 5 ∨ c = 6 := by omega
  all_goals
    have K := key _ rfl
    clear key
    generalize rowIn _ m = rr at K ⊢
    simp only [Int.reduceToNat, Int.reducePow, Int.reduceSub] at K
    go_enter Tryz.func83, Tryz.ntmps83
    go_wp2_with (first | (go_at_call 48; (refine (impl_within.calls m 0 _ rr _ K.out).mono ?_); rintro e w' ⟨rfl, ⟨nd, rfl⟩⟩))
    go_ret
    exact ⟨rfl, by repeat (first | exact Drawn0.refl _ | apply Drawn0.step)⟩
def idxB (c : Int) : List Int → Int → Int
  | [], _ => -1
  | x :: t, i => if rowIn c x = true then idxB c t (i + 1) else i
theorem idxB_neg (c : Int) : ∀ (l : List Int) (i : Int), 0 ≤ i → decide (0 ≤ idxB c l i) = !l.all (rowIn c)
  | [], _, _ => rfl
  | x :: t, i, h => by
    rw [idxB, List.all_cons]
    by_cases hx : rowIn c x = true
    · rw [if_pos hx, idxB_neg c t (i + 1) (by omega), hx, Bool.true_and]
    · rw [if_neg hx]; simp [hx, h]
set_option maxHeartbeats 1000000 in
theorem isBoardIndex (A0 : Option Addr) (c0 : Nat) (l0 : List Int) (c : Int) (B : Nat) (w : World) (hr0 : Kd.C (Kd.int .i64) w A0 l0.length l0) (hc0 : l0.length ≤ c0) (hlen : l0.length ≤ 6)
    (hc : w.cell? ⟨B, 1, none⟩ = some (.int .i64 c)) (h1 : 1 ≤ c) (h6 : c ≤ 6) :
    Calls Tryz.prog 93 #[.slice A0 l0.length c0, .func (.func 83) #[] #[.pointer (some ⟨B, 0, none⟩)]] w fun e w' => e = .returned (.int .i64 (idxB c l0 0)) ∧ Drawn0 w w' := by
  have HR0 := Aside0.mk hr0
  have HC0 := Aside0.mk hc0
  have HL := Aside0.mk hlen
  have HC := Aside0.mk hc
  have H1 := Aside0.mk h1
  have H6 := Aside0.mk h6
  clear hr0 hc0 hlen hc h1 h6
  obtain ⟨r, hr⟩ : ∃ r, r = idxB c l0 0 := ⟨_, rfl⟩
  rw [← hr]
  have HR := Aside0.mk hr
  clear hr
  go_enter Tryz.func93, Tryz.ntmps93
  go_wp2
  go_loopg [8] l0.length (fun kq v8 w' => ∃ (x8_1 : Int), v8 = .int .i64 x8_1 ∧ Aside0 (∃ i : Nat, x8_1 = i ∧ i + kq = l0.length ∧ idxB c (l0.drop i) i = r) ∧ Drawn0 w w')
  case atStart => exact ⟨(0), rfl, ⟨0, rfl, by omega, by rw [HR.out]; rfl⟩, by repeat (first | exact Drawn0.refl _ | apply Drawn0.step)⟩
  case round =>
    obtain ⟨x8_1, rfl, HI, ⟨m1, rfl⟩⟩ := hrel
    by_cases c3 : x8_1 < (l0.length : Int)
    · have c4b0 : decide (0 ≤ x8_1) = true := decide_eq_true (by obtain ⟨i, h, _⟩ := HI.out; omega)
      have c3b0 : decide (x8_1 < (l0.length : Int)) = true := decide_eq_true c3
      cases gk with
      | zero => exact absurd HI.out (by rintro ⟨i, h, h', _⟩; omega)
      | succ k1 =>
        clear c3
        have p101 : 0 ≤ (x8_1 : Int) := of_decide_eq_true (by first | (with_reducible assumption) | assumption)
        have q101 : x8_1 < (l0.length : Int) := of_decide_eq_true (by first | (with_reducible assumption) | assumption)
        have HX : Aside0 (∃ i : Nat, x8_1 = i ∧ i + k1 + 1 = l0.length ∧ (if rowIn c (rd l0 x8_1) = true then idxB c (l0.drop (i + 1)) (i + 1) else i) = r) := ⟨by
          obtain ⟨i, h, h', h3⟩ := HI.out
          refine ⟨i, h, by omega, ?_⟩
          rw [List.drop_eq_getElem_cons (by omega), idxB] at h3
          rw [h, rd_lt _ _ (by omega)]
          exact h3⟩
        clear HI
        obtain ⟨ad101, e101, hx101_0⟩ := Kd.at_int HR0.out x8_1 p101 q101
        cases e101
        replace p101 := eq_true p101
        replace q101 := eq_true q101
        by_cases cr : rowIn c (rd l0 x8_1) = true
        · have HB : Aside0 ((!rowIn c (rd l0 x8_1)) = false) := ⟨by rw [cr]; rfl⟩
          have HX2 : Aside0 (∃ i : Nat, wrap64 (x8_1 + 1) = i ∧ i + k1 = l0.length ∧ idxB c (l0.drop i) i = r) := ⟨by
            obtain ⟨i, h, h', h3⟩ := HX.out
            rw [if_pos cr] at h3
            have := HL.out
            refine ⟨i + 1, by rw [w64 (by omega) (by omega)]; omega, by omega, h3⟩⟩
          clear HX cr
          have CC : ∀ W : World, (∃ q, W = w.drewN q) → Calls Tryz.prog 83 #[.int .i64 (rd l0 x8_1), .pointer (some ⟨B, 0, none⟩)] W fun e w' => e = .returned (.bool false) ∧ Drawn0 W w' := by
            rintro W ⟨q, rfl⟩
            have := isBoard1 (rd l0 x8_1) c B (w.drewN q) HC.out H1.out H6.out
            rw [HB.out] at this
            exact this
          have CX := Lib.hid CC
          clear CC
          go_wp2_with (first | (go_at_call 83; (refine (CX.out _ ⟨_, rfl⟩).mono ?_); rintro e w' ⟨rfl, ⟨nd, rfl⟩⟩))
          go_roundg k1
          case measure => omega
          case rel => exact ⟨(wrap64 (x8_1 + 1)), (by first | rfl | (simp; done) | (simp [*]; done)), HX2, by repeat (first | exact Drawn0.refl _ | apply Drawn0.step)⟩
        · have HB : Aside0 ((!rowIn c (rd l0 x8_1)) = true) := ⟨by simp [cr]⟩
          have HX2 : Aside0 (x8_1 = r) := ⟨by
            obtain ⟨i, h, h', h3⟩ := HX.out
            rw [if_neg cr] at h3
            omega⟩
          clear HX cr
          have CC : ∀ W : World, (∃ q, W = w.drewN q) → Calls Tryz.prog 83 #[.int .i64 (rd l0 x8_1), .pointer (some ⟨B, 0, none⟩)] W fun e w' => e = .returned (.bool true) ∧ Drawn0 W w' := by
            rintro W ⟨q, rfl⟩
            have := isBoard1 (rd l0 x8_1) c B (w.drewN q) HC.out H1.out H6.out
            rw [HB.out] at this
            exact this
          have CX := Lib.hid CC
          clear CC
          go_wp2_with (first | (go_at_call 83; (refine (CX.out _ ⟨_, rfl⟩).mono ?_); rintro e w' ⟨rfl, ⟨nd, rfl⟩⟩))
          go_ret
          exact ⟨by rw [HX2.out]; rfl, by repeat (first | exact Drawn0.refl _ | apply Drawn0.step)⟩
    · have c3b0 : decide (x8_1 < (l0.length : Int)) = false := decide_eq_false c3
      have HX2 : Aside0 (-1 = r) := ⟨by
        obtain ⟨i, h, h', h3⟩ := HI.out
        rw [List.drop_eq_nil_of_le (by omega), idxB] at h3
        exact h3⟩
      clear c3 HI
      go_wp2
      go_ret
      exact ⟨by rw [HX2.out]; rfl, by repeat (first | exact Drawn0.refl _ | apply Drawn0.step)⟩
theorem isBoardContains (A0 : Option Addr) (c0 : Nat) (l0 : List Int) (c : Int) (B : Nat) (w : World) (hr0 : Kd.C (Kd.int .i64) w A0 l0.length l0) (hc0 : l0.length ≤ c0) (hlen : l0.length ≤ 6)
    (hc : w.cell? ⟨B, 1, none⟩ = some (.int .i64 c)) (h1 : 1 ≤ c) (h6 : c ≤ 6) :
    Calls Tryz.prog 82 #[.slice A0 l0.length c0, .func (.func 83) #[] #[.pointer (some ⟨B, 0, none⟩)]] w fun e w' => e = .returned (.bool (!l0.all (rowIn c))) ∧ Drawn0 w w' := by
  have C := isBoardIndex A0 c0 l0 c B w hr0 hc0 hlen hc h1 h6
  have N := Aside0.mk (idxB_neg c l0 0 (Int.le_refl _))
  have CX := Lib.hid C
  clear C hr0 hc0 hlen hc h1 h6
  rw [← N.out]
  clear N
  go_enter Tryz.func82, Tryz.ntmps82
  go_wp2_with (first | (go_at_call 93; (refine CX.out.mono ?_); rintro e w' ⟨rfl, ⟨nd, rfl⟩⟩))
  go_ret
  exact ⟨by first | rfl | (simp; done), by repeat (first | exact Drawn0.refl _ | apply Drawn0.step)⟩
def impl_IsBoard.f (a0_0 : Int) (a0_1 : Int) (l0_2 : List Int) : Option (Bool) := some (isBoardB a0_0 a0_1 l0_2)
set_option maxHeartbeats 1000000 in
theorem impl_IsBoard.calls (a0_0 : Int) (a0_1 : Int) (A0_2 : Option Addr) (c0_2 : Nat) (l0_2 : List Int) (r : Bool) (w : World) (hr0_2 : Kd.C (Kd.int .i64) w A0_2 l0_2.length l0_2) (hc0_2 : l0_2.length ≤ c0_2) (h : impl_IsBoard.f a0_0 a0_1 l0_2 = some r) :
    Calls Tryz.prog 50 #[.agg #[.int .i64 a0_0, .int .i64 a0_1, .slice A0_2 l0_2.length c0_2]] w fun e w' => e = .returned (.bool r) ∧ Below w.heap.size w w' := by
  have hB := Option.some.inj h
  clear h
  unfold isBoardB at hB
  have s1 := Aside0.mk (isSide_f a0_0)
  have s2 := Aside0.mk (isSide_f a0_1)
  by_cases h1 : 1 ≤ a0_0 ∧ a0_0 ≤ 6
  · rw [decide_eq_true h1] at s1
    by_cases h2 : 1 ≤ a0_1 ∧ a0_1 ≤ 6
    · rw [decide_eq_true h2] at s2
      by_cases h3 : (l0_2.length : Int) = a0_0
      · have e : r = l0_2.all (rowIn a0_1) := by rw [← hB, decide_eq_true ⟨h1.1, h1.2, h2.1, h2.2, h3⟩, Bool.true_and]
        have t1 : ((l0_2.length : Int) != a0_0) = false := bne_eq_false_iff_eq.mpr h3
        have C : ∀ W : World, Kd.C (Kd.int .i64) W A0_2 l0_2.length l0_2 → W.cell? ⟨w.heap.size, 1, none⟩ = some (.int .i64 a0_1) → Calls Tryz.prog 82 #[.slice A0_2 l0_2.length c0_2, .func (.func 83) #[] #[.pointer (some ⟨w.heap.size, 0, none⟩)]] W fun e w' => e = .returned (.bool (!r)) ∧ Drawn0 W w' := by
          intro W hW hcell
          rw [e]
          exact isBoardContains A0_2 c0_2 l0_2 a0_1 w.heap.size W hW hc0_2 (by omega) hcell h2.1 h2.2
        have CX := Lib.hid C
        have HR := Aside0.mk hr0_2
        clear C hr0_2 hc0_2 h1 h2 h3 e hB
        go_enter Tryz.func50, Tryz.ntmps50
        go_wp2_with (first | (go_at_call 67; (with_reducible refine (impl_isSide.calls a0_0 true _ s1.out).mono ?_); rintro e w' ⟨rfl, ⟨nd, rfl⟩⟩) | (go_at_call 67; (with_reducible refine (impl_isSide.calls a0_1 true _ s2.out).mono ?_); rintro e w' ⟨rfl, ⟨nd, rfl⟩⟩) | (go_at_call 82; (refine (CX.out _ ?side1 ?side2).mono ?_); (case side1 => repeat (first | exact HR.out | (with_reducible refine Kd.C_alloc ?_ _) | (with_reducible refine Kd.C_drewN ?_ _) | (with_reducible refine Kd.C_drew ?_))); (case side2 => first | rfl | (simp; done)); rintro e w' ⟨rfl, ⟨nd, rfl⟩⟩))
        go_ret
        exact ⟨by first | rfl | (simp; done), by repeat (first | exact Below.refl _ _ | apply below_alloc | apply pw_below_drewN | apply below_drew1)⟩
      · have e : r = false := by rw [← hB, decide_eq_false (fun hh => h3 hh.2.2.2.2), Bool.false_and]
        have t1 : ((l0_2.length : Int) != a0_0) = true := bne_iff_ne.mpr h3
        subst e
        clear hr0_2 hc0_2 h1 h2 h3 hB
        go_enter Tryz.func50, Tryz.ntmps50
        go_wp2_with (first | (go_at_call 67; (with_reducible refine (impl_isSide.calls a0_0 true _ s1.out).mono ?_); rintro e w' ⟨rfl, ⟨nd, rfl⟩⟩) | (go_at_call 67; (with_reducible refine (impl_isSide.calls a0_1 true _ s2.out).mono ?_); rintro e w' ⟨rfl, ⟨nd, rfl⟩⟩))
        go_ret
        exact ⟨by first | rfl | (simp; done), by repeat (first | exact Below.refl _ _ | apply below_alloc | apply pw_below_drewN | apply below_drew1)⟩
    · rw [decide_eq_false h2] at s2
      have e : r = false := by rw [← hB, decide_eq_false (fun hh => h2 ⟨hh.2.2.1, hh.2.2.2.1⟩), Bool.false_and]
      subst e
      clear hr0_2 hc0_2 h1 h2 hB
      go_enter Tryz.func50, Tryz.ntmps50
      go_wp2_with (first | (go_at_call 67; (with_reducible refine (impl_isSide.calls a0_0 true _ s1.out).mono ?_); rintro e w' ⟨rfl, ⟨nd, rfl⟩⟩) | (go_at_call 67; (with_reducible refine (impl_isSide.calls a0_1 false _ s2.out).mono ?_); rintro e w' ⟨rfl, ⟨nd, rfl⟩⟩))
      go_ret
      exact ⟨by first | rfl | (simp; done), by repeat (first | exact Below.refl _ _ | apply below_alloc | apply pw_below_drewN | apply below_drew1)⟩
  · rw [decide_eq_false h1] at s1
    have e : r = false := by rw [← hB, decide_eq_false (fun hh => h1 ⟨hh.1, hh.2.1⟩), Bool.false_and]
    subst e
    clear hr0_2 hc0_2 h1 hB s2
    go_enter Tryz.func50, Tryz.ntmps50
    go_wp2_with (first | (go_at_call 67; (with_reducible refine (impl_isSide.calls a0_0 false _ s1.out).mono ?_); rintro e w' ⟨rfl, ⟨nd, rfl⟩⟩))
    go_ret
    exact ⟨by first | rfl | (simp; done), by repeat (first | exact Below.refl _ _ | apply below_alloc | apply pw_below_drewN | apply below_drew1)⟩
end Go.Proofs.YtihnjbfjdkdhaaaGreat.Q
end
section
namespace Go.Proofs.YtihnjbfjdkdhaaaGreat.BoardK
open Go.RowKit Go.Proofs.YtihnjbfjdkdhaaaGreat.Q Go.Proofs.YtihnjbfjdkdhaaaGreatW.PrintWords Go.Proofs.YtihnjbfjdkdhaaaGreatW.PrintLast Go.Proofs.YtihnjbfjdkdhaaaGreatW.PrintMore
open Go.Proofs.YtihnjbfjdkdhaaaGreatL Go.Proofs.YtihnjbfjdkdhaaaGreat.LawK
theorem board_of {r c : Int} {l : List Int} (h : isBoardB r c l = true) : ∃ R C : Nat, r = R ∧ c = C ∧ l.length = R ∧ 1 ≤ R ∧ R ≤ 6 ∧ 1 ≤ C ∧ C ≤ 6 ∧ ∀ i (hi : i < l.length), 0 ≤ l[i] ∧ l[i] < 2 ^ C := by
  unfold isBoardB at h
  simp only [Bool.and_eq_true, decide_eq_true_eq, List.all_eq_true] at h
  obtain ⟨⟨h1, h2, h3, h4, h5⟩, h6⟩ := h
  refine ⟨r.toNat, c.toNat, by omega, by omega, by omega, by omega, by omega, by omega, by omega, fun i hi => ?_⟩
  have := h6 l[i] (List.getElem_mem hi)
  unfold rowIn at this
  simp only [decide_eq_true_eq] at this
  omega
end Go.Proofs.YtihnjbfjdkdhaaaGreat.BoardK
end
section
namespace Go.Proofs.YtihnjbfjdkdhaaaGreat.Walk
set_option linter.unusedVariables false
open Go.RowKit Go.Proofs.YtihnjbfjdkdhaaaGreatW.PrintWords Go.Proofs.YtihnjbfjdkdhaaaGreatW.PrintLast Go.Proofs.YtihnjbfjdkdhaaaGreatW.PrintMore
open Go.Proofs.YtihnjbfjdkdhaaaGreatL Go.Proofs.YtihnjbfjdkdhaaaGreat.LawK Go.Proofs.YtihnjbfjdkdhaaaGreat.BoardK
def colWays (l : List Int) (r t : Nat) (pre : List Int) (next : Nat → List Int → List (List Int)) (c : Int) : List (List Int) :=
  if c < 0 then next t (pre ++ [c])
  else if cell l r c.toNat && !t.testBit c.toNat then next (t ||| 2 ^ c.toNat) (pre ++ [c]) else []
def waysFrom (l : List Int) (C : Nat) : Nat → Nat → Nat → List Int → List (List Int)
  | 0, _, _, pre => [pre]
  | d + 1, r, t, pre => (iota (-1) (C + 1)).flatMap (colWays l r t pre (waysFrom l C d (r + 1)))
theorem iota_cut : ∀ (j n : Nat) (m : Int), j < n → iota m n = iota m j ++ (m + j) :: iota (m + j + 1) (n - j - 1)
  | 0, n + 1, m, _ => by rw [iota, iota]; simp
  | j + 1, n + 1, m, h => by
    rw [iota, iota, iota_cut j n (m + 1) (by omega), List.cons_append]
    have e1 : m + 1 + (j : Int) = m + ((j + 1 : Nat) : Int) := by omega
    rw [e1, show n + 1 - (j + 1) - 1 = n - j - 1 by omega]
theorem ways_cut (l : List Int) (C d r t : Nat) (pre : List Int) (j : Nat) (hj : j < C + 1) {x : Int} (hx : x = -1 + j) :
    waysFrom l C (d + 1) r t pre = (iota (-1) j).flatMap (colWays l r t pre (waysFrom l C d (r + 1))) ++ (colWays l r t pre (waysFrom l C d (r + 1)) x ++ (iota (x + 1) (C + 1 - j - 1)).flatMap (colWays l r t pre (waysFrom l C d (r + 1)))) := by
  rw [waysFrom, iota_cut j (C + 1) (-1) hj, List.flatMap_append, List.flatMap_cons, hx]
theorem ways_len (l : List Int) (C : Nat) : ∀ (d r t : Nat) (pre : List Int), (waysFrom l C d r t pre).length ≤ (C + 1) ^ d
  | 0, r, t, pre => by simp [waysFrom]
  | d + 1, r, t, pre => by
    have hc : ∀ c, (colWays l r t pre (waysFrom l C d (r + 1)) c).length ≤ (C + 1) ^ d := by
      intro c
      unfold colWays
      split
      · exact ways_len l C d (r + 1) _ _
      · split
        · exact ways_len l C d (r + 1) _ _
        · exact Nat.zero_le _
    have hf : ∀ (n : Nat) (m : Int), ((iota m n).flatMap (colWays l r t pre (waysFrom l C d (r + 1)))).length ≤ n * (C + 1) ^ d := by
      intro n
      induction n with
      | zero => intro m; simp [iota]
      | succ n ih =>
        intro m
        rw [iota, List.flatMap_cons, List.length_append, Nat.succ_mul]
        have h1 := hc m
        have h2 := ih (m + 1)
        omega
    rw [waysFrom, Nat.pow_succ, Nat.mul_comm]
    exact hf (C + 1) (-1)
structure Blks where (b d a p g r : Nat)
structure Blks.Apart (k : Blks) : Prop where
  bd : k.b ≠ k.d
  ba : k.b ≠ k.a
  bp : k.b ≠ k.p
  bg : k.b ≠ k.g
  br : k.b ≠ k.r
  da : k.d ≠ k.a
  dp : k.d ≠ k.p
  dg : k.d ≠ k.g
  dr : k.d ≠ k.r
  ap : k.a ≠ k.p
  ag : k.a ≠ k.g
  ar : k.a ≠ k.r
  pg : k.p ≠ k.g
  pr : k.p ≠ k.r
  gr : k.g ≠ k.r
def Blks.has (k : Blks) (i : Nat) : Prop := i = k.b ∨ i = k.d ∨ i = k.a ∨ i = k.p ∨ i = k.g ∨ i = k.r
structure Still (S : Nat → Prop) (w w' : World) : Prop where
  kept : Kept w w' S
  os : w'.os = w.os
  tape : w'.tape = w.tape
  output : w'.output = w.output
theorem Still.refl (S : Nat → Prop) (w : World) : Still S w w := ⟨Kept.refl _ _, rfl, rfl, rfl⟩
theorem Still.of_below {S : Nat → Prop} {w w' : World} (h : Below w.heap.size w w') : Still S w w' := ⟨Kept.of_below h S, h.os, h.tape, h.output⟩
theorem Still.set {S : Nat → Prop} (w : World) {a : Addr} (h : S a.block) (v : Value) : Still S w (w.setCell a v) := ⟨Kept.setCell (Kept.refl _ _) (.inl h) v, rfl, rfl, rfl⟩
theorem Still.drewN {S : Nat → Prop} (w : World) (n : Nat) : Still S w (w.drewN n) := ⟨Kept.drewN (Kept.refl _ _) n, rfl, rfl, rfl⟩
theorem Still.trans {S : Nat → Prop} {a b c : World} (h : Still S a b) (k : Still S b c) : Still S a c := ⟨h.kept.then_ k.kept (fun _ hk => .inl hk), k.os.trans h.os, k.tape.trans h.tape, k.output.trans h.output⟩
theorem Still.below {S : Nat → Prop} {w0 w w' : World} (h : Below w0.heap.size w0 w) (k : Still S w w') (hS : ∀ i, S i → w0.heap.size ≤ i) : Below w0.heap.size w0 w' :=
  ⟨k.os.trans h.os, k.tape.trans h.tape, k.output.trans h.output, Nat.le_trans h.size k.kept.1, fun i hi => (k.kept.2 i (Nat.lt_of_lt_of_le hi h.size) (fun hs => by have := hS i hs; omega)).trans (h.block i hi)⟩
structure WSt (k : Blks) (Inv : List (List Int) → World → Prop) (RI CI : Int) (n cp : Nat) (l : List Int) (A0 : Option Addr) (c0 : Nat) (F : Value) (vis : List (List Int)) (ps : List Int) (w : World) : Prop where
  cB : w.heap[k.b]? = some (.cells #[.int .i64 RI, .int .i64 CI, .slice A0 l.length c0] 42 (0, 0))
  cD : w.heap[k.d]? = some (.cells #[F] 61 (0, 0))
  cA : Kd.R (Kd.int .i64) 3 w 0 (fun i => i = k.a) (.slice (some ⟨k.a, 0, none⟩) n cp) ps
  cP : w.heap[k.p]? = some (.cells #[.slice (some ⟨k.a, 0, none⟩) n cp] 24 (0, 0))
  cG : w.heap[k.g]? = some (.cells #[.bool true] 4 (0, 0))
  cR : w.heap[k.r]? = some (.cells #[.func (.func 92) #[] #[.pointer (some ⟨k.b, 0, none⟩), .pointer (some ⟨k.d, 0, none⟩), .pointer (some ⟨k.p, 0, none⟩), .pointer (some ⟨k.g, 0, none⟩), .pointer (some ⟨k.r, 0, none⟩)]] 81 (0, 0))
  inv : Inv vis w
section
variable {k : Blks} {Inv : List (List Int) → World → Prop} {RI CI : Int} {n cp : Nat} {l : List Int} {A0 : Option Addr} {c0 : Nat} {F : Value} {vis : List (List Int)} {ps : List Int} {w w' : World}
theorem WSt.below (hI : ∀ vis w w', Inv vis w → Still k.has w w' → Inv vis w') (h : WSt k Inv RI CI n cp l A0 c0 F vis ps w) (hb : Below w.heap.size w w') : WSt k Inv RI CI n cp l A0 c0 F vis ps w' :=
  ⟨blk_below h.cB hb, blk_below h.cD hb, Kd.R_below h.cA hb, blk_below h.cP hb, blk_below h.cG hb, blk_below h.cR hb, hI _ _ _ h.inv (Still.of_below hb)⟩
theorem WSt.drewN (hI : ∀ vis w w', Inv vis w → Still k.has w w' → Inv vis w') (h : WSt k Inv RI CI n cp l A0 c0 F vis ps w) (m : Nat) : WSt k Inv RI CI n cp l A0 c0 F vis ps (w.drewN m) :=
  h.below hI (pw_below_drewN (Below.refl _ _) m)
theorem WSt.setA (hI : ∀ vis w w', Inv vis w → Still k.has w w' → Inv vis w') (hk : k.Apart) (h : WSt k Inv RI CI n cp l A0 c0 F vis ps w) (i c : Int) : WSt k Inv RI CI n cp l A0 c0 F vis (ps.set i.toNat c) (w.setCell ⟨k.a, i.toNat, none⟩ (.int .i64 c)) :=
  ⟨blk_far h.cB hk.ba _, blk_far h.cD hk.da _, Kd.R_putn h.cA i c, blk_far h.cP hk.ap.symm _, blk_far h.cG hk.ag.symm _, blk_far h.cR hk.ar.symm _, hI _ _ _ h.inv (Still.set w (.inr (.inr (.inl rfl))) _)⟩
theorem WSt.setG (hI : ∀ vis w w', Inv vis w → Still k.has w w' → Inv vis w') (hk : k.Apart) (h : WSt k Inv RI CI n cp l A0 c0 F vis ps w) : WSt k Inv RI CI n cp l A0 c0 F vis ps (w.setCell ⟨k.g, 0, none⟩ (.bool true)) :=
  ⟨blk_far h.cB hk.bg _, blk_far h.cD hk.dg _, Kd.R_far h.cA (fun i hi => by rw [hi]; exact hk.ag) _, blk_far h.cP hk.pg _, blk_put h.cG 0 _ rfl, blk_far h.cR hk.gr.symm _, hI _ _ _ h.inv (Still.set w (.inr (.inr (.inr (.inr (.inl rfl))))) _)⟩
end
end Go.Proofs.YtihnjbfjdkdhaaaGreat.Walk
end
section
namespace Go.Proofs.YtihnjbfjdkdhaaaGreat.WalkW
set_option linter.unusedVariables false
open Go.RowKit Go.Proofs.YtihnjbfjdkdhaaaGreatW.PrintWords Go.Proofs.YtihnjbfjdkdhaaaGreatW.PrintLast Go.Proofs.YtihnjbfjdkdhaaaGreatW.PrintMore
open Go.Proofs.YtihnjbfjdkdhaaaGreatL Go.Proofs.YtihnjbfjdkdhaaaGreat.LawK Go.Proofs.YtihnjbfjdkdhaaaGreat.BoardK Go.Proofs.YtihnjbfjdkdhaaaGreat.Walk Go.Proofs.YtihnjbfjdkdhaaaGreat.Q
theorem run_store_func {P:Program} {w:World} {a:Addr} {m:Mode} (f:Fn) (xs:Array Value) (ys:Array Value):(store a (.func f xs ys) m).run P w=stored P w a (.func f xs ys) m:=run_store P w a _ m rfl
attribute [local go_sem] run_store_func
section
variable (k : Blks) (hk : k.Apart) (Inv : List (List Int) → World → Prop) (hI : ∀ vis w w', Inv vis w → Still k.has w w' → Inv vis w') (R C : Nat) (RI CI : Int) (hRI : RI = R) (hCI : CI = C) (l : List Int) (A0 : Option Addr) (c0 cp : Nat) (hc0 : l.length ≤ c0) (cc1 cc2 : Value)
  (hL : ∀ vis w, Inv vis w → Kd.C (Kd.int .i64) w A0 l.length l)
  (hl : l.length = R) (hR : R ≤ 6) (hC : C ≤ 6) (hb : ∀ i (hi : i < l.length), 0 ≤ l[i] ∧ l[i] < 2 ^ C)
  (P : List (List Int) → List Int → Prop) (hdo : ∀ vis ps w, ps.length = R → P vis ps → WSt k Inv RI CI R cp l A0 c0 (.func (.func 78) #[] #[cc1, cc2]) vis ps w →
    Calls Tryz.prog 78 #[.slice (some ⟨k.a, 0, none⟩) R cp, cc1, cc2] w fun e w' => e = .returned (.bool true) ∧ WSt k Inv RI CI R cp l A0 c0 (.func (.func 78) #[] #[cc1, cc2]) (vis ++ [ps]) ps w')
include hk hI hRI hCI hc0 hL hl hR hC hb hdo
set_option maxHeartbeats 4000000 in
set_option maxRecDepth 100000 in
theorem row_calls:∀ (d r t:Nat) (rI tI:Int),rI=r→tI=t→r + d=R→t < 64→∀ vis ps w,ps.length=R→(∀ a q b,waysFrom l C d r t (ps.take r)=a ++ q :: b→P (vis ++ a) q)→WSt k Inv RI CI R cp l A0 c0 (.func (.func 78) #[] #[cc1,cc2]) vis ps w →
  Calls Tryz.prog 92 #[.int .i64 rI,.int .i64 tI,.pointer (some ⟨k.b,0,none⟩),.pointer (some ⟨k.d,0,none⟩),.pointer (some ⟨k.p,0,none⟩),.pointer (some ⟨k.g,0,none⟩),.pointer (some ⟨k.r,0,none⟩)] w fun e w'=>e=.returned (.tuple #[]) ∧
   ∃ ps',ps'.length=R∧ps'.take r=ps.take r∧WSt k Inv RI CI R cp l A0 c0 (.func (.func 78) #[] #[cc1,cc2]) (vis ++ waysFrom l C d r t (ps.take r)) ps' w'
|0,r,t,rI,tI,hr,ht,hrd,ht6,vis,ps,w,hps,hPP,hst=>by
  have hP0:P vis ps:=by have:=hPP [] ps [] (by rw [waysFrom,List.take_of_length_le (by omega)];rfl);rwa [List.append_nil] at this
  have CX:=Lib.hid (fun W (h:Aside0 (WSt k Inv RI CI R cp l A0 c0 (.func (.func 78) #[] #[cc1,cc2]) vis ps W))=>hdo vis ps W hps hP0 h.out)
  have MV:=Lib.hid (fun W (h:Aside0 (WSt k Inv RI CI R cp l A0 c0 (.func (.func 78) #[] #[cc1,cc2]) (vis ++ [ps]) ps W))=>h.out.setG hI hk)
  have e0:(rI == RI)=true:=beq_iff_eq.mpr (by omega)
  have e1:=za (show ps.take r=ps from List.take_of_length_le (by omega))
  have hz1:w.cell? ⟨k.b,0,none⟩=some (.int .i64 RI):=(zn hst.cB 0).trans rfl
  have hz2:w.cell? ⟨k.d,0,none⟩=some (.func (.func 78) #[] #[cc1,cc2]):=(zn hst.cD 0).trans rfl
  have hz3:w.cell? ⟨k.p,0,none⟩=some (.slice (some ⟨k.a,0,none⟩) R cp):=(zn hst.cP 0).trans rfl
  have HS:=za hst
  have HP:=za hps
  have hu24:=Tryz.underlying42
  clear hdo hst hps hr ht hrd ht6 hRI hCI hk hI hL hl hR hC hb hc0 hPP hP0
  go_enter Tryz.func92,Tryz.ntmps92
  go_wp2_with (first|(go_at_call 78;(refine (CX.out _ HS).mono ?_);rintro e w2 ⟨rfl,hs2⟩;have hz4:w2.cell? ⟨k.g,0,none⟩=some (.bool true):=(zn hs2.cG 0).trans rfl;have hf4:=zt hs2.cG 0;have HS2:=za hs2;clear hs2))
  first|go_end0|((try simp only [Exit.inBlock,Exit.then]);refine bodyPost_ret (results_none rfl _ _ _) rfl ?_)
  refine ⟨rfl,ps,HP.out,rfl,?_⟩
  rw [e1.out]
  exact MV.out _ HS2
|d + 1,r,t,rI,tI,hr,ht,hrd,ht6,vis,ps,w,hps,hPP,hst=>by
  have IH:=Lib.hid (fun (t':Nat) (tI':Int) (h2:tI'=(t':Int)) (h3:t' < 64) vis ps W (h4:ps.length=R) (h5:∀ a q b,waysFrom l C d (r + 1) t' (ps.take (r + 1))=a ++ q :: b→P (vis ++ a) q) (h:WSt k Inv RI CI R cp l A0 c0 (.func (.func 78) #[] #[cc1,cc2]) vis ps W)=>row_calls d (r + 1) t' (wrap64 (rI + 1)) tI' (by rw [hr,w64 (by omega) (by omega)];rfl) h2 (by omega) h3 vis ps W h4 h5 h)
  have MVB:=Lib.hid (fun vis ps W W' (h:WSt k Inv RI CI R cp l A0 c0 (.func (.func 78) #[] #[cc1,cc2]) vis ps W) (hb:Below W.heap.size W W')=>h.below hI hb)
  have MVA:=Lib.hid (fun vis ps W (h:WSt k Inv RI CI R cp l A0 c0 (.func (.func 78) #[] #[cc1,cc2]) vis ps W) (i c:Int)=>h.setA hI hk i c)
  have HL:=Lib.hid (fun vis ps W (h:WSt k Inv RI CI R cp l A0 c0 (.func (.func 78) #[] #[cc1,cc2]) vis ps W)=>hL vis W h.inv)
  have HASF:=Lib.hid (fun (j:Nat) (hj:j≤64)=>has_f RI CI (l:=l) (i:=r) (j:=j) (by omega) (hb r (by omega)).1 (by have:=(hb r (by omega)).2;have:=two_pow_six hC;omega) hj)
  have e0:(rI == RI)=false:=beq_eq_false_iff_ne.mpr (by omega)
  have z1:w.cell? ⟨k.b,0,none⟩=some (.int .i64 RI):=(zn hst.cB 0).trans rfl
  have HS:=za hst
  have HP:=za hps
  have HR:=za hr
  have HT:=za ht
  have HT6:=za ht6
  have HRD:=za hrd
  have HCI:=za hCI
  have HC0:=za hc0
  have HC6:=za hC
  have HR6:=za hR
  have hu24:=Tryz.underlying42
  obtain ⟨pre,hpre⟩:∃ pre,pre=ps.take r:=⟨_,rfl⟩
  rw [← hpre] at hPP ⊢
  have HPP:=za hPP
  have HPRE:=za hpre
  have plt:=eq_true (show 0≤rI by omega)
  have plt2:=eq_true (show rI < (R:Int) by omega)
  clear hdo hst hps hr ht hrd ht6 hRI hCI hk hI hL hl hR hC hb hc0 hpre hPP row_calls
  go_enter Tryz.func92,Tryz.ntmps92
  go_wp2
  go_loopg [9] (C + 1) (fun kq v9 w'=>∃ (x9:Int),v9=.int .i64 x9∧Aside0 (∃ (j:Nat) (ps':List Int),x9=-1 + j∧j + kq=C + 1∧ps'.length=R∧ps'.take r=pre∧WSt k Inv RI CI R cp l A0 c0 (.func (.func 78) #[] #[cc1,cc2]) (vis ++ (iota (-1) j).flatMap (colWays l r t pre (waysFrom l C d (r + 1)))) ps' w'))
  case atStart=>exact ⟨-1,rfl,⟨0,ps,by omega,by omega,HP.out,HPRE.out.symm,by simpa [iota] using HS.out⟩⟩
  case round =>
   clear z1
   obtain ⟨x9,rfl,HX⟩:=hrel
   obtain ⟨j,qs,hx,hj,hql,hqt,hs⟩:=HX.out
   clear HX
   have HX:=za hx
   have HQL:=za hql
   have HQT:=za hqt
   have HS2:=za hs
   have HJ:=za hj
   have z1:wr.cell? ⟨k.b,1,none⟩=some (.int .i64 CI):=(zn hs.cB 1).trans rfl
   have z2:wr.cell? ⟨k.g,0,none⟩=some (.bool true):=(zn hs.cG 0).trans rfl
   have z3:wr.cell? ⟨k.b,0,none⟩=some (.int .i64 RI):=(zn hs.cB 0).trans rfl
   have z4:wr.cell? ⟨k.b,2,none⟩=some (.slice A0 l.length c0):=(zn hs.cB 2).trans rfl
   clear hx hj hql hqt hs
   by_cases c1:x9 < CI
   ·
    have c1b:decide (x9 < CI)=true:=decide_eq_true c1
    cases gk with
   |zero=>exact absurd c1 (by have:=HX.out;have:=HJ.out;have:=HCI.out;omega)
   |succ k1 =>
     have EW:=za (show wrap64 (x9 + 1)=-1 + ((j + 1:Nat):Int) by have:=HX.out;have:=HJ.out;have:=HC6.out;rw [w64 (by omega) (by omega)];omega)
     have EJ:=za (show j + 1 + k1=C + 1 by have:=HJ.out;omega)
     have ES:=za (show (iota (-1) (j + 1)).flatMap (colWays l r t pre (waysFrom l C d (r + 1)))=(iota (-1) j).flatMap (colWays l r t pre (waysFrom l C d (r + 1))) ++ colWays l r t pre (waysFrom l C d (r + 1)) x9 by rw [iota_snoc,List.flatMap_append,HX.out];simp)
     have C1:=za c1
     clear c1
     by_cases c2:0≤x9
     ·
      have c2b:decide (0≤x9)=true:=decide_eq_true c2
      have c2e:=eq_true c2
      obtain ⟨xn,hxn⟩:∃ xn:Nat,x9=xn:=⟨x9.toNat,by omega⟩
      have HXN:=za hxn
      have HX6:=za (show xn < 6 by have:=C1.out;have:=HCI.out;have:=HC6.out;omega)
      have A1:=za (show impl_Board_has.f RI CI l rI x9=some (cell l r xn) by rw [HR.out,hxn];exact HASF.out xn (by have:=HX6.out;omega))
      obtain ⟨sh,hsh⟩:∃ s:Int,shr .i64 tI x9=s:=⟨_,rfl⟩
      have hsh1:(tI / 2 ^ min x9.toNat 64)=sh:=hsh
      have BT:Go.bits .and .i64 sh 1=if t.testBit xn then 1 else 0:=by rw [← hsh,HT.out,hxn];exact bit_and t xn (by have:=HT6.out;omega) (by have:=HX6.out;omega)
      clear c2 hxn
      by_cases c3:cell l r xn=true
      ·
       rw [c3] at A1
       by_cases c4:t.testBit xn=true
       ·
        have c4b:(Go.bits .and .i64 sh 1 == 1)=true:=by rw [BT,if_pos c4];rfl
        have NIL:=za (show colWays l r t pre (waysFrom l C d (r + 1)) x9=[] by have:=HXN.out;unfold colWays;rw [if_neg (by omega),if_neg (by rw [HXN.out];simp [c4])])
        clear c3 c4 BT hsh
        go_wp2_with (first|(go_at_call 71;(refine (impl_Board_has.calls RI CI _ _ l rI x9 true _ ?side1 ?side2 A1.out).mono ?_);(case side1=>exact HL.out _ _ _ HS2.out);(case side2=>exact HC0.out);rintro e w2 ⟨rfl,hb2⟩;have HS3:=za (MVB.out _ _ _ _ HS2.out hb2);clear hb2))
        go_roundg k1
        case measure=>omega
        case rel=>exact ⟨wrap64 (x9 + 1),(by first|rfl|(simp;done)),⟨j + 1,qs,EW.out,EJ.out,HQL.out,HQT.out,by rw [ES.out,NIL.out,List.append_nil];exact HS3.out⟩⟩
       ·
        have c4b:(Go.bits .and .i64 sh 1 == 1)=false:=by rw [BT,if_neg c4];rfl
        have c4f:t.testBit xn=false:=by simpa using c4
        have ONE:=za (show colWays l r t pre (waysFrom l C d (r + 1)) x9=waysFrom l C d (r + 1) (t ||| 2 ^ xn) (pre ++ [x9]) by have:=HXN.out;unfold colWays;rw [if_neg (by omega),HXN.out,Int.toNat_natCast,if_pos (by rw [c3,c4f];rfl)])
        obtain ⟨ji,hji⟩:∃ s:Int,shl .i64 1 x9=s:=⟨_,rfl⟩
        have hji_:(IntKind.i64.wrap (1 * 2 ^ min x9.toNat 64))=ji:=hji
        have hjiu:(IntKind.i64.wrap (2 ^ min x9.toNat 64))=ji:=by have h_:=hji_;rw [Int.one_mul] at h_;exact h_
        have p2x:=Nat.pow_le_pow_right (show 0 < 2 by decide) (show xn≤5 by have:=HX6.out;omega)
        have OR:=za (show Go.bits .or .i64 tI ji=((t ||| 2 ^ xn:Nat):Int) by rw [← hji,HT.out,HXN.out,shl_one xn (by have:=HX6.out;omega)];exact or_nat _ _ (by have:=HT6.out;omega) (by omega))
        have OR6:=za (show t ||| 2 ^ xn < 64 from Nat.or_lt_two_pow (n:=6) HT6.out (by omega))
        clear c3 c4 c4f BT hsh hji p2x
        have HRT:=za (show rI.toNat=r by rw [HR.out];rfl)
        have HPT:=za (show (qs.set rI.toNat x9).take (r + 1)=pre ++ [x9] by have hrl:r < qs.length:=(by have:=HQL.out;have:=HRD.out;omega);rw [HRT.out,List.take_add_one,List.take_set_of_le (Nat.le_refl _),HQT.out];simp [hrl])
        have NXT:=za (show ∀ a q b,waysFrom l C d (r + 1) (t ||| 2 ^ xn) ((qs.set rI.toNat x9).take (r + 1))=a ++ q :: b→P ((vis ++ (iota (-1) j).flatMap (colWays l r t pre (waysFrom l C d (r + 1)))) ++ a) q from fun a q b hq=>by rw [HPT.out,← ONE.out] at hq;rw [List.append_assoc];exact HPP.out _ q (b ++ (iota (x9 + 1) (C + 1 - j - 1)).flatMap (colWays l r t pre (waysFrom l C d (r + 1)))) (by rw [ways_cut l C d r t pre j (by have:=HX.out;have:=C1.out;have:=HCI.out;omega) HX.out,hq,List.append_assoc,List.append_assoc];rfl))
        go_wp2_with (first|(go_at_call 71;(refine (impl_Board_has.calls RI CI _ _ l rI x9 true _ ?side1 ?side2 A1.out).mono ?_);(case side1=>exact HL.out _ _ _ HS2.out);(case side2=>exact HC0.out);rintro e w2 ⟨rfl,hb2⟩;have HS3:=za (MVB.out _ _ _ _ HS2.out hb2);clear hb2;have z5:w2.cell? ⟨k.p,0,none⟩=some (.slice (some ⟨k.a,0,none⟩) R cp):=(zn HS3.out.cP 0).trans rfl;obtain ⟨z6,f6⟩:=Kd.R_celln 0 HS3.out.cA rI (of_eq_true plt) (of_eq_true plt2))|((with_reducible refine gate_store (t:=3) (p:=46) rfl ?_);refine store_event (t:=3) (p:=46) (v:=?vo) (w1:=(w2.setCell ⟨k.a,rI.toNat,none⟩ (.int .i64 x9))) ?hg ?ho ?hn ?hr ?_;(case ho=>rfl);(case hg=>rfl);(case hn=>rfl);(case hr=>first|(go_simp;done)|(go_simp;rfl));intro w4 hw;have HS4:=za (by rw [hw];exact MVA.out _ _ _ HS3.out rI x9:WSt k Inv RI CI R cp l A0 c0 (.func (.func 78) #[] #[cc1,cc2]) (vis ++ (iota (-1) j).flatMap (colWays l r t pre (waysFrom l C d (r + 1)))) (qs.set rI.toNat x9) w4);clear hw;have z7:w4.cell? ⟨k.r,0,none⟩=_:=(zn HS4.out.cR 0).trans rfl)|(go_at_call 92;(refine (IH.out (t ||| 2 ^ xn) _ OR.out OR6.out _ (qs.set rI.toNat x9) _ (by rw [List.length_set];exact HQL.out) NXT.out HS4.out).mono ?_);rintro e w5 ⟨rfl,hex⟩;have HE:=za hex;clear hex))
        go_roundg k1
        case measure=>omega
        case rel =>
         obtain ⟨qs2,hl2,ht2,hs5⟩:=HE.out
         have hrt:=HRT.out
         have hrl:r < qs.length:=by have:=HQL.out;have:=HRD.out;omega
         have hpt:=HPT.out
         refine ⟨wrap64 (x9 + 1),(by first|rfl|(simp;done)),⟨j + 1,qs2,EW.out,EJ.out,hl2,?_,?_⟩⟩
         ·
          have h3:=congrArg (List.take r) ht2
          rw [List.take_take,List.take_take,Nat.min_eq_left (by omega),hrt,List.take_set_of_le (Nat.le_refl _),HQT.out] at h3
          exact h3
         ·
          rw [hpt,List.append_assoc] at hs5
          rw [ES.out,ONE.out]
          exact hs5
      ·
       have c3f:cell l r xn=false:=by simpa using c3
       rw [c3f] at A1
       have NIL:=za (show colWays l r t pre (waysFrom l C d (r + 1)) x9=[] by have:=HXN.out;unfold colWays;rw [if_neg (by omega),if_neg (by rw [HXN.out];simp [c3f])])
       clear c3 c3f BT hsh
       go_wp2_with (first|(go_at_call 71;(refine (impl_Board_has.calls RI CI _ _ l rI x9 false _ ?side1 ?side2 A1.out).mono ?_);(case side1=>exact HL.out _ _ _ HS2.out);(case side2=>exact HC0.out);rintro e w2 ⟨rfl,hb2⟩;have HS3:=za (MVB.out _ _ _ _ HS2.out hb2);clear hb2))
       go_roundg k1
       case measure=>omega
       case rel=>exact ⟨wrap64 (x9 + 1),(by first|rfl|(simp;done)),⟨j + 1,qs,EW.out,EJ.out,HQL.out,HQT.out,by rw [ES.out,NIL.out,List.append_nil];exact HS3.out⟩⟩
     ·
      have c2b:decide (0≤x9)=false:=decide_eq_false c2
      have ONE:=za (show colWays l r t pre (waysFrom l C d (r + 1)) x9=waysFrom l C d (r + 1) t (pre ++ [x9]) by unfold colWays;rw [if_pos (by omega)])
      clear c2
      have z5:wr.cell? ⟨k.p,0,none⟩=some (.slice (some ⟨k.a,0,none⟩) R cp):=(zn HS2.out.cP 0).trans rfl
      obtain ⟨z6,f6⟩:=Kd.R_celln 0 HS2.out.cA rI (of_eq_true plt) (of_eq_true plt2)
      have HRT:=za (show rI.toNat=r by rw [HR.out];rfl)
      have HPT:=za (show (qs.set rI.toNat x9).take (r + 1)=pre ++ [x9] by have hrl:r < qs.length:=(by have:=HQL.out;have:=HRD.out;omega);rw [HRT.out,List.take_add_one,List.take_set_of_le (Nat.le_refl _),HQT.out];simp [hrl])
      have NXT:=za (show ∀ a q b,waysFrom l C d (r + 1) t ((qs.set rI.toNat x9).take (r + 1))=a ++ q :: b→P ((vis ++ (iota (-1) j).flatMap (colWays l r t pre (waysFrom l C d (r + 1)))) ++ a) q from fun a q b hq=>by rw [HPT.out,← ONE.out] at hq;rw [List.append_assoc];exact HPP.out _ q (b ++ (iota (x9 + 1) (C + 1 - j - 1)).flatMap (colWays l r t pre (waysFrom l C d (r + 1)))) (by rw [ways_cut l C d r t pre j (by have:=HX.out;have:=C1.out;have:=HCI.out;omega) HX.out,hq,List.append_assoc,List.append_assoc];rfl))
      go_wp2_with (first|((with_reducible refine gate_store (t:=3) (p:=46) rfl ?_);refine store_event (t:=3) (p:=46) (v:=?vo) (w1:=(wr.setCell ⟨k.a,rI.toNat,none⟩ (.int .i64 x9))) ?hg ?ho ?hn ?hr ?_;(case ho=>rfl);(case hg=>rfl);(case hn=>rfl);(case hr=>first|(go_simp;done)|(go_simp;rfl));intro w4 hw;have HS4:=za (by rw [hw];exact MVA.out _ _ _ HS2.out rI x9:WSt k Inv RI CI R cp l A0 c0 (.func (.func 78) #[] #[cc1,cc2]) (vis ++ (iota (-1) j).flatMap (colWays l r t pre (waysFrom l C d (r + 1)))) (qs.set rI.toNat x9) w4);clear hw;have z7:w4.cell? ⟨k.r,0,none⟩=_:=(zn HS4.out.cR 0).trans rfl)|(go_at_call 92;(refine (IH.out t _ HT.out HT6.out _ (qs.set rI.toNat x9) _ (by rw [List.length_set];exact HQL.out) NXT.out HS4.out).mono ?_);rintro e w5 ⟨rfl,hex⟩;have HE:=za hex;clear hex))
      go_roundg k1
      case measure=>omega
      case rel =>
       obtain ⟨qs2,hl2,ht2,hs5⟩:=HE.out
       have hrt:=HRT.out
       have hrl:r < qs.length:=by have:=HQL.out;have:=HRD.out;omega
       have hpt:=HPT.out
       refine ⟨wrap64 (x9 + 1),(by first|rfl|(simp;done)),⟨j + 1,qs2,EW.out,EJ.out,hl2,?_,?_⟩⟩
       ·
        have h3:=congrArg (List.take r) ht2
        rw [List.take_take,List.take_take,Nat.min_eq_left (by omega),hrt,List.take_set_of_le (Nat.le_refl _),HQT.out] at h3
        exact h3
       ·
        rw [hpt,List.append_assoc] at hs5
        rw [ES.out,ONE.out]
        exact hs5
   ·
    have c1b:decide (x9 < CI)=false:=decide_eq_false c1
    have FIN:=za (show j=C + 1 by have:=HX.out;have:=HJ.out;have:=HCI.out;omega)
    clear c1
    go_wp2
    first|go_end0|((try simp only [Exit.inBlock,Exit.then]);refine bodyPost_ret (results_none rfl _ _ _) rfl ?_)
    exact ⟨rfl,qs,HQL.out,HQT.out,by have:=HS2.out;rw [FIN.out] at this;exact this⟩
end
section
variable (Inv : (Nat → Prop) → List (List Int) → World → Prop) (hI : ∀ S vis w w', Inv S vis w → Still S w w' → Inv S vis w') (R C : Nat) (RI CI : Int) (hRI : RI = R) (hCI : CI = C) (l : List Int) (A0 : Option Addr) (c0 : Nat) (hc0 : l.length ≤ c0) (cc1 cc2 : Value)
  (hL : ∀ S vis w, Inv S vis w → Kd.C (Kd.int .i64) w A0 l.length l)
  (hl : l.length = R) (h1R : 1 ≤ R) (hR : R ≤ 6) (hC : C ≤ 6) (hb : ∀ i (hi : i < l.length), 0 ≤ l[i] ∧ l[i] < 2 ^ C) (w0 : World)
  (h0 : ∀ S w, (∀ i, S i → w0.heap.size ≤ i) → Below w0.heap.size w0 w → Inv S [] w)
  (hdo : ∀ S vis ps w a cp, (∀ i, S i → w0.heap.size ≤ i) → (∀ i, S i → i < w.heap.size) → ps.length = R → (∃ b, waysFrom l C R 0 0 [] = vis ++ ps :: b) → S a → Kd.C (Kd.int .i64) w (some ⟨a, 0, none⟩) R ps → R ≤ cp → Inv S vis w →
    Calls Tryz.prog 78 #[.slice (some ⟨a, 0, none⟩) R cp, cc1, cc2] w fun e w' => e = .returned (.bool true) ∧ Inv S (vis ++ [ps]) w' ∧ (∀ i, S i → i < w.heap.size → w'.heap[i]? = w.heap[i]?))
include hI hRI hCI hc0 hL hl h1R hR hC hb h0 hdo
set_option maxHeartbeats 4000000 in
set_option maxRecDepth 100000 in
theorem walk_calls:Calls Tryz.prog 77 #[.agg #[.int .i64 RI,.int .i64 CI,.slice A0 l.length c0],.func (.func 78) #[] #[cc1,cc2]] w0 fun e w'=>e=.returned (.tuple #[])∧∃ S,(∀ i,S i→w0.heap.size≤i)∧Inv S (waysFrom l C R 0 0 []) w':=by
 have KEY:∀ (k:Blks) (cp:Nat) W,k.Apart→(∀ i,k.has i→w0.heap.size≤i)→R≤cp→WSt k (Inv k.has) RI CI R cp l A0 c0 (.func (.func 78) #[] #[cc1,cc2]) [] (List.replicate R 0) W →
   Calls Tryz.prog 92 #[.int .i64 0,.int .i64 0,.pointer (some ⟨k.b,0,none⟩),.pointer (some ⟨k.d,0,none⟩),.pointer (some ⟨k.p,0,none⟩),.pointer (some ⟨k.g,0,none⟩),.pointer (some ⟨k.r,0,none⟩)] W fun e w'=>e=.returned (.tuple #[])∧∃ S,(∀ i,S i→w0.heap.size≤i)∧Inv S (waysFrom l C R 0 0 []) w':=by
  intro k cp W hk hS hcp hst
  have:=row_calls k hk (Inv k.has) (hI k.has) R C RI CI hRI hCI l A0 c0 cp hc0 cc1 cc2 (hL k.has) hl hR hC hb (fun vis q=>∃ b,waysFrom l C R 0 0 []=vis ++ q :: b) (fun vis ps w hps hmem hs=>by
   obtain ⟨_,_,hC'⟩:=zk hs.cA
   rw [hps] at hC'
   have hlt:k.a < w.heap.size:=by obtain ⟨cells,hc⟩:=Kd.R_typed hs.cA k.a rfl;exact blk_lt hc
   have hSlt:∀ i,k.has i→i < w.heap.size:=by
    rintro i (rfl|rfl|rfl|rfl|rfl|rfl)
    ·
     exact blk_lt hs.cB
    ·
     exact blk_lt hs.cD
    ·
     exact hlt
    ·
     exact blk_lt hs.cP
    ·
     exact blk_lt hs.cG
    ·
     exact blk_lt hs.cR
   refine (hdo k.has vis ps w k.a cp hS hSlt hps hmem (.inr (.inr (.inl rfl))) hC' hcp hs.inv).mono ?_
   rintro e w' ⟨rfl,hi,hkeep⟩
   refine ⟨rfl,(hkeep _ (.inl rfl) (blk_lt hs.cB)).trans hs.cB,(hkeep _ (.inr (.inl rfl)) (blk_lt hs.cD)).trans hs.cD,Kd.R_step hs.cA (fun i hi _=>by subst hi;exact hkeep _ (.inr (.inr (.inl rfl))) hlt),(hkeep _ (.inr (.inr (.inr (.inl rfl)))) (blk_lt hs.cP)).trans hs.cP,(hkeep _ (.inr (.inr (.inr (.inr (.inl rfl))))) (blk_lt hs.cG)).trans hs.cG,(hkeep _ (.inr (.inr (.inr (.inr (.inr rfl))))) (blk_lt hs.cR)).trans hs.cR,hi⟩)
   R 0 0 0 0 rfl rfl (by omega) (by omega) [] (List.replicate R 0) W (by simp) (fun a q b hq=>⟨b,by simpa using hq⟩) hst
  refine this.mono ?_
  rintro e w' ⟨rfl,ps',_,_,hw⟩
  exact ⟨rfl,k.has,hS,by simpa using hw.inv⟩
 have KX:=Lib.hid KEY;have H0:=Lib.hid h0;have hu24:=Tryz.underlying42;have p1:=za (show 0≤RI by omega);have p2:=za (show RI.toNat * 8≤281474976710656 by omega);have p3:=za (show RI.toNat=R by omega);have p4:=za h1R;clear KEY h0 hdo hb hC hR hl hL hc0 hCI hRI hI h1R;go_enter Tryz.func77,Tryz.ntmps77
 go_wp2_with (first
 |((with_reducible refine gate_dst (N:=2) rfl ?_);refine box_event ?hg (N:=2) ?hd (cs:=#[.int .i64 RI,.int .i64 CI,.slice A0 l.length c0]) (t:=42) ?hr ?_;(case hd=>rfl);(case hg=>rfl);(case hr=>first|(go_simp;done)|(go_simp;rfl));intro gb hg w1 hbox hb;have G1:=za hg;have K1:=za hbox;have B1:=za hb;clear hg hbox hb;have z1:w1.cell? ⟨gb,0,none⟩=some (.int .i64 RI):=(zn K1.out 0).trans rfl)
 |((with_reducible refine gate_dst (N:=3) rfl ?_);refine box_event ?hg (N:=3) ?hd (cs:=#[.func (.func 78) #[] #[cc1,cc2]]) (t:=61) ?hr ?_;(case hd=>rfl);(case hg=>rfl);(case hr=>first|(go_simp;done)|(go_simp;rfl));intro gd hg w2 hbox hb;have G2:=za hg;have K2:=za hbox;have B2:=za hb;clear hg hbox hb;have z2:w2.cell? ⟨gb,0,none⟩=some (.int .i64 RI):=(zn (zB K1.out B2.out) 0).trans rfl)
 |((with_reducible refine gate_dst (N:=9) rfl ?_);refine Kd.R_make (Kd.int .i64) (w0:=w2) w2.heap.size 3 rfl (N:=9) rfl 24 _ _ rfl RI rfl rfl Tryz.underlying24 (.int .i64 0) 8 info3 rfl (by decide) (by omega) 0 (ok:=fun _=>True) (okp:=fun _=>True) rfl (fun _ hk=>hk) trivial p1.out p2.out (Below.refl _ _) (Nat.le_refl _) ?_;intro v3 w3 ho3 hb hg_ hnew_;clear hg_ hnew_;rw [p3.out] at ho3;obtain ⟨ga,cp,hv3,hga,hga2,cells3,hc3⟩:=Kd.R_form ho3 (by rw [List.length_replicate];exact p4.out);rw [List.length_replicate] at hv3;subst hv3;have G3:=za (And.intro hga hga2);have K3:=za hc3;clear hga hga2 hc3;have B3:=za hb;have O3:=za ho3;clear hb ho3)
 |((with_reducible refine gate_dst (N:=4) rfl ?_);refine box_event ?hg (N:=4) ?hd (cs:=#[.slice none 0 0]) (t:=24) ?hr ?_;(case hd=>rfl);(case hg=>rfl);(case hr=>first|(go_simp;done)|(go_simp;rfl));intro gp hg w4 hbox hb;have G4:=za hg;have K4:=za hbox;have B4:=za hb;clear hg hbox hb)
 |((with_reducible refine gate_dst (N:=5) rfl ?_);refine box_event ?hg (N:=5) ?hd (cs:=#[.bool false]) (t:=4) ?hr ?_;(case hd=>rfl);(case hg=>rfl);(case hr=>first|(go_simp;done)|(go_simp;rfl));intro gg hg w5 hbox hb;have G5:=za hg;have K5:=za hbox;have B5:=za hb;clear hg hbox hb;have y1:w5.cell? ⟨gp,0,none⟩=some (.slice none 0 0):=(zn (zB K4.out B5.out) 0).trans rfl;have f1:w5.frozen? ⟨gp,0,none⟩=false:=zt (zB K4.out B5.out) 0)
 |((with_reducible refine gate_store (t:=24) (p:=4) rfl ?_);refine store_event (t:=24) (p:=4) (v:=?vo) (w1:=(w5.setCell ⟨gp,0,none⟩ (.slice (some ⟨ga,0,none⟩) R cp))) ?hg ?ho ?hn ?hr ?_;(case ho=>rfl);(case hg=>rfl);(case hn=>rfl);(case hr=>first|(go_simp;done)|(go_simp;rfl));intro w6 hw;have E6:=za hw;clear hw;have N65:=za (show gg ≠ gp by rw [G5.out];exact Nat.ne_of_gt (blk_lt K4.out));have K56:=za (show w6.heap[gg]?=some (.cells #[.bool false] 4 (0,0)) by rw [E6.out];exact blk_far K5.out N65.out _);have y2:w6.cell? ⟨gg,0,none⟩=some (.bool false):=(zn K56.out 0).trans rfl;have f2:w6.frozen? ⟨gg,0,none⟩=false:=zt K56.out 0)
 |((with_reducible refine gate_dst (N:=6) rfl ?_);refine box_event ?hg (N:=6) ?hd (cs:=#[.nilFunc]) (t:=81) ?hr ?_;(case hd=>rfl);(case hg=>rfl);(case hr=>first|(go_simp;done)|(go_simp;rfl));intro gr hg w8 hbox hb;have G8:=za hg;have K8:=za hbox;have B8:=za hb;clear hg hbox hb;have y3:w8.cell? ⟨gr,0,none⟩=some .nilFunc:=(zn K8.out 0).trans rfl;have f3:w8.frozen? ⟨gr,0,none⟩=false:=zt K8.out 0)
 |(go_at_call 92;(refine (KX.out ⟨gb,gd,ga,gp,gg,gr⟩ cp _ ?sa ?ss ?sc ?sw).mono ?_);(case sa=>(have o1:=blk_lt K1.out;have o2:=G2.out;have o3:=blk_lt K2.out;have o4:=G3.out;have o5:=G4.out;have o6:=blk_lt K4.out;have o7:=G5.out;have o8:=blk_lt K5.out;have o9:w6.heap.size=w5.heap.size:=(by rw [E6.out];simp [World.setCell]);have o10:(w6.setCell ⟨gg,0,none⟩ (.bool true)).heap.size=w6.heap.size:=(by simp [World.setCell]);have o11:=G8.out;have o12:=G1.out;constructor <;> (try simp only []) <;> omega));(case ss=>(have o1:=blk_lt K1.out;have o2:=G2.out;have o3:=blk_lt K2.out;have o4:=G3.out;have o5:=G4.out;have o6:=blk_lt K4.out;have o7:=G5.out;have o8:=blk_lt K5.out;have o9:w6.heap.size=w5.heap.size:=(by rw [E6.out];simp [World.setCell]);have o10:(w6.setCell ⟨gg,0,none⟩ (.bool true)).heap.size=w6.heap.size:=(by simp [World.setCell]);have o11:=G8.out;have o12:=G1.out;rintro i (rfl|rfl|rfl|rfl|rfl|rfl) <;> (try simp only []) <;> omega));(case sc=>exact (zk O3.out).2.1);(case sw=>(have o1:=blk_lt K1.out;have o2:=G2.out;have o3:=blk_lt K2.out;have o4:=G3.out;have o5:=G4.out;have o6:=blk_lt K4.out;have o7:=G5.out;have o8:=blk_lt K5.out;have o9:w6.heap.size=w5.heap.size:=(by rw [E6.out];simp [World.setCell]);have o10:(w6.setCell ⟨gg,0,none⟩ (.bool true)).heap.size=w6.heap.size:=(by simp [World.setCell]);have o11:=G8.out;have o12:=G1.out;have q1:=zB (zB (zB (zB K1.out B2.out) B3.out) B4.out) B5.out;have q2:=zB (zB (zB K2.out B3.out) B4.out) B5.out;have q3:=zr (zr (zs (zA (Kd.R_tight rfl O3.out) (Nat.zero_le _)) (fun i hi=>(by simpa [Value.ownBlock] using hi:i=ga))) B4.out) B5.out;have q4:=zB K4.out B5.out;have e1:gb ≠ gp:=(by omega);have e2:gd ≠ gp:=(by omega);have e3:ga ≠ gp:=(by omega);have e4:gb ≠ gg:=(by omega);have e5:gd ≠ gg:=(by omega);have e6:ga ≠ gg:=(by omega);have e7:gp ≠ gg:=(by omega);have e8:gb ≠ gr:=(by omega);have e9:gd ≠ gr:=(by omega);have e10:ga ≠ gr:=(by omega);have e11:gp ≠ gr:=(by omega);have e12:gg ≠ gr:=(by omega);have b5:Below w0.heap.size w0 w5:=(((B1.out.trans (B2.out.mono (by omega))).trans (B3.out.mono (by omega))).trans (B4.out.mono (by omega))).trans (B5.out.mono (by omega));have b7:Below w0.heap.size w0 (w6.setCell ⟨gg,0,none⟩ (.bool true)):=(by refine Below.setCell ?_ (by (try simp only []);omega) _;rw [E6.out];exact Below.setCell b5 (by (try simp only []);omega) _);have b9:Below w0.heap.size w0 (w8.setCell ⟨gr,0,none⟩ (.func (.func 92) #[] #[.pointer (some ⟨gb,0,none⟩),.pointer (some ⟨gd,0,none⟩),.pointer (some ⟨gp,0,none⟩),.pointer (some ⟨gg,0,none⟩),.pointer (some ⟨gr,0,none⟩)])):=(by exact Below.setCell (b7.trans (B8.out.mono (by omega))) (by (try simp only []);omega) _);exact ⟨(by refine blk_far (zB ?_ B8.out) e8 _;rw [E6.out];exact blk_far (blk_far q1 e1 _) e4 _),(by refine blk_far (zB ?_ B8.out) e9 _;rw [E6.out];exact blk_far (blk_far q2 e2 _) e5 _),(by refine zx (zr ?_ B8.out) (fun i hi=>(by rw [hi];exact e10)) _;rw [E6.out];exact zx (zx q3 (fun i hi=>(by rw [hi];exact e3)) _) (fun i hi=>(by rw [hi];exact e6)) _),(by refine blk_far (zB ?_ B8.out) e11 _;rw [E6.out];exact blk_far (blk_put q4 0 _ rfl) e7 _),(by refine blk_far (zB ?_ B8.out) e12 _;rw [E6.out];exact blk_put (blk_far K5.out e7.symm _) 0 _ rfl),(by exact blk_put K8.out 0 _ rfl),H0.out _ _ (by rintro i (rfl|rfl|rfl|rfl|rfl|rfl) <;> (try simp only []) <;> omega) b9⟩));rintro e w10 ⟨rfl,hfin⟩))
 (first|go_end0|((try simp only [Exit.inBlock,Exit.then]);refine bodyPost_ret (results_none rfl _ _ _) rfl ?_));exact ⟨rfl,hfin⟩
end
end Go.Proofs.YtihnjbfjdkdhaaaGreat.WalkW
end
section
namespace Go.Proofs.YtihnjbfjdkdhaaaGreat.Q
open Go.RowKit Go.Proofs.YtihnjbfjdkdhaaaGreatW.PrintWords Go.Proofs.YtihnjbfjdkdhaaaGreatW.PrintLast Go.Proofs.YtihnjbfjdkdhaaaGreatW.PrintMore
attribute [local go_sem] max2_int min2_int max_two min_two max_three min_three max_four min_four   -- for this text's walks alone
set_option linter.unusedVariables false
set_option linter.unusedSimpArgs false
def impl_rooks.l0:Nat→Int→List Int→Int→Int→Option (Int)
|0,_,_,_,_=>none
|k + 1,x3,x6,x7,x8=>if x8 < x7 then (if 0≤x8 then (if x8 < (x6.length:Int) then (if (rd x6 x8)=(-1) then (impl_rooks.l0 k x3 x6 x7 (wrap64 (x8 + 1))) else (impl_rooks.l0 k (wrap64 (x3 + 1)) x6 x7 (wrap64 (x8 + 1)))) else (none)) else (none)) else (some x3)
def impl_rooks.f (k:Nat) (l0:List Int):Option (Int):=impl_rooks.l0 k 0 l0 (l0.length:Int) 0
set_option maxHeartbeats 8000000 in
set_option maxRecDepth 100000 in
theorem impl_rooks.calls (k:Nat) (A0:Option Addr) (c0:Nat) (l0:List Int) (r:Int) (w:World) (hr0:Kd.C (Kd.int .i64) w A0 l0.length l0) (hc0:l0.length≤c0) (h:impl_rooks.f k l0=some r) :
  Calls Tryz.prog 79 #[.slice A0 l0.length c0] w fun e w'=>e=.returned (.int .i64 r)∧Drawn0 w w':=by
 have HR0:=za hr0;have HC0:=za hc0;clear hr0 hc0;have H:(impl_rooks.l0 k 0 l0 (l0.length:Int) 0)=some r:=h;clear h;have H':=za H;clear H;(go_enter Tryz.func79,Tryz.ntmps79);(go_wp2);(go_loopg [3,8] k (fun kq v3 v8 w'=>∃ (x3_1:Int) (x8_1:Int),v3=.int .i64 x3_1∧v8=.int .i64 x8_1∧Aside0 (impl_rooks.l0 kq x3_1 l0 (l0.length:Int) x8_1=some r)∧Aside0 (kq≤k)∧Drawn0 w w'));case atStart=>exact ⟨(0),(0),(by first|rfl|(simp;done)|(simp [*];done)),(by first|rfl|(simp;done)|(simp [*];done)),H',⟨Nat.le_refl _⟩,by repeat (first|exact Drawn0.refl _|apply Drawn0.step)⟩
 case round =>
  clear H';obtain ⟨x3_1,x8_1,rfl,rfl,HA,HK1,⟨m1,rfl⟩⟩:=hrel
  cases gk with
 |zero=>exact absurd HA.out (by simp [impl_rooks.l0])
 |succ k1 =>
   have H:=HA.out;clear HA;simp only [impl_rooks.l0] at H;by_cases c2:x8_1 < (l0.length:Int)
   ·
    rw [if_pos c2] at H;have c2b0:decide (x8_1 < (l0.length:Int))=true:=decide_eq_true c2;clear c2;by_cases c3:0≤x8_1
    ·
     rw [if_pos c3] at H;have c3b0:decide (0≤x8_1)=true:=decide_eq_true c3;clear c3;by_cases c4:x8_1 < (l0.length:Int)
     ·
      rw [if_pos c4] at H;have c4b0:decide (x8_1 < (l0.length:Int))=true:=decide_eq_true c4;clear c4;by_cases c5:(rd l0 x8_1)=(-1)
      · rw [if_pos c5] at H;have c5b0:((rd l0 x8_1) == (-1))=true:=beq_iff_eq.mpr c5;have c5b1:((rd l0 x8_1) != (-1))=false:=bne_eq_false_iff_eq.mpr c5;clear c5;have H':=za H;clear H;have p101:0≤(x8_1:Int):=of_decide_eq_true ‹_›;have q101:x8_1 < (l0.length:Int):=of_decide_eq_true ‹_›;obtain ⟨ad101,e101,hx101_0⟩:=zz HR0.out x8_1 p101 q101;cases e101;replace p101:=eq_true p101;replace q101:=eq_true q101;(go_wp2);(go_roundg k1);(case measure=>have:=HK1.out;omega);case rel=>exact ⟨(x3_1),(wrap64 (x8_1 + 1)),(by first|rfl|(simp;done)|(simp [*];done)),(by first|rfl|(simp;done)|(simp [*];done)),H',⟨by have:=HK1.out;omega⟩,by repeat (first|exact Drawn0.refl _|apply Drawn0.step)⟩
      · rw [if_neg c5] at H;have c5b0:((rd l0 x8_1) == (-1))=false:=beq_eq_false_iff_ne.mpr c5;have c5b1:((rd l0 x8_1) != (-1))=true:=bne_iff_ne.mpr c5;have H':=za H;clear H;have p101:0≤(x8_1:Int):=of_decide_eq_true ‹_›;have q101:x8_1 < (l0.length:Int):=of_decide_eq_true ‹_›;obtain ⟨ad101,e101,hx101_0⟩:=zz HR0.out x8_1 p101 q101;cases e101;replace p101:=eq_true p101;replace q101:=eq_true q101;(go_wp2);(go_roundg k1);(case measure=>have:=HK1.out;omega);case rel=>exact ⟨(wrap64 (x3_1 + 1)),(wrap64 (x8_1 + 1)),(by first|rfl|(simp;done)|(simp [*];done)),(by first|rfl|(simp;done)|(simp [*];done)),H',⟨by have:=HK1.out;omega⟩,by repeat (first|exact Drawn0.refl _|apply Drawn0.step)⟩
     · rw [if_neg c4] at H;exact absurd H (by simp)
    · rw [if_neg c3] at H;exact absurd H (by simp)
   · rw [if_neg c2] at H;have c2b0:decide (x8_1 < (l0.length:Int))=false:=decide_eq_false c2;clear c2;obtain rfl:=Option.some.inj H;(go_wp2);(go_ret);exact ⟨by first|rfl|(simp;done)|(simp [*];done),by repeat (first|exact Drawn0.refl _|apply Drawn0.step)⟩
end Go.Proofs.YtihnjbfjdkdhaaaGreat.Q
end
section
namespace Go.Proofs.YtihnjbfjdkdhaaaGreat.W1
set_option linter.unusedVariables false
set_option linter.unusedSectionVars false
open Go.RowKit Go.Proofs.YtihnjbfjdkdhaaaGreatW.PrintWords Go.Proofs.YtihnjbfjdkdhaaaGreatW.PrintLast Go.Proofs.YtihnjbfjdkdhaaaGreatW.PrintMore
open Go.Proofs.YtihnjbfjdkdhaaaGreatL Go.Proofs.YtihnjbfjdkdhaaaGreat.LawK Go.Proofs.YtihnjbfjdkdhaaaGreat.Q
def pad (row : List Int) (e : Nat) : List Int := row ++ List.replicate (e + 1 - row.length) 0
def bump (row : List Int) (e : Nat) : List Int := (pad row e).set e (wrap64 (rd (pad row e) (e : Int) + 1))
theorem set_self {α : Type} {l : List α} {i : Nat} {x : α} (h : l[i]? = some x) : l.set i x = l := by
  obtain ⟨h1, h2⟩ := List.getElem?_eq_some_iff.1 h
  rw [← h2, List.set_getElem_self]
theorem put_row {W : World} {base g n cap : Nat} {ok oki okp : Nat → Prop} {xs : List (List Int)} {i : Int} {vi v' : Value} {row' : List Int} (h : Kd.H (Kd.slice 3 (Kd.int .i64)) 24 W base ok (.slice (some ⟨g, 0, none⟩) n cap) xs i oki [vi]) (h0 : 0 ≤ i) (h1 : i < n)
    (hR : Kd.R (Kd.int .i64) 3 W base okp v' row') (hp : ∀ k, okp k → oki k) (hng : ∀ k, okp k → k ≠ g) : Kd.S (Kd.slice 3 (Kd.int .i64)) 24 (W.setCell ⟨g, i.toNat, none⟩ v') base ok (.slice (some ⟨g, 0, none⟩) n cap) (xs.set i.toNat row') := by
  obtain ⟨A, c, rfl⟩ := Kd.R_slice hR
  obtain ⟨h2, _⟩ := Kd.H_seg (seg := [.slice A row'.length c]) (j := 0) h h0 h1 (Nat.le_refl _) (by intro q hq; rw [List.mem_singleton] at hq; subst hq; rfl)
  have e1 : W.setCells g (i.toNat * (Kd.slice 3 (Kd.int .i64)).sz + 0) [.slice A row'.length c] = W.setCell ⟨g, i.toNat, none⟩ (.slice A row'.length c) := by
    show W.setCell ⟨g, i.toNat * 1 + 0, none⟩ _ = _
    rw [Nat.mul_one, Nat.add_zero]
  rw [e1] at h2
  exact Kd.H_back (okp := okp) h2 ⟨_, rfl, Kd.R_far hR (fun k hk => hng k hk) _⟩ hp
section
variable (kI eI : Nat) (R cp a gl go bs kk g c1 : Nat) (l ps : List Int) (out : List (List Int)) (A0 : Option Addr) (c0 : Nat) (row : List Int) (OKP : Nat → Prop) (w : World)
  (hps : ps.length = R) (hcp : R ≤ cp) (hc0 : l.length ≤ c0) (hr : Kd.C (Kd.int .i64) w (some ⟨a, 0, none⟩) R ps) (hL : Kd.C (Kd.int .i64) w A0 l.length l)
  (hgl : w.heap[gl]? = some (.cells #[.slice A0 l.length c0] 24 (0, 0))) (hgo : w.heap[go]? = some (.cells #[.slice (some ⟨g, 0, none⟩) out.length c1] 30 (0, 0))) (hng : ∀ k, OKP k → k ≠ go) (hbs : bs ≤ w.heap.size) (hnew : ∀ k, w.heap.size ≤ k → OKP k)
  (ho : Kd.S (Kd.slice 3 (Kd.int .i64)) 24 w bs OKP (.slice (some ⟨g, 0, none⟩) out.length c1) out)
  (hk : kI < out.length) (he : eI ≤ 1000) (hrow : out[kI]? = some row) (hrl : row.length ≤ 1000) (hol : out.length ≤ 1000)
  (hh : impl_rooks.f kk ps = some (kI : Int)) (hf : impl_free.f kk l ps = some (eI : Int))
include hps hcp hc0 hr hL hgl hgo hng hbs hnew ho hk he hrow hrl hol hh hf
set_option maxHeartbeats 8000000 in
set_option maxRecDepth 100000 in
theorem w1_calls : Calls Tryz.prog 78 #[.slice (some ⟨a, 0, none⟩) R cp, .pointer (some ⟨gl, 0, none⟩), .pointer (some ⟨go, 0, none⟩)] w
    fun e w' => e = .returned (.bool true) ∧ Kd.S (Kd.slice 3 (Kd.int .i64)) 24 w' bs OKP (.slice (some ⟨g, 0, none⟩) out.length c1) (out.set kI (bump row eI)) ∧ Kept w w' OKP ∧ Below bs w w' := by
  have CR := Lib.hid (fun (W : World) (hb : Below w.heap.size w W) => by
    have := impl_rooks.calls kk (some ⟨a, 0, none⟩) cp ps (kI : Int) W (by rw [hps]; exact Kd.C_below hr hb) (by rw [hps]; exact hcp) hh
    rw [hps] at this
    have h2 : Calls Tryz.prog 79 #[.slice (some ⟨a, 0, none⟩) R cp] W fun e w' => e = .returned (.int .i64 (kI : Int)) ∧ Below w.heap.size w w' := this.mono (by rintro e w' ⟨rfl, h3⟩; exact ⟨rfl, hb.trans (h3.below.mono hb.size)⟩)
    exact h2)
  have CF := Lib.hid (fun (W : World) (hb : Below w.heap.size w W) => by
    have := impl_free.calls kk A0 c0 l (some ⟨a, 0, none⟩) cp ps (eI : Int) W (Kd.C_below hL hb) hc0 (by rw [hps]; exact Kd.C_below hr hb) (by rw [hps]; exact hcp) hf
    rw [hps] at this
    have h2 : Calls Tryz.prog 39 #[.slice A0 l.length c0, .slice (some ⟨a, 0, none⟩) R cp] W fun e w' => e = .returned (.int .i64 (eI : Int)) ∧ Below w.heap.size w w' := this.mono (by rintro e w' ⟨rfl, h3⟩; exact ⟨rfl, hb.trans (h3.below.mono hb.size)⟩)
    exact h2)
  have BL := Aside0.mk hgl
  have BO := Aside0.mk hgo
  have HS := Aside0.mk ho
  have HN := Lib.hid hnew
  have HBS := Aside0.mk hbs
  have HGL := Lib.hid hng
  have HW := Aside0.mk (And.intro hk (And.intro he (And.intro hrl hol)))
  have HR0 := Aside0.mk hrow
  have hz1 : w.cell? ⟨gl, 0, none⟩ = some (.slice A0 l.length c0) := (blk_cell hgl 0).trans rfl
  clear hps hcp hc0 hr hL hgl hgo hng hbs hnew ho hk he hrow hrl hol hh hf
  go_enter Tryz.func78, Tryz.ntmps78
  go_wp2
  go_region_with (first | (go_at_call 79; refine (CR.out _ (by repeat (first | exact Below.refl _ _ | apply below_drew1 | apply pw_below_drewN))).mono ?_; rintro e w2 ⟨rfl, hb⟩; have hb2 := Aside0.mk hb; have hz2 : w2.cell? ⟨gl, 0, none⟩ = some (.slice A0 l.length c0) := (blk_cell (blk_below BL.out hb) 0).trans rfl; clear hb) | (go_at_call 39; refine (CF.out _ hb2.out).mono ?_; rintro e w3 ⟨rfl, hb⟩; have hb3 := Aside0.mk hb; clear hb))
  all_goals clear hz1 hz2
  all_goals have S3 := Aside0.mk (Kd.S_below HS.out hb3.out)
  all_goals have O3 := Aside0.mk (blk_below BO.out hb3.out)
  all_goals have K3 := Aside0.mk (Kept.of_below hb3.out OKP)
  all_goals have B3 := Aside0.mk (hb3.out.mono HBS.out)
  all_goals clear hb2 hb3
  all_goals go_simp
  all_goals go_wp2
  all_goals (
    go_loopg [18] (max row.length (eI + 1) - row.length) (fun kq v18 w' => ∃ (j : Nat), Aside0 (row.length + j + kq = max row.length (eI + 1)) ∧ Aside0 (Kd.S (Kd.slice 3 (Kd.int .i64)) 24 w' bs OKP (.slice (some ⟨g, 0, none⟩) out.length c1) (out.set kI (row ++ List.replicate j 0))) ∧ Aside0 (Kept w w' OKP) ∧ Aside0 (Below bs w w'))
    case atStart => exact ⟨0, ⟨by have := HW.out; omega⟩, ⟨by rw [List.replicate_zero, List.append_nil, set_self HR0.out]; exact S3.out⟩, K3, B3⟩
    case round =>
      obtain ⟨j, HJ, HS2, HK, HB2⟩ := hrel
      have hW := HW.out
      have hj := HJ.out
      obtain ⟨rj, hrj⟩ : ∃ rj, rj = row ++ List.replicate j (0 : Int) := ⟨_, rfl⟩
      have hrjl : rj.length = row.length + j := by rw [hrj, List.length_append, List.length_replicate]
      rw [← hrj] at HS2
      obtain ⟨oki, cs, hcl, hM, hcell, hoki, hH⟩ := Kd.S_lend HS2.out [] (kI : Int) (by omega) (by omega)
      have hrow : (out.set kI rj).getD ((kI : Nat) : Int).toNat [] = rj := by
        rw [Int.toNat_natCast, List.getD_eq_getElem?_getD, List.getElem?_set_self (by omega)]; rfl
      rw [hrow] at hM
      obtain ⟨vi, rfl, hR⟩ := hM
      obtain ⟨Ai, ci, hvi⟩ := Kd.R_slice hR
      subst hvi
      have hzi : wr.cell? ⟨g, kI, none⟩ = some (.slice Ai rj.length ci) := by
        have := hcell 0 _ rfl
        simpa [Kd.slice, Nat.mul_one] using this
      have OW := Aside0.mk (show wr.heap[go]? = some (Obj.cells #[.slice (some ⟨g, 0, none⟩) out.length c1] 30 (0, 0)) from blk_kept BO.out HK.out (fun h => HGL.out go h rfl))
      have hzo : wr.cell? ⟨go, 0, none⟩ = some (.slice (some ⟨g, 0, none⟩) out.length c1) := (blk_cell OW.out 0).trans rfl
      have hHat := Kd.H_at hH (by omega) (by omega)
      have hfi : wr.frozen? ⟨g, kI, none⟩ = false := by
        have := hHat.2 0
        simpa [Kd.slice, Nat.mul_one] using this
      have p2 := eq_true (show (0 : Int) ≤ (kI : Int) by omega)
      have p3 := eq_true (show (kI : Int) < (out.length : Int) by omega)
      have HH := Aside0.mk hH
      have HO := Aside0.mk hoki
      have HR := Aside0.mk hR
      have HX := Aside0.mk (And.intro hrj hrjl)
      by_cases hlt : row.length + j ≤ eI
      · have p1 : decide (rj.length ≤ eI) = true := decide_eq_true (by omega)
        have HLT := Aside0.mk hlt
        have hat5 := Kd.H_at (Kd.H_drew (Kd.H_alloc hH (Obj.cells #[Value.int .i64 0] 3))) (by omega) (by omega)
        have hzi5 : ((wr.alloc (Obj.cells #[Value.int .i64 0] 3)).drew).cell? ⟨g, kI, none⟩ = some (.slice Ai rj.length ci) := by
          have := hat5.1 0 _ rfl
          simpa [Kd.slice, Nat.mul_one] using this
        have hzo5 : ((wr.alloc (Obj.cells #[Value.int .i64 0] 3)).drew).cell? ⟨go, 0, none⟩ = some (.slice (some ⟨g, 0, none⟩) out.length c1) := (blk_cell (blk_drew (blk_alloc OW.out _)) 0).trans rfl
        clear hW hj hrjl hcl hcell hrow hHat hoki hH hR hlt hrj hat5
        go_wp2
        go_region_law (first | ((try rw [show (wr.alloc (Obj.cells #[Value.int .i64 0] 3)).drew = (wr.drew).alloc (Obj.cells #[Value.int .i64 0] 3) from rfl]); refine Kd.R_append_step (Kd.int .i64) (w0 := w) bs (by kernel_rfl) (.tmp 24) (.tmp 25) 24 3 (.int .i64 0) 8 (by rfl) Tryz.underlying24 info3 rfl (by decide) (by decide) (.slice Ai rj.length ci) rj 0 [.int .i64 0] (fun k => oki k ∨ (OKP k ∧ wr.heap.size ≤ k)) (fun _ => False) (by rfl) (by rfl) ?x1 (fun _ hk => hk.elim) ?x3 ?x4 ?x5 ?x6 ?x7 ?_; (case x1 => exact rfl); (case x3 => exact fun k hk => .inr ⟨HN.out k (Nat.le_trans HK.out.1 hk), hk⟩); (case x4 => (((with_reducible repeat (first | apply Kd.R_alloc | apply Kd.R_drewN | apply Kd.R_drew))); exact Kd.R_mono HR.out (fun k hk => .inl hk))); (case x5 => exact (by repeat (first | (with_reducible first | exact HB2.out | apply pw_below_drewN | apply below_drew1) | exact HB2.out))); (case x6 => exact Nat.le_trans HBS.out HK.out.1); (case x7 => (have h1 := HX.out.2; have h2 := HLT.out; have h3 := HW.out; omega)); intro v4 w4 hr4 hb4 hg4 hat4; obtain ⟨A4, c4, hv4⟩ := Kd.R_slice hr4; subst hv4; have H4 := Aside0.mk (Kd.H_grown (Kd.H_widen (by ((with_reducible repeat (first | apply Kd.H_alloc | apply Kd.H_drewN | apply Kd.H_drew))); exact HH.out)) hg4 (fun k hk => .inl (HR.out.1 k hk))); have hat := Kd.H_at H4.out (by have := HW.out; omega) (by have := HW.out; omega); have hz4 : w4.cell? ⟨g, kI, none⟩ = some (.slice Ai rj.length ci) := (by have := hat.1 0 _ rfl; simpa [Kd.slice, Nat.mul_one] using this); have hf4 : w4.frozen? ⟨g, kI, none⟩ = false := (by have := hat.2 0; simpa [Kd.slice, Nat.mul_one] using this); have O4 := Aside0.mk (blk_grown (g := go) (o := .cells #[.slice (some ⟨g, 0, none⟩) out.length c1] 30 (0, 0)) (by (with_reducible repeat (first | refine blk_drewN ?_ _ | refine blk_drew ?_ | refine blk_alloc ?_ _)); exact OW.out) hg4 (fun he => HGL.out go (HO.out go (HR.out.1 go he.symm)).1 rfl)); have hzo4 : w4.cell? ⟨go, 0, none⟩ = some (.slice (some ⟨g, 0, none⟩) out.length c1) := (blk_cell O4.out 0).trans rfl; have R4 := Aside0.mk hr4; have B4 := Aside0.mk hb4; have G4 := Aside0.mk hg4; clear hat hr4 hb4 hg4 hat4))
        all_goals go_wp2
        all_goals (
          have hg0 : OKP g := (Kd.S_R HS2.out).1 g rfl
          have hg1 : bs ≤ g := Kd.R_base (Kd.S_R HS2.out) g rfl
          have hg2 : g < wr.heap.size := Kd.S_lt HS2.out g rfl
          have S5 := put_row H4.out (by omega) (by have := HW.out; omega) R4.out (fun k hk => hk) (fun k hk => hk.elim (fun h => (HO.out k h).2) (fun h he => by have := h.2; omega))
          have e5 : (rj ++ [(0 : Int)]).length = rj.length + 1 := by simp
          rw [Int.toNat_natCast, List.set_set, e5] at S5
          cases gk with
          | zero => exact absurd HJ.out (by have := HLT.out; omega)
          | succ k1 =>
            go_roundg k1
            case measure => omega
            case rel => exact ⟨j + 1, ⟨by have := HJ.out; omega⟩, ⟨by rw [List.replicate_succ', ← List.append_assoc, ← HX.out.1]; exact S5⟩, ⟨Kept.setCell (Kept.of_grown G4.out (Kept.drew HK.out) (fun k hk => .inl (HO.out k (HR.out.1 k hk)).1)) (.inl hg0) _⟩, ⟨B4.out.setCell hg1 _⟩⟩)
      · have p1 : decide (rj.length ≤ eI) = false := decide_eq_false (by omega)
        obtain ⟨gi, ci2, ei, _, _, _, _⟩ := Kd.R_form hR (by omega)
        cases ei
        obtain ⟨hxe, hfe⟩ := Kd.R_celln (0 : Int) hR (eI : Int) (by omega) (by omega)
        rw [Int.toNat_natCast] at hxe hfe
        have hpad : rj = pad row eI := by rw [hrj, pad, show j = eI + 1 - row.length by omega]
        have R6 := Kd.R_putn hR (eI : Int) (wrap64 (rd rj (eI : Int) + 1))
        rw [Int.toNat_natCast] at R6
        have hgi : oki gi := hR.1 gi rfl
        have H6 := Kd.H_step hH (w1 := wr.setCell ⟨gi, eI, none⟩ (.int .i64 (wrap64 (rd rj (eI : Int) + 1)))) (fun k _ hn _ => Below.heap_setCell wr ⟨gi, eI, none⟩ _ k (fun he => hn (by rw [he]; exact hgi)))
        have S6 := Kd.H_back H6 (okp := oki) (x' := rj.set eI (wrap64 (rd rj (eI : Int) + 1))) ⟨_, rfl, by first | exact R6 | simpa using R6⟩ (fun k hk => hk)
        rw [Int.toNat_natCast, List.set_set, hpad] at S6
        have SS := Aside0.mk S6
        have HP := Aside0.mk hpad
        have hb6 := Aside0.mk (show bs ≤ gi from Kd.R_base hR gi rfl)
        have ho6 := Aside0.mk (hoki gi hgi).1
        have p4 := eq_true (show (0 : Int) ≤ (eI : Int) by omega)
        have p5 := eq_true (show eI < rj.length by omega)
        clear hW hj hrjl hcl hcell hrow hHat hoki hH hR hlt hrj R6 H6 S6 hpad hgi
        go_wp2
        go_ret
        exact ⟨rfl, by rw [HP.out]; exact SS.out, Kept.setCell HK.out (.inl ho6.out) _, HB2.out.setCell hb6.out _⟩)
end
end Go.Proofs.YtihnjbfjdkdhaaaGreat.W1
end
section
namespace Go.Proofs.YtihnjbfjdkdhaaaGreat.Walk
set_option linter.unusedVariables false
open Go.RowKit Go.Proofs.YtihnjbfjdkdhaaaGreatW.PrintWords Go.Proofs.YtihnjbfjdkdhaaaGreatW.PrintLast Go.Proofs.YtihnjbfjdkdhaaaGreatW.PrintMore
open Go.Proofs.YtihnjbfjdkdhaaaGreatL Go.Proofs.YtihnjbfjdkdhaaaGreat.LawK Go.Proofs.YtihnjbfjdkdhaaaGreat.BoardK Go.Proofs.YtihnjbfjdkdhaaaGreat.Q
def rooksN (l : List Int) : Nat := l.countP (fun x => x != -1)
theorem rooks_l0 {l : List Int} (hl : l.length ≤ 1048576) : ∀ (d i n : Nat), i + d = l.length → n ≤ i → Ev (fun k => impl_rooks.l0 k n l (l.length : Int) i) ((n + rooksN (l.drop i) : Nat) : Int)
  | 0, i, n, hi, hn => by
    refine Ev.step (f := fun _ => some ((n + rooksN (l.drop i) : Nat) : Int)) (fun k => ?_) (Ev.now _)
    rw [impl_rooks.l0, if_neg (by omega), List.drop_eq_nil_of_le (by omega)]; rfl
  | d + 1, i, n, hi, hn => by
    have h1 : wrap64 ((i : Int) + 1) = ((i + 1 : Nat) : Int) := by rw [w64 (by omega) (by omega)]; rfl
    have h2 : wrap64 ((n : Int) + 1) = ((n + 1 : Nat) : Int) := by rw [w64 (by omega) (by omega)]; rfl
    have hi2 : i < l.length := by omega
    rw [List.drop_eq_getElem_cons hi2, rooksN, List.countP_cons]
    by_cases hx : l[i] = -1
    · have ih := rooks_l0 hl d (i + 1) n (by omega) (by omega)
      rw [rooksN] at ih
      rw [if_neg (by simp [hx]), Nat.add_zero]
      refine Ev.step (fun k => ?_) ih
      rw [impl_rooks.l0, if_pos (by omega), if_pos (by omega), if_pos (by omega), rd_lt _ _ hi2, if_pos hx, h1]
    · have ih := rooks_l0 hl d (i + 1) (n + 1) (by omega) (by omega)
      rw [rooksN] at ih
      rw [if_pos (by simpa using hx)]
      rw [show n + (List.countP (fun x => x != -1) (List.drop (i + 1) l) + 1) = n + 1 + List.countP (fun x => x != -1) (List.drop (i + 1) l) by omega]
      refine Ev.step (fun k => ?_) ih
      rw [impl_rooks.l0, if_pos (by omega), if_pos (by omega), if_pos (by omega), rd_lt _ _ hi2, if_neg hx, h1, h2]
theorem rooks_f {l : List Int} (hl : l.length ≤ 1048576) : ∃ k, impl_rooks.f k l = some (rooksN l : Int) := by
  have h := rooks_l0 hl l.length 0 0 (by omega) (by omega)
  rw [List.drop_zero, Nat.zero_add] at h
  exact h.rounds
end Go.Proofs.YtihnjbfjdkdhaaaGreat.Walk
end
section
namespace Go.Proofs.YtihnjbfjdkdhaaaGreat.FreeK
set_option linter.unusedVariables false
set_option linter.unusedSectionVars false
open Go.RowKit Go.Proofs.YtihnjbfjdkdhaaaGreat.Q Go.Proofs.YtihnjbfjdkdhaaaGreatW.PrintWords Go.Proofs.YtihnjbfjdkdhaaaGreatW.PrintLast Go.Proofs.YtihnjbfjdkdhaaaGreatW.PrintMore
open Go.Proofs.YtihnjbfjdkdhaaaGreatL Go.Proofs.YtihnjbfjdkdhaaaGreat.LawK Go.Proofs.YtihnjbfjdkdhaaaGreat.BoardK Go.Proofs.YtihnjbfjdkdhaaaGreat.PermK Go.Proofs.YtihnjbfjdkdhaaaGreat.LensK
def taken (p : List Int) (i : Nat) (c : Nat) : Bool := (decide (p.getD i 0 ≠ -1) && decide (p.getD i 0 ≤ c)) || decide ((c : Int) ∈ p.take i)
def rowFree (p : List Int) (i : Nat) : Nat → Nat → Int → Int
  | 0, _, n => n
  | d + 1, c, n => rowFree p i d (c + 1) (if taken p i c then n else n + 1)
def allFree (p : List Int) : List Int → Nat → Int → Int
  | [], _, n => n
  | m :: t, i, n => allFree p t (i + 1) (rowFree p i m.toNat 0 n)
theorem rowFree_bound (p : List Int) (i : Nat) : ∀ d c n, n ≤ rowFree p i d c n ∧ rowFree p i d c n ≤ n + d
  | 0, c, n => by simp [rowFree]
  | d + 1, c, n => by
    rw [rowFree]
    by_cases h : taken p i c = true
    · rw [if_pos h]; have := rowFree_bound p i d (c + 1) n; omega
    · rw [if_neg h]; have := rowFree_bound p i d (c + 1) (n + 1); omega
section
variable {l p : List Int} (hl6 : l.length ≤ 6) (hin : ∀ i (hi : i < l.length), 0 ≤ l[i] ∧ l[i] ≤ 6) (hp : p.length = l.length)
include hl6 hin hp
theorem spec_row {i m : Nat} (hi : i < l.length) (hm : m ≤ 6) {g : Int} : ∀ (d c : Nat) (n : Int), c + d = m → 0 ≤ n → n ≤ 6 * i + c →
    Ev (fun k => spec_weFree.l0 k p (rowFree p i d c n) l (l.length : Int) ((i + 1 : Nat) : Int)) g → Ev (fun k => spec_weFree.l1 k p n i m c l (l.length : Int) i) g
  | 0, c, n, hc, h0, hn, next => by
    have e1 : wrap64 ((i : Int) + 1) = ((i + 1 : Nat) : Int) := by rw [w64 (by omega) (by omega)]; rfl
    refine Ev.step (fun k => ?_) next
    rw [spec_weFree.l1, if_neg (by omega), e1]; rfl
  | d + 1, c, n, hc, h0, hn, next => by
    have e1 : wrap64 ((c : Int) + 1) = ((c + 1 : Nat) : Int) := by rw [w64 (by omega) (by omega)]; rfl
    have e2 : wrap64 (n + 1) = n + 1 := w64 (by omega) (by omega)
    rw [rowFree] at next
    have ihT := fun (h : taken p i c = true) => spec_row hi hm d (c + 1) n (by omega) h0 (by omega) (by rw [if_pos h] at next; exact next)
    have ihF := fun (h : ¬ taken p i c = true) => spec_row hi hm d (c + 1) (n + 1) (by omega) (by omega) (by omega) (by rw [if_neg h] at next; exact next)
    have hstep : ∀ k, spec_weFree.l1 (k + 1) p n i m c l (l.length : Int) i = _ := fun k => by rw [spec_weFree.l1, if_pos (by omega), if_pos (by omega), if_pos (by omega), rd_nat, e1, e2, Int.toNat_natCast]
    have hhas := l1Has (l := p.take i) (c : Int) (by simp; omega)
    by_cases h1 : p.getD i 0 = -1
    · refine Ev.step (fun k => by rw [hstep, if_pos h1, if_pos (by omega)]) (Ev.bind hhas ?_)
      by_cases h2 : (c : Int) ∈ p.take i
      · exact Ev.congr (fun k => by rw [if_pos (by simpa using h2)]) (ihT (by unfold taken; rw [decide_eq_true h2, Bool.or_true]))
      · exact Ev.congr (fun k => by rw [if_neg (by simpa using h2)]) (ihF (by unfold taken; rw [decide_eq_false (show ¬ p.getD i 0 ≠ -1 from fun h => h h1), decide_eq_false h2]; simp))
    · by_cases h3 : p.getD i 0 ≤ c
      · exact Ev.step (fun k => by rw [hstep, if_neg h1, if_pos h3]) (ihT (by unfold taken; rw [decide_eq_true h1, decide_eq_true h3]; rfl))
      · refine Ev.step (fun k => by rw [hstep, if_neg h1, if_neg h3, if_pos (by omega)]) (Ev.bind hhas ?_)
        by_cases h2 : (c : Int) ∈ p.take i
        · exact Ev.congr (fun k => by rw [if_pos (by simpa using h2)]) (ihT (by unfold taken; rw [decide_eq_true h2, Bool.or_true]))
        · exact Ev.congr (fun k => by rw [if_neg (by simpa using h2)]) (ihF (by unfold taken; rw [decide_eq_false h2, decide_eq_false h3]; simp))
theorem impl_row {i m : Nat} (hi : i < l.length) (hm : m ≤ 6) {g : Int} : ∀ (d c : Nat) (n : Int), c + d = m → 0 ≤ n → n ≤ 6 * i + c →
    Ev (fun k => impl_free.l0 k p (rowFree p i d c n) l (l.length : Int) ((i + 1 : Nat) : Int)) g → Ev (fun k => impl_free.l1 k p n i l (l.length : Int) i m c) g
  | 0, c, n, hc, h0, hn, next => by
    have e1 : wrap64 ((i : Int) + 1) = ((i + 1 : Nat) : Int) := by rw [w64 (by omega) (by omega)]; rfl
    refine Ev.step (fun k => ?_) next
    rw [impl_free.l1, if_neg (by omega), e1]; rfl
  | d + 1, c, n, hc, h0, hn, next => by
    have e1 : wrap64 ((c : Int) + 1) = ((c + 1 : Nat) : Int) := by rw [w64 (by omega) (by omega)]; rfl
    have e2 : wrap64 (n + 1) = n + 1 := w64 (by omega) (by omega)
    rw [rowFree] at next
    have ihT := fun (h : taken p i c = true) => impl_row hi hm d (c + 1) n (by omega) h0 (by omega) (by rw [if_pos h] at next; exact next)
    have ihF := fun (h : ¬ taken p i c = true) => impl_row hi hm d (c + 1) (n + 1) (by omega) (by omega) (by omega) (by rw [if_neg h] at next; exact next)
    have hstep : ∀ k, impl_free.l1 (k + 1) p n i l (l.length : Int) i m c = _ := fun k => by rw [impl_free.l1, if_pos (by omega), if_pos (by omega), if_pos (by omega), rd_nat, e1, e2, Int.toNat_natCast]
    have hhas := contains (l := p.take i) (c : Int) (by simp; omega)
    by_cases h1 : p.getD i 0 = -1
    · refine Ev.step (fun k => by rw [hstep, if_pos h1, if_pos (by omega)]) (Ev.bind hhas ?_)
      by_cases h2 : (c : Int) ∈ p.take i
      · exact Ev.congr (fun k => by rw [if_pos (by simpa using h2)]) (ihT (by unfold taken; rw [decide_eq_true h2, Bool.or_true]))
      · exact Ev.congr (fun k => by rw [if_neg (by simpa using h2)]) (ihF (by unfold taken; rw [decide_eq_false (show ¬ p.getD i 0 ≠ -1 from fun h => h h1), decide_eq_false h2]; simp))
    · by_cases h3 : p.getD i 0 ≤ c
      · exact Ev.step (fun k => by rw [hstep, if_neg h1, if_pos h3]) (ihT (by unfold taken; rw [decide_eq_true h1, decide_eq_true h3]; rfl))
      · refine Ev.step (fun k => by rw [hstep, if_neg h1, if_neg h3, if_pos (by omega)]) (Ev.bind hhas ?_)
        by_cases h2 : (c : Int) ∈ p.take i
        · exact Ev.congr (fun k => by rw [if_pos (by simpa using h2)]) (ihT (by unfold taken; rw [decide_eq_true h2, Bool.or_true]))
        · exact Ev.congr (fun k => by rw [if_neg (by simpa using h2)]) (ihF (by unfold taken; rw [decide_eq_false h2, decide_eq_false h3]; simp))
theorem spec_rows : ∀ (d i : Nat) (n : Int), i + d = l.length → 0 ≤ n → n ≤ 6 * i → Ev (fun k => spec_weFree.l0 k p n l (l.length : Int) i) (allFree p (l.drop i) i n)
  | 0, i, n, hi, h0, hn => by
    refine Ev.step (f := fun _ => some n) (fun k => ?_) (evEq (Ev.now _) (by rw [List.drop_eq_nil_of_le (by omega)]; rfl))
    rw [spec_weFree.l0, if_neg (by omega)]
  | d + 1, i, n, hi, h0, hn => by
    have hi2 : i < l.length := by omega
    obtain ⟨m, hm⟩ : ∃ m : Nat, l[i] = m := ⟨l[i].toNat, by have := hin i hi2; omega⟩
    have hm6 : m ≤ 6 := by have := hin i hi2; omega
    rw [List.drop_eq_getElem_cons hi2, allFree, hm, Int.toNat_natCast]
    have hbd := rowFree_bound p i m 0 n
    refine Ev.step (fun k => ?_) (spec_row hl6 hin hp hi2 hm6 m 0 n (by omega) h0 (by omega) (spec_rows d (i + 1) _ (by omega) (by omega) (by omega)))
    rw [spec_weFree.l0, if_pos (by omega), if_pos (by omega), if_pos (by omega), rd_lt _ _ hi2, hm]; rfl
theorem impl_rows : ∀ (d i : Nat) (n : Int), i + d = l.length → 0 ≤ n → n ≤ 6 * i → Ev (fun k => impl_free.l0 k p n l (l.length : Int) i) (allFree p (l.drop i) i n)
  | 0, i, n, hi, h0, hn => by
    refine Ev.step (f := fun _ => some n) (fun k => ?_) (evEq (Ev.now _) (by rw [List.drop_eq_nil_of_le (by omega)]; rfl))
    rw [impl_free.l0, if_neg (by omega)]
  | d + 1, i, n, hi, h0, hn => by
    have hi2 : i < l.length := by omega
    obtain ⟨m, hm⟩ : ∃ m : Nat, l[i] = m := ⟨l[i].toNat, by have := hin i hi2; omega⟩
    have hm6 : m ≤ 6 := by have := hin i hi2; omega
    rw [List.drop_eq_getElem_cons hi2, allFree, hm, Int.toNat_natCast]
    have hbd := rowFree_bound p i m 0 n
    refine Ev.step (fun k => ?_) (impl_row hl6 hin hp hi2 hm6 m 0 n (by omega) h0 (by omega) (impl_rows d (i + 1) _ (by omega) (by omega) (by omega)))
    rw [impl_free.l0, if_pos (by omega), if_pos (by omega), if_pos (by omega), rd_lt _ _ hi2, hm]; rfl
end
end Go.Proofs.YtihnjbfjdkdhaaaGreat.FreeK
end
section
end
