/- Texts of this claim put together (13): words, what the functions compute, and plain facts. No conditions. -/
import Derived.Test.YtiopnmgcajohfaaSFnHitsAndRooks11
import Derived.Test.YtiopnmgcajohfaaSFnHitsAndRooks9
import Derived.Test.YtiopnmgcajohfaaSFnHitsAndRooks4
import Derived.Test.YtiopnmgcajohfaaSFnHitsAndRooks10
import Derived.Test.YtiopnmgcajohfaaSFnHitsAndRooks8
import Derived.Test.YtiopnmgcajohfaaSFnHitsAndRooks6
import Derived.Test.YtiopnmgcajohfaaSFnHitsAndRooks7
import Derived.Test.YtiopnmgcajohfaaSFnHitsAndRooks12
import Derived.OpenShut
import Derived.Test.YtiopnmgcajohfaaSFnHitsAndRooks0
section
namespace Go.Proofs.Ytiopnmgcajohfaa.HitsK
set_option linter.unusedVariables false
open Go.RowKit Go.Proofs.Ytiopnmgcajohfaa.Q Go.Proofs.YtiopnmgcajohfaaW.PrintWords Go.Proofs.YtiopnmgcajohfaaW.PrintLast Go.Proofs.YtiopnmgcajohfaaW.PrintMore
open Go.Proofs.YtiopnmgcajohfaaL Go.Proofs.Ytiopnmgcajohfaa.LawK
def inSum (x : Int) : Bool := decide (0 ≤ x ∧ x ≤ 1000000)
def goodL (l : List Int) : Bool := decide (2 ≤ l.length ∧ l.length ≤ 7) && l.all inSum
theorem all_l0 {l : List Int} (hl : l.length ≤ 4611686018427387904) : ∀ (d i : Nat), i + d = l.length → (l.take i).all inSum = true → Ev (fun k => spec_l1All.l0 k 0 1000000 l (l.length : Int) i) (l.all inSum)
  | 0, i, hi, ht => by
    refine Ev.step (f := fun _ => some (l.all inSum)) (fun k => ?_) (Ev.now _)
    rw [List.take_of_length_le (by omega)] at ht
    rw [spec_l1All.l0, if_neg (by omega), ht]
  | d + 1, i, hi, ht => by
    have h1 : wrap64 ((i : Int) + 1) = ((i + 1 : Nat) : Int) := by rw [w64 (by omega) (by omega)]; rfl
    have h2 : spec_l1In.f (rd l (i : Int)) 0 1000000 = some (inSum l[i]) := by
      unfold spec_l1In.f inSum
      rw [rd_lt _ _ (by omega)]
      by_cases a : l[i] ≥ 0
      · rw [if_pos a]; congr 1; simp; omega
      · rw [if_neg a]; congr 1; simp; omega
    by_cases e : inSum l[i] = true
    · refine Ev.step (fun k => ?_) (all_l0 hl d (i + 1) (by omega) ?_)
      · rw [spec_l1All.l0, if_pos (by omega), if_pos (by omega), if_pos (by omega), h2, Option.bind_some, if_pos e, h1]
      · rw [List.take_succ_eq_append_getElem (by omega), List.all_append, ht]; simp [e]
    · refine Ev.step (f := fun _ => some (l.all inSum)) (fun k => ?_) (Ev.now _)
      rw [spec_l1All.l0, if_pos (by omega), if_pos (by omega), if_pos (by omega), h2, Option.bind_some, if_neg e]
      have : l.all inSum = false := by
        rw [List.all_eq_false]; exact ⟨l[i], List.getElem_mem _, e⟩
      rw [this]
theorem hiList {l : List Int} (hl : l.length ≤ 4611686018427387904) : Ev (fun k => spec_hiList.f k l) (goodL l) := by
  have h2 : spec_l1In.f (l.length : Int) 2 7 = some (decide (2 ≤ l.length ∧ l.length ≤ 7)) := by
    unfold spec_l1In.f
    by_cases a : (l.length : Int) ≥ 2
    · rw [if_pos a]; congr 1; exact decide_eq_decide.mpr (by omega)
    · rw [if_neg a]; congr 1; simp; omega
  by_cases e : 2 ≤ l.length ∧ l.length ≤ 7
  · refine Ev.congr (f := fun k => (spec_l1All.f k l 0 1000000).bind fun t => some t) (fun k => ?_) ?_
    · unfold spec_hiList.f
      rw [h2, Option.bind_some, if_pos (by simp [e])]
    · refine Ev.bind (a := l.all inSum) ?_ ?_
      · refine Ev.congr (fun k => ?_) (all_l0 hl l.length 0 (by omega) (by simp))
        unfold spec_l1All.f; rfl
      · unfold goodL; simp only [e, and_self, decide_true, Bool.true_and]; exact Ev.now _
  · refine Ev.congr (f := fun _ => some (goodL l)) (fun k => ?_) (Ev.now _)
    unfold spec_hiList.f goodL
    rw [h2, Option.bind_some, if_neg (by simpa using e)]
    simp [e]
theorem idx_l0 {l : List Int} (hl : l.length ≤ 4611686018427387904) : ∀ (d i : Nat), i + d = l.length → (l.take i).all inSum = true → ∃ r : Int, (decide (r ≥ 0) = !l.all inSum) ∧ Ev (fun k => slices_IndexFunc_int_int__at_impl_areSums_1.l0 k l (l.length : Int) i) r
  | 0, i, hi, ht => by
    rw [List.take_of_length_le (by omega)] at ht
    refine ⟨-1, by rw [ht]; rfl, Ev.step (f := fun _ => some (-1)) (fun k => ?_) (Ev.now _)⟩
    rw [slices_IndexFunc_int_int__at_impl_areSums_1.l0, if_neg (by omega)]
  | d + 1, i, hi, ht => by
    have h1 : wrap64 ((i : Int) + 1) = ((i + 1 : Nat) : Int) := by rw [w64 (by omega) (by omega)]; rfl
    have h2 : impl_areSums_1.f (rd l (i : Int)) = some (!inSum l[i]) := by
      unfold impl_areSums_1.f impl_within.f inSum
      rw [rd_lt _ _ (by omega)]
      by_cases a : (0 : Int) ≤ l[i]
      · rw [if_pos a, Option.bind_some]; congr 2; simp; omega
      · rw [if_neg a, Option.bind_some]; congr 2; simp; omega
    by_cases e : inSum l[i] = true
    · obtain ⟨r, hr, hev⟩ := idx_l0 hl d (i + 1) (by omega) (by
        rw [List.take_succ_eq_append_getElem (by omega), List.all_append, ht]; simp [e])
      refine ⟨r, hr, Ev.step (fun k => ?_) hev⟩
      rw [slices_IndexFunc_int_int__at_impl_areSums_1.l0, if_pos (by omega), if_pos (by omega), if_pos (by omega), h2, Option.bind_some, e]
      rw [if_neg (by simp), h1]
    · have hf : l.all inSum = false := by
        rw [List.all_eq_false]; exact ⟨l[i], List.getElem_mem _, e⟩
      refine ⟨i, by rw [hf]; simp, Ev.step (f := fun _ => some (i : Int)) (fun k => ?_) (Ev.now _)⟩
      rw [slices_IndexFunc_int_int__at_impl_areSums_1.l0, if_pos (by omega), if_pos (by omega), if_pos (by omega), h2, Option.bind_some, if_pos (by simp [e])]
theorem areSums {l : List Int} (hl : l.length ≤ 4611686018427387904) : Ev (fun k => impl_areSums.f k l) (goodL l) := by
  have h2 : impl_within.f (l.length : Int) 2 7 = some (decide (2 ≤ l.length ∧ l.length ≤ 7)) := by
    unfold impl_within.f
    by_cases a : 2 ≤ (l.length : Int)
    · rw [if_pos a]; congr 1; exact decide_eq_decide.mpr (by omega)
    · rw [if_neg a]; congr 1; simp; omega
  by_cases e : 2 ≤ l.length ∧ l.length ≤ 7
  · obtain ⟨r, hr, hev⟩ := idx_l0 hl l.length 0 (by omega) (by simp)
    refine Ev.congr (f := fun k => (slices_ContainsFunc_int_int__at_impl_areSums_1.f k l).bind fun t => some (!t)) (fun k => ?_) ?_
    · unfold impl_areSums.f
      rw [h2, Option.bind_some, if_pos (by simp [e])]
    · refine Ev.bind (a := decide (r ≥ 0)) ?_ ?_
      · unfold slices_ContainsFunc_int_int__at_impl_areSums_1.f slices_IndexFunc_int_int__at_impl_areSums_1.f
        exact Ev.bind (a := r) hev (Ev.now _)
      · rw [hr]
        unfold goodL; simp only [e, and_self, decide_true, Bool.true_and, Bool.not_not]; exact Ev.now _
  · refine Ev.congr (f := fun _ => some (goodL l)) (fun k => ?_) (Ev.now _)
    unfold impl_areSums.f goodL
    rw [h2, Option.bind_some, if_neg (by simpa using e)]
    simp [e]
def fact : Nat → Int
  | 0 => 1
  | n + 1 => (n + 1) * fact n
def pol : Nat → List Int := fun j => [[1], [-1, 1], [1, -2, 1], [-1, 3, -3, 1], [1, -4, 6, -4, 1], [-1, 5, -10, 10, -5, 1], [1, -6, 15, -20, 15, -6, 1], [-1, 7, -21, 35, -35, 21, -7, 1]].getD j []
theorem spec_fact {n : Nat} (h : n ≤ 6) : Ev (fun k => spec_hiFactorial.f k n) (fact n) := by
  have : ∀ i : Fin 7, spec_hiFactorial.f 20 (i.val : Int) = some (fact i.val) := by decide +kernel
  exact Ev.of (fun k => spec_hiFactorial.mono _ k) (this ⟨n, by omega⟩)
theorem impl_fact {n : Nat} (h : n ≤ 6) : Ev (fun k => impl_factorial.f k n) (fact n) := by
  have : ∀ i : Fin 7, impl_factorial.f 20 (i.val : Int) = some (fact i.val) := by decide +kernel
  exact Ev.of (fun k => impl_factorial.mono _ k) (this ⟨n, by omega⟩)
def sgn (j i : Nat) : Int := if (j - i) % 2 = 1 then -1 else 1
theorem spec_choose {j i : Nat} (hj : j ≤ 6) (hi : i ≤ j) : Ev (fun k => spec_hiChoose.f k j i) (sgn j i * (pol j).getD i 0) := by
  have : ∀ a b : Fin 7, b.val ≤ a.val → spec_hiChoose.f 20 (a.val : Int) (b.val : Int) = some (sgn a.val b.val * (pol a.val).getD b.val 0) := by decide +kernel
  exact Ev.of (fun k => spec_hiChoose.mono _ _ k) (this ⟨j, by omega⟩ ⟨i, by omega⟩ hi)
theorem impl_prod {j : Nat} (hj : j ≤ 6) : Ev (fun k => impl_product.f k (pol j) [-1, 1]) (pol (j + 1)) := by
  have : ∀ a : Fin 7, impl_product.f 60 (pol a.val) [-1, 1] = some (pol (a.val + 1)) := by decide +kernel
  exact Ev.of (fun k => impl_product.mono _ _ k) (this ⟨j, by omega⟩)
theorem pol_length {j : Nat} (hj : j ≤ 6) : (pol j).length = j + 1 := by
  have : ∀ a : Fin 7, (pol a.val).length = a.val + 1 := by decide
  exact this ⟨j, by omega⟩
theorem pol_bound {j i : Nat} (hj : j ≤ 6) (hi : i ≤ j) : -20 ≤ (pol j).getD i 0 ∧ (pol j).getD i 0 ≤ 20 := by
  have : ∀ a b : Fin 7, b.val ≤ a.val → -20 ≤ (pol a.val).getD b.val 0 ∧ (pol a.val).getD b.val 0 ≤ 20 := by decide
  exact this ⟨j, by omega⟩ ⟨i, by omega⟩ hi
theorem fact_bound {n : Nat} (h : n ≤ 6) : 1 ≤ fact n ∧ fact n ≤ 720 := by
  have : ∀ i : Fin 7, 1 ≤ fact i.val ∧ fact i.val ≤ 720 := by decide
  exact this ⟨n, by omega⟩
def term (n j : Nat) (r : Int) (i : Nat) : Int := r * fact (n - j) * (pol j).getD i 0
def inner (n j : Nat) (r : Int) : Nat → Nat → List Int → List Int
  | 0, _, x => x
  | d + 1, i, x => inner n j r d (i + 1) (x.set i (wrap64 (x.getD i 0 + term n j r i)))
def outer (n : Nat) (l : List Int) : Nat → Nat → List Int → List Int
  | 0, _, x => x
  | d + 1, j, x => outer n l d (j + 1) (inner n j (l.getD j 0) (j + 1) 0 x)
theorem inner_length (n j : Nat) (r : Int) : ∀ d i x, (inner n j r d i x).length = x.length
  | 0, _, _ => rfl
  | d + 1, i, x => by rw [inner, inner_length]; simp
theorem outer_length (n : Nat) (l : List Int) : ∀ d j x, (outer n l d j x).length = x.length
  | 0, _, _ => rfl
  | d + 1, j, x => by rw [outer, outer_length, inner_length]
def hitsOfRooks (l : List Int) : List Int := outer (l.length - 1) l l.length 0 (List.replicate l.length 0)
theorem rf_bound {r f : Int} (h0 : 0 ≤ r) (h1 : r ≤ 1000000) (f0 : 1 ≤ f) (f1 : f ≤ 720) : 0 ≤ r * f ∧ r * f ≤ 720000000 := by
  refine ⟨Int.mul_nonneg h0 (by omega), ?_⟩
  have := Int.mul_le_mul h1 f1 (by omega) (by omega)
  omega
theorem rfp_bound {a p : Int} (h0 : 0 ≤ a) (h1 : a ≤ 720000000) (p0 : -20 ≤ p) (p1 : p ≤ 20) : -14400000000 ≤ a * p ∧ a * p ≤ 14400000000 := by
  have e1 := Int.mul_le_mul_of_nonneg_left p1 h0
  have e2 := Int.mul_le_mul_of_nonneg_left p0 h0
  omega
theorem mem_bound {l : List Int} (hg : goodL l = true) {j : Nat} (hj : j < l.length) : 0 ≤ l.getD j 0 ∧ l.getD j 0 ≤ 1000000 := by
  unfold goodL at hg
  simp only [Bool.and_eq_true, List.all_eq_true] at hg
  have := hg.2 l[j] (List.getElem_mem hj)
  unfold inSum at this
  rw [gD_lt _ _ hj]
  simpa using this
theorem good_length {l : List Int} (hg : goodL l = true) : 2 ≤ l.length ∧ l.length ≤ 7 := by
  unfold goodL at hg
  simp only [Bool.and_eq_true, decide_eq_true_eq] at hg
  exact hg.1
theorem spec_l1 {l : List Int} {n j : Nat} (hn : n ≤ 6) (hj : j ≤ n) {r : Int} (h0 : 0 ≤ r) (h1 : r ≤ 1000000) (b c : Int) {R : List Int × Bool} : ∀ (d i : Nat) (x : List Int), i + d = j + 1 → x.length = n + 1 →
    Ev (fun k => spec_HitsFromRooks.l0 k n (inner n j r d i x) l b (wrap64 (c + 1))) R → Ev (fun k => spec_HitsFromRooks.l1 k n x j r i l b c) R
  | 0, i, x, hi, hx, H => by
    refine Ev.step (fun k => ?_) H
    rw [spec_HitsFromRooks.l1, if_neg (by omega), inner]
  | d + 1, i, x, hi, hx, H => by
    have hw1 : wrap64 ((i : Int) + 1) = ((i + 1 : Nat) : Int) := by rw [w64 (by omega) (by omega)]; rfl
    have hw2 : wrap64 ((n : Int) - j) = ((n - j : Nat) : Int) := by rw [w64 (by omega) (by omega)]; omega
    have hw3 : wrap64 ((j : Int) - i) = ((j - i : Nat) : Int) := by rw [w64 (by omega) (by omega)]; omega
    have f := fact_bound (show n - j ≤ 6 by omega)
    have b1 := rf_bound h0 h1 f.1 f.2
    have p := pol_bound (show j ≤ 6 by omega) (show i ≤ j by omega)
    have b2 := rfp_bound b1.1 b1.2 p.1 p.2
    refine Ev.step (fun k => by rw [spec_HitsFromRooks.l1, if_pos (by omega), hw2, hw3]) ?_
    refine Ev.bind (spec_fact (by omega : n - j ≤ 6)) ?_
    refine Ev.bind (spec_choose (by omega : j ≤ 6) (by omega : i ≤ j)) ?_
    have ht : Int.tmod ((j - i : Nat) : Int) 2 = (((j - i) % 2 : Nat) : Int) := tmod_nat (j - i) 2
    have ih := spec_l1 hn hj h0 h1 b c (R := R) d (i + 1) (x.set i (wrap64 (x.getD i 0 + term n j r i))) (by omega) (by simpa using hx) (by rw [inner] at H; exact H)
    refine Ev.congr (fun k => ?_) ih
    show (if Int.tmod ((j - i : Nat) : Int) 2 = 1 then _ else _) = _
    rw [ht]
    by_cases ho : (j - i) % 2 = 1
    · have es : wrap64 (-(wrap64 (wrap64 (r * fact (n - j)) * (sgn j i * (pol j).getD i 0)))) = term n j r i := by
        unfold sgn term
        rw [if_pos ho, w64 (n := r * fact (n - j)) (by omega) (by omega), Int.neg_mul, Int.one_mul, Int.mul_neg, w64 (n := -(r * fact (n - j) * (pol j).getD i 0)) (by omega) (by omega), Int.neg_neg, w64 (by omega) (by omega)]
      rw [if_pos (by omega), if_pos (by omega), if_pos (by omega), es, hw1, rd_nat, Int.toNat_natCast]
    · have es : wrap64 (wrap64 (r * fact (n - j)) * (sgn j i * (pol j).getD i 0)) = term n j r i := by
        unfold sgn term
        rw [if_neg ho, w64 (n := r * fact (n - j)) (by omega) (by omega), Int.one_mul, w64 (by omega) (by omega)]
      rw [if_neg (by omega), if_pos (by omega), if_pos (by omega), es, hw1, rd_nat, Int.toNat_natCast]
theorem spec_l0 {l : List Int} (hg : goodL l = true) : ∀ (d j : Nat) (x : List Int), j + d = l.length → x.length = l.length →
    Ev (fun k => spec_HitsFromRooks.l0 k (l.length - 1 : Nat) x l (l.length : Int) j) (outer (l.length - 1) l d j x, true)
  | 0, j, x, hj, hx => by
    refine Ev.step (f := fun _ => some (x, true)) (fun k => ?_) (Ev.now _)
    rw [spec_HitsFromRooks.l0, if_neg (by omega)]
  | d + 1, j, x, hj, hx => by
    have hl := good_length hg
    have hm := mem_bound hg (show j < l.length by omega)
    have hw1 : wrap64 ((j : Int) + 1) = ((j + 1 : Nat) : Int) := by rw [w64 (by omega) (by omega)]; rfl
    have ih := spec_l0 hg d (j + 1) (inner (l.length - 1) j (l.getD j 0) (j + 1) 0 x) (by omega) (by rw [inner_length]; exact hx)
    refine Ev.step (fun k => by rw [spec_HitsFromRooks.l0, if_pos (by omega), if_pos (by omega), if_pos (by omega), rd_nat]) ?_
    rw [outer]
    exact spec_l1 (n := l.length - 1) (j := j) (by omega) (by omega) hm.1 hm.2 (l.length : Int) j (j + 1) 0 x (by omega) (by omega) (by rw [hw1]; exact ih)
theorem spec_hitsFromRooks {l : List Int} (hl : l.length ≤ 1048576) : Ev (fun k => spec_HitsFromRooks.f k l) (if goodL l then (hitsOfRooks l, true) else ([], false)) := by
  unfold spec_HitsFromRooks.f
  refine Ev.bind (hiList (by omega)) ?_
  by_cases hg : goodL l = true
  · have hn := good_length hg
    have hw : wrap64 ((l.length : Int) - 1) = ((l.length - 1 : Nat) : Int) := by rw [w64 (by omega) (by omega)]; omega
    have hw2 : wrap64 (((l.length - 1 : Nat) : Int) + 1) = (l.length : Int) := by rw [w64 (by omega) (by omega)]; omega
    rw [if_pos hg]
    refine Ev.congr (fun k => ?_) (spec_l0 hg l.length 0 (List.replicate l.length 0) (by omega) (by simp))
    rw [if_pos hg, hw, hw2, if_pos (by omega), Int.toNat_natCast, if_pos (by omega)]; rfl
  · rw [if_neg hg]
    refine Ev.congr (fun k => ?_) (Ev.now _)
    rw [if_neg hg]
theorem impl_l1 {l : List Int} {n j : Nat} (hn : n ≤ 6) (hj : j ≤ n) {r : Int} (h0 : 0 ≤ r) (h1 : r ≤ 1000000) (b c : Int) {R : List Int × Bool} : ∀ (d i : Nat) (x : List Int), i + d = j + 1 → x.length = n + 1 →
    Ev (fun k => impl_HitsFromRooks.l0 k n (pol (j + 1)) (inner n j r d i x) l b (wrap64 (c + 1))) R → Ev (fun k => impl_HitsFromRooks.l1 k n (pol j) x j r l b c (pol j) ((pol j).length : Int) i) R
  | 0, i, x, hi, hx, H => by
    have hp := pol_length (show j ≤ 6 by omega)
    refine Ev.step (fun k => by rw [impl_HitsFromRooks.l1, if_neg (by omega)]) ?_
    refine Ev.bind (impl_prod (by omega)) ?_
    rw [inner] at H
    exact H
  | d + 1, i, x, hi, hx, H => by
    have hp := pol_length (show j ≤ 6 by omega)
    have hw1 : wrap64 ((i : Int) + 1) = ((i + 1 : Nat) : Int) := by rw [w64 (by omega) (by omega)]; rfl
    have hw2 : wrap64 ((n : Int) - j) = ((n - j : Nat) : Int) := by rw [w64 (by omega) (by omega)]; omega
    have f := fact_bound (show n - j ≤ 6 by omega)
    have b1 := rf_bound h0 h1 f.1 f.2
    have p := pol_bound (show j ≤ 6 by omega) (show i ≤ j by omega)
    have b2 := rfp_bound b1.1 b1.2 p.1 p.2
    refine Ev.step (fun k => by rw [impl_HitsFromRooks.l1, if_pos (by omega), if_pos (by omega), if_pos (by omega), if_pos (by omega), hw2]) ?_
    refine Ev.bind (impl_fact (by omega : n - j ≤ 6)) ?_
    have ih := impl_l1 hn hj h0 h1 b c (R := R) d (i + 1) (x.set i (wrap64 (x.getD i 0 + term n j r i))) (by omega) (by simpa using hx) (by rw [inner] at H; exact H)
    have es : wrap64 (wrap64 (r * fact (n - j)) * (pol j).getD i 0) = term n j r i := by
      unfold term
      rw [w64 (n := r * fact (n - j)) (by omega) (by omega), w64 (by omega) (by omega)]
    refine Ev.congr (fun k => ?_) ih
    show impl_HitsFromRooks.l1 k n (pol j) (x.set (i : Int).toNat (wrap64 (rd x i + wrap64 (wrap64 (r * fact (n - j)) * rd (pol j) i)))) j r l b c (pol j) ((pol j).length : Int) (wrap64 ((i : Int) + 1)) = _
    rw [rd_nat, rd_nat, es, hw1, Int.toNat_natCast]
theorem impl_l0 {l : List Int} (hg : goodL l = true) : ∀ (d j : Nat) (x : List Int), j + d = l.length → x.length = l.length →
    Ev (fun k => impl_HitsFromRooks.l0 k (l.length - 1 : Nat) (pol j) x l (l.length : Int) j) (outer (l.length - 1) l d j x, true)
  | 0, j, x, hj, hx => by
    refine Ev.step (f := fun _ => some (x, true)) (fun k => ?_) (Ev.now _)
    rw [impl_HitsFromRooks.l0, if_neg (by omega)]
  | d + 1, j, x, hj, hx => by
    have hl := good_length hg
    have hm := mem_bound hg (show j < l.length by omega)
    have hw1 : wrap64 ((j : Int) + 1) = ((j + 1 : Nat) : Int) := by rw [w64 (by omega) (by omega)]; rfl
    have ih := impl_l0 hg d (j + 1) (inner (l.length - 1) j (l.getD j 0) (j + 1) 0 x) (by omega) (by rw [inner_length]; exact hx)
    refine Ev.step (fun k => by rw [impl_HitsFromRooks.l0, if_pos (by omega), if_pos (by omega), if_pos (by omega), rd_nat]) ?_
    rw [outer]
    exact impl_l1 (n := l.length - 1) (j := j) (by omega) (by omega) hm.1 hm.2 (l.length : Int) j (j + 1) 0 x (by omega) (by omega) (by rw [hw1]; exact ih)
theorem impl_hitsFromRooks {l : List Int} (hl : l.length ≤ 1048576) : Ev (fun k => impl_HitsFromRooks.f k l) (if goodL l then (hitsOfRooks l, true) else ([], false)) := by
  unfold impl_HitsFromRooks.f
  refine Ev.bind (areSums (by omega)) ?_
  by_cases hg : goodL l = true
  · have hn := good_length hg
    have hw : wrap64 ((l.length : Int) - 1) = ((l.length - 1 : Nat) : Int) := by rw [w64 (by omega) (by omega)]; omega
    have hw2 : wrap64 (((l.length - 1 : Nat) : Int) + 1) = (l.length : Int) := by rw [w64 (by omega) (by omega)]; omega
    rw [if_pos hg]
    refine Ev.congr (fun k => ?_) (impl_l0 hg l.length 0 (List.replicate l.length 0) (by omega) (by simp))
    rw [if_pos hg, hw, hw2, if_pos (by omega), Int.toNat_natCast, if_pos (by omega)]; rfl
  · rw [if_neg hg]
    refine Ev.congr (fun k => ?_) (Ev.now _)
    rw [if_neg hg]
end Go.Proofs.Ytiopnmgcajohfaa.HitsK
end
section
namespace Go.Proofs.Ytiopnmgcajohfaa.HitsK
set_option linter.unusedVariables false
open Go.RowKit Go.Proofs.Ytiopnmgcajohfaa.Q Go.Proofs.YtiopnmgcajohfaaW.PrintWords Go.Proofs.YtiopnmgcajohfaaW.PrintLast Go.Proofs.YtiopnmgcajohfaaW.PrintMore
open Go.Proofs.YtiopnmgcajohfaaL Go.Proofs.Ytiopnmgcajohfaa.LawK
def ch : Nat → Nat → Int
  | _, 0 => 1
  | 0, _ + 1 => 0
  | j + 1, k + 1 => ch j k + ch j (k + 1)
theorem ch_bound {j k : Nat} (hj : j ≤ 6) (hk : k ≤ 6) : 0 ≤ ch j k ∧ ch j k ≤ 20 := by
  have : ∀ a b : Fin 7, 0 ≤ ch a.val b.val ∧ ch a.val b.val ≤ 20 := by decide
  exact this ⟨j, by omega⟩ ⟨k, by omega⟩
theorem spec_ch {j k : Nat} (hj : j ≤ 6) (hk : k ≤ 6) : Ev (fun r => spec_hiChoose.f r j k) (ch j k) := by
  have : ∀ a b : Fin 7, spec_hiChoose.f 20 (a.val : Int) (b.val : Int) = some (ch a.val b.val) := by decide +kernel
  exact Ev.of (fun r => spec_hiChoose.mono _ _ r) (this ⟨j, by omega⟩ ⟨k, by omega⟩)
theorem impl_ch {j k : Nat} (hj : j ≤ 6) (hk : k ≤ 6) : Ev (fun r => impl_choose.f r j k) (ch j k) := by
  have : ∀ a b : Fin 7, impl_choose.f 20 (a.val : Int) (b.val : Int) = some (ch a.val b.val) := by decide +kernel
  exact Ev.of (fun r => impl_choose.mono _ _ r) (this ⟨j, by omega⟩ ⟨k, by omega⟩)
def accF (l : List Int) (k : Nat) : Nat → Nat → Int → Int
  | 0, _, s => s
  | d + 1, j, s => accF l k d (j + 1) (wrap64 (s + l.getD j 0 * ch j k))
def rooksF (l : List Int) : Nat → Nat → List Int → List Int × Bool
  | 0, _, out => (out, true)
  | d + 1, k, out =>
    if Int.tmod (accF l k l.length 0 0) (fact (l.length - 1 - k)) = 0 then rooksF l d (k + 1) (out ++ [wrap64 (Int.tdiv (accF l k l.length 0 0) (fact (l.length - 1 - k)))]) else ([], false)
def rooksOfHits (l : List Int) : List Int × Bool := rooksF l l.length 0 []
theorem rooksF_length (l : List Int) : ∀ d k out, (rooksF l d k out).1.length ≤ out.length + d
  | 0, _, _ => Nat.le_refl _
  | d + 1, k, out => by
    rw [rooksF]
    split
    · have := rooksF_length l d (k + 1) (out ++ [wrap64 (Int.tdiv (accF l k l.length 0 0) (fact (l.length - 1 - k)))])
      simp only [List.length_append, List.length_singleton] at this
      omega
    · exact Nat.zero_le _
theorem hc_bound {h c : Int} (h0 : 0 ≤ h) (h1 : h ≤ 1000000) (c0 : 0 ≤ c) (c1 : c ≤ 20) : 0 ≤ h * c ∧ h * c ≤ 20000000 := by
  refine ⟨Int.mul_nonneg h0 c0, ?_⟩
  have := Int.mul_le_mul h1 c1 c0 (by omega)
  omega
theorem spec_sum {l : List Int} (hg : goodL l = true) {k : Nat} (hk : k < l.length) (out : List Int) {R : List Int × Bool} : ∀ (d j : Nat) (s : Int), j + d = l.length →
    Ev (fun r => (spec_hiFactorial.f r (l.length - 1 - k : Nat)).bind fun t443 => (if t443 = 0 then (none) else (if (Int.tmod (accF l k d j s) t443) = 0 then ((spec_hiFactorial.f r (l.length - 1 - k : Nat)).bind fun t444 => (if t444 = 0 then (none) else (if out.length < 17592186044416 then (spec_RooksFromHits.l0 r l (l.length - 1 : Nat) (out ++ [wrap64 (Int.tdiv (accF l k d j s) t444)]) (k + 1 : Nat)) else (none)))) else (some (([] : List Int), false))))) R →
    Ev (fun r => spec_RooksFromHits.l1 r l (l.length - 1 : Nat) out k s l (l.length : Int) j) R
  | 0, j, s, hj, H => by
    have hl := good_length hg
    have hw1 : wrap64 ((k : Int) + 1) = ((k + 1 : Nat) : Int) := by rw [w64 (by omega) (by omega)]; rfl
    have hw2 : wrap64 (((l.length - 1 : Nat) : Int) - k) = ((l.length - 1 - k : Nat) : Int) := by rw [w64 (by omega) (by omega)]; omega
    refine Ev.step (fun r => ?_) H
    rw [spec_RooksFromHits.l1, if_neg (by omega), hw2, hw1, accF]
  | d + 1, j, s, hj, H => by
    have hl := good_length hg
    have hw1 : wrap64 ((j : Int) + 1) = ((j + 1 : Nat) : Int) := by rw [w64 (by omega) (by omega)]; rfl
    have hm := mem_bound hg (show j < l.length by omega)
    have hc := ch_bound (show j ≤ 6 by omega) (show k ≤ 6 by omega)
    have hb := hc_bound hm.1 hm.2 hc.1 hc.2
    refine Ev.step (fun r => by rw [spec_RooksFromHits.l1, if_pos (by omega), if_pos (by omega), if_pos (by omega)]) ?_
    refine Ev.bind (spec_ch (by omega : j ≤ 6) (by omega : k ≤ 6)) ?_
    have ih := spec_sum hg hk out (R := R) d (j + 1) (wrap64 (s + l.getD j 0 * ch j k)) (by omega) (by rw [accF] at H; exact H)
    refine Ev.congr (fun r => ?_) ih
    show spec_RooksFromHits.l1 r l (l.length - 1 : Nat) out k (wrap64 (s + wrap64 (ch j k * rd l j))) l (l.length : Int) (wrap64 ((j : Int) + 1)) = _
    rw [rd_nat, hw1, Int.mul_comm, w64 (n := l.getD j 0 * ch j k) (by omega) (by omega)]
theorem impl_sum {l : List Int} (hg : goodL l = true) {k : Nat} (hk : k < l.length) (out : List Int) {R : List Int × Bool} : ∀ (d j : Nat) (s : Int), j + d = l.length →
    Ev (fun r => (impl_factorial.f r (l.length - 1 - k : Nat)).bind fun t443 => (if t443 = 0 then (none) else (if (Int.tmod (accF l k d j s) t443) = 0 then ((impl_factorial.f r (l.length - 1 - k : Nat)).bind fun t444 => (if t444 = 0 then (none) else (if out.length < 17592186044416 then (impl_RooksFromHits.l0 r l (l.length - 1 : Nat) (out ++ [wrap64 (Int.tdiv (accF l k d j s) t444)]) (l.length : Int) (k + 1 : Nat)) else (none)))) else (some (([] : List Int), false))))) R →
    Ev (fun r => impl_RooksFromHits.l1 r l (l.length - 1 : Nat) out k s (l.length : Int) k l (l.length : Int) j) R
  | 0, j, s, hj, H => by
    have hl := good_length hg
    have hw1 : wrap64 ((k : Int) + 1) = ((k + 1 : Nat) : Int) := by rw [w64 (by omega) (by omega)]; rfl
    have hw2 : wrap64 (((l.length - 1 : Nat) : Int) - k) = ((l.length - 1 - k : Nat) : Int) := by rw [w64 (by omega) (by omega)]; omega
    refine Ev.step (fun r => ?_) H
    rw [impl_RooksFromHits.l1, if_neg (by omega), hw2, hw1, accF]
  | d + 1, j, s, hj, H => by
    have hl := good_length hg
    have hw1 : wrap64 ((j : Int) + 1) = ((j + 1 : Nat) : Int) := by rw [w64 (by omega) (by omega)]; rfl
    have hm := mem_bound hg (show j < l.length by omega)
    have hc := ch_bound (show j ≤ 6 by omega) (show k ≤ 6 by omega)
    have hb := hc_bound hm.1 hm.2 hc.1 hc.2
    refine Ev.step (fun r => by rw [impl_RooksFromHits.l1, if_pos (by omega), if_pos (by omega), if_pos (by omega)]) ?_
    refine Ev.bind (impl_ch (by omega : j ≤ 6) (by omega : k ≤ 6)) ?_
    have ih := impl_sum hg hk out (R := R) d (j + 1) (wrap64 (s + l.getD j 0 * ch j k)) (by omega) (by rw [accF] at H; exact H)
    refine Ev.congr (fun r => ?_) ih
    show impl_RooksFromHits.l1 r l (l.length - 1 : Nat) out k (wrap64 (s + wrap64 (rd l j * ch j k))) (l.length : Int) k l (l.length : Int) (wrap64 ((j : Int) + 1)) = _
    rw [rd_nat, hw1, w64 (n := l.getD j 0 * ch j k) (by omega) (by omega)]
theorem spec_rows {l : List Int} (hg : goodL l = true) : ∀ (d k : Nat) (out : List Int), k + d = l.length → out.length = k →
    Ev (fun r => spec_RooksFromHits.l0 r l (l.length - 1 : Nat) out k) (rooksF l d k out)
  | 0, k, out, hk, ho => by
    have hl := good_length hg
    refine Ev.step (f := fun _ => some (out, true)) (fun r => ?_) (Ev.now _)
    rw [spec_RooksFromHits.l0, if_neg (by omega)]
  | d + 1, k, out, hk, ho => by
    have hl := good_length hg
    have f := fact_bound (show l.length - 1 - k ≤ 6 by omega)
    refine Ev.step (fun r => by rw [spec_RooksFromHits.l0, if_pos (by omega)]) ?_
    refine spec_sum hg (by omega) out l.length 0 0 (by omega) ?_
    refine Ev.bind (spec_fact (by omega)) ?_
    refine Ev.congr (fun r => by rw [if_neg (by omega)]) ?_
    rw [rooksF]
    by_cases e : Int.tmod (accF l k l.length 0 0) (fact (l.length - 1 - k)) = 0
    · refine Ev.congr (fun r => by rw [if_pos e]) ?_
      rw [if_pos e]
      refine Ev.bind (spec_fact (by omega)) ?_
      refine Ev.congr (fun r => by rw [if_neg (by omega), if_pos (by omega)]) ?_
      exact spec_rows hg d (k + 1) _ (by omega) (by simp; omega)
    · refine Ev.congr (fun r => by rw [if_neg e]) ?_
      rw [if_neg e]
      exact Ev.now _
theorem impl_rows {l : List Int} (hg : goodL l = true) : ∀ (d k : Nat) (out : List Int), k + d = l.length → out.length = k →
    Ev (fun r => impl_RooksFromHits.l0 r l (l.length - 1 : Nat) out (l.length : Int) k) (rooksF l d k out)
  | 0, k, out, hk, ho => by
    have hl := good_length hg
    refine Ev.step (f := fun _ => some (out, true)) (fun r => ?_) (Ev.now _)
    rw [impl_RooksFromHits.l0, if_neg (by omega)]
  | d + 1, k, out, hk, ho => by
    have hl := good_length hg
    have f := fact_bound (show l.length - 1 - k ≤ 6 by omega)
    refine Ev.step (fun r => by rw [impl_RooksFromHits.l0, if_pos (by omega)]) ?_
    refine impl_sum hg (by omega) out l.length 0 0 (by omega) ?_
    refine Ev.bind (impl_fact (by omega)) ?_
    refine Ev.congr (fun r => by rw [if_neg (by omega)]) ?_
    rw [rooksF]
    by_cases e : Int.tmod (accF l k l.length 0 0) (fact (l.length - 1 - k)) = 0
    · refine Ev.congr (fun r => by rw [if_pos e]) ?_
      rw [if_pos e]
      refine Ev.bind (impl_fact (by omega)) ?_
      refine Ev.congr (fun r => by rw [if_neg (by omega), if_pos (by omega)]) ?_
      exact impl_rows hg d (k + 1) _ (by omega) (by simp; omega)
    · refine Ev.congr (fun r => by rw [if_neg e]) ?_
      rw [if_neg e]
      exact Ev.now _
theorem spec_rooksFromHits {l : List Int} (hl : l.length ≤ 1048576) : Ev (fun k => spec_RooksFromHits.f k l) (if goodL l then rooksOfHits l else ([], false)) := by
  unfold spec_RooksFromHits.f
  refine Ev.bind (hiList (by omega)) ?_
  by_cases hg : goodL l = true
  · have hn := good_length hg
    have hw : wrap64 ((l.length : Int) - 1) = ((l.length - 1 : Nat) : Int) := by rw [w64 (by omega) (by omega)]; omega
    rw [if_pos hg]
    refine Ev.congr (fun k => ?_) (spec_rows hg l.length 0 [] (by omega) rfl)
    rw [if_pos hg, hw]; rfl
  · rw [if_neg hg]
    refine Ev.congr (fun k => ?_) (Ev.now _)
    rw [if_neg hg]
theorem impl_rooksFromHits {l : List Int} (hl : l.length ≤ 1048576) : Ev (fun k => impl_RooksFromHits.f k l) (if goodL l then rooksOfHits l else ([], false)) := by
  unfold impl_RooksFromHits.f
  refine Ev.bind (areSums (by omega)) ?_
  by_cases hg : goodL l = true
  · have hn := good_length hg
    have hw : wrap64 ((l.length : Int) - 1) = ((l.length - 1 : Nat) : Int) := by rw [w64 (by omega) (by omega)]; omega
    rw [if_pos hg]
    refine Ev.congr (fun k => ?_) (impl_rows hg l.length 0 [] (by omega) rfl)
    rw [if_pos hg, hw]; rfl
  · rw [if_neg hg]
    refine Ev.congr (fun k => ?_) (Ev.now _)
    rw [if_neg hg]
end Go.Proofs.Ytiopnmgcajohfaa.HitsK
end
section
namespace Go.Proofs.Ytiopnmgcajohfaa.HitAlg
set_option linter.unusedVariables false
open Go.RowKit Go.Proofs.Ytiopnmgcajohfaa.Q Go.Proofs.YtiopnmgcajohfaaW.PrintWords Go.Proofs.YtiopnmgcajohfaaW.PrintLast Go.Proofs.YtiopnmgcajohfaaW.PrintMore
open Go.Proofs.YtiopnmgcajohfaaL Go.Proofs.Ytiopnmgcajohfaa.LawK Go.Proofs.Ytiopnmgcajohfaa.HitsK
open Go.Proofs.Ytiopnmgcajohfaa.HitSum (sumTo fac sum_congr)
theorem w_add (a b : Int) : wrap64 (wrap64 a + b) = wrap64 (a + b) := by unfold wrap64; omega
def rowOf (n : Nat) (f : Nat → Nat) : List Int := (List.range (n + 1)).map (fun j => (f j : Int))
theorem row_len (n : Nat) (f : Nat → Nat) : (rowOf n f).length = n + 1 := by unfold rowOf; simp
theorem row_get (n : Nat) (f : Nat → Nat) {i : Nat} (h : i < n + 1) : (rowOf n f).getD i 0 = (f i : Int) := by
  unfold rowOf
  rw [List.getD_eq_getElem?_getD, List.getElem?_map, List.getElem?_range h]
  rfl
theorem row_ext {n : Nat} {f : Nat → Nat} {l : List Int} (hl : l.length = n + 1) (h : ∀ i, i < n + 1 → l.getD i 0 = (f i : Int)) : l = rowOf n f := by
  refine List.ext_getElem (by rw [hl, row_len]) (fun i h1 h2 => ?_)
  have a := h i (by omega)
  have b := row_get n f (i := i) (by omega)
  rw [gD_lt _ _ h1] at a
  rw [gD_lt _ _ h2] at b
  rw [a, b]
theorem good_row {n : Nat} (h1 : 1 ≤ n) (h6 : n ≤ 6) {f : Nat → Nat} (hf : ∀ i, i < n + 1 → f i ≤ 1000000) : goodL (rowOf n f) = true := by
  unfold goodL
  rw [row_len, decide_eq_true ⟨by omega, by omega⟩, Bool.true_and, List.all_eq_true]
  intro x hx
  unfold rowOf at hx
  obtain ⟨i, hi, rfl⟩ := List.mem_map.1 hx
  have := hf i (List.mem_range.1 hi)
  exact decide_eq_true ⟨by omega, by omega⟩
def Belong (n : Nat) (h r : Nat → Nat) : Prop := ∀ j, j < n + 1 → sumTo (n + 1) (fun k => h k * HitSum.ch k j) = fac (n - j) * r j
def sumI : Nat → (Nat → Int) → Int
  | 0, _ => 0
  | n + 1, f => sumI n f + f n
theorem sumI_congr {f g : Nat → Int} : ∀ {n : Nat}, (∀ i, i < n → f i = g i) → sumI n f = sumI n g
  | 0, _ => rfl
  | n + 1, h => by rw [sumI, sumI, sumI_congr (fun i hi => h i (by omega)), h n (by omega)]
theorem sumI_add (f g : Nat → Int) : ∀ n, sumI n (fun i => f i + g i) = sumI n f + sumI n g
  | 0 => rfl
  | n + 1 => by rw [sumI, sumI, sumI, sumI_add f g n]; omega
theorem sumI_mul (k : Int) (f : Nat → Int) : ∀ n, sumI n (fun i => k * f i) = k * sumI n f
  | 0 => by rw [sumI, sumI, Int.mul_zero]
  | n + 1 => by rw [sumI, sumI, sumI_mul k f n, Int.mul_add]
theorem sumI_zero : ∀ n, sumI n (fun _ => 0) = 0
  | 0 => rfl
  | n + 1 => by rw [sumI, sumI_zero n, Int.add_zero]
theorem sumI_swap (F : Nat → Nat → Int) (m : Nat) : ∀ n, sumI n (fun i => sumI m (F i)) = sumI m (fun j => sumI n (fun i => F i j))
  | 0 => (sumI_zero m).symm
  | n + 1 => by
    rw [sumI, sumI_swap F m n, ← sumI_add]
    rfl
theorem sumI_one (v : Nat → Int) (m : Nat) : ∀ n, sumI n (fun i => v i * if i = m then 1 else 0) = if m < n then v m else 0
  | 0 => by rw [sumI, if_neg (by omega)]
  | n + 1 => by
    rw [sumI, sumI_one v m n]
    by_cases h : n = m
    · subst h; rw [if_neg (by omega), if_pos rfl, if_pos (by omega)]; omega
    · rw [if_neg h, Int.mul_zero, Int.add_zero]
      by_cases h2 : m < n
      · rw [if_pos h2, if_pos (by omega)]
      · rw [if_neg h2, if_neg (by omega)]
theorem sum_cast (f : Nat → Nat) : ∀ n, ((sumTo n f : Nat) : Int) = sumI n (fun i => (f i : Int))
  | 0 => rfl
  | n + 1 => by
    have e : sumTo (n + 1) f = sumTo n f + f n := rfl
    rw [e, sumI, Int.natCast_add, sum_cast f n]
theorem set_get (x : List Int) (i m : Nat) (v : Int) : (x.set i v).getD m 0 = if m = i ∧ m < x.length then v else x.getD m 0 := by
  rw [List.getD_eq_getElem?_getD, List.getElem?_set, List.getD_eq_getElem?_getD]
  by_cases h : i = m
  · subst h
    by_cases h2 : i < x.length
    · rw [if_pos rfl, if_pos h2, if_pos ⟨rfl, h2⟩]; rfl
    · rw [if_pos rfl, if_neg h2, if_neg (fun h => h2 h.2), List.getElem?_eq_none (by omega)]
  · rw [if_neg h, if_neg (fun h2 => h h2.1.symm)]
theorem inner_get (n j : Nat) (r : Int) (m : Nat) : ∀ (d i : Nat) (x : List Int), (inner n j r d i x).getD m 0 = if i ≤ m ∧ m < i + d ∧ m < x.length then wrap64 (x.getD m 0 + term n j r m) else x.getD m 0
  | 0, i, x => by rw [inner, if_neg (by omega)]
  | d + 1, i, x => by
    rw [inner, inner_get n j r m d (i + 1), set_get, List.length_set]
    by_cases h : m = i
    · subst h
      rw [if_neg (by omega)]
      by_cases h2 : m < x.length
      · rw [if_pos ⟨rfl, h2⟩, if_pos ⟨by omega, by omega, h2⟩]
      · rw [if_neg (by omega), if_neg (by omega)]
    · rw [if_neg (show ¬ (m = i ∧ m < x.length) from fun h2 => h h2.1)]
      by_cases h2 : i + 1 ≤ m ∧ m < i + 1 + d ∧ m < x.length
      · rw [if_pos h2, if_pos (by omega)]
      · rw [if_neg h2, if_neg (by omega)]
theorem pol_far {j m : Nat} (hj : j ≤ 6) (h : j < m) : (pol j).getD m 0 = 0 := by
  have := pol_length hj
  rw [List.getD_eq_getElem?_getD, List.getElem?_eq_none (by omega)]
  rfl
theorem outer_get {n : Nat} (h6 : n ≤ 6) (l : List Int) {m : Nat} (hm : m < n + 1) : ∀ (d j : Nat) (x : List Int), j + d = n + 1 → x.length = n + 1 → x.getD m 0 = wrap64 (sumI j (fun q => term n q (l.getD q 0) m)) → (outer n l d j x).getD m 0 = wrap64 (sumI (n + 1) (fun q => term n q (l.getD q 0) m))
  | 0, j, x, hj, _, h => by
    rw [outer, h, show j = n + 1 by omega]
  | d + 1, j, x, hj, hx, h => by
    rw [outer]
    refine outer_get h6 l hm d (j + 1) _ (by omega) (by rw [inner_length]; exact hx) ?_
    rw [inner_get, h, sumI]
    by_cases hmj : m < j + 1
    · rw [if_pos (by omega), w_add]
    · rw [if_neg (by omega)]
      congr 1
      unfold term
      rw [pol_far (by omega) (by omega), Int.mul_zero, Int.add_zero]
theorem inv_all : ∀ n k i : Fin 7, k.val ≤ n.val → i.val ≤ n.val → sumI (n.val + 1) (fun j => (pol j).getD i.val 0 * (HitSum.ch k.val j : Int)) = if k.val = i.val then 1 else 0 := by decide +kernel
theorem fac_nat : ∀ n : Nat, HitsK.fact n = (fac n : Int)
  | 0 => rfl
  | n + 1 => by rw [HitsK.fact, fac, fac_nat n]; simp
theorem hits_of_rooks {n : Nat} (h1 : 1 ≤ n) (h6 : n ≤ 6) {h r : Nat → Nat} (hb : Belong n h r) (hh : ∀ i, i < n + 1 → h i ≤ 1000000) : hitsOfRooks (rowOf n r) = rowOf n h := by
  refine row_ext ?_ (fun i hi => ?_)
  · unfold hitsOfRooks
    rw [outer_length, List.length_replicate, row_len]
  · unfold hitsOfRooks
    rw [row_len, show n + 1 - 1 = n by omega, outer_get h6 (rowOf n r) hi (n + 1) 0 _ (by omega) (by simp) (by
      rw [sumI, List.getD_eq_getElem?_getD, List.getElem?_replicate, if_pos hi, w64 (by omega) (by omega)]; rfl)]
    have e : sumI (n + 1) (fun q => term n q ((rowOf n r).getD q 0) i) = (h i : Int) := by
      have e1 : sumI (n + 1) (fun q => term n q ((rowOf n r).getD q 0) i) = sumI (n + 1) (fun q => sumI (n + 1) (fun k => (h k : Int) * ((pol q).getD i 0 * (HitSum.ch k q : Int)))) := by
        refine sumI_congr (fun q hq => ?_)
        have b := congrArg (fun z : Nat => (z : Int)) (hb q hq)
        try simp only [] at b
        rw [sum_cast, Int.natCast_mul] at b
        unfold term
        rw [row_get n r hq, fac_nat, Int.mul_comm (r q : Int), ← b, Int.mul_comm, ← sumI_mul]
        refine sumI_congr (fun k hk => ?_)
        rw [Int.natCast_mul, Int.mul_left_comm]
      rw [e1, sumI_swap, sumI_congr (g := fun k => (h k : Int) * if k = i then 1 else 0) (fun k hk => by
        rw [sumI_mul, inv_all ⟨n, by omega⟩ ⟨k, by omega⟩ ⟨i, by omega⟩ (by simp only []; omega) (by simp only []; omega)]), sumI_one, if_pos hi]
    have := hh i hi
    rw [e, w64 (by omega) (by omega)]
theorem ch_nat : ∀ j k : Nat, HitsK.ch j k = (HitSum.ch j k : Int)
  | _, 0 => by rw [HitsK.ch, HitSum.ch]; rfl
  | 0, k + 1 => by rw [HitsK.ch, HitSum.ch]; rfl
  | j + 1, k + 1 => by rw [HitsK.ch, HitSum.ch, ch_nat j k, ch_nat j (k + 1)]; omega
theorem acc_row {n : Nat} (h6 : n ≤ 6) {h : Nat → Nat} (hh : ∀ i, i < n + 1 → h i ≤ 1000000) {k : Nat} (hk : k ≤ 6) : ∀ (d j : Nat), j + d = n + 1 → sumTo j (fun i => h i * HitSum.ch i k) ≤ j * 20000000 → accF (rowOf n h) k d j (sumTo j (fun i => h i * HitSum.ch i k) : Nat) = (sumTo (n + 1) (fun i => h i * HitSum.ch i k) : Nat)
  | 0, j, hj, _ => by
    rw [accF, show j = n + 1 by omega]
  | d + 1, j, hj, hs => by
    have e : sumTo (j + 1) (fun i => h i * HitSum.ch i k) = sumTo j (fun i => h i * HitSum.ch i k) + h j * HitSum.ch j k := rfl
    have hc := ch_bound (show j ≤ 6 by omega) hk
    rw [ch_nat] at hc
    have hm : h j * HitSum.ch j k ≤ 20000000 := Nat.le_trans (Nat.mul_le_mul (hh j (by omega)) (show HitSum.ch j k ≤ 20 by omega)) (by omega)
    have hj7 : j * 20000000 ≤ 7 * 20000000 := Nat.mul_le_mul_right _ (by omega)
    have ih := acc_row h6 hh hk d (j + 1) (by omega) (by rw [e]; omega)
    rw [accF, row_get n h (by omega), ch_nat, ← ih, e]
    congr 1
    have e2 : ((sumTo j (fun i => h i * HitSum.ch i k) : Nat) : Int) + (h j : Int) * (HitSum.ch j k : Int) = ((sumTo j (fun i => h i * HitSum.ch i k) + h j * HitSum.ch j k : Nat) : Int) := by rw [Int.natCast_add, Int.natCast_mul]
    rw [e2, w64 (by omega) (by omega)]
theorem rooks_of_hits_k {n : Nat} (h1 : 1 ≤ n) (h6 : n ≤ 6) {h r : Nat → Nat} (hb : Belong n h r) (hh : ∀ i, i < n + 1 → h i ≤ 1000000) (hr : ∀ i, i < n + 1 → r i ≤ 1000000) : ∀ (d k : Nat), k + d = n + 1 → rooksF (rowOf n h) d k ((rowOf n r).take k) = (rowOf n r, true)
  | 0, k, hk => by
    rw [rooksF, List.take_of_length_le (by rw [row_len]; omega)]
  | d + 1, k, hk => by
    have ha := acc_row h6 hh (show k ≤ 6 by omega) (n + 1) 0 (by omega) (by simp [sumTo])
    have hf := fact_bound (show n - k ≤ 6 by omega)
    rw [fac_nat] at hf
    rw [hb k (by omega)] at ha
    have hz : accF (rowOf n h) k (rowOf n h).length 0 0 = (fac (n - k) : Int) * (r k : Int) := by
      rw [row_len, ← Int.natCast_mul, ← ha]; rfl
    rw [rooksF, hz, row_len, show n + 1 - 1 - k = n - k by omega, fac_nat, Int.mul_tmod_right, if_pos rfl, Int.mul_tdiv_cancel_left _ (by omega)]
    have hrk := hr k (by omega)
    rw [w64 (by omega) (by omega)]
    have ih := rooks_of_hits_k h1 h6 hb hh hr d (k + 1) (by omega)
    rw [← ih, List.take_add_one]
    congr 2
    have g := row_get n r (i := k) (by omega)
    rw [List.getD_eq_getElem?_getD] at g
    rw [List.getElem?_eq_getElem (by rw [row_len]; omega)] at g ⊢
    simpa using g.symm
theorem rooks_of_hits {n : Nat} (h1 : 1 ≤ n) (h6 : n ≤ 6) {h r : Nat → Nat} (hb : Belong n h r) (hh : ∀ i, i < n + 1 → h i ≤ 1000000) (hr : ∀ i, i < n + 1 → r i ≤ 1000000) : rooksOfHits (rowOf n h) = (rowOf n r, true) := by
  have := rooks_of_hits_k h1 h6 hb hh hr (n + 1) 0 (by omega)
  rw [List.take_zero] at this
  unfold rooksOfHits
  rw [row_len]
  exact this
end Go.Proofs.Ytiopnmgcajohfaa.HitAlg
end
section
namespace Go.Proofs.Ytiopnmgcajohfaa.Pure
set_option linter.unusedVariables false
open Go.RowKit Go.Proofs.Ytiopnmgcajohfaa.Q Go.Proofs.YtiopnmgcajohfaaW.PrintWords Go.Proofs.YtiopnmgcajohfaaW.PrintLast Go.Proofs.YtiopnmgcajohfaaW.PrintMore
open Go.Proofs.YtiopnmgcajohfaaL Go.Proofs.Ytiopnmgcajohfaa.LawK Go.Proofs.Ytiopnmgcajohfaa.BoardK Go.Proofs.Ytiopnmgcajohfaa.PermK Go.Proofs.Ytiopnmgcajohfaa.Walk Go.Proofs.Ytiopnmgcajohfaa.HN Go.Proofs.Ytiopnmgcajohfaa.HitAllK
def hitNumbers (r c : Int) (l : List Int) : List Int × Bool := if squareB r c l = true then (countsF l (l.length + 1) (permsOf l.length), true) else ([], false)
theorem countsF_length (l : List Int) (m : Nat) (vis : List (List Int)) : (countsF l m vis).length = m := by
  unfold countsF
  have : ∀ (L : List (List Int)) (o : List Int), (L.foldl (fun o p => o.set (hitsF l p 0 0).toNat (IntKind.i64.wrap (rdOf 0 o (hitsF l p 0 0) + 1))) o).length = o.length := by
    intro L
    induction L with
    | nil => intro o; rfl
    | cons a t ih => intro o; rw [List.foldl_cons, ih]; simp
  rw [this]; simp
theorem answer_length (r c : Int) (l : List Int) : (hitNumbers r c l).1.length ≤ 100 := by
  unfold hitNumbers
  by_cases hs : squareB r c l = true
  · obtain ⟨q1, _⟩ := board_bits hs
    rw [if_pos hs]; simp only []; rw [countsF_length]; omega
  · rw [if_neg hs]; simp
theorem spec_answer {r c : Int} {l : List Int} (hl : l.length ≤ 1048576) : Ev (fun k => spec_HitNumbers.f k r c l) (hitNumbers r c l) := by
  unfold spec_HitNumbers.f hitNumbers
  refine Ev.bind (hiGood r c (by omega)) ?_
  by_cases hs : squareB r c l = true
  · rw [if_pos hs]
    exact Ev.congr (fun k => by rw [if_pos hs]) (Ev.bind (spec_hiNumbers hs) (Ev.now _))
  · rw [if_neg hs]
    exact Ev.congr (fun k => by rw [if_neg hs]) (Ev.now _)
theorem impl_answer_f (r c : Int) (l : List Int) : impl_HitNumbers.f r c l = some (hitNumbers r c l) := by
  unfold impl_HitNumbers.f hitNumbers impl_Board_hitNumbers.f
  rw [isSquare_f, Option.bind_some]
  by_cases hs : squareB r c l = true
  · rw [if_pos hs, if_pos hs, Option.bind_some, if_pos hs]
  · rw [if_neg hs, if_neg hs]
theorem impl_answer {r c : Int} {l : List Int} : Ev (fun k => impl_HitNumbers.f r c l) (hitNumbers r c l) := Ev.congr (fun k => by rw [impl_answer_f]) (Ev.now _)
end Go.Proofs.Ytiopnmgcajohfaa.Pure
end
section
namespace Go.Proofs.Ytiopnmgcajohfaa.DrawK
set_option linter.unusedVariables false
open Go.RowKit Go.Proofs.Ytiopnmgcajohfaa.Q Go.Proofs.YtiopnmgcajohfaaW.PrintWords Go.Proofs.YtiopnmgcajohfaaW.PrintLast Go.Proofs.YtiopnmgcajohfaaW.PrintMore
open Go.Proofs.YtiopnmgcajohfaaL Go.Proofs.Ytiopnmgcajohfaa.LawK Go.Proofs.Ytiopnmgcajohfaa.BoardK
def Run {α : Type} (g : Nat → Option α) (P : α → Prop) : Prop := ∃ a, Ev g a ∧ P a
theorem Run.now {α : Type} {a : α} {P : α → Prop} (h : P a) : Run (fun _ => some a) P := ⟨a, Ev.now a, h⟩
theorem Run.of {α : Type} {g : Nat → Option α} {a : α} {P : α → Prop} (h : Ev g a) (hp : P a) : Run g P := ⟨a, h, hp⟩
theorem Run.bind {α β : Type} {g : Nat → Option α} {h : Nat → α → Option β} {P : α → Prop} {Q : β → Prop} (h1 : Run g P) (h2 : ∀ a, P a → Run (fun k => h k a) Q) : Run (fun k => (g k).bind (h k)) Q := by
  obtain ⟨a, ha, hp⟩ := h1
  obtain ⟨b, hb, hq⟩ := h2 a hp
  exact ⟨b, Ev.bind ha hb, hq⟩
theorem Run.congr {α : Type} {g g' : Nat → Option α} {P : α → Prop} (e : ∀ k, g k = g' k) (h : Run g' P) : Run g P := by
  obtain ⟨a, ha, hp⟩ := h
  exact ⟨a, Ev.congr e ha, hp⟩
theorem Run.step {α : Type} {g f : Nat → Option α} {P : α → Prop} (e : ∀ k, g (k + 1) = f k) (h : Run f P) : Run g P := by
  obtain ⟨a, ha, hp⟩ := h
  exact ⟨a, Ev.step e ha, hp⟩
theorem Run.mono {α : Type} {g : Nat → Option α} {P Q : α → Prop} (h : Run g P) (hpq : ∀ a, P a → Q a) : Run g Q := by
  obtain ⟨a, ha, hp⟩ := h
  exact ⟨a, ha, hpq a hp⟩
theorem Run.ite {α : Type} {c : Prop} [Decidable c] {g g' : Nat → Option α} {P : α → Prop} (h1 : c → Run g P) (h2 : ¬ c → Run g' P) : Run (fun k => if c then g k else g' k) P := by
  by_cases h : c
  · exact Run.congr (fun k => if_pos h) (h1 h)
  · exact Run.congr (fun k => if_neg h) (h2 h)
def Bytes (l : List Int) : Prop := l.length ≤ 1048576 ∧ ∀ x ∈ l, 0 ≤ x ∧ x ≤ 255
def At (M : Nat) (a : Int) : Prop := 0 ≤ a ∧ a ≤ M ∧ M ≤ 1000000
theorem At.le {M N : Nat} {a : Int} (h : At M a) (hm : M ≤ N) (hn : N ≤ 1000000) : At N a := ⟨h.1, Int.le_trans h.2.1 (by omega), hn⟩
theorem wraps_u64 (n : Int) (h₀ : 0 ≤ n) (h₁ : n < 2 ^ 64) : IntKind.u64.wrap n = n := by rw [IntKind.wrap_u64]; omega
theorem wrap_u64_range (n : Int) : 0 ≤ IntKind.u64.wrap n ∧ IntKind.u64.wrap n < 2 ^ 64 := by rw [IntKind.wrap_u64]; omega
theorem and_255 {x : Int} (h0 : 0 ≤ x) (h1 : x < 2 ^ 64) : 0 ≤ Go.bits .and .u64 x 255 ∧ Go.bits .and .u64 x 255 ≤ 255 := by
  obtain ⟨a, rfl⟩ : ∃ a : Nat, x = a := ⟨x.toNat, by omega⟩
  have h := (bits_nat .u64 64 (by decide) wraps_u64 a 255 (by omega) (by decide)).1
  have h2 : Go.bits .and .u64 (a : Int) 255 = ((a &&& 255 : Nat) : Int) := h
  rw [h2]
  have : a &&& 255 ≤ 255 := Nat.and_le_right
  omega
theorem next_run {code : List Int} (hc : Bytes code) {M : Nat} {a s : Int} (ha : At M a) (hm : M + 1 ≤ 1000000) : ∃ v a' s', spec_l1Cur_next.f code a s = some (v, a', s') ∧ (0 ≤ v ∧ v ≤ 255) ∧ At (M + 1) a' := by
  obtain ⟨h0, h1, h2⟩ := ha
  have w1 := Aside0.mk (show wrap64 (a + 1) = a + 1 from w64 (by omega) (by omega))
  have hA : At (M + 1) (a + 1) := ⟨by omega, by omega, by omega⟩
  have hu : ∀ n : Int, (0 ≤ wrap64 (Go.bits .and .u64 (IntKind.u64.wrap n / 1099511627776) 255) ∧ wrap64 (Go.bits .and .u64 (IntKind.u64.wrap n / 1099511627776) 255) ≤ 255) := by
    intro n
    have h3 := wrap_u64_range n
    generalize IntKind.u64.wrap n = y at h3
    have h4 := and_255 (x := y / 1099511627776) (by omega) (by omega)
    generalize Go.bits .and .u64 (y / 1099511627776) 255 = z at h4
    rw [w64 (by omega) (by omega)]
    exact h4
  unfold spec_l1Cur_next.f
  rw [w1.out]
  by_cases c1 : a < (code.length : Int)
  · have hl := hc.1
    rw [if_pos c1, if_pos h0]
    have hx : 0 ≤ rd code a ∧ rd code a ≤ 255 := by
      unfold rd
      rw [gD_lt _ _ (by omega)]
      exact hc.2 _ (List.getElem_mem _)
    have hv : 0 ≤ wrap64 (rd code a) ∧ wrap64 (rd code a) ≤ 255 := by rw [w64 (by omega) (by omega)]; exact hx
    by_cases c2 : a + 1 ≤ (code.length : Int)
    · rw [if_pos c2]; exact ⟨_, _, _, rfl, hv, hA⟩
    · rw [if_neg c2]; exact ⟨_, _, _, rfl, hu _, hA⟩
  · rw [if_neg c1]
    by_cases c2 : a + 1 ≤ (code.length : Int)
    · rw [if_pos c2]; exact ⟨_, _, _, rfl, ⟨by omega, by omega⟩, hA⟩
    · rw [if_neg c2]; exact ⟨_, _, _, rfl, hu _, hA⟩
theorem pick_run {code : List Int} (hc : Bytes code) {M : Nat} {a s : Int} (ha : At M a) (hm : M + 2 ≤ 1000000) (n : Int) : ∃ v a' s', spec_l1Cur_pick.f code a s n = some (v, a', s') ∧ (0 ≤ v ∧ (v < n ∨ v = 0)) ∧ At (M + 2) a' := by
  unfold spec_l1Cur_pick.f
  by_cases c1 : n ≤ 1
  · rw [if_pos c1]; exact ⟨_, _, _, rfl, ⟨by omega, .inr rfl⟩, ha.le (by omega) hm⟩
  · rw [if_neg c1]
    obtain ⟨v, a1, s1, e1, hv, ha1⟩ := next_run hc (s := s) ha (by omega)
    rw [e1, Option.bind_some]
    by_cases c2 : n > 200
    · rw [if_pos c2]
      obtain ⟨v2, a2, s2, e2, hv2, ha2⟩ := next_run hc (s := s1) ha1 (by omega)
      try simp only []
      rw [e2, Option.bind_some, if_neg (by omega)]
      refine ⟨_, _, _, rfl, ?_, ha2⟩
      try simp only []
      rw [w64 (n := v * 256) (by omega) (by omega), w64 (by omega) (by omega)]
      exact ⟨Int.tmod_nonneg _ (by omega), .inl (Int.tmod_lt_of_pos _ (by omega))⟩
    · rw [if_neg c2, if_neg (by omega)]
      exact ⟨_, _, _, rfl, ⟨Int.tmod_nonneg _ hv.1, .inl (Int.tmod_lt_of_pos _ (by omega))⟩, ha1.le (by omega) (by omega)⟩
theorem one_run {code : List Int} (hc : Bytes code) {M : Nat} {a s : Int} (ha : At M a) (hm : M + 2 ≤ 1000000) (n : Int) : ∃ (v : Bool) (a' s' : Int), spec_l1Cur_one.f code a s n = some (v, a', s') ∧ At (M + 2) a' := by
  obtain ⟨v, a1, s1, e1, hv, ha1⟩ := pick_run hc (s := s) ha hm n
  unfold spec_l1Cur_one.f
  rw [e1, Option.bind_some]
  exact ⟨_, _, _, rfl, ha1⟩
theorem among_run {code : List Int} (hc : Bytes code) {M : Nat} {a s : Int} (ha : At M a) (hm : M + 2 ≤ 1000000) {l : List Int} (hl : l ≠ []) : ∃ v a' s', spec_l1Cur_among.f code a s l = some (v, a', s') ∧ v ∈ l ∧ At (M + 2) a' := by
  obtain ⟨v, a1, s1, e1, hv, ha1⟩ := pick_run hc (s := s) ha hm (l.length : Int)
  have hp : 0 < l.length := List.length_pos_iff.2 hl
  unfold spec_l1Cur_among.f
  rw [e1, Option.bind_some]
  try simp only []
  rw [if_pos hv.1, if_pos (by omega)]
  refine ⟨_, _, _, rfl, ?_, ha1⟩
  unfold rd
  rw [gD_lt _ _ (by omega)]
  exact List.getElem_mem _
theorem sides_run {code : List Int} (hc : Bytes code) {M : Nat} {a s : Int} (ha : At M a) (hm : M + 4 ≤ 1000000) : ∃ v a' s', spec_l1Cur_sides.f code a s = some (v, a', s') ∧ (1 ≤ v ∧ v ≤ 6) ∧ At (M + 4) a' := by
  unfold spec_l1Cur_sides.f
  obtain ⟨b, a1, s1, e1, ha1⟩ := one_run hc (s := s) ha (by omega) 8
  rw [e1, Option.bind_some]
  cases b with
  | true => exact ⟨_, _, _, rfl, ⟨by omega, by omega⟩, ha1.le (by omega) (by omega)⟩
  | false =>
    obtain ⟨v, a2, s2, e2, hv, ha2⟩ := pick_run hc (s := s1) ha1 (by omega) 5
    try simp only []
    rw [if_neg (by simp), e2, Option.bind_some]
    refine ⟨_, _, _, rfl, ?_, ha2⟩
    rw [w64 (by omega) (by omega)]
    omega
def Drawn (n M : Nat) (x : Int × Int × List Int × Int × Int) : Prop := x.2.2.1.length ≤ n ∧ At M x.2.2.2.1
def DrawnN (n M : Nat) (x : Int × Int × List Int × Int × Int) : Prop := x.2.2.1.length = n ∧ At M x.2.2.2.1
theorem boardOf_l0 {code : List Int} (hc : Bytes code) {C : Nat} (hC : C ≤ 6) (n : Nat) (hn : n ≤ 8) (r0 c0 : Int) : ∀ (d i M : Nat) (a s : Int) (l : List Int), i + d = n → l.length = n → At M a → M + 6 * d ≤ 1000000 → Run (fun k => spec_l1Cur_boardOf.l0 k (C : Int) (n : Int) (i : Int) code a s r0 c0 l) (DrawnN n (M + 6 * d))
  | 0, i, M, a, s, l, hi, hl, ha, hm => by
    refine Run.step (f := fun _ => some (r0, c0, l, a, s)) (fun k => ?_) (Run.now ⟨hl, by simpa using ha⟩)
    rw [spec_l1Cur_boardOf.l0, if_neg (by omega)]
  | d + 1, i, M, a, s, l, hi, hl, ha, hm => by
    have w1 := Aside0.mk (show wrap64 ((i : Int) + 1) = ((i + 1 : Nat) : Int) from by rw [w64 (by omega) (by omega)]; rfl)
    obtain ⟨v, a1, s1, e1, hv, ha1⟩ := pick_run hc (s := s) ha (by omega) (shl .i64 1 (C : Int))
    obtain ⟨b, a2, s2, e2, ha2⟩ := one_run hc (s := s1) ha1 (by omega) 3
    cases b with
    | true =>
      obtain ⟨v3, a3, s3, e3, hv3, ha3⟩ := pick_run hc (s := s2) ha2 (by omega) (wrap64 ((C : Int) + 1))
      refine Run.step (fun k => ?_) ((boardOf_l0 hc hC n hn r0 c0 d (i + 1) (M + 6) a3 s3 ((l.set (i : Int).toNat v).set (i : Int).toNat (wrap64 (shl .i64 1 v3 - 1))) (by omega) (by rw [List.length_set, List.length_set]; exact hl) ha3 (by omega)).mono (fun x hx => ⟨hx.1, hx.2.le (by omega) (by omega)⟩))
      rw [spec_l1Cur_boardOf.l0, if_pos (by omega), if_pos (by omega), e1, Option.bind_some, if_pos (by omega), if_pos (by omega), Option.bind_some, e2, Option.bind_some, if_pos rfl, e3, Option.bind_some, if_pos hv3.1, w1.out]
    | false =>
      refine Run.step (fun k => ?_) ((boardOf_l0 hc hC n hn r0 c0 d (i + 1) (M + 6) a2 s2 (l.set (i : Int).toNat v) (by omega) (by rw [List.length_set]; exact hl) (ha2.le (by omega) (by omega)) (by omega)).mono (fun x hx => ⟨hx.1, hx.2.le (by omega) (by omega)⟩))
      rw [spec_l1Cur_boardOf.l0, if_pos (by omega), if_pos (by omega), e1, Option.bind_some, if_pos (by omega), if_pos (by omega), Option.bind_some, e2, Option.bind_some, if_neg (by simp), w1.out]
theorem boardOf_run {code : List Int} (hc : Bytes code) {M : Nat} {a s r c : Int} (ha : At M a) (hm : M + 36 ≤ 1000000) (hr : 1 ≤ r ∧ r ≤ 6) (hcc : 1 ≤ c ∧ c ≤ 6) : Run (fun k => spec_l1Cur_boardOf.f k code a s r c) (fun x => (1 ≤ x.2.2.1.length ∧ x.2.2.1.length ≤ 6) ∧ At (M + 36) x.2.2.2.1) := by
  obtain ⟨R, rfl⟩ : ∃ R : Nat, r = R := ⟨r.toNat, by omega⟩
  obtain ⟨C, rfl⟩ : ∃ C : Nat, c = C := ⟨c.toNat, by omega⟩
  have he : spec_boEmpty.f (R : Int) (C : Int) = some ((R : Int), (C : Int), List.replicate R 0) := by unfold spec_boEmpty.f; rw [if_pos (by omega), if_pos (by omega), Int.toNat_natCast]
  unfold spec_l1Cur_boardOf.f
  have h := boardOf_l0 hc (C := C) (by omega) R (by omega) R C R 0 M a s (List.replicate R 0) (by omega) (by simp) ha (by omega)
  refine Run.congr (fun k => ?_) (h.mono (Q := fun x => (1 ≤ x.2.2.1.length ∧ x.2.2.1.length ≤ 6) ∧ At (M + 36) x.2.2.2.1) (fun x hx => ⟨by have := hx.1; omega, hx.2.le (by omega) (by omega)⟩))
  rw [he, Option.bind_some]
  try simp only [List.length_replicate]
  try rfl
theorem pick_R {code : List Int} (hc : Bytes code) {M : Nat} {a s : Int} (ha : At M a) (hm : M + 2 ≤ 1000000) (n : Int) : Run (fun _ => spec_l1Cur_pick.f code a s n) (fun x => (0 ≤ x.1 ∧ (x.1 < n ∨ x.1 = 0)) ∧ At (M + 2) x.2.1) := by
  obtain ⟨v, a1, s1, e1, hv, ha1⟩ := pick_run hc (s := s) ha hm n
  exact ⟨_, Ev.congr (fun _ => e1) (Ev.now _), hv, ha1⟩
theorem one_R {code : List Int} (hc : Bytes code) {M : Nat} {a s : Int} (ha : At M a) (hm : M + 2 ≤ 1000000) (n : Int) : Run (fun _ => spec_l1Cur_one.f code a s n) (fun x => At (M + 2) x.2.1) := by
  obtain ⟨v, a1, s1, e1, ha1⟩ := one_run hc (s := s) ha hm n
  exact ⟨_, Ev.congr (fun _ => e1) (Ev.now _), ha1⟩
theorem among_R {code : List Int} (hc : Bytes code) {M : Nat} {a s : Int} (ha : At M a) (hm : M + 2 ≤ 1000000) {l : List Int} (hl : l ≠ []) : Run (fun _ => spec_l1Cur_among.f code a s l) (fun x => x.1 ∈ l ∧ At (M + 2) x.2.1) := by
  obtain ⟨v, a1, s1, e1, hv, ha1⟩ := among_run hc (s := s) ha hm hl
  exact ⟨_, Ev.congr (fun _ => e1) (Ev.now _), hv, ha1⟩
theorem sides_R {code : List Int} (hc : Bytes code) {M : Nat} {a s : Int} (ha : At M a) (hm : M + 4 ≤ 1000000) : Run (fun _ => spec_l1Cur_sides.f code a s) (fun x => (1 ≤ x.1 ∧ x.1 ≤ 6) ∧ At (M + 4) x.2.1) := by
  obtain ⟨v, a1, s1, e1, hv, ha1⟩ := sides_run hc (s := s) ha hm
  exact ⟨_, Ev.congr (fun _ => e1) (Ev.now _), hv, ha1⟩
theorem board_run {code : List Int} (hc : Bytes code) {M : Nat} {a s : Int} (ha : At M a) (hm : M + 50 ≤ 1000000) : Run (fun k => spec_l1Cur_board.f k code a s) (Drawn 7 (M + 50)) := by
  unfold spec_l1Cur_board.f
  refine Run.bind (sides_R hc ha (by omega)) ?_
  rintro ⟨r, a1, s1⟩ ⟨hr, ha1⟩
  refine Run.bind (sides_R hc ha1 (by omega)) ?_
  rintro ⟨c, a2, s2⟩ ⟨hcc, ha2⟩
  refine Run.bind (boardOf_run hc ha2 (by omega) hr hcc) ?_
  rintro ⟨r1, c1, l, a3, s3⟩ ⟨hl, ha3⟩
  simp only [] at hl
  refine Run.bind (pick_R hc ha3 (by omega) 18) ?_
  rintro ⟨v, a4, s4⟩ ⟨hv, ha4⟩
  refine Run.ite (fun _ => ?_) (fun _ => Run.ite (fun _ => ?_) (fun _ => Run.ite (fun _ => ?_) (fun _ => Run.ite (fun _ => ?_) (fun _ => ?_))))
  · refine Run.bind (among_R hc ha4 (by omega) (by simp)) ?_
    rintro ⟨x, a5, s5⟩ ⟨hx, ha5⟩
    exact Run.now ⟨by simp only []; omega, ha5.le (by omega) (by omega)⟩
  · refine Run.bind (among_R hc ha4 (by omega) (by simp)) ?_
    rintro ⟨x, a5, s5⟩ ⟨hx, ha5⟩
    exact Run.now ⟨by simp only []; omega, ha5.le (by omega) (by omega)⟩
  · refine Run.bind (pick_R hc ha4 (by omega) (l.length : Int)) ?_
    rintro ⟨v5, a5, s5⟩ ⟨hv5, ha5⟩
    refine Run.bind (among_R hc ha5 (by omega) (by simp)) ?_
    rintro ⟨x, a6, s6⟩ ⟨hx, ha6⟩
    simp only [] at hv5
    have hlt : v5 < (l.length : Int) := by omega
    refine Run.congr (fun k => (if_pos hv5.1).trans (if_pos hlt)) (Run.now ⟨by simp only [List.length_set]; omega, ha6.le (by omega) (by omega)⟩)
  · exact Run.congr (fun k => if_pos (by simp only []; omega)) (Run.now ⟨by simp only [List.length_append, List.length_singleton]; omega, ha4.le (by omega) (by omega)⟩)
  · exact Run.now ⟨by simp only []; omega, ha4.le (by omega) (by omega)⟩
end Go.Proofs.Ytiopnmgcajohfaa.DrawK
end
section
namespace Go.Proofs.Ytiopnmgcajohfaa.HitRook
set_option linter.unusedVariables false
open Go.RowKit Go.Proofs.Ytiopnmgcajohfaa.Q Go.Proofs.YtiopnmgcajohfaaW.PrintWords Go.Proofs.YtiopnmgcajohfaaW.PrintLast Go.Proofs.YtiopnmgcajohfaaW.PrintMore
open Go.Proofs.YtiopnmgcajohfaaL Go.Proofs.Ytiopnmgcajohfaa.LawK Go.Proofs.Ytiopnmgcajohfaa.BoardK Go.Proofs.Ytiopnmgcajohfaa.PermK Go.Proofs.Ytiopnmgcajohfaa.Walk Go.Proofs.Ytiopnmgcajohfaa.HN Go.Proofs.Ytiopnmgcajohfaa.HitAllK Go.Proofs.Ytiopnmgcajohfaa.HitLawK Go.Proofs.Ytiopnmgcajohfaa.PermHitK Go.Proofs.Ytiopnmgcajohfaa.NumK Go.Proofs.Ytiopnmgcajohfaa.DrawK Go.Proofs.Ytiopnmgcajohfaa.Pure
open Go.Proofs.Ytiopnmgcajohfaa.HitSum (sumTo sum_congr fac ch R cellsN hit_rook ways_count R_zero R_one ch_one ch_none hitting_turn)
open Go.Proofs.Ytiopnmgcajohfaa.HitAlg (rowOf row_len row_get row_ext Belong hits_of_rooks rooks_of_hits good_row)
theorem nums_fold (m : Nat) : ∀ (vis : List (List Int)) (out : List Int) (f : Nat → Nat), out.length = m → (∀ n, n < m → out[n]? = some ((f n : Nat) : Int)) → (∀ p ∈ vis, rooksN p < m) → (∀ n, f n + vis.length ≤ 4611686018427387904) →
    (vis.foldl (fun o p => o.set ((rooksN p : Nat) : Int).toNat (IntKind.i64.wrap (rdOf 0 o ((rooksN p : Nat) : Int) + 1))) out).length = m ∧ ∀ n, n < m → (vis.foldl (fun o p => o.set ((rooksN p : Nat) : Int).toNat (IntKind.i64.wrap (rdOf 0 o ((rooksN p : Nat) : Int) + 1))) out)[n]? = some ((f n + vis.countP (fun p => rooksN p == n) : Nat) : Int)
  | [], out, f, h1, h2, _, _ => ⟨h1, fun n hn => by rw [List.foldl_nil, h2 n hn]; simp⟩
  | p :: t, out, f, h1, h2, h3, h4 => by
    have hp := h3 p (by simp)
    have e : rdOf 0 out ((rooksN p : Nat) : Int) = ((f (rooksN p) : Nat) : Int) := by
      unfold rdOf
      rw [Int.toNat_natCast, List.getD_eq_getElem?_getD, h2 _ hp]
      rfl
    have h5 := h4 (rooksN p)
    rw [List.length_cons] at h5
    have ew : IntKind.i64.wrap (((f (rooksN p) : Nat) : Int) + 1) = ((f (rooksN p) + 1 : Nat) : Int) := by rw [wrap_i64', w64 (by omega) (by omega)]; rfl
    rw [List.foldl_cons, e, ew, Int.toNat_natCast]
    obtain ⟨g1, g2⟩ := nums_fold m t (out.set (rooksN p) ((f (rooksN p) + 1 : Nat) : Int)) (fun n => f n + if rooksN p = n then 1 else 0) (by rw [List.length_set]; exact h1) (fun n hn => by
      rw [List.getElem?_set]
      by_cases c : rooksN p = n
      · subst c
        rw [if_pos rfl, if_pos (by omega), if_pos rfl]
      · rw [if_neg c, if_neg c, h2 n hn]; rfl) (fun q hq => h3 q (by simp [hq])) (fun n => by
      have := h4 n
      rw [List.length_cons] at this
      split <;> omega)
    refine ⟨g1, fun n hn => ?_⟩
    rw [g2 n hn, List.countP_cons]
    congr 2
    by_cases c : rooksN p = n
    · rw [if_pos c, if_pos (by simpa using c)]; omega
    · rw [if_neg c, if_neg (by simpa using c)]; omega
theorem nums_get {m : Nat} {vis : List (List Int)} (h3 : ∀ p ∈ vis, rooksN p < m) (h4 : vis.length ≤ 4611686018427387904) : (numsF m vis).length = m ∧ ∀ n, n < m → (numsF m vis)[n]? = some ((vis.countP (fun p => rooksN p == n) : Nat) : Int) := by
  have h := nums_fold m vis (List.replicate m 0) (fun _ => 0) (by simp) (fun n hn => by rw [List.getElem?_replicate, if_pos hn]; rfl) h3 (fun n => by omega)
  simp only [Nat.zero_add] at h
  exact h
section
variable {l : List Int} {n : Nat} (hs : squareB n n l = true)
include hs
theorem sq : l.length = n ∧ 1 ≤ n ∧ n ≤ 6 ∧ isBoardB n n l = true ∧ ∀ i (hi : i < l.length), 0 ≤ l[i] ∧ l[i] < 2 ^ n := by
  obtain ⟨q1, q2, q3, q4, q5⟩ := board_bits hs
  have hb : isBoardB n n l = true := by unfold squareB at hs; rw [Bool.and_eq_true] at hs; exact hs.1
  obtain ⟨A, B, e1, e2, h3, h4, h5, h6, h7, h8⟩ := board_of hb
  have e3 : B = n := by omega
  subst e3
  exact ⟨by omega, by omega, by omega, hb, h8⟩
theorem hits_row : impl_HitNumbers.f n n l = some (rowOf n (fun k => (hitting l (k : Int) (permsOf l.length)).length), true) := by
  obtain ⟨h1, h2, h3, h4, h5⟩ := sq hs
  rw [impl_answer_f]
  unfold hitNumbers
  rw [if_pos hs]
  obtain ⟨g1, g2⟩ := hit_count (l := l) (by omega)
  rw [← row_ext (f := fun k => (hitting l (k : Int) (permsOf l.length)).length) (n := n) (l := countsF l (l.length + 1) (permsOf l.length)) (by omega) (fun i hi => g2 i (by omega))]
theorem rooks_row : impl_RookNumbers.f n n l = some (rowOf n (fun j => R (cell l) n n 0 (fun _ => false) j), true) := by
  obtain ⟨h1, h2, h3, h4, h5⟩ := sq hs
  have hw := MostK.ways_le h1 h3 h3 h5
  have hm : (min (n : Int) (n : Int) + 1).toNat = n + 1 := by omega
  have hlen : (waysFrom l n n 0 0 []).length ≤ 4611686018427387904 := by
    have := ways_len l n n 0 0 []
    have h7 : (n + 1) ^ n ≤ 7 ^ 6 := Nat.le_trans (Nat.pow_le_pow_left (show n + 1 ≤ 7 by omega) n) (Nat.pow_le_pow_right (show 0 < 7 by decide) h3)
    omega
  obtain ⟨g1, g2⟩ := nums_get (m := n + 1) (vis := waysFrom l n n 0 0 []) (fun p hp => by have := hw p hp; omega) hlen
  have e : numsF (n + 1) (waysFrom l n n 0 0 []) = rowOf n (fun j => R (cell l) n n 0 (fun _ => false) j) := by
    refine row_ext g1 (fun i hi => ?_)
    rw [List.getD_eq_getElem?_getD, g2 i hi]
    have c := ways_count l n n 0 0 [] i
    rw [MostK.no_bits] at c
    have e0 : (fun q : List Int => rooksN q == rooksN ([] : List Int) + i) = fun q => rooksN q == i := by funext q; simp [rooksN]
    rw [e0] at c
    rw [c]
    rfl
  unfold impl_RookNumbers.f
  rw [impl_IsBoard.f, Option.bind_some, if_pos h4, impl_Board_numbers.f, if_pos h4, Option.bind_some, hm, Int.toNat_natCast, h1, e]
theorem bounds (i : Nat) : (hitting l (i : Int) (permsOf l.length)).length ≤ 117649 ∧ R (cell l) n n 0 (fun _ => false) i ≤ 117649 := by
  obtain ⟨h1, h2, h3, h4, h5⟩ := sq hs
  refine ⟨Nat.le_trans (List.length_filter_le _ _) (perms_len (by omega)), ?_⟩
  have c := ways_count l n n 0 0 [] i
  rw [MostK.no_bits] at c
  rw [← c]
  refine Nat.le_trans List.countP_le_length (Nat.le_trans (ways_len l n n 0 0 []) ?_)
  exact Nat.le_trans (Nat.pow_le_pow_left (show n + 1 ≤ 7 by omega) n) (Nat.le_trans (Nat.pow_le_pow_right (show 0 < 7 by decide) h3) (by decide))
theorem belong : Belong n (fun k => (hitting l (k : Int) (permsOf l.length)).length) (fun j => R (cell l) n n 0 (fun _ => false) j) := by
  obtain ⟨h1, h2, h3, h4, h5⟩ := sq hs
  intro j hj
  have := hit_rook l j
  rw [h1] at this ⊢
  exact this
theorem hits_all : sumTo (n + 1) (fun k => (hitting l (k : Int) (permsOf l.length)).length) = fac n := by
  have := belong hs 0 (by omega)
  try simp only [] at this
  rw [R_zero, Nat.mul_one, Nat.sub_zero] at this
  rw [← this]
  exact sum_congr (fun k _ => by rw [ch_none, Nat.mul_one])
theorem hits_mean : sumTo (n + 1) (fun k => k * (hitting l (k : Int) (permsOf l.length)).length) = fac (n - 1) * cellsN (cell l) n n 0 := by
  have := belong hs 1 (by have := (sq hs).2.1; omega)
  try simp only [] at this
  rw [R_one] at this
  rw [← this]
  exact sum_congr (fun k _ => by rw [ch_one, Nat.mul_comm])
end
def compL (n : Nat) (l : List Int) : List Int := l.map (fun x => 2 ^ n - 1 - x)
theorem set_mid (g : Int → Int) (l : List Int) {i : Nat} (hi : i < l.length) : ((l.map g).take i ++ List.replicate (l.length - i) 0).set i (g l[i]) = (l.map g).take (i + 1) ++ List.replicate (l.length - (i + 1)) 0 := by
  have h1 : ((l.map g).take i).length = i := by rw [List.length_take, List.length_map]; omega
  have e : List.replicate (l.length - i) (0 : Int) = 0 :: List.replicate (l.length - (i + 1)) 0 := by
    rw [show l.length - i = (l.length - (i + 1)) + 1 by omega]; rfl
  rw [List.set_append_right _ _ (by omega), h1, Nat.sub_self, e, List.set_cons_zero, List.take_add_one, List.append_assoc]
  congr 1
  rw [List.getElem?_eq_getElem (by rw [List.length_map]; exact hi), List.getElem_map]
  rfl
theorem mapped {l : List Int} {n : Nat} (hl : l.length = n) (h6 : n ≤ 6) (hb : ∀ i (hi : i < l.length), 0 ≤ l[i] ∧ l[i] < 2 ^ n) : ∀ (d i : Nat), i + d = n → Ev (fun k => impl_Board_mapped_at_impl_ComplementOf_1.l0 n l k (l.length : Int) i n n ((compL n l).take i ++ List.replicate (l.length - i) 0)) ((n : Int), (n : Int), compL n l)
  | 0, i, hi => by
    have e : (compL n l).take i ++ List.replicate (l.length - i) (0 : Int) = compL n l := by
      rw [List.take_of_length_le (by unfold compL; rw [List.length_map]; omega), show l.length - i = 0 by omega]
      simp
    rw [e]
    exact Ev.step (f := fun _ => some ((n : Int), (n : Int), compL n l)) (fun k => by rw [impl_Board_mapped_at_impl_ComplementOf_1.l0, if_neg (by omega)]) (Ev.now _)
  | d + 1, i, hi => by
    have h1 : wrap64 ((i : Int) + 1) = ((i + 1 : Nat) : Int) := by rw [w64 (by omega) (by omega)]; rfl
    have hil : i < l.length := by omega
    have hx := hb i hil
    have hp : (2 : Nat) ^ n ≤ 64 := Nat.le_trans (Nat.pow_le_pow_right (by decide) h6) (by decide)
    have hpos := Nat.two_pow_pos n
    have hx2 : l[i] < ((2 ^ n : Nat) : Int) := by rw [Int.natCast_pow]; exact hx.2
    have hf : impl_ComplementOf_1.f n l i = some (2 ^ n - 1 - l[i]) := by
      unfold impl_ComplementOf_1.f
      rw [if_pos (by omega), if_pos (by omega), if_pos (by omega), shl_one n (by omega), rd_lt _ _ hil, w64 (n := ((2 ^ n : Nat) : Int) - 1) (by omega) (by omega), w64 (by omega) (by omega), Int.natCast_pow]
      rfl
    have hlen : i < ((compL n l).take i ++ List.replicate (l.length - i) (0 : Int)).length := by
      rw [List.length_append, List.length_take, List.length_replicate]; unfold compL; rw [List.length_map]; omega
    refine Ev.step (fun k => by rw [impl_Board_mapped_at_impl_ComplementOf_1.l0, if_pos (by omega), hf, Option.bind_some, if_pos (by omega), if_pos (by omega), h1, Int.toNat_natCast]) ?_
    have ih := mapped hl h6 hb d (i + 1) (by omega)
    unfold compL at ih ⊢
    rw [set_mid (fun x => 2 ^ n - 1 - x) l hil]
    exact ih
section
variable {l : List Int} {n : Nat} (hs : squareB n n l = true)
include hs
theorem comp_ev : Ev (fun k => impl_ComplementOf.f k n n l) ((n : Int), (n : Int), compL n l, true) := by
  obtain ⟨h1, h2, h3, h4, h5⟩ := sq hs
  unfold impl_ComplementOf.f impl_Board_mapped_at_impl_ComplementOf_1.f impl_newBoard.f
  refine Ev.congr (fun k => by rw [impl_IsBoard.f, Option.bind_some, if_pos h4, if_pos (by omega), if_pos (by omega), Option.bind_some]) ?_
  have m := mapped h1 h3 h5 n 0 (by omega)
  rw [List.take_zero, List.nil_append, Nat.sub_zero] at m
  refine Ev.bind (a := ((n : Int), (n : Int), compL n l)) ?_ (Ev.now _)
  refine Ev.congr (fun k => ?_) m
  simp only [Int.toNat_natCast, List.length_replicate]
  rw [h1]
  rfl
theorem comp_sq : squareB n n (compL n l) = true ∧ (compL n l).length = l.length ∧ ∀ i c, i < l.length → c < l.length → cell (compL n l) i c = !cell l i c := by
  obtain ⟨h1, h2, h3, h4, h5⟩ := sq hs
  have hlen : (compL n l).length = l.length := by unfold compL; rw [List.length_map]
  have hp : ((2 ^ n : Nat) : Int) = (2 : Int) ^ n := by rw [Int.natCast_pow]; rfl
  refine ⟨?_, hlen, fun i c hi hc => ?_⟩
  · unfold squareB isBoardB
    rw [decide_eq_true ⟨by omega, by omega, by omega, by omega, by omega⟩, Bool.true_and, Bool.and_eq_true, List.all_eq_true]
    refine ⟨fun x hx => ?_, by simp⟩
    unfold compL at hx
    obtain ⟨y, hy, rfl⟩ := List.mem_map.1 hx
    obtain ⟨i, hi, rfl⟩ := List.mem_iff_getElem.1 hy
    have := h5 i hi
    rw [rowIn_inR, Int.toNat_natCast]
    exact decide_eq_true ⟨by omega, by omega⟩
  · have hx := h5 i hi
    rw [← hp] at hx
    have hc2 : (compL n l).getD i 0 = 2 ^ n - 1 - l[i] := by
      rw [gD_lt _ _ (show i < (compL n l).length by omega)]
      unfold compL
      rw [List.getElem_map]
    unfold cell
    rw [hc2, gD_lt _ _ hi, ← hp]
    obtain ⟨m, hm⟩ : ∃ m : Nat, l[i] = m := ⟨l[i].toNat, by omega⟩
    rw [hm, Int.toNat_natCast]
    have e : (((2 ^ n : Nat) : Int) - 1 - (m : Int)).toNat = 2 ^ n - (m + 1) := by omega
    rw [e, Nat.testBit_two_pow_sub_succ (by omega), decide_eq_true (by omega), Bool.true_and]
theorem comp_hits : impl_HitNumbers.f n n (compL n l) = some (rowOf n (fun k => (hitting (compL n l) (k : Int) (permsOf l.length)).length), true) ∧ ∀ k, k ≤ n → (hitting (compL n l) ((n - k : Nat) : Int) (permsOf l.length)).length = (hitting l (k : Int) (permsOf l.length)).length := by
  obtain ⟨h1, h2, h3, h4, h5⟩ := sq hs
  obtain ⟨g1, g2, g3⟩ := comp_sq hs
  have := hits_row g1
  rw [g2] at this
  refine ⟨this, fun k hk => ?_⟩
  have := hitting_turn g2 g3 (k := k) (by omega)
  rw [h1] at this ⊢
  rw [this]
end
theorem cells_l1 {l : List Int} {n r a0 : Nat} (hl : l.length = n) (h6 : n ≤ 6) (hb : ∀ i (hi : i < l.length), 0 ≤ l[i] ∧ l[i] < 64) (hr : r < n) (ha : a0 ≤ 1000) {P : List (List Int) × Bool → Prop}
    (cont : ∀ acc : List (List Int), acc.length = a0 + sumTo n (fun c => if cell l r c = true then 1 else 0) → Run (fun k => impl_CellsOf.l0 k acc n ((r + 1 : Nat) : Int) n n l) P) : ∀ (d c : Nat) (acc : List (List Int)), c + d = n → acc.length = a0 + sumTo c (fun c => if cell l r c = true then 1 else 0) → Run (fun k => impl_CellsOf.l1 k acc r n r n c n n l) P
  | 0, c, acc, hc, hacc => by
    have w1 : wrap64 ((r : Int) + 1) = ((r + 1 : Nat) : Int) := by rw [w64 (by omega) (by omega)]; rfl
    refine Run.step (fun k => by rw [impl_CellsOf.l1, if_neg (by omega), w1]) (cont acc ?_)
    rw [hacc, show c = n by omega]
  | d + 1, c, acc, hc, hacc => by
    have w1 : wrap64 ((c : Int) + 1) = ((c + 1 : Nat) : Int) := by rw [w64 (by omega) (by omega)]; rfl
    have hx := hb r (by omega)
    have hsum : ∀ c : Nat, sumTo c (fun c => if cell l r c = true then 1 else 0) ≤ c := by
      intro c
      induction c with
      | zero => exact Nat.le_refl _
      | succ c ih => rw [sumTo]; split <;> omega
    have hs := hsum c
    have e : sumTo (c + 1) (fun c => if cell l r c = true then 1 else 0) = sumTo c (fun c => if cell l r c = true then 1 else 0) + if cell l r c = true then 1 else 0 := rfl
    refine Run.step (fun k => by rw [impl_CellsOf.l1, if_pos (by omega), has_f (n : Int) (n : Int) (show r < l.length by omega) hx.1 hx.2 (show c ≤ 64 by omega), Option.bind_some]) ?_
    by_cases hcell : cell l r c = true
    · rw [if_pos hcell] at e
      refine Run.congr (fun k => by rw [if_pos hcell, if_pos (by omega), w1]) (cells_l1 hl h6 hb hr ha cont d (c + 1) _ (by omega) (by rw [List.length_append, List.length_singleton, e]; omega))
    · rw [if_neg hcell] at e
      refine Run.congr (fun k => by rw [if_neg hcell, w1]) (cells_l1 hl h6 hb hr ha cont d (c + 1) acc (by omega) (by rw [e]; omega))
theorem cells_l0 {l : List Int} {n : Nat} (hl : l.length = n) (h6 : n ≤ 6) (hb : ∀ i (hi : i < l.length), 0 ≤ l[i] ∧ l[i] < 64) : ∀ (d r : Nat) (acc : List (List Int)), r + d = n → acc.length ≤ r * 6 → Run (fun k => impl_CellsOf.l0 k acc n r n n l) (fun x => x.1.length = acc.length + cellsN (cell l) n d r ∧ x.2 = true)
  | 0, r, acc, hr, ha => by
    refine Run.step (f := fun _ => some (acc, true)) (fun k => by rw [impl_CellsOf.l0, if_neg (by omega)]) (Run.now ⟨by rw [cellsN, Nat.add_zero], rfl⟩)
  | d + 1, r, acc, hr, ha => by
    have hsum : ∀ c : Nat, sumTo c (fun c => if cell l r c = true then 1 else 0) ≤ c := by
      intro c
      induction c with
      | zero => exact Nat.le_refl _
      | succ c ih => rw [sumTo]; split <;> omega
    have hs := hsum n
    refine Run.step (fun k => by rw [impl_CellsOf.l0, if_pos (by omega)]) ?_
    refine cells_l1 (a0 := acc.length) hl h6 hb (by omega) (by omega) (fun acc2 h2 => ?_) n 0 acc (by omega) (by rw [sumTo, Nat.add_zero])
    refine (cells_l0 hl h6 hb d (r + 1) acc2 (by omega) (by omega)).mono (fun x hx => ⟨?_, hx.2⟩)
    rw [hx.1, h2, cellsN]
    omega
theorem cells_run {l : List Int} {n : Nat} (hs : squareB n n l = true) : Ev (fun k => impl_CountCells.f k n n l) (((cellsN (cell l) n n 0 : Nat) : Int), true) := by
  obtain ⟨h1, h2, h3, h4, h5⟩ := sq hs
  have h64 : ∀ i (hi : i < l.length), 0 ≤ l[i] ∧ l[i] < 64 := fun i hi => ⟨(h5 i hi).1, by have := (h5 i hi).2; have := two_pow_six h3; omega⟩
  obtain ⟨⟨L, b⟩, hev, hL, hb⟩ := cells_l0 h1 h3 h64 n 0 [] (by omega) (by simp)
  simp only [List.length_nil, Nat.zero_add] at hL hb
  subst hb
  unfold impl_CountCells.f impl_CellsOf.f
  refine Ev.bind (a := (L, true)) ?_ ?_
  · refine Ev.congr (fun k => ?_) hev
    rw [impl_IsBoard.f, Option.bind_some, if_pos h4]
    rfl
  · rw [← hL]
    exact Ev.now _
theorem ksum_l0 {n : Nat} (h6 : n ≤ 6) {f : Nat → Nat} (hf : ∀ i, i < n + 1 → f i ≤ 1000000) : ∀ (d i : Nat), i + d = n + 1 → sumTo i f ≤ i * 1000000 → Ev (fun k => laws_kSum.l0 k ((sumTo i f : Nat) : Int) (rowOf n f) ((rowOf n f).length : Int) i) ((sumTo (n + 1) f : Nat) : Int)
  | 0, i, hi, _ => by
    rw [show n + 1 = i by omega]
    have hl := row_len n f
    exact Ev.step (f := fun _ => some ((sumTo i f : Nat) : Int)) (fun k => by rw [laws_kSum.l0, if_neg (by omega)]) (Ev.now _)
  | d + 1, i, hi, hs => by
    have h1 : wrap64 ((i : Int) + 1) = ((i + 1 : Nat) : Int) := by rw [w64 (by omega) (by omega)]; rfl
    have hl := row_len n f
    have hi2 := hf i (by omega)
    have e : sumTo (i + 1) f = sumTo i f + f i := rfl
    have hr : rd (rowOf n f) (i : Int) = (f i : Int) := by
      have := row_get n f (i := i) (by omega)
      unfold rd
      rw [Int.toNat_natCast]
      exact this
    have hs7 : i * 1000000 ≤ 7 * 1000000 := Nat.mul_le_mul_right _ (by omega)
    have h2 : wrap64 (((sumTo i f : Nat) : Int) + (f i : Int)) = ((sumTo (i + 1) f : Nat) : Int) := by rw [e, w64 (by omega) (by omega)]; omega
    refine Ev.step (fun k => by rw [laws_kSum.l0, if_pos (by omega), if_pos (by omega), if_pos (by omega), hr, h1, h2]) (ksum_l0 h6 hf d (i + 1) (by omega) (by rw [e]; omega))
theorem ksum {n : Nat} (h6 : n ≤ 6) {f : Nat → Nat} (hf : ∀ i, i < n + 1 → f i ≤ 1000000) : Ev (fun k => laws_kSum.f k (rowOf n f)) ((sumTo (n + 1) f : Nat) : Int) := ksum_l0 h6 hf (n + 1) 0 (by omega) (by simp [sumTo])
theorem kfac_all : ∀ i : Fin 7, laws_kFactorial.f 20 (i.val : Int) = some ((fac i.val : Nat) : Int) := by decide +kernel
theorem kfac {n : Nat} (h : n ≤ 6) : Ev (fun k => laws_kFactorial.f k n) ((fac n : Nat) : Int) := Ev.of (fun k => laws_kFactorial.mono _ k) (kfac_all ⟨n, by omega⟩)
end Go.Proofs.Ytiopnmgcajohfaa.HitRook
end
section
namespace Go.Proofs.Ytiopnmgcajohfaa.Q
open Go.RowKit Go.Proofs.YtiopnmgcajohfaaW.PrintWords Go.Proofs.YtiopnmgcajohfaaW.PrintLast Go.Proofs.YtiopnmgcajohfaaW.PrintMore
attribute [local go_sem] max2_int min2_int max_two min_two max_three min_three max_four min_four   -- for this text's walks alone
set_option linter.unusedVariables false
set_option linter.unusedSimpArgs false
end Go.Proofs.Ytiopnmgcajohfaa.Q
end
section
namespace Go.Proofs.Ytiopnmgcajohfaa.DrawK
set_option linter.unusedVariables false
open Go.RowKit Go.Proofs.Ytiopnmgcajohfaa.Q Go.Proofs.YtiopnmgcajohfaaW.PrintWords Go.Proofs.YtiopnmgcajohfaaW.PrintLast Go.Proofs.YtiopnmgcajohfaaW.PrintMore
open Go.Proofs.YtiopnmgcajohfaaL Go.Proofs.Ytiopnmgcajohfaa.LawK Go.Proofs.Ytiopnmgcajohfaa.BoardK
theorem square4_run {code : List Int} (hc : Bytes code) {M : Nat} {a s : Int} (ha : At M a) (hm : M + 60 ≤ 1000000) : Run (fun k => spec_l1Cur_square4.f k code a s) (Drawn 7 (M + 60)) := by
  unfold spec_l1Cur_square4.f
  refine Run.bind (one_R hc ha (by omega) 10) ?_
  rintro ⟨b, a1, s1⟩ ha1
  refine Run.ite (fun _ => ?_) (fun _ => ?_)
  · refine Run.bind (board_run hc ha1 (by omega)) ?_
    rintro ⟨r1, c1, l, a3, s3⟩ ⟨hl, ha3⟩
    exact Run.now ⟨hl, ha3.le (by omega) (by omega)⟩
  · refine Run.bind (pick_R hc ha1 (by omega) 5) ?_
    rintro ⟨v, a2, s2⟩ ⟨hv, ha2⟩
    simp only [] at hv
    have hw : 1 ≤ wrap64 (1 + v) ∧ wrap64 (1 + v) ≤ 6 := by rw [w64 (by omega) (by omega)]; omega
    refine Run.bind (boardOf_run hc ha2 (by omega) hw hw) ?_
    rintro ⟨r1, c1, l, a3, s3⟩ ⟨hl, ha3⟩
    simp only [] at hl
    exact Run.now ⟨by simp only []; omega, ha3.le (by omega) (by omega)⟩
end Go.Proofs.Ytiopnmgcajohfaa.DrawK
end
section
namespace Go.Proofs.Ytiopnmgcajohfaa.DrawK
set_option linter.unusedVariables false
open Go.RowKit Go.Proofs.Ytiopnmgcajohfaa.Q Go.Proofs.YtiopnmgcajohfaaW.PrintWords Go.Proofs.YtiopnmgcajohfaaW.PrintLast Go.Proofs.YtiopnmgcajohfaaW.PrintMore
open Go.Proofs.YtiopnmgcajohfaaL Go.Proofs.Ytiopnmgcajohfaa.LawK Go.Proofs.Ytiopnmgcajohfaa.BoardK Go.Proofs.Ytiopnmgcajohfaa.PermK Go.Proofs.Ytiopnmgcajohfaa.HN Go.Proofs.Ytiopnmgcajohfaa.HitAllK Go.Proofs.Ytiopnmgcajohfaa.Pure
theorem zero_hr : At 0 0 := ⟨by omega, by omega, by omega⟩
theorem rooks_run {l : List Int} {n : Nat} (hl : l.length = n) (h6 : n ≤ 6) (hb : ∀ i (hi : i < l.length), 0 ≤ l[i] ∧ l[i] < 64) : ∀ (d r : Nat) (u : Int) (ch : Nat) (out : List Int), r + d = n → ch + d < out.length → out.length ≤ 7 → Run (fun k => spec_hiRooks.f k n n l r u ch out) (fun o => o.length = out.length)
  | 0, r, u, ch, out, hr, hc, ho => by
    refine Run.step (f := fun _ => some (out.set (ch : Int).toNat (wrap64 (rd out ch + 1)))) (fun k => ?_) (Run.now (by rw [List.length_set]))
    rw [spec_hiRooks.f, if_pos (by omega), if_pos (by omega), if_pos (by omega)]
  | d + 1, r, u, ch, out, hr, hc, ho => by
    have w1 := Aside0.mk (show wrap64 ((r : Int) + 1) = ((r + 1 : Nat) : Int) from by rw [w64 (by omega) (by omega)]; rfl)
    have w2 := Aside0.mk (show wrap64 ((ch : Int) + 1) = ((ch + 1 : Nat) : Int) from by rw [w64 (by omega) (by omega)]; rfl)
    refine Run.step (fun k => by rw [spec_hiRooks.f, if_neg (by omega), w1.out]) ?_
    refine Run.bind (rooks_run hl h6 hb d (r + 1) u ch out (by omega) (by omega) ho) ?_
    intro o1 ho1
    have key : ∀ (e c : Nat) (o : List Int), c + e = n → o.length = out.length → Run (fun k => spec_hiRooks.l0 k r u ch o c n n l) (fun x => x.length = out.length) := by
      intro e
      induction e with
      | zero =>
        intro c o hce hoo
        exact Run.step (f := fun _ => some o) (fun k => by rw [spec_hiRooks.l0, if_neg (by omega)]) (Run.now hoo)
      | succ e ih =>
        intro c o hce hoo
        have w3 := Aside0.mk (show wrap64 ((c : Int) + 1) = ((c + 1 : Nat) : Int) from by rw [w64 (by omega) (by omega)]; rfl)
        have hx := hb r (by omega)
        refine Run.step (fun k => by rw [spec_hiRooks.l0, if_pos (by omega), boHas_f (n : Int) (n : Int) (show r < l.length by omega) hx.1 hx.2 (show c ≤ 64 by omega), Option.bind_some]) ?_
        refine Run.ite (fun hcell => ?_) (fun _ => Run.congr (fun k => by rw [w3.out]) (ih (c + 1) o (by omega) hoo))
        refine Run.congr (fun k => if_pos (by omega)) ?_
        refine Run.ite (fun _ => ?_) (fun _ => Run.congr (fun k => by rw [w3.out]) (ih (c + 1) o (by omega) hoo))
        exact Run.congr (fun k => by rw [w1.out, w2.out, w3.out]) (Run.bind (rooks_run hl h6 hb d (r + 1) (Go.bits .or .i64 u (shl .i64 1 (c : Int))) (ch + 1) o (by omega) (by omega) (by omega)) (fun o2 ho2 => ih (c + 1) o2 (by omega) (by omega)))
    exact key n 0 o1 (by omega) ho1
section
variable {code : List Int} (hc : Bytes code)
include hc
theorem hr_l0 : ∀ (d M : Nat) (a s : Int) (x : List Int), x.length + d ≤ 9 → At M a → M + 2 * d ≤ 100000 → Run (fun k => spec_DrawHitsFromRooks.l0 k x (d : Int) code a s) (fun y => y.length ≤ 9)
  | 0, M, a, s, x, hx, ha, hm => Run.step (f := fun _ => some x) (fun k => by rw [spec_DrawHitsFromRooks.l0, if_neg (by omega)]) (Run.now (by omega))
  | d + 1, M, a, s, x, hx, ha, hm => by
    have w1 := Aside0.mk (show wrap64 (((d + 1 : Nat) : Int) - 1) = (d : Int) from by rw [w64 (by omega) (by omega)]; omega)
    refine Run.step (fun k => by rw [spec_DrawHitsFromRooks.l0, if_pos (by omega), w1.out]) ?_
    refine Run.bind (among_R hc ha (by omega) (by simp)) ?_
    rintro ⟨v, a1, s1⟩ ⟨hv, ha1⟩
    exact Run.congr (fun k => by rw [if_pos (by omega)]) (hr_l0 d (M + 2) a1 s1 (x ++ [v]) (by rw [List.length_append, List.length_singleton]; omega) ha1 (by omega))
theorem hr_j0 {b : Bool} {r c : Int} {l : List Int} (hb : b = true → squareB r c l = true) {M : Nat} {a s : Int} (ha : At M a) (hm : M + 100 ≤ 100000) : Run (fun k => spec_DrawHitsFromRooks.j0 k b code a s r c l) (fun y => y.length ≤ 9) := by
  cases b with
  | false =>
    refine Run.step (fun k => by rw [spec_DrawHitsFromRooks.j0, if_neg (by simp)]) ?_
    refine Run.bind (pick_R hc ha (by omega) 9) ?_
    rintro ⟨v, a1, s1⟩ ⟨hv, ha1⟩
    simp only [] at hv
    obtain ⟨d, rfl⟩ : ∃ d : Nat, v = d := ⟨v.toNat, by omega⟩
    exact hr_l0 hc d (M + 2) a1 s1 [] (by simp only [List.length_nil]; omega) ha1 (by omega)
  | true =>
    obtain ⟨q1, q2, q3, q4, q5⟩ := board_bits (hb rfl)
    subst q4
    obtain ⟨n, hn⟩ : ∃ n, n = l.length := ⟨_, rfl⟩
    rw [← hn] at q2 q1
    subst q2
    have w1 := Aside0.mk (show wrap64 ((n : Int) + 1) = ((n + 1 : Nat) : Int) from by rw [w64 (by omega) (by omega)]; rfl)
    refine Run.step (fun k => by rw [spec_DrawHitsFromRooks.j0, if_pos rfl, w1.out, if_pos (by omega), if_pos (by omega), Int.toNat_natCast]) ?_
    refine Run.bind (rooks_run hn.symm q1 q5 n 0 0 0 (List.replicate (n + 1) 0) (by omega) (by rw [List.length_replicate]; omega) (by rw [List.length_replicate]; omega)) ?_
    intro o ho
    rw [List.length_replicate] at ho
    exact Run.now (by omega)
theorem draw_hr : Run (fun k => spec_DrawHitsFromRooks.f k code) (fun y => y.length ≤ 9) := by
  unfold spec_DrawHitsFromRooks.f
  refine Run.bind (square4_run hc zero_hr (by omega)) ?_
  rintro ⟨r, c, l, a, s⟩ ⟨hl, ha⟩
  simp only [] at hl
  refine Run.bind (P := fun t => t = squareB r c l) (Run.of (hiGood (l := l) r c (by omega)) rfl) ?_
  rintro t rfl
  refine Run.ite (fun hb => ?_) (fun _ => hr_j0 hc (by simp) ha (by omega))
  refine Run.bind (one_R hc ha (by omega) 3) ?_
  rintro ⟨b, a1, s1⟩ ha1
  exact hr_j0 hc (fun _ => hb) ha1 (by omega)
theorem rh_l0 : ∀ (d M : Nat) (a s : Int) (x : List Int), x.length + d ≤ 9 → At M a → M + 2 * d ≤ 100000 → Run (fun k => spec_DrawRooksFromHits.l0 k x (d : Int) code a s) (fun y => y.length ≤ 9)
  | 0, M, a, s, x, hx, ha, hm => Run.step (f := fun _ => some x) (fun k => by rw [spec_DrawRooksFromHits.l0, if_neg (by omega)]) (Run.now (by omega))
  | d + 1, M, a, s, x, hx, ha, hm => by
    have w1 := Aside0.mk (show wrap64 (((d + 1 : Nat) : Int) - 1) = (d : Int) from by rw [w64 (by omega) (by omega)]; omega)
    refine Run.step (fun k => by rw [spec_DrawRooksFromHits.l0, if_pos (by omega), w1.out]) ?_
    refine Run.bind (among_R hc ha (by omega) (by simp)) ?_
    rintro ⟨v, a1, s1⟩ ⟨hv, ha1⟩
    exact Run.congr (fun k => by rw [if_pos (by omega)]) (rh_l0 d (M + 2) a1 s1 (x ++ [v]) (by rw [List.length_append, List.length_singleton]; omega) ha1 (by omega))
theorem rh_j0 {b : Bool} {r c : Int} {l : List Int} (hb : b = true → squareB r c l = true) {M : Nat} {a s : Int} (ha : At M a) (hm : M + 100 ≤ 100000) : Run (fun k => spec_DrawRooksFromHits.j0 k b code a s r c l) (fun y => y.length ≤ 9) := by
  cases b with
  | false =>
    refine Run.step (fun k => by rw [spec_DrawRooksFromHits.j0, if_neg (by simp)]) ?_
    refine Run.bind (pick_R hc ha (by omega) 9) ?_
    rintro ⟨v, a1, s1⟩ ⟨hv, ha1⟩
    simp only [] at hv
    obtain ⟨d, rfl⟩ : ∃ d : Nat, v = d := ⟨v.toNat, by omega⟩
    exact rh_l0 hc d (M + 2) a1 s1 [] (by simp only [List.length_nil]; omega) ha1 (by omega)
  | true =>
    obtain ⟨q1, _⟩ := board_bits (hb rfl)
    refine Run.step (fun k => by rw [spec_DrawRooksFromHits.j0, if_pos rfl]) ?_
    refine Run.bind (P := fun x => x.length ≤ 7) (Run.of (spec_hiNumbers (hb rfl)) (by rw [countsF_length]; omega)) ?_
    intro o ho
    exact Run.now (Nat.le_trans ho (by omega))
theorem draw_rh : Run (fun k => spec_DrawRooksFromHits.f k code) (fun y => y.length ≤ 9) := by
  unfold spec_DrawRooksFromHits.f
  refine Run.bind (square4_run hc zero_hr (by omega)) ?_
  rintro ⟨r, c, l, a, s⟩ ⟨hl, ha⟩
  simp only [] at hl
  refine Run.bind (P := fun t => t = squareB r c l) (Run.of (hiGood (l := l) r c (by omega)) rfl) ?_
  rintro t rfl
  refine Run.ite (fun hb => ?_) (fun _ => rh_j0 hc (by simp) ha (by omega))
  refine Run.bind (one_R hc ha (by omega) 3) ?_
  rintro ⟨b, a1, s1⟩ ha1
  exact rh_j0 hc (fun _ => hb) ha1 (by omega)
theorem draw_hn : Run (fun k => spec_DrawHitNumbers.f k code) (fun x => x.2.2.length ≤ 7) := by
  unfold spec_DrawHitNumbers.f
  refine Run.bind (square4_run hc zero_hr (by omega)) ?_
  rintro ⟨r, c, l, a, s⟩ ⟨hl, ha⟩
  exact Run.now hl
theorem draw_ca : Run (fun k => spec_DrawCountAvoiding.f k code) (fun x => x.2.2.length ≤ 7) := by
  unfold spec_DrawCountAvoiding.f
  refine Run.bind (draw_hn hc) ?_
  rintro ⟨r, c, l⟩ hl
  exact Run.now hl
end
end Go.Proofs.Ytiopnmgcajohfaa.DrawK
end
section
namespace Go.Proofs.Ytiopnmgcajohfaa.DrawK
set_option linter.unusedVariables false
open Go.RowKit Go.Proofs.Ytiopnmgcajohfaa.Q Go.Proofs.YtiopnmgcajohfaaW.PrintWords Go.Proofs.YtiopnmgcajohfaaW.PrintLast Go.Proofs.YtiopnmgcajohfaaW.PrintMore
open Go.Proofs.YtiopnmgcajohfaaL Go.Proofs.Ytiopnmgcajohfaa.LawK
theorem kSame_l0 {a b : List Int} (hl : a.length ≤ 4611686018427387904) (h : a.length = b.length) : ∀ (d i : Nat), i + d = a.length → a.take i = b.take i → Ev (fun k => laws_kSame.l0 k a b (a.length : Int) i) (decide (a = b))
  | 0, i, hi, ht => by
    refine Ev.step (f := fun _ => some (decide (a = b))) (fun k => ?_) (Ev.now _)
    rw [laws_kSame.l0, if_neg (by omega)]
    rw [List.take_of_length_le (by omega), List.take_of_length_le (by omega)] at ht
    simp [ht]
  | d + 1, i, hi, ht => by
    have h1 : wrap64 ((i : Int) + 1) = ((i + 1 : Nat) : Int) := by rw [w64 (by omega) (by omega)]; rfl
    have hi2 : i < a.length := by omega
    by_cases e : a[i] = b[i]'(by omega)
    · refine Ev.step (fun k => ?_) (kSame_l0 hl h d (i + 1) (by omega) (by rw [List.take_succ_eq_append_getElem (by omega), List.take_succ_eq_append_getElem (by omega), ht, e]))
      rw [laws_kSame.l0, if_pos (by omega), if_pos (by omega), if_pos (by omega), if_pos (by omega), rd_lt _ _ hi2, rd_lt _ _ (by omega), if_pos e, h1]
    · have : a ≠ b := fun hab => e (by simp [hab])
      rw [decide_eq_false this]
      refine Ev.step (f := fun _ => some false) (fun k => ?_) (Ev.now _)
      rw [laws_kSame.l0, if_pos (by omega), if_pos (by omega), if_pos (by omega), if_pos (by omega), rd_lt _ _ hi2, rd_lt _ _ (by omega), if_neg e]
theorem kSame {a b : List Int} (hl : a.length ≤ 4611686018427387904) : Ev (fun k => laws_kSame.f k a b) (decide (a = b)) := by
  unfold laws_kSame.f
  by_cases h : a.length = b.length
  · exact Ev.congr (fun k => if_pos (by omega)) (kSame_l0 hl h a.length 0 (by omega) (by simp))
  · have : a ≠ b := fun hab => h (by simp [hab])
    rw [decide_eq_false this]
    exact Ev.congr (fun k => if_neg (by omega)) (Ev.now _)
theorem kSame_self {a : List Int} (hl : a.length ≤ 4611686018427387904) : Ev (fun k => laws_kSame.f k a a) true := by
  have := kSame (a := a) (b := a) hl
  rw [decide_eq_true rfl] at this
  exact this
theorem big_f (l0 l1 : List Int) (h1 : l1.length ≤ 4611686018427387904) : laws_big.f l0 l1 = some true ∨ laws_big.f l0 l1 = some false ∧ l0.length ≤ 1048576 ∧ l1.length ≤ 1048576 := by
  unfold laws_big.f
  by_cases h : (l0.length : Int) > 1048576
  · exact .inl (if_pos h)
  · rw [if_neg h, w64 (by omega) (by omega)]
    by_cases h2 : (l1.length : Int) > 1048576 - (l0.length : Int)
    · exact .inl (by rw [decide_eq_true h2])
    · exact .inr ⟨by rw [decide_eq_false h2], by omega, by omega⟩
theorem byte_of {x : Int} (h : (Lit.int .u8 x).wf = true) : 0 ≤ x ∧ x ≤ 255 := by
  simp [Lit.wf, IntKind.min, IntKind.max, IntKind.signed, IntKind.bits] at h
  omega
end Go.Proofs.Ytiopnmgcajohfaa.DrawK
end
section
namespace Go.Proofs.Ytiopnmgcajohfaa.Pure
set_option linter.unusedVariables false
open Go.RowKit Go.Proofs.Ytiopnmgcajohfaa.Q Go.Proofs.YtiopnmgcajohfaaW.PrintWords Go.Proofs.YtiopnmgcajohfaaW.PrintLast Go.Proofs.YtiopnmgcajohfaaW.PrintMore
open Go.Proofs.YtiopnmgcajohfaaL Go.Proofs.Ytiopnmgcajohfaa.LawK Go.Proofs.Ytiopnmgcajohfaa.BoardK Go.Proofs.Ytiopnmgcajohfaa.PermK Go.Proofs.Ytiopnmgcajohfaa.Walk Go.Proofs.Ytiopnmgcajohfaa.HN Go.Proofs.Ytiopnmgcajohfaa.HitAllK
def avoiding (r c : Int) (l : List Int) : Int × Bool := if squareB r c l = true then (rd (countsF l (l.length + 1) (permsOf l.length)) 0, true) else (0, false)
theorem spec_avoid {r c : Int} {l : List Int} (hl : l.length ≤ 1048576) : Ev (fun k => spec_CountAvoiding.f k r c l) (avoiding r c l) := by
  unfold spec_CountAvoiding.f avoiding
  refine Ev.bind (hiGood r c (by omega)) ?_
  by_cases hs : squareB r c l = true
  · rw [if_pos hs]
    refine Ev.congr (fun k => by rw [if_pos hs]) (Ev.bind (spec_hiNumbers hs) ?_)
    exact Ev.congr (fun k => by rw [if_pos (by rw [countsF_length]; omega)]) (Ev.now _)
  · rw [if_neg hs]
    exact Ev.congr (fun k => by rw [if_neg hs]) (Ev.now _)
theorem impl_avoid {r c : Int} {l : List Int} : Ev (fun k => impl_CountAvoiding.f r c l) (avoiding r c l) := by
  refine Ev.congr (f := fun k => some (avoiding r c l)) (fun k => ?_) (Ev.now _)
  unfold impl_CountAvoiding.f avoiding
  rw [impl_answer_f, Option.bind_some]
  unfold hitNumbers
  by_cases hs : squareB r c l = true
  · rw [if_pos hs, if_pos rfl, if_pos hs]
    simp only []
    rw [if_pos (by rw [countsF_length]; omega)]
  · rw [if_neg hs, if_neg (by simp), if_neg hs]
end Go.Proofs.Ytiopnmgcajohfaa.Pure
end
section
namespace Go.Proofs.Ytiopnmgcajohfaa.Pure
set_option linter.unusedVariables false
open Go.RowKit Go.Proofs.Ytiopnmgcajohfaa.Q Go.Proofs.YtiopnmgcajohfaaW.PrintWords Go.Proofs.YtiopnmgcajohfaaW.PrintLast Go.Proofs.YtiopnmgcajohfaaW.PrintMore
open Go.Proofs.YtiopnmgcajohfaaL Go.Proofs.Ytiopnmgcajohfaa.LawK Go.Proofs.Ytiopnmgcajohfaa.BoardK Go.Proofs.Ytiopnmgcajohfaa.PermK Go.Proofs.Ytiopnmgcajohfaa.Walk Go.Proofs.Ytiopnmgcajohfaa.HN Go.Proofs.Ytiopnmgcajohfaa.HitAllK Go.Proofs.Ytiopnmgcajohfaa.HitLawK Go.Proofs.Ytiopnmgcajohfaa.DrawK Go.Proofs.Ytiopnmgcajohfaa.HitsK Go.Proofs.Ytiopnmgcajohfaa.HitRook
open Go.Proofs.Ytiopnmgcajohfaa.HitSum (sumTo fac R cellsN R_one)
open Go.Proofs.Ytiopnmgcajohfaa.HitAlg (rowOf row_len row_get Belong hits_of_rooks rooks_of_hits good_row)
namespace HitsRooksK
theorem hr_len {l : List Int} (h : l.length ≤ 9) : (if goodL l then (hitsOfRooks l, true) else ([], false)).1.length ≤ 9 := by
  split
  · show (hitsOfRooks l).length ≤ 9
    unfold hitsOfRooks
    rw [outer_length, List.length_replicate]
    exact h
  · exact Nat.zero_le _
theorem rh_len {l : List Int} (h : l.length ≤ 9) : (if goodL l then rooksOfHits l else ([], false)).1.length ≤ 9 := by
  split
  · have h1 := rooksF_length l l.length 0 []
    unfold rooksOfHits
    simp at h1
    omega
  · exact Nat.zero_le _
theorem j3 {more : List Int} (hc : Bytes more) : Ev (fun k => laws_FnHitsAndRooks.j3 k more) true := by
  obtain ⟨x, ex, hx⟩ := draw_hr hc
  obtain ⟨y, ey, hy⟩ := draw_rh hc
  obtain ⟨⟨r, c, l⟩, ec, hl⟩ := draw_ca hc
  simp only [] at hl
  have h1 := hr_len hx
  have h2 := rh_len hy
  refine Ev.step (fun k => by rw [laws_FnHitsAndRooks.j3]) ?_
  refine Ev.bind ex (Ev.bind (impl_hitsFromRooks (by omega)) (Ev.bind (spec_hitsFromRooks (by omega)) ?_))
  refine Ev.bind ey (Ev.bind (impl_rooksFromHits (by omega)) (Ev.bind (spec_rooksFromHits (by omega)) ?_))
  refine Ev.bind ec (Ev.bind (impl_avoid (r := r) (c := c) (l := l)) (Ev.bind (spec_avoid (r := r) (c := c) (l := l) (by omega)) ?_))
  refine Ev.congr (fun k => by rw [if_pos (by simp)]) ?_
  refine Ev.bind (kSame_self (Nat.le_trans h1 (by decide))) ?_
  refine Ev.congr (fun k => by rw [if_pos rfl, if_pos (by simp)]) ?_
  refine Ev.bind (kSame_self (Nat.le_trans h2 (by decide))) ?_
  exact Ev.congr (fun k => by rw [if_pos rfl, if_pos (by simp), beq_self_eq_true]) (Ev.now _)
section
variable {l : List Int} {n : Nat} (hs : squareB n n l = true) {more : List Int} (hc : Bytes more)
include hs hc
theorem rounds : ∀ (d i : Nat), i + d = n + 1 → sumTo i (fun k => k * (hitting l (k : Int) (permsOf l.length)).length) ≤ i * 1000000 →
    Ev (fun k => laws_FnHitsAndRooks.l0 k more ((cellsN (cell l) n n 0 : Nat) : Int) (rowOf n (fun k => (hitting (compL n l) (k : Int) (permsOf l.length)).length)) n ((sumTo i (fun k => k * (hitting l (k : Int) (permsOf l.length)).length) : Nat) : Int) (rowOf n (fun k => (hitting l (k : Int) (permsOf l.length)).length)) ((rowOf n (fun k => (hitting l (k : Int) (permsOf l.length)).length)).length : Int) i) true
  | 0, i, hi, hm => by
    obtain ⟨h1, h2, h3, h4, h5⟩ := sq hs
    have hl := row_len n (fun k => (hitting l (k : Int) (permsOf l.length)).length)
    have e : i = n + 1 := by omega
    subst e
    have w1 := Aside0.mk (show wrap64 ((n : Int) - 1) = ((n - 1 : Nat) : Int) from by rw [w64 (by omega) (by omega)]; omega)
    refine Ev.step (fun k => by rw [laws_FnHitsAndRooks.l0, if_neg (by omega), w1.out]) ?_
    refine Ev.bind (kfac (show n - 1 ≤ 6 by omega)) ?_
    have hc1 := (bounds hs 1).2
    rw [R_one] at hc1
    have hf : fac (n - 1) ≤ 720 := (by decide : ∀ i : Fin 7, fac i.val ≤ 720) ⟨n - 1, by omega⟩
    have hp : fac (n - 1) * cellsN (cell l) n n 0 ≤ 720 * 117649 := Nat.mul_le_mul hf hc1
    have hmean := hits_mean hs
    have e2 : wrap64 (((cellsN (cell l) n n 0 : Nat) : Int) * ((fac (n - 1) : Nat) : Int)) = ((fac (n - 1) * cellsN (cell l) n n 0 : Nat) : Int) := by
      rw [← Int.natCast_mul, Nat.mul_comm, w64 (by omega) (by omega)]
    exact Ev.congr (fun k => by rw [if_pos (by rw [e2, hmean])]) (j3 hc)
  | d + 1, i, hi, hm => by
    obtain ⟨h1, h2, h3, h4, h5⟩ := sq hs
    have hl := row_len n (fun k => (hitting l (k : Int) (permsOf l.length)).length)
    have hl2 := row_len n (fun k => (hitting (compL n l) (k : Int) (permsOf l.length)).length)
    have hb := (bounds hs i).1
    have w1 := Aside0.mk (show wrap64 ((i : Int) + 1) = ((i + 1 : Nat) : Int) from by rw [w64 (by omega) (by omega)]; rfl)
    have w2 := Aside0.mk (show wrap64 ((n : Int) - (i : Int)) = ((n - i : Nat) : Int) from by rw [w64 (by omega) (by omega)]; omega)
    have hr : rd (rowOf n (fun k => (hitting l (k : Int) (permsOf l.length)).length)) (i : Int) = (((hitting l (i : Int) (permsOf l.length)).length : Nat) : Int) := by
      have := row_get n (fun k => (hitting l (k : Int) (permsOf l.length)).length) (i := i) (by omega)
      unfold rd
      rw [Int.toNat_natCast]
      exact this
    have hr2 : rd (rowOf n (fun k => (hitting (compL n l) (k : Int) (permsOf l.length)).length)) ((n - i : Nat) : Int) = (((hitting l (i : Int) (permsOf l.length)).length : Nat) : Int) := by
      have := row_get n (fun k => (hitting (compL n l) (k : Int) (permsOf l.length)).length) (i := n - i) (by omega)
      unfold rd
      rw [Int.toNat_natCast]
      refine this.trans ?_
      rw [(comp_hits hs).2 i (by omega)]
    have hmul : i * (hitting l (i : Int) (permsOf l.length)).length ≤ 6 * 117649 := Nat.mul_le_mul (by omega) hb
    have hi7 : i * 1000000 ≤ 6 * 1000000 := Nat.mul_le_mul_right _ (by omega)
    have e : sumTo (i + 1) (fun k => k * (hitting l (k : Int) (permsOf l.length)).length) = sumTo i (fun k => k * (hitting l (k : Int) (permsOf l.length)).length) + i * (hitting l (i : Int) (permsOf l.length)).length := rfl
    have w3 := Aside0.mk (show wrap64 (((sumTo i (fun k => k * (hitting l (k : Int) (permsOf l.length)).length) : Nat) : Int) + wrap64 ((i : Int) * (((hitting l (i : Int) (permsOf l.length)).length : Nat) : Int))) = ((sumTo (i + 1) (fun k => k * (hitting l (k : Int) (permsOf l.length)).length) : Nat) : Int) from by
      rw [← Int.natCast_mul, w64 (n := ((i * (hitting l (i : Int) (permsOf l.length)).length : Nat) : Int)) (by omega) (by omega), e, w64 (by omega) (by omega)]; omega)
    have ih := rounds d (i + 1) (by omega) (by rw [e]; omega)
    refine Ev.step (fun k => ?_) ih
    rw [laws_FnHitsAndRooks.l0, if_pos (by omega), if_pos (by omega), if_pos (by omega), w2.out, if_pos (by omega), if_pos (by omega), hr, hr2, if_pos rfl, w3.out, w1.out]
end
end HitsRooksK
open HitsRooksK
theorem FnHitsAndRooks : laws_FnHitsAndRooks.Pure := by
  intro code more hcl _ hcw hml hm8 hmw
  unfold laws_FnHitsAndRooks.f
  refine ends ?_
  rcases big_f code more (by omega) with hbig | ⟨hbig, h1, h2⟩
  · exact Ev.congr (fun k => by rw [hbig, Option.bind_some, if_pos rfl]) (Ev.now _)
  have hc : Bytes code := ⟨h1, fun x hx => byte_of (hcw x hx)⟩
  have hm : Bytes more := ⟨h2, fun x hx => byte_of (hmw x hx)⟩
  refine Ev.congr (fun k => by rw [hbig, Option.bind_some, if_neg (by simp)]) ?_
  obtain ⟨⟨r, c, l⟩, hd, hl⟩ := draw_hn hc
  simp only [] at hl
  refine Ev.bind hd (Ev.bind (impl_answer (r := r) (c := c) (l := l)) (Ev.bind (spec_answer (r := r) (c := c) (l := l) (by omega)) ?_))
  refine Ev.congr (fun k => by rw [if_neg (by simp)]) ?_
  have hlen := answer_length r c l
  refine Ev.bind (kSame_self (a := (hitNumbers r c l).1) (by omega)) ?_
  by_cases hs : squareB r c l = true
  · obtain ⟨q1, q2, q3, q4, q5⟩ := board_bits hs
    subst q4
    obtain ⟨n, hn⟩ : ∃ n : Nat, r = n := ⟨r.toNat, by omega⟩
    subst hn
    obtain ⟨g1, g2, g3, g4, g5⟩ := sq hs
    have hN : hitNumbers n n l = (rowOf n (fun k => (hitting l (k : Int) (permsOf l.length)).length), true) := Option.some.inj ((impl_answer_f n n l).symm.trans (hits_row hs))
    have hrow := Prod.mk.inj ((show (countsF l (l.length + 1) (permsOf l.length), true) = hitNumbers n n l from by unfold hitNumbers; rw [if_pos hs]).trans hN)
    have hA : avoiding n n l = (rd (rowOf n (fun k => (hitting l (k : Int) (permsOf l.length)).length)) 0, true) := by
      unfold avoiding
      rw [if_pos hs, hrow.1]
    have hbh : ∀ i, i < n + 1 → (hitting l (i : Int) (permsOf l.length)).length ≤ 1000000 := fun i _ => Nat.le_trans (bounds hs i).1 (by decide)
    have hbr : ∀ i, i < n + 1 → R (cell l) n n 0 (fun _ => false) i ≤ 1000000 := fun i _ => Nat.le_trans (bounds hs i).2 (by decide)
    have hB := belong hs
    have lenh := row_len n (fun k => (hitting l (k : Int) (permsOf l.length)).length)
    have lenr := row_len n (fun j => R (cell l) n n 0 (fun _ => false) j)
    have eHR : Ev (fun k => impl_HitsFromRooks.f k (rowOf n (fun j => R (cell l) n n 0 (fun _ => false) j))) (rowOf n (fun k => (hitting l (k : Int) (permsOf l.length)).length), true) := by
      have := impl_hitsFromRooks (l := rowOf n (fun j => R (cell l) n n 0 (fun _ => false) j)) (by omega)
      rw [if_pos (Go.Proofs.Ytiopnmgcajohfaa.HitAlg.good_row g2 g3 hbr), hits_of_rooks g2 g3 hB hbh] at this
      exact this
    have eRH : Ev (fun k => impl_RooksFromHits.f k (rowOf n (fun k => (hitting l (k : Int) (permsOf l.length)).length))) (rowOf n (fun j => R (cell l) n n 0 (fun _ => false) j), true) := by
      have := impl_rooksFromHits (l := rowOf n (fun k => (hitting l (k : Int) (permsOf l.length)).length)) (by omega)
      rw [if_pos (Go.Proofs.Ytiopnmgcajohfaa.HitAlg.good_row g2 g3 hbh), rooks_of_hits g2 g3 hB hbh hbr] at this
      exact this
    rw [hN]
    refine Ev.step (fun k => by rw [laws_FnHitsAndRooks.j0, if_neg (by simp), if_pos rfl, rooks_row hs, Option.bind_some]) ?_
    refine Ev.bind eHR (Ev.bind eRH (Ev.bind (cells_run hs) (Ev.bind (comp_ev hs) ?_)))
    refine Ev.congr (fun k => by rw [(comp_hits hs).1, Option.bind_some]) ?_
    have eA := impl_avoid (r := (n : Int)) (c := (n : Int)) (l := l)
    rw [hA] at eA
    refine Ev.bind eA ?_
    refine Ev.congr (fun k => by rw [if_pos rfl, if_pos rfl]) ?_
    refine Ev.bind (kSame_self (a := rowOf n (fun k => (hitting l (k : Int) (permsOf l.length)).length)) (by omega)) ?_
    refine Ev.congr (fun k => by rw [if_pos rfl, if_pos rfl]) ?_
    refine Ev.bind (kSame_self (a := rowOf n (fun j => R (cell l) n n 0 (fun _ => false) j)) (by omega)) ?_
    refine Ev.congr (fun k => by rw [if_pos rfl, if_pos rfl, if_pos rfl, if_pos rfl, if_pos (show (0 : Int) < ((rowOf n (fun k => (hitting l (k : Int) (permsOf l.length)).length)).length : Int) by omega), if_pos rfl, if_pos rfl]) ?_
    have hsum := ksum g3 (f := fun k => (hitting l (k : Int) (permsOf l.length)).length) hbh
    rw [hits_all hs] at hsum
    refine Ev.bind hsum ?_
    refine Ev.bind (kfac g3) ?_
    refine Ev.step (fun k => by rw [laws_FnHitsAndRooks.j1, if_neg (by simp)]) ?_
    exact rounds hs hm (n + 1) 0 (by omega) (by simp [sumTo])
  · have hN : hitNumbers r c l = ([], false) := by unfold hitNumbers; rw [if_neg hs]
    rw [hN]
    refine Ev.step (fun k => by rw [laws_FnHitsAndRooks.j0, if_neg (by simp), if_neg (by simp)]) ?_
    exact j3 hm
end Go.Proofs.Ytiopnmgcajohfaa.Pure
end
