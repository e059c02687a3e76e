/- Hit numbers out of rook numbers and back, as the program and the reference reckon them: both come to the same sums. -/
import Derived.Test.YtiocgomkminmoaaQspecHitsFromRooks
import Derived.Test.YtiocgomkminmoaaQimplHitsFromRooks
import Derived.Test.YtiocgomkminmoaaLaw
namespace Go.Proofs.Ytiocgomkminmoaa.HitsK
open Go.RowKit Go.Proofs.Ytiocgomkminmoaa.Q Go.Proofs.YtiocgomkminmoaaW.PrintWords Go.Proofs.YtiocgomkminmoaaW.PrintLast Go.Proofs.YtiocgomkminmoaaW.PrintMore
open Go.Proofs.YtiocgomkminmoaaL Go.Proofs.Ytiocgomkminmoaa.LawK

def inSum (x : Int) : Bool := decide (0 ≤ x ∧ x ≤ 1000000)
/-- May numbers be hit or rook numbers? -/
def goodL (l : List Int) : Bool := decide (2 ≤ l.length ∧ l.length ≤ 7) && l.all inSum
theorem all_l0 {l : List Int} (hl : l.length ≤ 4611686018427387904) : ∀ (d i : Nat), i + d = l.length → (l.take i).all inSum = true → Ev (fun k => spec_l1All.l0 k 0 1000000 l (l.length : Int) i) (l.all inSum)
  | 0, i, hi, ht => by
    refine Ev.step (f := fun _ => some (l.all inSum)) (fun k => ?_) (Ev.now _)
    rw [List.take_of_length_le (by omega)] at ht
    rw [spec_l1All.l0, if_neg (by omega), ht]
  | d + 1, i, hi, ht => by
    have h1 : wrap64 ((i : Int) + 1) = ((i + 1 : Nat) : Int) := by rw [w64 (by omega) (by omega)]; rfl
    have h2 : spec_l1In.f (rd l (i : Int)) 0 1000000 = some (inSum l[i]) := by
      unfold spec_l1In.f inSum
      rw [rd_lt _ _ (by omega)]
      by_cases a : l[i] ≥ 0
      · rw [if_pos a]; congr 1; simp; omega
      · rw [if_neg a]; congr 1; simp; omega
    by_cases e : inSum l[i] = true
    · refine Ev.step (fun k => ?_) (all_l0 hl d (i + 1) (by omega) ?_)
      · rw [spec_l1All.l0, if_pos (by omega), if_pos (by omega), if_pos (by omega), h2, Option.bind_some, if_pos e, h1]
      · rw [List.take_succ_eq_append_getElem (by omega), List.all_append, ht]; simp [e]
    · refine Ev.step (f := fun _ => some (l.all inSum)) (fun k => ?_) (Ev.now _)
      rw [spec_l1All.l0, if_pos (by omega), if_pos (by omega), if_pos (by omega), h2, Option.bind_some, if_neg e]
      have : l.all inSum = false := by
        rw [List.all_eq_false]; exact ⟨l[i], List.getElem_mem _, e⟩
      rw [this]
theorem hiList {l : List Int} (hl : l.length ≤ 4611686018427387904) : Ev (fun k => spec_hiList.f k l) (goodL l) := by
  have h2 : spec_l1In.f (l.length : Int) 2 7 = some (decide (2 ≤ l.length ∧ l.length ≤ 7)) := by
    unfold spec_l1In.f
    by_cases a : (l.length : Int) ≥ 2
    · rw [if_pos a]; congr 1; exact decide_eq_decide.mpr (by omega)
    · rw [if_neg a]; congr 1; simp; omega
  by_cases e : 2 ≤ l.length ∧ l.length ≤ 7
  · refine Ev.congr (f := fun k => (spec_l1All.f k l 0 1000000).bind fun t => some t) (fun k => ?_) ?_
    · unfold spec_hiList.f
      rw [h2, Option.bind_some, if_pos (by simp [e])]
    · refine Ev.bind (a := l.all inSum) ?_ ?_
      · refine Ev.congr (fun k => ?_) (all_l0 hl l.length 0 (by omega) (by simp))
        unfold spec_l1All.f; rfl
      · unfold goodL; simp only [e, and_self, decide_true, Bool.true_and]; exact Ev.now _
  · refine Ev.congr (f := fun _ => some (goodL l)) (fun k => ?_) (Ev.now _)
    unfold spec_hiList.f goodL
    rw [h2, Option.bind_some, if_neg (by simpa using e)]
    simp [e]
theorem idx_l0 {l : List Int} (hl : l.length ≤ 4611686018427387904) : ∀ (d i : Nat), i + d = l.length → (l.take i).all inSum = true → ∃ r : Int, (decide (r ≥ 0) = !l.all inSum) ∧ Ev (fun k => slices_IndexFunc_int_int__at_impl_areSums_1.l0 k l (l.length : Int) i) r
  | 0, i, hi, ht => by
    rw [List.take_of_length_le (by omega)] at ht
    refine ⟨-1, by rw [ht]; rfl, Ev.step (f := fun _ => some (-1)) (fun k => ?_) (Ev.now _)⟩
    rw [slices_IndexFunc_int_int__at_impl_areSums_1.l0, if_neg (by omega)]
  | d + 1, i, hi, ht => by
    have h1 : wrap64 ((i : Int) + 1) = ((i + 1 : Nat) : Int) := by rw [w64 (by omega) (by omega)]; rfl
    have h2 : impl_areSums_1.f (rd l (i : Int)) = some (!inSum l[i]) := by
      unfold impl_areSums_1.f impl_within.f inSum
      rw [rd_lt _ _ (by omega)]
      by_cases a : (0 : Int) ≤ l[i]
      · rw [if_pos a, Option.bind_some]; congr 2; simp; omega
      · rw [if_neg a, Option.bind_some]; congr 2; simp; omega
    by_cases e : inSum l[i] = true
    · obtain ⟨r, hr, hev⟩ := idx_l0 hl d (i + 1) (by omega) (by
        rw [List.take_succ_eq_append_getElem (by omega), List.all_append, ht]; simp [e])
      refine ⟨r, hr, Ev.step (fun k => ?_) hev⟩
      rw [slices_IndexFunc_int_int__at_impl_areSums_1.l0, if_pos (by omega), if_pos (by omega), if_pos (by omega), h2, Option.bind_some, e]
      rw [if_neg (by simp), h1]
    · have hf : l.all inSum = false := by
        rw [List.all_eq_false]; exact ⟨l[i], List.getElem_mem _, e⟩
      refine ⟨i, by rw [hf]; simp, Ev.step (f := fun _ => some (i : Int)) (fun k => ?_) (Ev.now _)⟩
      rw [slices_IndexFunc_int_int__at_impl_areSums_1.l0, if_pos (by omega), if_pos (by omega), if_pos (by omega), h2, Option.bind_some, if_pos (by simp [e])]
theorem areSums {l : List Int} (hl : l.length ≤ 4611686018427387904) : Ev (fun k => impl_areSums.f k l) (goodL l) := by
  have h2 : impl_within.f (l.length : Int) 2 7 = some (decide (2 ≤ l.length ∧ l.length ≤ 7)) := by
    unfold impl_within.f
    by_cases a : 2 ≤ (l.length : Int)
    · rw [if_pos a]; congr 1; exact decide_eq_decide.mpr (by omega)
    · rw [if_neg a]; congr 1; simp; omega
  by_cases e : 2 ≤ l.length ∧ l.length ≤ 7
  · obtain ⟨r, hr, hev⟩ := idx_l0 hl l.length 0 (by omega) (by simp)
    refine Ev.congr (f := fun k => (slices_ContainsFunc_int_int__at_impl_areSums_1.f k l).bind fun t => some (!t)) (fun k => ?_) ?_
    · unfold impl_areSums.f
      rw [h2, Option.bind_some, if_pos (by simp [e])]
    · refine Ev.bind (a := decide (r ≥ 0)) ?_ ?_
      · unfold slices_ContainsFunc_int_int__at_impl_areSums_1.f slices_IndexFunc_int_int__at_impl_areSums_1.f
        exact Ev.bind (a := r) hev (Ev.now _)
      · rw [hr]
        unfold goodL; simp only [e, and_self, decide_true, Bool.true_and, Bool.not_not]; exact Ev.now _
  · refine Ev.congr (f := fun _ => some (goodL l)) (fun k => ?_) (Ev.now _)
    unfold impl_areSums.f goodL
    rw [h2, Option.bind_some, if_neg (by simpa using e)]
    simp [e]

/-- Factorials, and the powers of x - 1. -/
def fact : Nat → Int
  | 0 => 1
  | n + 1 => (n + 1) * fact n
def pol : Nat → List Int := fun j => [[1], [-1, 1], [1, -2, 1], [-1, 3, -3, 1], [1, -4, 6, -4, 1], [-1, 5, -10, 10, -5, 1], [1, -6, 15, -20, 15, -6, 1], [-1, 7, -21, 35, -35, 21, -7, 1]].getD j []
theorem spec_fact {n : Nat} (h : n ≤ 6) : Ev (fun k => spec_hiFactorial.f k n) (fact n) := by
  have : ∀ i : Fin 7, spec_hiFactorial.f 20 (i.val : Int) = some (fact i.val) := by decide +kernel
  exact Ev.of (fun k => spec_hiFactorial.mono _ k) (this ⟨n, by omega⟩)
theorem impl_fact {n : Nat} (h : n ≤ 6) : Ev (fun k => impl_factorial.f k n) (fact n) := by
  have : ∀ i : Fin 7, impl_factorial.f 20 (i.val : Int) = some (fact i.val) := by decide +kernel
  exact Ev.of (fun k => impl_factorial.mono _ k) (this ⟨n, by omega⟩)
/-- How a choice stands among the power's numbers. -/
def sgn (j i : Nat) : Int := if (j - i) % 2 = 1 then -1 else 1
theorem spec_choose {j i : Nat} (hj : j ≤ 6) (hi : i ≤ j) : Ev (fun k => spec_hiChoose.f k j i) (sgn j i * (pol j).getD i 0) := by
  have : ∀ a b : Fin 7, b.val ≤ a.val → spec_hiChoose.f 20 (a.val : Int) (b.val : Int) = some (sgn a.val b.val * (pol a.val).getD b.val 0) := by decide +kernel
  exact Ev.of (fun k => spec_hiChoose.mono _ _ k) (this ⟨j, by omega⟩ ⟨i, by omega⟩ hi)
theorem impl_prod {j : Nat} (hj : j ≤ 6) : Ev (fun k => impl_product.f k (pol j) [-1, 1]) (pol (j + 1)) := by
  have : ∀ a : Fin 7, impl_product.f 60 (pol a.val) [-1, 1] = some (pol (a.val + 1)) := by decide +kernel
  exact Ev.of (fun k => impl_product.mono _ _ k) (this ⟨j, by omega⟩)
theorem pol_length {j : Nat} (hj : j ≤ 6) : (pol j).length = j + 1 := by
  have : ∀ a : Fin 7, (pol a.val).length = a.val + 1 := by decide
  exact this ⟨j, by omega⟩
theorem pol_bound {j i : Nat} (hj : j ≤ 6) (hi : i ≤ j) : -20 ≤ (pol j).getD i 0 ∧ (pol j).getD i 0 ≤ 20 := by
  have : ∀ a b : Fin 7, b.val ≤ a.val → -20 ≤ (pol a.val).getD b.val 0 ∧ (pol a.val).getD b.val 0 ≤ 20 := by decide
  exact this ⟨j, by omega⟩ ⟨i, by omega⟩ hi
theorem fact_bound {n : Nat} (h : n ≤ 6) : 1 ≤ fact n ∧ fact n ≤ 720 := by
  have : ∀ i : Fin 7, 1 ≤ fact i.val ∧ fact i.val ≤ 720 := by decide
  exact this ⟨n, by omega⟩
/-- What number j of rooks adds to place i. -/
def term (n j : Nat) (r : Int) (i : Nat) : Int := r * fact (n - j) * (pol j).getD i 0
def inner (n j : Nat) (r : Int) : Nat → Nat → List Int → List Int
  | 0, _, x => x
  | d + 1, i, x => inner n j r d (i + 1) (x.set i (wrap64 (x.getD i 0 + term n j r i)))
def outer (n : Nat) (l : List Int) : Nat → Nat → List Int → List Int
  | 0, _, x => x
  | d + 1, j, x => outer n l d (j + 1) (inner n j (l.getD j 0) (j + 1) 0 x)
theorem inner_length (n j : Nat) (r : Int) : ∀ d i x, (inner n j r d i x).length = x.length
  | 0, _, _ => rfl
  | d + 1, i, x => by rw [inner, inner_length]; simp
theorem outer_length (n : Nat) (l : List Int) : ∀ d j x, (outer n l d j x).length = x.length
  | 0, _, _ => rfl
  | d + 1, j, x => by rw [outer, outer_length, inner_length]
def hitsOfRooks (l : List Int) : List Int := outer (l.length - 1) l l.length 0 (List.replicate l.length 0)

theorem rf_bound {r f : Int} (h0 : 0 ≤ r) (h1 : r ≤ 1000000) (f0 : 1 ≤ f) (f1 : f ≤ 720) : 0 ≤ r * f ∧ r * f ≤ 720000000 := by
  refine ⟨Int.mul_nonneg h0 (by omega), ?_⟩
  have := Int.mul_le_mul h1 f1 (by omega) (by omega)
  omega
theorem rfp_bound {a p : Int} (h0 : 0 ≤ a) (h1 : a ≤ 720000000) (p0 : -20 ≤ p) (p1 : p ≤ 20) : -14400000000 ≤ a * p ∧ a * p ≤ 14400000000 := by
  have e1 := Int.mul_le_mul_of_nonneg_left p1 h0
  have e2 := Int.mul_le_mul_of_nonneg_left p0 h0
  omega
theorem mem_bound {l : List Int} (hg : goodL l = true) {j : Nat} (hj : j < l.length) : 0 ≤ l.getD j 0 ∧ l.getD j 0 ≤ 1000000 := by
  unfold goodL at hg
  simp only [Bool.and_eq_true, List.all_eq_true] at hg
  have := hg.2 l[j] (List.getElem_mem hj)
  unfold inSum at this
  rw [gD_lt _ _ hj]
  simpa using this
theorem good_length {l : List Int} (hg : goodL l = true) : 2 ≤ l.length ∧ l.length ≤ 7 := by
  unfold goodL at hg
  simp only [Bool.and_eq_true, decide_eq_true_eq] at hg
  exact hg.1

theorem spec_l1 {l : List Int} {n j : Nat} (hn : n ≤ 6) (hj : j ≤ n) {r : Int} (h0 : 0 ≤ r) (h1 : r ≤ 1000000) (b c : Int) {R : List Int × Bool} : ∀ (d i : Nat) (x : List Int), i + d = j + 1 → x.length = n + 1 →
    Ev (fun k => spec_HitsFromRooks.l0 k n (inner n j r d i x) l b (wrap64 (c + 1))) R → Ev (fun k => spec_HitsFromRooks.l1 k n x j r i l b c) R
  | 0, i, x, hi, hx, H => by
    refine Ev.step (fun k => ?_) H
    rw [spec_HitsFromRooks.l1, if_neg (by omega), inner]
  | d + 1, i, x, hi, hx, H => by
    have hw1 : wrap64 ((i : Int) + 1) = ((i + 1 : Nat) : Int) := by rw [w64 (by omega) (by omega)]; rfl
    have hw2 : wrap64 ((n : Int) - j) = ((n - j : Nat) : Int) := by rw [w64 (by omega) (by omega)]; omega
    have hw3 : wrap64 ((j : Int) - i) = ((j - i : Nat) : Int) := by rw [w64 (by omega) (by omega)]; omega
    have f := fact_bound (show n - j ≤ 6 by omega)
    have b1 := rf_bound h0 h1 f.1 f.2
    have p := pol_bound (show j ≤ 6 by omega) (show i ≤ j by omega)
    have b2 := rfp_bound b1.1 b1.2 p.1 p.2
    refine Ev.step (fun k => by rw [spec_HitsFromRooks.l1, if_pos (by omega), hw2, hw3]) ?_
    refine Ev.bind (spec_fact (by omega : n - j ≤ 6)) ?_
    refine Ev.bind (spec_choose (by omega : j ≤ 6) (by omega : i ≤ j)) ?_
    have ht : Int.tmod ((j - i : Nat) : Int) 2 = (((j - i) % 2 : Nat) : Int) := tmod_nat (j - i) 2
    have ih := spec_l1 hn hj h0 h1 b c (R := R) d (i + 1) (x.set i (wrap64 (x.getD i 0 + term n j r i))) (by omega) (by simpa using hx) (by rw [inner] at H; exact H)
    refine Ev.congr (fun k => ?_) ih
    show (if Int.tmod ((j - i : Nat) : Int) 2 = 1 then _ else _) = _
    rw [ht]
    by_cases ho : (j - i) % 2 = 1
    · have es : wrap64 (-(wrap64 (wrap64 (r * fact (n - j)) * (sgn j i * (pol j).getD i 0)))) = term n j r i := by
        unfold sgn term
        rw [if_pos ho, w64 (n := r * fact (n - j)) (by omega) (by omega), Int.neg_mul, Int.one_mul, Int.mul_neg, w64 (n := -(r * fact (n - j) * (pol j).getD i 0)) (by omega) (by omega), Int.neg_neg, w64 (by omega) (by omega)]
      rw [if_pos (by omega), if_pos (by omega), if_pos (by omega), es, hw1, rd_nat, Int.toNat_natCast]
    · have es : wrap64 (wrap64 (r * fact (n - j)) * (sgn j i * (pol j).getD i 0)) = term n j r i := by
        unfold sgn term
        rw [if_neg ho, w64 (n := r * fact (n - j)) (by omega) (by omega), Int.one_mul, w64 (by omega) (by omega)]
      rw [if_neg (by omega), if_pos (by omega), if_pos (by omega), es, hw1, rd_nat, Int.toNat_natCast]
theorem spec_l0 {l : List Int} (hg : goodL l = true) : ∀ (d j : Nat) (x : List Int), j + d = l.length → x.length = l.length →
    Ev (fun k => spec_HitsFromRooks.l0 k (l.length - 1 : Nat) x l (l.length : Int) j) (outer (l.length - 1) l d j x, true)
  | 0, j, x, hj, hx => by
    refine Ev.step (f := fun _ => some (x, true)) (fun k => ?_) (Ev.now _)
    rw [spec_HitsFromRooks.l0, if_neg (by omega)]
  | d + 1, j, x, hj, hx => by
    have hl := good_length hg
    have hm := mem_bound hg (show j < l.length by omega)
    have hw1 : wrap64 ((j : Int) + 1) = ((j + 1 : Nat) : Int) := by rw [w64 (by omega) (by omega)]; rfl
    have ih := spec_l0 hg d (j + 1) (inner (l.length - 1) j (l.getD j 0) (j + 1) 0 x) (by omega) (by rw [inner_length]; exact hx)
    refine Ev.step (fun k => by rw [spec_HitsFromRooks.l0, if_pos (by omega), if_pos (by omega), if_pos (by omega), rd_nat]) ?_
    rw [outer]
    exact spec_l1 (n := l.length - 1) (j := j) (by omega) (by omega) hm.1 hm.2 (l.length : Int) j (j + 1) 0 x (by omega) (by omega) (by rw [hw1]; exact ih)
theorem spec_hitsFromRooks {l : List Int} (hl : l.length ≤ 1048576) : Ev (fun k => spec_HitsFromRooks.f k l) (if goodL l then (hitsOfRooks l, true) else ([], false)) := by
  unfold spec_HitsFromRooks.f
  refine Ev.bind (hiList (by omega)) ?_
  by_cases hg : goodL l = true
  · have hn := good_length hg
    have hw : wrap64 ((l.length : Int) - 1) = ((l.length - 1 : Nat) : Int) := by rw [w64 (by omega) (by omega)]; omega
    have hw2 : wrap64 (((l.length - 1 : Nat) : Int) + 1) = (l.length : Int) := by rw [w64 (by omega) (by omega)]; omega
    rw [if_pos hg]
    refine Ev.congr (fun k => ?_) (spec_l0 hg l.length 0 (List.replicate l.length 0) (by omega) (by simp))
    rw [if_pos hg, hw, hw2, if_pos (by omega), Int.toNat_natCast, if_pos (by omega)]; rfl
  · rw [if_neg hg]
    refine Ev.congr (fun k => ?_) (Ev.now _)
    rw [if_neg hg]
theorem impl_l1 {l : List Int} {n j : Nat} (hn : n ≤ 6) (hj : j ≤ n) {r : Int} (h0 : 0 ≤ r) (h1 : r ≤ 1000000) (b c : Int) {R : List Int × Bool} : ∀ (d i : Nat) (x : List Int), i + d = j + 1 → x.length = n + 1 →
    Ev (fun k => impl_HitsFromRooks.l0 k n (pol (j + 1)) (inner n j r d i x) l b (wrap64 (c + 1))) R → Ev (fun k => impl_HitsFromRooks.l1 k n (pol j) x j r l b c (pol j) ((pol j).length : Int) i) R
  | 0, i, x, hi, hx, H => by
    have hp := pol_length (show j ≤ 6 by omega)
    refine Ev.step (fun k => by rw [impl_HitsFromRooks.l1, if_neg (by omega)]) ?_
    refine Ev.bind (impl_prod (by omega)) ?_
    rw [inner] at H
    exact H
  | d + 1, i, x, hi, hx, H => by
    have hp := pol_length (show j ≤ 6 by omega)
    have hw1 : wrap64 ((i : Int) + 1) = ((i + 1 : Nat) : Int) := by rw [w64 (by omega) (by omega)]; rfl
    have hw2 : wrap64 ((n : Int) - j) = ((n - j : Nat) : Int) := by rw [w64 (by omega) (by omega)]; omega
    have f := fact_bound (show n - j ≤ 6 by omega)
    have b1 := rf_bound h0 h1 f.1 f.2
    have p := pol_bound (show j ≤ 6 by omega) (show i ≤ j by omega)
    have b2 := rfp_bound b1.1 b1.2 p.1 p.2
    refine Ev.step (fun k => by rw [impl_HitsFromRooks.l1, if_pos (by omega), if_pos (by omega), if_pos (by omega), if_pos (by omega), hw2]) ?_
    refine Ev.bind (impl_fact (by omega : n - j ≤ 6)) ?_
    have ih := impl_l1 hn hj h0 h1 b c (R := R) d (i + 1) (x.set i (wrap64 (x.getD i 0 + term n j r i))) (by omega) (by simpa using hx) (by rw [inner] at H; exact H)
    have es : wrap64 (wrap64 (r * fact (n - j)) * (pol j).getD i 0) = term n j r i := by
      unfold term
      rw [w64 (n := r * fact (n - j)) (by omega) (by omega), w64 (by omega) (by omega)]
    refine Ev.congr (fun k => ?_) ih
    show impl_HitsFromRooks.l1 k n (pol j) (x.set (i : Int).toNat (wrap64 (rd x i + wrap64 (wrap64 (r * fact (n - j)) * rd (pol j) i)))) j r l b c (pol j) ((pol j).length : Int) (wrap64 ((i : Int) + 1)) = _
    rw [rd_nat, rd_nat, es, hw1, Int.toNat_natCast]
theorem impl_l0 {l : List Int} (hg : goodL l = true) : ∀ (d j : Nat) (x : List Int), j + d = l.length → x.length = l.length →
    Ev (fun k => impl_HitsFromRooks.l0 k (l.length - 1 : Nat) (pol j) x l (l.length : Int) j) (outer (l.length - 1) l d j x, true)
  | 0, j, x, hj, hx => by
    refine Ev.step (f := fun _ => some (x, true)) (fun k => ?_) (Ev.now _)
    rw [impl_HitsFromRooks.l0, if_neg (by omega)]
  | d + 1, j, x, hj, hx => by
    have hl := good_length hg
    have hm := mem_bound hg (show j < l.length by omega)
    have hw1 : wrap64 ((j : Int) + 1) = ((j + 1 : Nat) : Int) := by rw [w64 (by omega) (by omega)]; rfl
    have ih := impl_l0 hg d (j + 1) (inner (l.length - 1) j (l.getD j 0) (j + 1) 0 x) (by omega) (by rw [inner_length]; exact hx)
    refine Ev.step (fun k => by rw [impl_HitsFromRooks.l0, if_pos (by omega), if_pos (by omega), if_pos (by omega), rd_nat]) ?_
    rw [outer]
    exact impl_l1 (n := l.length - 1) (j := j) (by omega) (by omega) hm.1 hm.2 (l.length : Int) j (j + 1) 0 x (by omega) (by omega) (by rw [hw1]; exact ih)
theorem impl_hitsFromRooks {l : List Int} (hl : l.length ≤ 1048576) : Ev (fun k => impl_HitsFromRooks.f k l) (if goodL l then (hitsOfRooks l, true) else ([], false)) := by
  unfold impl_HitsFromRooks.f
  refine Ev.bind (areSums (by omega)) ?_
  by_cases hg : goodL l = true
  · have hn := good_length hg
    have hw : wrap64 ((l.length : Int) - 1) = ((l.length - 1 : Nat) : Int) := by rw [w64 (by omega) (by omega)]; omega
    have hw2 : wrap64 (((l.length - 1 : Nat) : Int) + 1) = (l.length : Int) := by rw [w64 (by omega) (by omega)]; omega
    rw [if_pos hg]
    refine Ev.congr (fun k => ?_) (impl_l0 hg l.length 0 (List.replicate l.length 0) (by omega) (by simp))
    rw [if_pos hg, hw, hw2, if_pos (by omega), Int.toNat_natCast, if_pos (by omega)]; rfl
  · rw [if_neg hg]
    refine Ev.congr (fun k => ?_) (Ev.now _)
    rw [if_neg hg]

end Go.Proofs.Ytiocgomkminmoaa.HitsK
