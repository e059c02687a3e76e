/- Equality of rows, and marks in rows found again. No conditions but small lengths. -/
import Derived.Test.YtlhblnphfpijkaaMarkSS
import Derived.Test.YtlhblnphfpijkaaQlawseqIntSS
import Derived.Test.YtlhblnphfpijkaaQlawsheldIntSS
namespace Go.Proofs.Ytlhblnphfpijkaa.MarkK
set_option linter.unusedVariables false
open Go.RowKit Go.Proofs.Ytlhblnphfpijkaa.Q Go.Proofs.YtlhblnphfpijkaaW.PrintWords Go.Proofs.YtlhblnphfpijkaaW.PrintLast Go.Proofs.YtlhblnphfpijkaaW.PrintMore
open Go.Proofs.YtlhblnphfpijkaaL Go.Proofs.Ytlhblnphfpijkaa.LawK
theorem rdL {xs : List (List Int)} {i : Nat} (h : i < xs.length) : rd_L1 xs (i : Int) = xs[i] := by unfold rd_L1; rw [Int.toNat_natCast]; exact gD_lt _ _ h
theorem eqIntSS_l0 {a b : List (List Int)} (hl : a.length ≤ 4611686018427387904) (hx : ∀ x ∈ a, x.length ≤ 4611686018427387904) (h : a.length = b.length) : ∀ (d i : Nat), i + d = a.length → a.take i = b.take i → Ev (fun k => laws_eqIntSS.l0 k a b i) (decide (a = b))
  | 0, i, hi, ht => by
    refine Ev.step (f := fun _ => some (decide (a = b))) (fun k => ?_) (Ev.now _)
    rw [laws_eqIntSS.l0, if_neg (by omega)]
    rw [List.take_of_length_le (by omega), List.take_of_length_le (by omega)] at ht
    simp [ht]
  | d + 1, i, hi, ht => by
    have h1 : wrap64 ((i : Int) + 1) = ((i + 1 : Nat) : Int) := by rw [w64 (by omega) (by omega)]; rfl
    have hi2 : i < a.length := by omega
    refine Ev.step (f := fun k => (laws_eqIntS.f k a[i] (b[i]'(by omega))).bind fun t => if t = true then laws_eqIntSS.l0 k a b ((i + 1 : Nat) : Int) else some false) (fun k => ?_) ?_
    · rw [laws_eqIntSS.l0, if_pos (by omega), if_pos (by omega), if_pos (by omega), h1, rdL hi2, rdL (by omega)]
    · refine Ev.bind (eqIntS (by have := hx _ (List.getElem_mem hi2); omega)) ?_
      by_cases e : a[i] = b[i]'(by omega)
      · refine Ev.congr (fun k => if_pos (decide_eq_true e)) (eqIntSS_l0 hl hx h d (i + 1) (by omega) ?_)
        rw [List.take_succ_eq_append_getElem (by omega), List.take_succ_eq_append_getElem (by omega), ht, e]
      · have : a ≠ b := fun hab => e (by simp [hab])
        rw [decide_eq_false this]
        exact Ev.congr (fun k => if_neg (by simpa using e)) (Ev.now _)
theorem eqIntSS {a b : List (List Int)} (hl : a.length ≤ 4611686018427387904) (hx : ∀ x ∈ a, x.length ≤ 4611686018427387904) : Ev (fun k => laws_eqIntSS.f k a b) (decide (a = b)) := by
  unfold laws_eqIntSS.f
  by_cases h : a.length = b.length
  · refine Ev.congr (fun k => if_pos (by omega)) (eqIntSS_l0 hl hx h a.length 0 (by omega) (by simp))
  · have : a ≠ b := fun hab => h (by simp [hab])
    rw [decide_eq_false this]
    exact Ev.congr (fun k => if_neg (by omega)) (Ev.now _)
theorem marks_get : ∀ (l : List (List Int)) (m : Int) (i : Nat) (h : i < l.length), (marks m l)[i]'(by rw [marks_length]; exact h) = iota (m + total (l.take i)) l[i].length
  | x :: t, m, 0, h => by simp [marks, total]
  | x :: t, m, i + 1, h => by
    have := marks_get t (m + x.length) i (by simpa using h)
    simp only [marks, List.getElem_cons_succ, this, List.take_succ_cons, total]
    congr 1
    push_cast
    omega
theorem heldIntSS_l0 {l : List (List Int)} {m : Int} (h0 : 0 ≤ m) (hm : m + total l ≤ 4611686018427387904) (hl : l.length ≤ 1000000000) : ∀ (d i : Nat), i + d = l.length → Ev (fun k => laws_heldIntSS.l0 k (marks m l) (m + total (l.take i)) i) (m + total l)
  | 0, i, hi => by
    refine Ev.step (f := fun _ => some (m + total l)) (fun k => ?_) (Ev.now _)
    rw [laws_heldIntSS.l0, marks_length, if_neg (by omega), List.take_of_length_le (by omega)]
  | d + 1, i, hi => by
    have h1 : wrap64 ((i : Int) + 1) = ((i + 1 : Nat) : Int) := by rw [w64 (by omega) (by omega)]; rfl
    have hi2 : i < l.length := by omega
    have ht1 := total_take l i
    have ht2 : total (l.take (i + 1)) = total (l.take i) + l[i].length := by rw [List.take_succ_eq_append_getElem hi2, total_snoc]
    have ht3 := total_take l (i + 1)
    have ih := heldIntSS_l0 h0 hm hl d (i + 1) (by omega)
    refine Ev.step (f := fun k => (laws_heldIntS.f k (iota (m + total (l.take i)) l[i].length) (m + total (l.take i))).bind fun t => if t < 0 then some (-1) else laws_heldIntSS.l0 k (marks m l) t ((i + 1 : Nat) : Int)) (fun k => ?_) ?_
    · rw [laws_heldIntSS.l0, marks_length, if_pos (by omega), if_pos (by omega), rdL (by rw [marks_length]; exact hi2), marks_get l m i hi2, h1]
    · refine Ev.bind (heldIntS l[i].length (by omega) (by omega)) ?_
      refine Ev.congr (fun k => ?_) ih
      rw [if_neg (by omega), ht2]
      congr 1
      push_cast
      omega
theorem heldIntSS (l : List (List Int)) {m : Int} (h0 : 0 ≤ m) (hm : m + total l ≤ 4611686018427387904) (hl : l.length ≤ 1000000000) : Ev (fun k => laws_heldIntSS.f k (marks m l) m) (m + total l) := by
  have := heldIntSS_l0 h0 hm hl l.length 0 (by omega)
  simp [total] at this
  exact this
theorem total_le' : ∀ (l : List (List Int)), (∀ x ∈ l, x.length ≤ 1000) → total l ≤ l.length * 1000
  | [], _ => by simp [total]
  | x :: t, h => by
    have h1 := total_le' t (fun y hy => h y (List.mem_cons_of_mem _ hy))
    have h2 := h x List.mem_cons_self
    simp only [total, List.length_cons]
    omega
theorem total_le {l : List (List Int)} (h1 : l.length ≤ 1000000) (h2 : ∀ x ∈ l, x.length ≤ 1000) : total l ≤ 1000000 * 1000 := Nat.le_trans (total_le' l h2) (Nat.mul_le_mul_right _ h1)
end Go.Proofs.Ytlhblnphfpijkaa.MarkK
