/- The program's FitsBoard returns what the reference's returns, for all arguments. No conditions. -/
import Derived.Test.YtlhblnphfpijkaaQlawsFnExactFitsBoard
import Derived.Test.YtlhblnphfpijkaaLenA
import Derived.Test.YtlhblnphfpijkaaRowsK
namespace Go.Proofs.Ytlhblnphfpijkaa.Pure
set_option linter.unusedVariables false
open Go.RowKit Go.Proofs.Ytlhblnphfpijkaa.Q Go.Proofs.YtlhblnphfpijkaaW.PrintWords Go.Proofs.YtlhblnphfpijkaaW.PrintLast Go.Proofs.YtlhblnphfpijkaaW.PrintMore
open Go.Proofs.YtlhblnphfpijkaaL Go.Proofs.Ytlhblnphfpijkaa.LawK Go.Proofs.Ytlhblnphfpijkaa.BoardK Go.Proofs.Ytlhblnphfpijkaa.RowsK

namespace FitsK
theorem withinR (a b c : Int) : impl_within.f a b c = some (inR b c a) := by
  unfold impl_within.f inR
  by_cases h : b ≤ a
  · rw [if_pos h]; simp [h]
  · rw [if_neg h]; congr 1; exact (decide_eq_false (by omega)).symm
/-- A row's numbers from a column on: below q, and 0 from place m on. -/
def rowOk (m q : Int) : List Int → Nat → Bool
  | [], _ => true
  | x :: t, c => (inR 0 (q - 1) x && (decide ((c : Int) < m) || decide (x = 0))) && rowOk m q t (c + 1)
/-- All rows from one on. -/
def rowsOk (l : List Int) (q : Int) : List (List Int) → Nat → Bool
  | [], _ => true
  | row :: t, i => (decide (row.length = l.length) && rowOk (l.getD i 0) q row 0) && rowsOk l q t (i + 1)
def fits (l : List Int) (rows : List (List Int)) (q : Int) : Bool := decide (rows.length = l.length) && rowsOk l q rows 0
def ans (l : List Int) (rows : List (List Int)) (q : Int) : Bool × Bool := if (LensK.lenB l && inR 2 3 q) = true then (fits l rows q, true) else (false, false)
section
variable {l : List Int} {q : Int} {rows : List (List Int)} (hl : l.length ≤ 6) (hq : 2 ≤ q ∧ q ≤ 3) (hn : rows.length = l.length)
include hl hq hn
theorem impl_l1 {X : Bool × Bool} (i : Nat) (hi : i < rows.length) (row : List Int) (hr : row.length ≤ 6) (hX : Ev (fun k => impl_FitsBoard.l0 k l q rows (rows.length : Int) ((i + 1 : Nat) : Int)) X) : ∀ (d c : Nat), c + d = row.length →
    Ev (fun k => impl_FitsBoard.l1 k l q i rows (rows.length : Int) i row (row.length : Int) c) (if rowOk (l.getD i 0) q (row.drop c) c = true then X else (false, true))
  | 0, c, hc => by
    have w1 : wrap64 ((i : Int) + 1) = ((i + 1 : Nat) : Int) := by rw [w64 (by omega) (by omega)]; rfl
    rw [List.drop_eq_nil_of_le (by omega), rowOk, if_pos rfl]
    exact Ev.step (fun k => by rw [impl_FitsBoard.l1, if_neg (by omega), w1]) hX
  | d + 1, c, hc => by
    have w1 : wrap64 ((c : Int) + 1) = ((c + 1 : Nat) : Int) := by rw [w64 (by omega) (by omega)]; rfl
    have w2 : wrap64 (q - 1) = q - 1 := w64 (by omega) (by omega)
    have hc2 : c < row.length := by omega
    have ih := impl_l1 i hi row hr hX d (c + 1) (by omega)
    have il : i < l.length := by omega
    have no : ∀ (b : Bool), b = false → (if b = true then X else (false, true)) = (false, true) := fun b h => by rw [h]; rfl
    rw [List.drop_eq_getElem_cons hc2, rowOk]
    by_cases c1 : inR 0 (q - 1) row[c] = true
    · rw [c1, Bool.true_and]
      by_cases c2 : (c : Int) < l.getD i 0
      · rw [decide_eq_true c2, Bool.true_or, Bool.true_and]
        refine Ev.step (fun k => ?_) ih
        rw [impl_FitsBoard.l1, if_pos (by omega), if_pos (by omega), if_pos (by omega), rd_lt _ _ hc2, w2, withinR, Option.bind_some, if_pos c1, if_pos (by omega), if_pos (by omega), rd_nat, if_neg (by omega), w1]
      · rw [decide_eq_false c2, Bool.false_or]
        by_cases c3 : row[c] = 0
        · rw [decide_eq_true c3, Bool.true_and]
          refine Ev.step (fun k => ?_) ih
          rw [impl_FitsBoard.l1, if_pos (by omega), if_pos (by omega), if_pos (by omega), rd_lt _ _ hc2, w2, withinR, Option.bind_some, if_pos c1, if_pos (by omega), if_pos (by omega), rd_nat, if_pos (by omega), if_pos c3, w1]
        · rw [decide_eq_false c3, Bool.false_and, no _ rfl]
          refine Ev.step (f := fun _ => some (false, true)) (fun k => ?_) (Ev.now _)
          rw [impl_FitsBoard.l1, if_pos (by omega), if_pos (by omega), if_pos (by omega), rd_lt _ _ hc2, w2, withinR, Option.bind_some, if_pos c1, if_pos (by omega), if_pos (by omega), rd_nat, if_pos (by omega), if_neg c3]
    · rw [show inR 0 (q - 1) row[c] = false by simpa using c1, Bool.false_and, Bool.false_and, no _ rfl]
      refine Ev.step (f := fun _ => some (false, true)) (fun k => ?_) (Ev.now _)
      rw [impl_FitsBoard.l1, if_pos (by omega), if_pos (by omega), if_pos (by omega), rd_lt _ _ hc2, w2, withinR, Option.bind_some, if_neg c1]
theorem impl_l0 : ∀ (d i : Nat), i + d = rows.length → Ev (fun k => impl_FitsBoard.l0 k l q rows (rows.length : Int) i) (rowsOk l q (rows.drop i) i, true)
  | 0, i, hi => by
    refine Ev.step (f := fun _ => some (true, true)) (fun k => ?_) (evEq (Ev.now _) (by rw [List.drop_eq_nil_of_le (by omega)]; rfl))
    rw [impl_FitsBoard.l0, if_neg (by omega)]
  | d + 1, i, hi => by
    have hi2 : i < rows.length := by omega
    have ih := impl_l0 d (i + 1) (by omega)
    rw [List.drop_eq_getElem_cons hi2, rowsOk]
    by_cases c1 : rows[i].length = l.length
    · rw [decide_eq_true c1, Bool.true_and]
      have := impl_l1 hl hq hn i hi2 rows[i] (by omega) ih rows[i].length 0 (by omega)
      rw [List.drop_zero] at this
      refine Ev.step (fun k => ?_) (evEq this ?_)
      · rw [impl_FitsBoard.l0, if_pos (by omega), if_pos (by omega), if_pos (by omega), rdL hi2, if_pos (by omega)]; rfl
      · cases rowOk (l.getD i 0) q rows[i] 0 <;> rfl
    · rw [decide_eq_false c1, Bool.false_and, Bool.false_and]
      refine Ev.step (f := fun _ => some (false, true)) (fun k => ?_) (Ev.now _)
      rw [impl_FitsBoard.l0, if_pos (by omega), if_pos (by omega), if_pos (by omega), rdL hi2, if_neg (by omega)]
end
theorem impl_answer {l : List Int} {rows : List (List Int)} (q : Int) (hl : l.length ≤ 1048576) : Ev (fun k => impl_FitsBoard.f k l rows q) (ans l rows q) := by
  unfold impl_FitsBoard.f ans
  have no : Ev (fun k => impl_FitsBoard.j0 k l rows q true) (false, false) := Ev.step (f := fun _ => some (false, false)) (fun k => by rw [impl_FitsBoard.j0, if_pos rfl]) (Ev.now _)
  refine Ev.bind (LensK.impl_good hl) ?_
  by_cases h : LensK.lenB l = true
  · rw [h, Bool.true_and]
    refine Ev.congr (fun k => by rw [if_pos rfl, impl_isQ.f, withinR, Option.bind_some, Option.bind_some]) ?_
    by_cases hq : inR 2 3 q = true
    · rw [if_pos hq, hq]
      have hq2 : 2 ≤ q ∧ q ≤ 3 := of_decide_eq_true hq
      have hl6 := (LensK.len_of h).2.1
      unfold fits
      by_cases hn : rows.length = l.length
      · rw [decide_eq_true hn, Bool.true_and]
        have := impl_l0 hl6 hq2 hn rows.length 0 (by omega)
        rw [List.drop_zero] at this
        refine Ev.step (fun k => ?_) this
        rw [impl_FitsBoard.j0, if_neg (by simp), if_pos (by omega)]; rfl
      · rw [decide_eq_false hn, Bool.false_and]
        refine Ev.step (f := fun _ => some (false, true)) (fun k => ?_) (Ev.now _)
        rw [impl_FitsBoard.j0, if_neg (by simp), if_neg (by omega)]
    · rw [if_neg hq, show inR 2 3 q = false by simpa using hq]
      exact no
  · rw [show LensK.lenB l = false by simpa using h, Bool.false_and, if_neg (by simp)]
    exact Ev.congr (fun k => if_neg (by simp)) no
/-- As the reference asks it. -/
theorem rowOk_split (m q : Int) (hm : 0 ≤ m) : ∀ (row : List Int) (c : Nat), rowOk m q row c = (row.all (inR 0 (q - 1)) && (row.drop (m.toNat - c)).all (inR 0 0))
  | [], c => by simp [rowOk]
  | x :: t, c => by
    have ih := rowOk_split m q hm t (c + 1)
    rw [rowOk, ih, List.all_cons]
    by_cases c2 : (c : Int) < m
    · rw [decide_eq_true c2, show m.toNat - c = (m.toNat - (c + 1)) + 1 by omega, List.drop_succ_cons]
      cases inR 0 (q - 1) x <;> simp
    · rw [decide_eq_false c2, show m.toNat - c = 0 by omega, show m.toNat - (c + 1) = 0 by omega, List.drop_zero, List.drop_zero, List.all_cons]
      have : inR 0 0 x = decide (x = 0) := by unfold inR; exact decide_eq_decide.2 (by omega)
      rw [this]
      cases inR 0 (q - 1) x <;> cases decide (x = 0) <;> cases t.all (inR 0 (q - 1)) <;> simp
/-- The rows' zeros behind their lengths, from a row on. -/
def zeros (rows : List (List Int)) : List Int → Nat → Bool
  | [], _ => true
  | m :: t, i => ((rows.getD i []).drop m.toNat).all (inR 0 0) && zeros rows t (i + 1)
section
variable {l : List Int} {q : Int} {rows : List (List Int)} (hl : l.length ≤ 6) (hm : ∀ i (hi : i < l.length), 0 ≤ l[i] ∧ l[i] ≤ l.length) (hn : rows.length = l.length) (hr : ∀ x ∈ rows, x.length = l.length)
include hl hm hn hr
theorem spec_l0 : ∀ (d i : Nat), i + d = l.length → Ev (fun k => spec_FitsBoard.l0 k rows l (l.length : Int) i) (zeros rows (l.drop i) i, true)
  | 0, i, hi => by
    refine Ev.step (f := fun _ => some (true, true)) (fun k => ?_) (evEq (Ev.now _) (by rw [List.drop_eq_nil_of_le (by omega)]; rfl))
    rw [spec_FitsBoard.l0, if_neg (by omega)]
  | d + 1, i, hi => by
    have w1 : wrap64 ((i : Int) + 1) = ((i + 1 : Nat) : Int) := by rw [w64 (by omega) (by omega)]; rfl
    have hi2 : i < l.length := by omega
    have hi3 : i < rows.length := by omega
    have ih := spec_l0 d (i + 1) (by omega)
    have hmi := hm i hi2
    have hri := hr _ (List.getElem_mem hi3)
    rw [List.drop_eq_getElem_cons hi2, zeros, gD_lt _ _ hi3]
    refine Ev.step (f := fun k => (spec_l1All.f k (rows[i].drop l[i].toNat) 0 0).bind fun t => if t = true then spec_FitsBoard.l0 k rows l (l.length : Int) ((i + 1 : Nat) : Int) else some (false, true)) (fun k => ?_) ?_
    · rw [spec_FitsBoard.l0, if_pos (by omega), if_pos (by omega), if_pos (by omega), if_pos (by omega), rd_lt _ _ hi2, if_pos hmi.1, rdL hi3, if_pos (by omega), w1]
    · refine Ev.bind (l1All _ _ (by rw [List.length_drop]; omega)) ?_
      by_cases c : (rows[i].drop l[i].toNat).all (inR 0 0) = true
      · rw [c, Bool.true_and]
        exact Ev.congr (fun k => if_pos rfl) ih
      · rw [show (rows[i].drop l[i].toNat).all (inR 0 0) = false by simpa using c, Bool.false_and]
        exact Ev.congr (fun k => if_neg (by simp)) (Ev.now _)
end
/-- Rows for a rank, as the reference asks, from one on. -/
def sameB (n : Nat) (q : Int) (rows : List (List Int)) : Bool := rows.all (fun x => decide (x.length = n) && x.all (inR 0 (q - 1)))
theorem weRows_l0 {rows : List (List Int)} {q : Int} (hq : 2 ≤ q ∧ q ≤ 3) (h1 : 0 < rows.length) (h6 : rows.length ≤ 6) (hx : ∀ x ∈ rows, x.length ≤ 1048576) : ∀ (d i : Nat), i + d = rows.length →
    Ev (fun k => spec_weRows.l0 k rows q rows (rows.length : Int) i) (sameB (rows[0]'h1).length q (rows.drop i))
  | 0, i, hi => by
    refine Ev.step (f := fun _ => some true) (fun k => ?_) (evEq (Ev.now _) (by rw [List.drop_eq_nil_of_le (by omega)]; rfl))
    rw [spec_weRows.l0, if_neg (by omega)]
  | d + 1, i, hi => by
    have w1 : wrap64 ((i : Int) + 1) = ((i + 1 : Nat) : Int) := by rw [w64 (by omega) (by omega)]; rfl
    have w2 : wrap64 (q - 1) = q - 1 := w64 (by omega) (by omega)
    have hi2 : i < rows.length := by omega
    have ih := weRows_l0 hq h1 h6 hx d (i + 1) (by omega)
    have e0 : rd_L1 rows 0 = rows[0]'h1 := rdL (i := 0) h1
    rw [List.drop_eq_getElem_cons hi2]
    unfold sameB at ih ⊢
    rw [List.all_cons]
    by_cases c1 : rows[i].length = (rows[0]'h1).length
    · rw [decide_eq_true c1, Bool.true_and]
      refine Ev.step (f := fun k => (spec_l1All.f k rows[i] 0 (q - 1)).bind fun t => if t = true then spec_weRows.l0 k rows q rows (rows.length : Int) ((i + 1 : Nat) : Int) else some false) (fun k => ?_) ?_
      · rw [spec_weRows.l0, if_pos (by omega), if_pos (by omega), if_pos (by omega), if_pos (by omega), rdL hi2, e0, if_pos (by omega), w1, w2]
      · refine Ev.bind (l1All _ _ (by have := hx _ (List.getElem_mem hi2); omega)) ?_
        by_cases c : rows[i].all (inR 0 (q - 1)) = true
        · rw [c, Bool.true_and]
          exact Ev.congr (fun k => if_pos rfl) ih
        · rw [show rows[i].all (inR 0 (q - 1)) = false by simpa using c, Bool.false_and]
          exact Ev.congr (fun k => if_neg (by simp)) (Ev.now _)
    · rw [decide_eq_false c1, Bool.false_and, Bool.false_and]
      refine Ev.step (f := fun _ => some false) (fun k => ?_) (Ev.now _)
      rw [spec_weRows.l0, if_pos (by omega), if_pos (by omega), if_pos (by omega), if_pos (by omega), rdL hi2, e0, if_neg (by omega)]
theorem weRows {rows : List (List Int)} {q : Int} (hq : 2 ≤ q ∧ q ≤ 3) (hx : ∀ x ∈ rows, x.length ≤ 1048576) : Ev (fun k => spec_weRows.f k rows q) (inR 1 6 (rows.length : Int) && (inR 1 6 ((rows.getD 0 []).length : Int) && sameB (rows.getD 0 []).length q rows)) := by
  unfold spec_weRows.f
  have no : Ev (fun k => spec_weRows.j0 k rows q true) false := Ev.step (f := fun _ => some false) (fun k => by rw [spec_weRows.j0, if_pos rfl]) (Ev.now _)
  refine Ev.congr (fun k => by rw [boSide_f, Option.bind_some]) ?_
  by_cases h : inR 1 6 (rows.length : Int) = true
  · have h2 : 1 ≤ (rows.length : Int) ∧ (rows.length : Int) ≤ 6 := of_decide_eq_true h
    have h1 : 0 < rows.length := by omega
    have e0 : rd_L1 rows 0 = rows[0]'h1 := rdL (i := 0) h1
    have e1 : rows.getD 0 [] = rows[0]'h1 := gD_lt _ _ h1
    rw [h, Bool.true_and, e1]
    refine Ev.congr (fun k => by rw [if_pos rfl, if_pos (by omega), e0, boSide_f, Option.bind_some]) ?_
    by_cases c : inR 1 6 ((rows[0]'h1).length : Int) = true
    · rw [c, Bool.true_and]
      have := weRows_l0 hq h1 (by omega) hx rows.length 0 (by omega)
      rw [List.drop_zero] at this
      refine Ev.step (fun k => ?_) this
      rw [spec_weRows.j0, if_neg (by simp)]; rfl
    · rw [show inR 1 6 ((rows[0]'h1).length : Int) = false by simpa using c, Bool.false_and]
      exact no
  · rw [show inR 1 6 (rows.length : Int) = false by simpa using h, Bool.false_and]
    exact Ev.congr (fun k => if_neg (by simp)) no
theorem rowsOk_split {l : List Int} (q : Int) (hm : ∀ i (hi : i < l.length), 0 ≤ l[i] ∧ l[i] ≤ l.length) (rows : List (List Int)) (hn : rows.length = l.length) : ∀ (d i : Nat), i + d = l.length →
    rowsOk l q (rows.drop i) i = (sameB l.length q (rows.drop i) && zeros rows (l.drop i) i)
  | 0, i, hi => by rw [List.drop_eq_nil_of_le (by omega), List.drop_eq_nil_of_le (by omega)]; rfl
  | d + 1, i, hi => by
    have hi2 : i < l.length := by omega
    have hi3 : i < rows.length := by omega
    have ih := rowsOk_split q hm rows hn d (i + 1) (by omega)
    rw [List.drop_eq_getElem_cons hi3, List.drop_eq_getElem_cons hi2, rowsOk, zeros, gD_lt _ _ hi3, gD_lt _ _ hi2, ih, rowOk_split _ _ (hm i hi2).1, Nat.sub_zero]
    unfold sameB
    rw [List.all_cons]
    cases decide (rows[i].length = l.length) <;> cases rows[i].all (inR 0 (q - 1)) <;> cases (rows[i].drop l[i].toNat).all (inR 0 0) <;> simp
theorem spec_answer {l : List Int} {rows : List (List Int)} (q : Int) (hl : l.length ≤ 1048576) (hx : ∀ x ∈ rows, x.length ≤ 1048576) : Ev (fun k => spec_FitsBoard.f k l rows q) (ans l rows q) := by
  unfold spec_FitsBoard.f ans
  have no : Ev (fun k => spec_FitsBoard.j0 k l rows q true) (false, false) := Ev.step (f := fun _ => some (false, false)) (fun k => by rw [spec_FitsBoard.j0, if_pos rfl]) (Ev.now _)
  have no1 : Ev (fun k => spec_FitsBoard.j1 k l rows true) (false, true) := Ev.step (f := fun _ => some (false, true)) (fun k => by rw [spec_FitsBoard.j1, if_pos rfl]) (Ev.now _)
  refine Ev.bind (LensK.spec_good hl) ?_
  by_cases h : LensK.lenB l = true
  · rw [h, Bool.true_and]
    refine Ev.congr (fun k => by rw [if_pos rfl, spec_weBase.f, l1In_f, Option.bind_some, Option.bind_some]) ?_
    by_cases hq : inR 2 3 q = true
    · rw [if_pos hq, hq]
      have hq2 : 2 ≤ q ∧ q ≤ 3 := of_decide_eq_true hq
      obtain ⟨hl1, hl6, hm⟩ := LensK.len_of h
      unfold fits
      by_cases hn : rows.length = l.length
      · rw [decide_eq_true hn, Bool.true_and]
        refine Ev.step (fun k => by rw [spec_FitsBoard.j0, if_neg (by simp), if_pos (by omega)]) ?_
        refine Ev.bind (weRows hq2 hx) ?_
        have h1 : 0 < rows.length := by omega
        have e0 : rd_L1 rows 0 = rows[0]'h1 := rdL (i := 0) h1
        have e1 : rows.getD 0 [] = rows[0]'h1 := gD_lt _ _ h1
        have hs := rowsOk_split q hm rows hn l.length 0 (by omega)
        rw [List.drop_zero, List.drop_zero] at hs
        rw [e1, show inR 1 6 (rows.length : Int) = true from decide_eq_true (by omega), Bool.true_and]
        by_cases c1 : (rows[0]'h1).length = l.length
        · rw [show inR 1 6 ((rows[0]'h1).length : Int) = true from decide_eq_true (by omega), Bool.true_and, hs, c1]
          by_cases c2 : sameB l.length q rows = true
          · rw [c2, Bool.true_and]
            refine Ev.congr (fun k => by rw [if_pos rfl, if_pos (by omega), e0]) ?_
            have hr : ∀ x ∈ rows, x.length = l.length := fun x hx => by
              have := List.all_eq_true.1 c2 x hx
              rw [Bool.and_eq_true, decide_eq_true_eq] at this
              exact this.1
            have := spec_l0 hl6 hm hn hr l.length 0 (by omega)
            rw [List.drop_zero] at this
            refine Ev.step (fun k => ?_) this
            rw [spec_FitsBoard.j1, if_neg (by simp [c1])]; rfl
          · rw [show sameB l.length q rows = false by simpa using c2, Bool.false_and]
            exact Ev.congr (fun k => if_neg (by simp)) no1
        · have hf : rowsOk l q rows 0 = false := by
            have e2 : rows = rows[0]'h1 :: rows.drop 1 := by
              have := List.drop_eq_getElem_cons h1
              rwa [List.drop_zero] at this
            rw [e2, rowsOk, decide_eq_false c1]; rfl
          rw [hf]
          by_cases c2 : (inR 1 6 ((rows[0]'h1).length : Int) && sameB (rows[0]'h1).length q rows) = true
          · refine Ev.congr (fun k => by rw [if_pos c2, if_pos (by omega), e0]) ?_
            rw [show (((rows[0]'h1).length : Int) != (l.length : Int)) = true by simp; omega]
            exact no1
          · exact Ev.congr (fun k => if_neg c2) no1
      · rw [decide_eq_false hn, Bool.false_and]
        refine Ev.step (f := fun k => spec_FitsBoard.j1 k l rows true) (fun k => ?_) no1
        rw [spec_FitsBoard.j0, if_neg (by simp), if_neg (by omega)]
    · rw [if_neg hq, show inR 2 3 q = false by simpa using hq]
      exact no
  · rw [show LensK.lenB l = false by simpa using h, Bool.false_and, if_neg (by simp)]
    exact Ev.congr (fun k => if_neg (by simp)) no
end FitsK
open FitsK

theorem FnExactFitsBoard : laws_FnExactFitsBoard.Pure := by
  intro l rows q hm1 _ _ hm2 hx _
  unfold laws_FnExactFitsBoard.f
  refine ends ?_
  by_cases hl : l.length ≤ 1048576
  · refine Ev.congr (fun k => by rw [if_neg (by omega)]) ?_
    refine Ev.bind (szIntSS hm2 (fun y hy => (hx y hy).1) (by omega) (by omega)) ?_
    by_cases c : szR rows 1048576 < 0
    · exact Ev.congr (fun k => if_pos c) (Ev.now _)
    · obtain ⟨hr1, hr2⟩ := szR_len (l := rows) (n := 1048576) (by omega) (by omega)
      have hr3 : ∀ x ∈ rows, x.length ≤ 1048576 := fun x hx => by have := hr2 x hx; omega
      have tl := toIntS hl
      have tr := toIntSS (l := rows) (by omega) hr3
      refine Ev.congr (fun k => if_neg c) ?_
      refine Ev.bind tl (Ev.bind tr (Ev.bind (spec_answer q hl hr3) (Ev.bind tl (Ev.bind tr (Ev.bind (impl_answer q hl) ?_)))))
      refine Ev.congr (fun k => by rw [if_neg (by simp)]) ?_
      refine Ev.step (fun k => by rw [laws_FnExactFitsBoard.j0, if_neg (by simp)]) ?_
      refine Ev.bind tl (Ev.bind (eqIntS (by omega)) ?_)
      refine Ev.congr (fun k => by rw [if_pos (by simp)]) ?_
      refine Ev.bind tr (Ev.bind (eqIntSS (by omega) (fun x hx => by have := hr3 x hx; omega)) ?_)
      exact Ev.congr (fun k => by rw [if_pos (by simp)]) (Ev.now _)
  · exact Ev.congr (fun k => by rw [if_pos (by omega)]) (Ev.now _)

end Go.Proofs.Ytlhblnphfpijkaa.Pure
