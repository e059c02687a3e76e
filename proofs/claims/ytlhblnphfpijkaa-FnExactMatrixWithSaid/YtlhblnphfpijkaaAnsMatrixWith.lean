/- What MatrixWith answers, and that the reference answers the same. No conditions but a small list. -/
import Derived.Test.YtlhblnphfpijkaaLenA
import Derived.Test.YtlhblnphfpijkaaRowsK
import Derived.Test.YtlhblnphfpijkaaQimplMatrixWith
import Derived.Test.YtlhblnphfpijkaaQspecMatrixWith
namespace Go.Proofs.Ytlhblnphfpijkaa.MatK
set_option linter.unusedVariables false
open Go.RowKit Go.Proofs.Ytlhblnphfpijkaa.Q Go.Proofs.YtlhblnphfpijkaaW.PrintWords Go.Proofs.YtlhblnphfpijkaaW.PrintLast Go.Proofs.YtlhblnphfpijkaaW.PrintMore
open Go.Proofs.YtlhblnphfpijkaaL Go.Proofs.Ytlhblnphfpijkaa.LawK Go.Proofs.Ytlhblnphfpijkaa.BoardK Go.Proofs.Ytlhblnphfpijkaa.RowsK
theorem evEq {α : Type} {g : Nat → Option α} {a b : α} (h : Ev g a) (e : a = b) : Ev g b := e ▸ h
theorem withinR (a b c : Int) : impl_within.f a b c = some (inR b c a) := by
  unfold impl_within.f inR
  by_cases h : b ≤ a
  · rw [if_pos h]; simp [h]
  · rw [if_neg h]; congr 1; exact (decide_eq_false (by omega)).symm
def sm : List Int → Int
  | [] => 0
  | x :: t => x + sm t
theorem sm_bd : ∀ (l : List Int), (∀ x ∈ l, 0 ≤ x ∧ x ≤ 6) → 0 ≤ sm l ∧ sm l ≤ 6 * l.length
  | [], _ => by simp [sm]
  | x :: t, h => by
    have h1 := sm_bd t (fun y hy => h y (List.mem_cons_of_mem _ hy))
    have h2 := h x List.mem_cons_self
    simp only [sm, List.length_cons]
    omega
theorem sum_l0 {l : List Int} (h6 : l.length ≤ 6) (hx : ∀ x ∈ l, 0 ≤ x ∧ x ≤ 6) : ∀ (d i : Nat) (a : Int), i + d = l.length → 0 ≤ a ∧ a ≤ 6 * i → Ev (fun k => impl_sum.l0 k a l (l.length : Int) i) (a + sm (l.drop i))
  | 0, i, a, hi, ha => by
    rw [List.drop_eq_nil_of_le (by omega), sm, Int.add_zero]
    exact Ev.step (f := fun _ => some a) (fun k => by rw [impl_sum.l0, if_neg (by omega)]) (Ev.now _)
  | d + 1, i, a, hi, ha => by
    have hi2 : i < l.length := by omega
    have hb := hx l[i] (List.getElem_mem hi2)
    have w1 : wrap64 ((i : Int) + 1) = ((i + 1 : Nat) : Int) := by rw [w64 (by omega) (by omega)]; rfl
    have w2 : wrap64 (a + l[i]) = a + l[i] := w64 (by omega) (by omega)
    have ih := sum_l0 h6 hx d (i + 1) (a + l[i]) (by omega) (by omega)
    rw [List.drop_eq_getElem_cons hi2, sm]
    exact Ev.step (fun k => by rw [impl_sum.l0, if_pos (by omega), if_pos (by omega), if_pos (by omega), rd_lt _ _ hi2, w2, w1]) (evEq ih (by omega))
theorem cells_l0 {l : List Int} (h6 : l.length ≤ 6) (hx : ∀ x ∈ l, 0 ≤ x ∧ x ≤ 6) : ∀ (d i : Nat) (a : Int), i + d = l.length → 0 ≤ a ∧ a ≤ 6 * i → Ev (fun k => spec_weCells.l0 k a l (l.length : Int) i) (a + sm (l.drop i))
  | 0, i, a, hi, ha => by
    rw [List.drop_eq_nil_of_le (by omega), sm, Int.add_zero]
    exact Ev.step (f := fun _ => some a) (fun k => by rw [spec_weCells.l0, if_neg (by omega)]) (Ev.now _)
  | d + 1, i, a, hi, ha => by
    have hi2 : i < l.length := by omega
    have hb := hx l[i] (List.getElem_mem hi2)
    have w1 : wrap64 ((i : Int) + 1) = ((i + 1 : Nat) : Int) := by rw [w64 (by omega) (by omega)]; rfl
    have w2 : wrap64 (a + l[i]) = a + l[i] := w64 (by omega) (by omega)
    have ih := cells_l0 h6 hx d (i + 1) (a + l[i]) (by omega) (by omega)
    rw [List.drop_eq_getElem_cons hi2, sm]
    exact Ev.step (fun k => by rw [spec_weCells.l0, if_pos (by omega), if_pos (by omega), if_pos (by omega), rd_lt _ _ hi2, w2, w1]) (evEq ih (by omega))
theorem sum_f {l : List Int} (h6 : l.length ≤ 6) (hx : ∀ x ∈ l, 0 ≤ x ∧ x ≤ 6) : Ev (fun k => impl_sum.f k l) (sm l) := by
  have := sum_l0 h6 hx l.length 0 0 (by omega) (by omega)
  rw [List.drop_zero, Int.zero_add] at this
  exact this
theorem cells_f {l : List Int} (h6 : l.length ≤ 6) (hx : ∀ x ∈ l, 0 ≤ x ∧ x ≤ 6) : Ev (fun k => spec_weCells.f k l) (sm l) := by
  have := cells_l0 h6 hx l.length 0 0 (by omega) (by omega)
  rw [List.drop_zero, Int.zero_add] at this
  exact this
/-! powers -/
def pw (q : Int) : Nat → Int
  | 0 => 1
  | n + 1 => pw q n * q
theorem pw_bd0 : ∀ n, n < 37 → (1 ≤ pw 2 n ∧ pw 2 n ≤ 1000000000000000000) ∧ (1 ≤ pw 3 n ∧ pw 3 n ≤ 1000000000000000000) := by decide +kernel
theorem pw_bd {q : Int} (hq : 2 ≤ q ∧ q ≤ 3) {n : Nat} (hn : n ≤ 36) : 1 ≤ pw q n ∧ pw q n ≤ 1000000000000000000 := by
  obtain rfl | rfl : q = 2 ∨ q = 3 := by omega
  · exact (pw_bd0 n (by omega)).1
  · exact (pw_bd0 n (by omega)).2
theorem pw_up {q : Int} (hq : 2 ≤ q ∧ q ≤ 3) (n : Nat) : ∀ e, n + e ≤ 36 → pw q n ≤ pw q (n + e)
  | 0, _ => Int.le_refl _
  | e + 1, h => by
    have h1 := pw_up hq n e (by omega)
    have h2 := pw_bd hq (n := n + e) (by omega)
    rw [← Nat.add_assoc, pw]
    obtain rfl | rfl : q = 2 ∨ q = 3 := by omega
    · omega
    · omega
theorem power_l0 {q : Int} (hq : 2 ≤ q ∧ q ≤ 3) : ∀ (d j : Nat), j + d ≤ 36 → Ev (fun k => spec_wePower.l0 k q (d : Int) (pw q j)) (pw q (j + d))
  | 0, j, h => Ev.step (f := fun _ => some (pw q j)) (fun k => by rw [spec_wePower.l0, if_neg (by simp)]) (Ev.now _)
  | d + 1, j, h => by
    have hb := pw_bd hq (n := j + 1) (by omega)
    have w1 : wrap64 (((d + 1 : Nat) : Int) - 1) = (d : Int) := by rw [w64 (by omega) (by omega)]; omega
    have w2 : wrap64 (pw q j * q) = pw q (j + 1) := w64 (by have := hb.1; rw [pw] at this; omega) (by have := hb.2; rw [pw] at this; omega)
    have ih := power_l0 hq d (j + 1) (by omega)
    exact Ev.step (fun k => by rw [spec_wePower.l0, if_pos (by omega), w1, w2]) (evEq ih (by congr 1; omega))
theorem power_f {q : Int} (hq : 2 ≤ q ∧ q ≤ 3) {S : Nat} (h : S ≤ 36) : Ev (fun k => spec_wePower.f k q (S : Int)) (pw q S) := by
  have := power_l0 hq S 0 (by omega)
  rw [Nat.zero_add] at this
  exact this
theorem mats_l0 {q : Int} (hq : 2 ≤ q ∧ q ≤ 3) {S : Nat} (hS : S ≤ 36) : ∀ (d j : Nat), j + d = S → pw q j ≤ 6561 → Ev (fun k => impl_matrices.l0 k q (pw q j) (S : Int) (j : Int)) (if pw q S ≤ 6561 then (pw q S, true) else (0, false))
  | 0, j, h, hj => by
    obtain rfl : j = S := by omega
    rw [if_pos hj]
    exact Ev.step (f := fun _ => some (pw q j, true)) (fun k => by rw [impl_matrices.l0, if_neg (by omega)]) (Ev.now _)
  | d + 1, j, h, hj => by
    have hb := pw_bd hq (n := j + 1) (by omega)
    have w1 : wrap64 ((j : Int) + 1) = ((j + 1 : Nat) : Int) := by rw [w64 (by omega) (by omega)]; rfl
    have w2 : wrap64 (pw q j * q) = pw q (j + 1) := w64 (by have := hb.1; rw [pw] at this; omega) (by have := hb.2; rw [pw] at this; omega)
    by_cases c : pw q (j + 1) > 6561
    · have := pw_up hq (j + 1) d (by omega)
      rw [show j + 1 + d = S by omega] at this
      rw [if_neg (by omega)]
      exact Ev.step (f := fun _ => some (0, false)) (fun k => by rw [impl_matrices.l0, if_pos (by omega), w2, if_pos c]) (Ev.now _)
    · have ih := mats_l0 hq hS d (j + 1) (by omega) (by omega)
      exact Ev.step (fun k => by rw [impl_matrices.l0, if_pos (by omega), w2, if_neg c, w1]) ih
/-! digits -/
def setD (q : Int) : Nat → Int → List Int → Nat → List Int × Int
  | 0, n, row, _ => (row, n)
  | j + 1, n, row, c => setD q j (Int.tdiv n q) (row.set c (Int.tmod n q)) (c + 1)
def matR (q : Int) (n : Nat) : List Int → Int → List (List Int)
  | [], _ => []
  | m :: t, num => (setD q m.toNat num (List.replicate n 0) 0).1 :: matR q n t (setD q m.toNat num (List.replicate n 0) 0).2
theorem setD_length (q : Int) : ∀ (d : Nat) (num : Int) (row : List Int) (c : Nat), (setD q d num row c).1.length = row.length
  | 0, _, _, _ => rfl
  | d + 1, num, row, c => by rw [setD, setD_length q d, List.length_set]
theorem td {q num : Int} (hq : 2 ≤ q ∧ q ≤ 3) (h : 0 ≤ num ∧ num ≤ 10000) : 0 ≤ Int.tdiv num q ∧ Int.tdiv num q ≤ 10000 := by
  rw [Int.tdiv_eq_ediv_of_nonneg h.1]
  obtain rfl | rfl : q = 2 ∨ q = 3 := by omega
  · omega
  · omega
theorem setD_num {q : Int} (hq : 2 ≤ q ∧ q ≤ 3) : ∀ (d : Nat) (num : Int) (row : List Int) (c : Nat), 0 ≤ num ∧ num ≤ 10000 → 0 ≤ (setD q d num row c).2 ∧ (setD q d num row c).2 ≤ 10000
  | 0, _, _, _, h => h
  | d + 1, num, row, c, h => by rw [setD]; exact setD_num hq d _ _ _ (td hq h)
theorem matR_length (q : Int) (n : Nat) : ∀ (t : List Int) (num : Int), (matR q n t num).length = t.length
  | [], _ => rfl
  | m :: t, num => by rw [matR, List.length_cons, List.length_cons, matR_length q n t]
theorem matR_row (q : Int) (n : Nat) : ∀ (t : List Int) (num : Int), ∀ x ∈ matR q n t num, x.length = n
  | [], _ => by intro x hx; simp [matR] at hx
  | m :: t, num => by
    intro x hx
    rw [matR, List.mem_cons] at hx
    rcases hx with rfl | hx
    · rw [setD_length, List.length_replicate]
    · exact matR_row q n t _ x hx
section
variable {l : List Int} {q : Int} (h6 : l.length ≤ 6) (hq : 2 ≤ q ∧ q ≤ 3) (hx : ∀ i (hi : i < l.length), 0 ≤ l[i] ∧ l[i] ≤ l.length)
include h6 hq
theorem imat_l1 {X : List (List Int)} (i : Nat) (hi : i < l.length) (acc : List (List Int)) (ha : acc.length ≤ 6) : ∀ (d c : Nat) (num : Int) (row : List Int), 0 ≤ num ∧ num ≤ 10000 → c + d ≤ row.length → row.length ≤ 6 →
    Ev (fun k => impl_matrix.l0 k l q (setD q d num row c).2 (acc ++ [(setD q d num row c).1]) l (l.length : Int) ((i + 1 : Nat) : Int)) X → Ev (fun k => impl_matrix.l1 k l q num acc row l (l.length : Int) i ((c + d : Nat) : Int) c) X
  | 0, c, num, row, hn, hc, h6r, hX => by
    have w1 : wrap64 ((i : Int) + 1) = ((i + 1 : Nat) : Int) := by rw [w64 (by omega) (by omega)]; rfl
    rw [setD] at hX
    exact Ev.step (fun k => by rw [impl_matrix.l1, if_neg (by simp), if_pos (by omega), w1]) hX
  | d + 1, c, num, row, hn, hc, h6r, hX => by
    have w1 : wrap64 ((c : Int) + 1) = ((c + 1 : Nat) : Int) := by rw [w64 (by omega) (by omega)]; rfl
    have hd := td hq hn
    have w2 : wrap64 (Int.tdiv num q) = Int.tdiv num q := w64 (by omega) (by omega)
    rw [setD] at hX
    have ih := imat_l1 i hi acc ha d (c + 1) (Int.tdiv num q) (row.set c (Int.tmod num q)) hd (by rw [List.length_set]; omega) (by rw [List.length_set]; exact h6r) hX
    rw [show c + 1 + d = c + (d + 1) by omega] at ih
    exact Ev.step (fun k => by rw [impl_matrix.l1, if_pos (by omega), if_neg (by omega), if_pos (by omega), if_pos (by omega), w2, w1, Int.toNat_natCast]) ih
theorem smat_l2 {X : List (List Int)} (i : Nat) (hi : i < l.length) : ∀ (d c : Nat) (num : Int) (rows : List (List Int)) (hr : i < rows.length), 0 ≤ num ∧ num ≤ 10000 → c + d ≤ rows[i].length → rows[i].length ≤ 6 →
    Ev (fun k => spec_weMatrix.l1 k q (setD q d num rows[i] c).2 (rows.set i (setD q d num rows[i] c).1) l (l.length : Int) ((i + 1 : Nat) : Int)) X → Ev (fun k => spec_weMatrix.l2 k q num rows i ((c + d : Nat) : Int) c l (l.length : Int) i) X
  | 0, c, num, rows, hr, hn, hc, h6r, hX => by
    have w1 : wrap64 ((i : Int) + 1) = ((i + 1 : Nat) : Int) := by rw [w64 (by omega) (by omega)]; rfl
    rw [setD, List.set_getElem_self] at hX
    exact Ev.step (fun k => by rw [spec_weMatrix.l2, if_neg (by simp), w1]) hX
  | d + 1, c, num, rows, hr, hn, hc, h6r, hX => by
    have w1 : wrap64 ((c : Int) + 1) = ((c + 1 : Nat) : Int) := by rw [w64 (by omega) (by omega)]; rfl
    have hd := td hq hn
    have w2 : wrap64 (Int.tdiv num q) = Int.tdiv num q := w64 (by omega) (by omega)
    rw [setD] at hX
    have e1 : (rows.set i (rows[i].set c (Int.tmod num q)))[i]'(by rw [List.length_set]; exact hr) = rows[i].set c (Int.tmod num q) := List.getElem_set_self _
    have ih := smat_l2 i hi d (c + 1) (Int.tdiv num q) (rows.set i (rows[i].set c (Int.tmod num q))) (by rw [List.length_set]; exact hr) hd (by rw [e1, List.length_set]; omega) (by rw [e1, List.length_set]; exact h6r) (by rw [e1, List.set_set]; exact hX)
    rw [show c + 1 + d = c + (d + 1) by omega] at ih
    exact Ev.step (fun k => by rw [spec_weMatrix.l2, if_pos (by omega), if_pos (by omega), if_pos (by omega), if_neg (by omega), if_pos (by omega), rdL hr, if_pos (by omega), w2, w1, Int.toNat_natCast, Int.toNat_natCast]) ih
include hx
theorem imat_l0 : ∀ (d i : Nat) (num : Int) (acc : List (List Int)), i + d = l.length → 0 ≤ num ∧ num ≤ 10000 → acc.length = i → Ev (fun k => impl_matrix.l0 k l q num acc l (l.length : Int) i) (acc ++ matR q l.length (l.drop i) num)
  | 0, i, num, acc, hi, hn, ha => by
    rw [List.drop_eq_nil_of_le (by omega), matR, List.append_nil]
    exact Ev.step (f := fun _ => some acc) (fun k => by rw [impl_matrix.l0, if_neg (by omega)]) (Ev.now _)
  | d + 1, i, num, acc, hi, hn, ha => by
    have hi2 : i < l.length := by omega
    obtain ⟨m, hm⟩ := Int.eq_ofNat_of_zero_le (hx i hi2).1
    have hm2 := (hx i hi2).2
    rw [List.drop_eq_getElem_cons hi2, matR]
    have ih := imat_l0 d (i + 1) (setD q m num (List.replicate l.length 0) 0).2 (acc ++ [(setD q m num (List.replicate l.length 0) 0).1]) (by omega) (setD_num hq _ _ _ _ hn) (by rw [List.length_append, ha]; rfl)
    have := imat_l1 h6 hq i hi2 acc (by omega) m 0 num (List.replicate l.length 0) hn (by rw [List.length_replicate]; omega) (by rw [List.length_replicate]; exact h6) ih
    rw [Nat.zero_add, ← hm] at this
    refine Ev.step (fun k => by rw [impl_matrix.l0, if_pos (by omega), if_pos (by omega), if_pos (by omega), if_pos (by omega), if_pos (by omega), rd_lt _ _ hi2, Int.toNat_natCast]; rfl) (evEq this ?_)
    rw [hm, List.append_assoc]
    rfl
theorem smat_l1 : ∀ (d i : Nat) (num : Int) (acc : List (List Int)), i + d = l.length → 0 ≤ num ∧ num ≤ 10000 → acc.length = i → Ev (fun k => spec_weMatrix.l1 k q num (acc ++ List.replicate d (List.replicate l.length 0)) l (l.length : Int) i) (acc ++ matR q l.length (l.drop i) num)
  | 0, i, num, acc, hi, hn, ha => by
    rw [List.drop_eq_nil_of_le (by omega), matR]
    exact Ev.step (f := fun _ => some (acc ++ [])) (fun k => by rw [spec_weMatrix.l1, if_neg (by omega)]; rfl) (Ev.now _)
  | d + 1, i, num, acc, hi, hn, ha => by
    have hi2 : i < l.length := by omega
    obtain ⟨m, hm⟩ := Int.eq_ofNat_of_zero_le (hx i hi2).1
    have hm2 := (hx i hi2).2
    rw [List.drop_eq_getElem_cons hi2, matR]
    have hr : i < (acc ++ List.replicate (d + 1) (List.replicate l.length (0 : Int))).length := by rw [List.length_append, List.length_replicate]; omega
    have e1 : (acc ++ List.replicate (d + 1) (List.replicate l.length (0 : Int)))[i] = List.replicate l.length 0 := by rw [List.getElem_append_right (by omega)]; exact List.getElem_replicate _
    have e2 : ∀ y, (acc ++ List.replicate (d + 1) (List.replicate l.length (0 : Int))).set i y = (acc ++ [y]) ++ List.replicate d (List.replicate l.length 0) := by
      intro y
      rw [List.set_append_right _ _ (by omega), ha, Nat.sub_self, List.replicate_succ, List.set_cons_zero, List.append_assoc]
      rfl
    have ih := smat_l1 d (i + 1) (setD q m num (List.replicate l.length 0) 0).2 (acc ++ [(setD q m num (List.replicate l.length 0) 0).1]) (by omega) (setD_num hq _ _ _ _ hn) (by rw [List.length_append, ha]; rfl)
    have := smat_l2 h6 hq (l := l) i hi2 m 0 num _ hr hn (by rw [e1, List.length_replicate]; omega) (by rw [e1, List.length_replicate]; exact h6) (by rw [e1, e2]; exact ih)
    rw [Nat.zero_add, ← hm] at this
    refine Ev.step (fun k => by rw [spec_weMatrix.l1, if_pos (by omega), if_pos (by omega), if_pos (by omega), rd_lt _ _ hi2]; rfl) (evEq this ?_)
    rw [hm, List.append_assoc]
    rfl
theorem smat_l0 {num : Int} (hn : 0 ≤ num ∧ num ≤ 10000) : ∀ (d j : Nat), j + d = l.length → Ev (fun k => spec_weMatrix.l0 k l q num (List.replicate j (List.replicate l.length 0)) (l.length : Int) j) (matR q l.length l num)
  | 0, j, h => by
    have := smat_l1 h6 hq hx l.length 0 num [] (by omega) hn rfl
    rw [List.nil_append, List.nil_append, List.drop_zero] at this
    obtain rfl : j = l.length := by omega
    exact Ev.step (fun k => by rw [spec_weMatrix.l0, if_neg (by omega)]; rfl) this
  | d + 1, j, h => by
    have w1 : wrap64 ((j : Int) + 1) = ((j + 1 : Nat) : Int) := by rw [w64 (by omega) (by omega)]; rfl
    have ih := smat_l0 hn d (j + 1) (by omega)
    rw [List.replicate_succ'] at ih
    exact Ev.step (fun k => by rw [spec_weMatrix.l0, if_pos (by omega), if_pos (by omega), if_pos (by omega), if_pos (by rw [List.length_replicate]; omega), Int.toNat_natCast, w1]) ih
theorem imat_f {num : Int} (hn : 0 ≤ num ∧ num ≤ 10000) : Ev (fun k => impl_matrix.f k l q num) (matR q l.length l num) := by
  have := imat_l0 h6 hq hx l.length 0 num [] (by omega) hn rfl
  rw [List.nil_append, List.drop_zero] at this
  exact this
theorem smat_f {num : Int} (hn : 0 ≤ num ∧ num ≤ 10000) : Ev (fun k => spec_weMatrix.f k l q num) (matR q l.length l num) := smat_l0 h6 hq hx hn l.length 0 (by omega)
end
def ans (l : List Int) (q n : Int) : List (List Int) × Bool :=
  if (LensK.lenB l && inR 2 3 q) = true then if pw q (sm l).toNat ≤ 6561 then if inR 0 (pw q (sm l).toNat - 1) n = true then (matR q l.length l n, true) else ([], false) else ([], false) else ([], false)
theorem impl_ans {l : List Int} (q n : Int) (hl : l.length ≤ 1048576) : Ev (fun k => impl_MatrixWith.f k l q n) (ans l q n) := by
  unfold impl_MatrixWith.f ans
  have no : Ev (fun k => impl_MatrixWith.j0 k l q n true) ([], false) := Ev.step (f := fun _ => some ([], false)) (fun k => by rw [impl_MatrixWith.j0, if_pos rfl]) (Ev.now _)
  refine Ev.bind (LensK.impl_good hl) ?_
  by_cases h : LensK.lenB l = true
  · rw [h, Bool.true_and]
    refine Ev.congr (fun k => by rw [if_pos rfl, impl_isQ.f, withinR, Option.bind_some, Option.bind_some]) ?_
    by_cases hq : inR 2 3 q = true
    · rw [if_pos hq, hq]
      have hq2 : 2 ≤ q ∧ q ≤ 3 := of_decide_eq_true hq
      obtain ⟨h1, h6, hx⟩ := LensK.len_of h
      have hx6 : ∀ x ∈ l, 0 ≤ x ∧ x ≤ 6 := fun x hm => by obtain ⟨i, hi, rfl⟩ := List.mem_iff_getElem.1 hm; have := hx i hi; omega
      have hs := sm_bd l hx6
      have hS : (sm l).toNat ≤ 36 := by omega
      have hpb := pw_bd hq2 hS
      have hM : Ev (fun k => impl_matrices.f k l q) (if pw q (sm l).toNat ≤ 6561 then (pw q (sm l).toNat, true) else (0, false)) := by
        unfold impl_matrices.f
        refine Ev.bind (sum_f h6 hx6) ?_
        have := mats_l0 hq2 hS (sm l).toNat 0 (by omega) (show (1 : Int) ≤ 6561 by decide)
        rw [Int.toNat_of_nonneg hs.1] at this
        exact this
      refine Ev.step (fun k => by rw [impl_MatrixWith.j0, if_neg (by simp)]) (Ev.bind hM ?_)
      by_cases hp : pw q (sm l).toNat ≤ 6561
      · rw [if_pos hp, if_pos hp]
        have w1 : wrap64 (pw q (sm l).toNat - 1) = pw q (sm l).toNat - 1 := w64 (by omega) (by omega)
        refine Ev.congr (fun k => by rw [if_pos rfl, w1, withinR, Option.bind_some]) ?_
        by_cases hn : inR 0 (pw q (sm l).toNat - 1) n = true
        · have hn2 : 0 ≤ n ∧ n ≤ pw q (sm l).toNat - 1 := of_decide_eq_true hn
          rw [if_pos hn]
          exact Ev.congr (fun k => if_pos hn) (Ev.bind (imat_f h6 hq2 hx ⟨hn2.1, by omega⟩) (Ev.now _))
        · rw [if_neg hn]
          exact Ev.congr (fun k => if_neg hn) (Ev.now _)
      · rw [if_neg hp, if_neg hp]
        exact Ev.congr (fun k => if_neg (by simp)) (Ev.now _)
    · rw [if_neg hq, show inR 2 3 q = false by simpa using hq]
      exact no
  · rw [show LensK.lenB l = false by simpa using h, Bool.false_and, if_neg (by simp)]
    exact Ev.congr (fun k => if_neg (by simp)) no
theorem spec_ans {l : List Int} (q n : Int) (hl : l.length ≤ 1048576) : Ev (fun k => spec_MatrixWith.f k l q n) (ans l q n) := by
  unfold spec_MatrixWith.f ans
  have hw : Ev (fun k => spec_weFew.f k l q) ((LensK.lenB l && inR 2 3 q) && decide (pw q (sm l).toNat ≤ 6561)) := by
    unfold spec_weFew.f
    refine Ev.bind (LensK.spec_good hl) ?_
    by_cases h : LensK.lenB l = true
    · rw [h, Bool.true_and]
      refine Ev.congr (fun k => by rw [if_pos rfl, spec_weBase.f, l1In_f, Option.bind_some, Option.bind_some]) ?_
      by_cases hq : inR 2 3 q = true
      · rw [hq, Bool.true_and]
        have hq2 : 2 ≤ q ∧ q ≤ 3 := of_decide_eq_true hq
        obtain ⟨h1, h6, hx⟩ := LensK.len_of h
        have hx6 : ∀ x ∈ l, 0 ≤ x ∧ x ≤ 6 := fun x hm => by obtain ⟨i, hi, rfl⟩ := List.mem_iff_getElem.1 hm; have := hx i hi; omega
        have hs := sm_bd l hx6
        refine Ev.congr (fun k => if_pos rfl) (Ev.bind (cells_f h6 hx6) ?_)
        have := power_f hq2 (S := (sm l).toNat) (by omega)
        rw [Int.toNat_of_nonneg hs.1] at this
        exact Ev.bind this (Ev.now _)
      · rw [show inR 2 3 q = false by simpa using hq, Bool.false_and]
        exact Ev.congr (fun k => if_neg (by simp)) (Ev.now _)
    · rw [show LensK.lenB l = false by simpa using h, Bool.false_and, Bool.false_and]
      exact Ev.congr (fun k => if_neg (by simp)) (Ev.now _)
  refine Ev.bind hw ?_
  by_cases h : (LensK.lenB l && inR 2 3 q) = true
  · rw [h, Bool.true_and, if_pos rfl]
    rw [Bool.and_eq_true] at h
    have hq2 : 2 ≤ q ∧ q ≤ 3 := of_decide_eq_true h.2
    obtain ⟨h1, h6, hx⟩ := LensK.len_of h.1
    have hx6 : ∀ x ∈ l, 0 ≤ x ∧ x ≤ 6 := fun x hm => by obtain ⟨i, hi, rfl⟩ := List.mem_iff_getElem.1 hm; have := hx i hi; omega
    have hs := sm_bd l hx6
    have hpb := pw_bd hq2 (n := (sm l).toNat) (by omega)
    by_cases hp : pw q (sm l).toNat ≤ 6561
    · rw [if_pos hp]
      have w1 : wrap64 (pw q (sm l).toNat - 1) = pw q (sm l).toNat - 1 := w64 (by omega) (by omega)
      have := power_f hq2 (S := (sm l).toNat) (by omega)
      rw [Int.toNat_of_nonneg hs.1] at this
      refine Ev.congr (fun k => if_pos (decide_eq_true hp)) (Ev.bind (cells_f h6 hx6) (Ev.bind this ?_))
      refine Ev.congr (fun k => by rw [w1, l1In_f, Option.bind_some]) ?_
      by_cases hn : inR 0 (pw q (sm l).toNat - 1) n = true
      · have hn2 : 0 ≤ n ∧ n ≤ pw q (sm l).toNat - 1 := of_decide_eq_true hn
        rw [if_pos hn]
        exact Ev.congr (fun k => if_pos hn) (Ev.bind (smat_f h6 hq2 hx ⟨hn2.1, by omega⟩) (Ev.now _))
      · rw [if_neg hn]
        exact Ev.congr (fun k => if_neg hn) (Ev.now _)
    · rw [if_neg hp]
      exact Ev.congr (fun k => if_neg (by rw [decide_eq_false hp]; simp)) (Ev.now _)
  · rw [show (LensK.lenB l && inR 2 3 q) = false by simpa using h, Bool.false_and, if_neg (by simp)]
    exact Ev.congr (fun k => if_neg (by simp)) (Ev.now _)
theorem ans_MatrixWith (l : List Int) (q n : Int) (hl : l.length ≤ 1048576) : ∃ (rows : List (List Int)) (ok : Bool), rows.length ≤ 1000000 ∧ (∀ x ∈ rows, x.length ≤ 1000) ∧ (∃ k, spec_MatrixWith.f k l q n = some (rows, ok)) ∧ (∃ k, impl_MatrixWith.f k l q n = some (rows, ok)) := by
  refine ⟨(ans l q n).1, (ans l q n).2, ?_, ?_, (spec_ans q n hl).rounds, (impl_ans q n hl).rounds⟩
  all_goals (unfold ans; by_cases h : (LensK.lenB l && inR 2 3 q) = true)
  · rw [if_pos h]
    rw [Bool.and_eq_true] at h
    have := LensK.len_of h.1
    repeat' split
    all_goals (first | (rw [matR_length]; omega) | (simp; done))
  · rw [if_neg h]; simp
  · rw [if_pos h]
    rw [Bool.and_eq_true] at h
    have h6 := (LensK.len_of h.1).2.1
    repeat' split
    all_goals (first | (intro x hx; have := matR_row _ _ _ _ x hx; omega) | (intro x hx; simp at hx; done))
  · rw [if_neg h]; intro x hx; simp at hx
end Go.Proofs.Ytlhblnphfpijkaa.MatK
