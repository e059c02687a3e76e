/- Free cells: what the program's count answers. No conditions but lengths and a list as long. -/
import Derived.Test.YtlhblnphfpijkaaLenA
import Derived.Test.YtlhblnphfpijkaaContains
import Derived.Test.YtlhblnphfpijkaaQimplfree
namespace Go.Proofs.Ytlhblnphfpijkaa.FreeK
set_option linter.unusedVariables false
set_option linter.unusedSectionVars false
open Go.RowKit Go.Proofs.Ytlhblnphfpijkaa.Q Go.Proofs.YtlhblnphfpijkaaW.PrintWords Go.Proofs.YtlhblnphfpijkaaW.PrintLast Go.Proofs.YtlhblnphfpijkaaW.PrintMore
open Go.Proofs.YtlhblnphfpijkaaL Go.Proofs.Ytlhblnphfpijkaa.LawK Go.Proofs.Ytlhblnphfpijkaa.BoardK Go.Proofs.Ytlhblnphfpijkaa.PermK Go.Proofs.Ytlhblnphfpijkaa.LensK

/-- Does a rook take a cell: one that stands there or left of it, or in its column before? -/
def taken (p : List Int) (i : Nat) (c : Nat) : Bool := (decide (p.getD i 0 ≠ -1) && decide (p.getD i 0 ≤ c)) || decide ((c : Int) ∈ p.take i)
/-- How many cells of a row are free, from a column on, on top of some. -/
def rowFree (p : List Int) (i : Nat) : Nat → Nat → Int → Int
  | 0, _, n => n
  | d + 1, c, n => rowFree p i d (c + 1) (if taken p i c then n else n + 1)
def allFree (p : List Int) : List Int → Nat → Int → Int
  | [], _, n => n
  | m :: t, i, n => allFree p t (i + 1) (rowFree p i m.toNat 0 n)
theorem rowFree_bound (p : List Int) (i : Nat) : ∀ d c n, n ≤ rowFree p i d c n ∧ rowFree p i d c n ≤ n + d
  | 0, c, n => by simp [rowFree]
  | d + 1, c, n => by
    rw [rowFree]
    by_cases h : taken p i c = true
    · rw [if_pos h]; have := rowFree_bound p i d (c + 1) n; omega
    · rw [if_neg h]; have := rowFree_bound p i d (c + 1) (n + 1); omega
section
variable {l p : List Int} (hl6 : l.length ≤ 6) (hin : ∀ i (hi : i < l.length), 0 ≤ l[i] ∧ l[i] ≤ 6) (hp : p.length = l.length)
include hl6 hin hp
theorem impl_row {i m : Nat} (hi : i < l.length) (hm : m ≤ 6) {g : Int} : ∀ (d c : Nat) (n : Int), c + d = m → 0 ≤ n → n ≤ 6 * i + c →
    Ev (fun k => impl_free.l0 k p (rowFree p i d c n) l (l.length : Int) ((i + 1 : Nat) : Int)) g → Ev (fun k => impl_free.l1 k p n i l (l.length : Int) i m c) g
  | 0, c, n, hc, h0, hn, next => by
    have e1 : wrap64 ((i : Int) + 1) = ((i + 1 : Nat) : Int) := by rw [w64 (by omega) (by omega)]; rfl
    refine Ev.step (fun k => ?_) next
    rw [impl_free.l1, if_neg (by omega), e1]; rfl
  | d + 1, c, n, hc, h0, hn, next => by
    have e1 : wrap64 ((c : Int) + 1) = ((c + 1 : Nat) : Int) := by rw [w64 (by omega) (by omega)]; rfl
    have e2 : wrap64 (n + 1) = n + 1 := w64 (by omega) (by omega)
    rw [rowFree] at next
    have ihT := fun (h : taken p i c = true) => impl_row hi hm d (c + 1) n (by omega) h0 (by omega) (by rw [if_pos h] at next; exact next)
    have ihF := fun (h : ¬ taken p i c = true) => impl_row hi hm d (c + 1) (n + 1) (by omega) (by omega) (by omega) (by rw [if_neg h] at next; exact next)
    have hstep : ∀ k, impl_free.l1 (k + 1) p n i l (l.length : Int) i m c = _ := fun k => by rw [impl_free.l1, if_pos (by omega), if_pos (by omega), if_pos (by omega), rd_nat, e1, e2, Int.toNat_natCast]
    have hhas := contains (l := p.take i) (c : Int) (by simp; omega)
    by_cases h1 : p.getD i 0 = -1
    · refine Ev.step (fun k => by rw [hstep, if_pos h1, if_pos (by omega)]) (Ev.bind hhas ?_)
      by_cases h2 : (c : Int) ∈ p.take i
      · exact Ev.congr (fun k => by rw [if_pos (by simpa using h2)]) (ihT (by unfold taken; rw [decide_eq_true h2, Bool.or_true]))
      · exact Ev.congr (fun k => by rw [if_neg (by simpa using h2)]) (ihF (by unfold taken; rw [decide_eq_false (show ¬ p.getD i 0 ≠ -1 from fun h => h h1), decide_eq_false h2]; simp))
    · by_cases h3 : p.getD i 0 ≤ c
      · exact Ev.step (fun k => by rw [hstep, if_neg h1, if_pos h3]) (ihT (by unfold taken; rw [decide_eq_true h1, decide_eq_true h3]; rfl))
      · refine Ev.step (fun k => by rw [hstep, if_neg h1, if_neg h3, if_pos (by omega)]) (Ev.bind hhas ?_)
        by_cases h2 : (c : Int) ∈ p.take i
        · exact Ev.congr (fun k => by rw [if_pos (by simpa using h2)]) (ihT (by unfold taken; rw [decide_eq_true h2, Bool.or_true]))
        · exact Ev.congr (fun k => by rw [if_neg (by simpa using h2)]) (ihF (by unfold taken; rw [decide_eq_false h2, decide_eq_false h3]; simp))
theorem impl_rows : ∀ (d i : Nat) (n : Int), i + d = l.length → 0 ≤ n → n ≤ 6 * i → Ev (fun k => impl_free.l0 k p n l (l.length : Int) i) (allFree p (l.drop i) i n)
  | 0, i, n, hi, h0, hn => by
    refine Ev.step (f := fun _ => some n) (fun k => ?_) (evEq (Ev.now _) (by rw [List.drop_eq_nil_of_le (by omega)]; rfl))
    rw [impl_free.l0, if_neg (by omega)]
  | d + 1, i, n, hi, h0, hn => by
    have hi2 : i < l.length := by omega
    obtain ⟨m, hm⟩ : ∃ m : Nat, l[i] = m := ⟨l[i].toNat, by have := hin i hi2; omega⟩
    have hm6 : m ≤ 6 := by have := hin i hi2; omega
    rw [List.drop_eq_getElem_cons hi2, allFree, hm, Int.toNat_natCast]
    have hbd := rowFree_bound p i m 0 n
    refine Ev.step (fun k => ?_) (impl_row hl6 hin hp hi2 hm6 m 0 n (by omega) h0 (by omega) (impl_rows d (i + 1) _ (by omega) (by omega) (by omega)))
    rw [impl_free.l0, if_pos (by omega), if_pos (by omega), if_pos (by omega), rd_lt _ _ hi2, hm]; rfl
end

end Go.Proofs.Ytlhblnphfpijkaa.FreeK
