/- Rook numbers out of hit numbers, as the program and the reference reckon them: both come to the same. -/
import Derived.Test.YtiocgomkminmoaaQspecRooksFromHits
import Derived.Test.YtiocgomkminmoaaQimplRooksFromHits
import Derived.Test.YtiocgomkminmoaaHits
namespace Go.Proofs.Ytiocgomkminmoaa.HitsK
open Go.RowKit Go.Proofs.Ytiocgomkminmoaa.Q Go.Proofs.YtiocgomkminmoaaW.PrintWords Go.Proofs.YtiocgomkminmoaaW.PrintLast Go.Proofs.YtiocgomkminmoaaW.PrintMore
open Go.Proofs.YtiocgomkminmoaaL Go.Proofs.Ytiocgomkminmoaa.LawK

/-- How many ways there are to choose k of j. -/
def ch : Nat → Nat → Int
  | _, 0 => 1
  | 0, _ + 1 => 0
  | j + 1, k + 1 => ch j k + ch j (k + 1)
theorem ch_bound {j k : Nat} (hj : j ≤ 6) (hk : k ≤ 6) : 0 ≤ ch j k ∧ ch j k ≤ 20 := by
  have : ∀ a b : Fin 7, 0 ≤ ch a.val b.val ∧ ch a.val b.val ≤ 20 := by decide
  exact this ⟨j, by omega⟩ ⟨k, by omega⟩
theorem spec_ch {j k : Nat} (hj : j ≤ 6) (hk : k ≤ 6) : Ev (fun r => spec_hiChoose.f r j k) (ch j k) := by
  have : ∀ a b : Fin 7, spec_hiChoose.f 20 (a.val : Int) (b.val : Int) = some (ch a.val b.val) := by decide +kernel
  exact Ev.of (fun r => spec_hiChoose.mono _ _ r) (this ⟨j, by omega⟩ ⟨k, by omega⟩)
theorem impl_ch {j k : Nat} (hj : j ≤ 6) (hk : k ≤ 6) : Ev (fun r => impl_choose.f r j k) (ch j k) := by
  have : ∀ a b : Fin 7, impl_choose.f 20 (a.val : Int) (b.val : Int) = some (ch a.val b.val) := by decide +kernel
  exact Ev.of (fun r => impl_choose.mono _ _ r) (this ⟨j, by omega⟩ ⟨k, by omega⟩)
def accF (l : List Int) (k : Nat) : Nat → Nat → Int → Int
  | 0, _, s => s
  | d + 1, j, s => accF l k d (j + 1) (wrap64 (s + l.getD j 0 * ch j k))
def rooksF (l : List Int) : Nat → Nat → List Int → List Int × Bool
  | 0, _, out => (out, true)
  | d + 1, k, out =>
    if Int.tmod (accF l k l.length 0 0) (fact (l.length - 1 - k)) = 0 then rooksF l d (k + 1) (out ++ [wrap64 (Int.tdiv (accF l k l.length 0 0) (fact (l.length - 1 - k)))]) else ([], false)
def rooksOfHits (l : List Int) : List Int × Bool := rooksF l l.length 0 []
theorem rooksF_length (l : List Int) : ∀ d k out, (rooksF l d k out).1.length ≤ out.length + d
  | 0, _, _ => Nat.le_refl _
  | d + 1, k, out => by
    rw [rooksF]
    split
    · have := rooksF_length l d (k + 1) (out ++ [wrap64 (Int.tdiv (accF l k l.length 0 0) (fact (l.length - 1 - k)))])
      simp only [List.length_append, List.length_singleton] at this
      omega
    · exact Nat.zero_le _
theorem hc_bound {h c : Int} (h0 : 0 ≤ h) (h1 : h ≤ 1000000) (c0 : 0 ≤ c) (c1 : c ≤ 20) : 0 ≤ h * c ∧ h * c ≤ 20000000 := by
  refine ⟨Int.mul_nonneg h0 c0, ?_⟩
  have := Int.mul_le_mul h1 c1 c0 (by omega)
  omega
theorem spec_sum {l : List Int} (hg : goodL l = true) {k : Nat} (hk : k < l.length) (out : List Int) {R : List Int × Bool} : ∀ (d j : Nat) (s : Int), j + d = l.length →
    Ev (fun r => (spec_hiFactorial.f r (l.length - 1 - k : Nat)).bind fun t443 => (if t443 = 0 then (none) else (if (Int.tmod (accF l k d j s) t443) = 0 then ((spec_hiFactorial.f r (l.length - 1 - k : Nat)).bind fun t444 => (if t444 = 0 then (none) else (if out.length < 17592186044416 then (spec_RooksFromHits.l0 r l (l.length - 1 : Nat) (out ++ [wrap64 (Int.tdiv (accF l k d j s) t444)]) (k + 1 : Nat)) else (none)))) else (some (([] : List Int), false))))) R →
    Ev (fun r => spec_RooksFromHits.l1 r l (l.length - 1 : Nat) out k s l (l.length : Int) j) R
  | 0, j, s, hj, H => by
    have hl := good_length hg
    have hw1 : wrap64 ((k : Int) + 1) = ((k + 1 : Nat) : Int) := by rw [w64 (by omega) (by omega)]; rfl
    have hw2 : wrap64 (((l.length - 1 : Nat) : Int) - k) = ((l.length - 1 - k : Nat) : Int) := by rw [w64 (by omega) (by omega)]; omega
    refine Ev.step (fun r => ?_) H
    rw [spec_RooksFromHits.l1, if_neg (by omega), hw2, hw1, accF]
  | d + 1, j, s, hj, H => by
    have hl := good_length hg
    have hw1 : wrap64 ((j : Int) + 1) = ((j + 1 : Nat) : Int) := by rw [w64 (by omega) (by omega)]; rfl
    have hm := mem_bound hg (show j < l.length by omega)
    have hc := ch_bound (show j ≤ 6 by omega) (show k ≤ 6 by omega)
    have hb := hc_bound hm.1 hm.2 hc.1 hc.2
    refine Ev.step (fun r => by rw [spec_RooksFromHits.l1, if_pos (by omega), if_pos (by omega), if_pos (by omega)]) ?_
    refine Ev.bind (spec_ch (by omega : j ≤ 6) (by omega : k ≤ 6)) ?_
    have ih := spec_sum hg hk out (R := R) d (j + 1) (wrap64 (s + l.getD j 0 * ch j k)) (by omega) (by rw [accF] at H; exact H)
    refine Ev.congr (fun r => ?_) ih
    show spec_RooksFromHits.l1 r l (l.length - 1 : Nat) out k (wrap64 (s + wrap64 (ch j k * rd l j))) l (l.length : Int) (wrap64 ((j : Int) + 1)) = _
    rw [rd_nat, hw1, Int.mul_comm, w64 (n := l.getD j 0 * ch j k) (by omega) (by omega)]
theorem impl_sum {l : List Int} (hg : goodL l = true) {k : Nat} (hk : k < l.length) (out : List Int) {R : List Int × Bool} : ∀ (d j : Nat) (s : Int), j + d = l.length →
    Ev (fun r => (impl_factorial.f r (l.length - 1 - k : Nat)).bind fun t443 => (if t443 = 0 then (none) else (if (Int.tmod (accF l k d j s) t443) = 0 then ((impl_factorial.f r (l.length - 1 - k : Nat)).bind fun t444 => (if t444 = 0 then (none) else (if out.length < 17592186044416 then (impl_RooksFromHits.l0 r l (l.length - 1 : Nat) (out ++ [wrap64 (Int.tdiv (accF l k d j s) t444)]) (l.length : Int) (k + 1 : Nat)) else (none)))) else (some (([] : List Int), false))))) R →
    Ev (fun r => impl_RooksFromHits.l1 r l (l.length - 1 : Nat) out k s (l.length : Int) k l (l.length : Int) j) R
  | 0, j, s, hj, H => by
    have hl := good_length hg
    have hw1 : wrap64 ((k : Int) + 1) = ((k + 1 : Nat) : Int) := by rw [w64 (by omega) (by omega)]; rfl
    have hw2 : wrap64 (((l.length - 1 : Nat) : Int) - k) = ((l.length - 1 - k : Nat) : Int) := by rw [w64 (by omega) (by omega)]; omega
    refine Ev.step (fun r => ?_) H
    rw [impl_RooksFromHits.l1, if_neg (by omega), hw2, hw1, accF]
  | d + 1, j, s, hj, H => by
    have hl := good_length hg
    have hw1 : wrap64 ((j : Int) + 1) = ((j + 1 : Nat) : Int) := by rw [w64 (by omega) (by omega)]; rfl
    have hm := mem_bound hg (show j < l.length by omega)
    have hc := ch_bound (show j ≤ 6 by omega) (show k ≤ 6 by omega)
    have hb := hc_bound hm.1 hm.2 hc.1 hc.2
    refine Ev.step (fun r => by rw [impl_RooksFromHits.l1, if_pos (by omega), if_pos (by omega), if_pos (by omega)]) ?_
    refine Ev.bind (impl_ch (by omega : j ≤ 6) (by omega : k ≤ 6)) ?_
    have ih := impl_sum hg hk out (R := R) d (j + 1) (wrap64 (s + l.getD j 0 * ch j k)) (by omega) (by rw [accF] at H; exact H)
    refine Ev.congr (fun r => ?_) ih
    show impl_RooksFromHits.l1 r l (l.length - 1 : Nat) out k (wrap64 (s + wrap64 (rd l j * ch j k))) (l.length : Int) k l (l.length : Int) (wrap64 ((j : Int) + 1)) = _
    rw [rd_nat, hw1, w64 (n := l.getD j 0 * ch j k) (by omega) (by omega)]
theorem spec_rows {l : List Int} (hg : goodL l = true) : ∀ (d k : Nat) (out : List Int), k + d = l.length → out.length = k →
    Ev (fun r => spec_RooksFromHits.l0 r l (l.length - 1 : Nat) out k) (rooksF l d k out)
  | 0, k, out, hk, ho => by
    have hl := good_length hg
    refine Ev.step (f := fun _ => some (out, true)) (fun r => ?_) (Ev.now _)
    rw [spec_RooksFromHits.l0, if_neg (by omega)]
  | d + 1, k, out, hk, ho => by
    have hl := good_length hg
    have f := fact_bound (show l.length - 1 - k ≤ 6 by omega)
    refine Ev.step (fun r => by rw [spec_RooksFromHits.l0, if_pos (by omega)]) ?_
    refine spec_sum hg (by omega) out l.length 0 0 (by omega) ?_
    refine Ev.bind (spec_fact (by omega)) ?_
    refine Ev.congr (fun r => by rw [if_neg (by omega)]) ?_
    rw [rooksF]
    by_cases e : Int.tmod (accF l k l.length 0 0) (fact (l.length - 1 - k)) = 0
    · refine Ev.congr (fun r => by rw [if_pos e]) ?_
      rw [if_pos e]
      refine Ev.bind (spec_fact (by omega)) ?_
      refine Ev.congr (fun r => by rw [if_neg (by omega), if_pos (by omega)]) ?_
      exact spec_rows hg d (k + 1) _ (by omega) (by simp; omega)
    · refine Ev.congr (fun r => by rw [if_neg e]) ?_
      rw [if_neg e]
      exact Ev.now _
theorem impl_rows {l : List Int} (hg : goodL l = true) : ∀ (d k : Nat) (out : List Int), k + d = l.length → out.length = k →
    Ev (fun r => impl_RooksFromHits.l0 r l (l.length - 1 : Nat) out (l.length : Int) k) (rooksF l d k out)
  | 0, k, out, hk, ho => by
    have hl := good_length hg
    refine Ev.step (f := fun _ => some (out, true)) (fun r => ?_) (Ev.now _)
    rw [impl_RooksFromHits.l0, if_neg (by omega)]
  | d + 1, k, out, hk, ho => by
    have hl := good_length hg
    have f := fact_bound (show l.length - 1 - k ≤ 6 by omega)
    refine Ev.step (fun r => by rw [impl_RooksFromHits.l0, if_pos (by omega)]) ?_
    refine impl_sum hg (by omega) out l.length 0 0 (by omega) ?_
    refine Ev.bind (impl_fact (by omega)) ?_
    refine Ev.congr (fun r => by rw [if_neg (by omega)]) ?_
    rw [rooksF]
    by_cases e : Int.tmod (accF l k l.length 0 0) (fact (l.length - 1 - k)) = 0
    · refine Ev.congr (fun r => by rw [if_pos e]) ?_
      rw [if_pos e]
      refine Ev.bind (impl_fact (by omega)) ?_
      refine Ev.congr (fun r => by rw [if_neg (by omega), if_pos (by omega)]) ?_
      exact impl_rows hg d (k + 1) _ (by omega) (by simp; omega)
    · refine Ev.congr (fun r => by rw [if_neg e]) ?_
      rw [if_neg e]
      exact Ev.now _
theorem spec_rooksFromHits {l : List Int} (hl : l.length ≤ 1048576) : Ev (fun k => spec_RooksFromHits.f k l) (if goodL l then rooksOfHits l else ([], false)) := by
  unfold spec_RooksFromHits.f
  refine Ev.bind (hiList (by omega)) ?_
  by_cases hg : goodL l = true
  · have hn := good_length hg
    have hw : wrap64 ((l.length : Int) - 1) = ((l.length - 1 : Nat) : Int) := by rw [w64 (by omega) (by omega)]; omega
    rw [if_pos hg]
    refine Ev.congr (fun k => ?_) (spec_rows hg l.length 0 [] (by omega) rfl)
    rw [if_pos hg, hw]; rfl
  · rw [if_neg hg]
    refine Ev.congr (fun k => ?_) (Ev.now _)
    rw [if_neg hg]
theorem impl_rooksFromHits {l : List Int} (hl : l.length ≤ 1048576) : Ev (fun k => impl_RooksFromHits.f k l) (if goodL l then rooksOfHits l else ([], false)) := by
  unfold impl_RooksFromHits.f
  refine Ev.bind (areSums (by omega)) ?_
  by_cases hg : goodL l = true
  · have hn := good_length hg
    have hw : wrap64 ((l.length : Int) - 1) = ((l.length - 1 : Nat) : Int) := by rw [w64 (by omega) (by omega)]; omega
    rw [if_pos hg]
    refine Ev.congr (fun k => ?_) (impl_rows hg l.length 0 [] (by omega) rfl)
    rw [if_pos hg, hw]; rfl
  · rw [if_neg hg]
    refine Ev.congr (fun k => ?_) (Ev.now _)
    rw [if_neg hg]

end Go.Proofs.Ytiocgomkminmoaa.HitsK
