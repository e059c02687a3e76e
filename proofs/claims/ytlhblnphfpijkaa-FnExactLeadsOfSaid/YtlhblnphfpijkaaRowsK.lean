/- What the laws' own helpers do with lists of lists of whole numbers: sizes, copies, equality. No conditions but small lengths. -/
import Derived.Test.YtlhblnphfpijkaaLaw
import Derived.Test.YtlhblnphfpijkaaQlawsszIntSS
import Derived.Test.YtlhblnphfpijkaaQlawstoIntSS
import Derived.Test.YtlhblnphfpijkaaQlawseqIntSS
namespace Go.Proofs.Ytlhblnphfpijkaa.RowsK
set_option linter.unusedVariables false
open Go.RowKit Go.Proofs.Ytlhblnphfpijkaa.Q Go.Proofs.YtlhblnphfpijkaaW.PrintWords Go.Proofs.YtlhblnphfpijkaaW.PrintLast Go.Proofs.YtlhblnphfpijkaaW.PrintMore
open Go.Proofs.YtlhblnphfpijkaaL Go.Proofs.Ytlhblnphfpijkaa.LawK

theorem evEq {α : Type} {g : Nat → Option α} {a b : α} (h : Ev g a) (e : a = b) : Ev g b := e ▸ h
theorem rdL {xs : List (List Int)} {i : Nat} (h : i < xs.length) : rd_L1 xs (i : Int) = xs[i] := by unfold rd_L1; rw [Int.toNat_natCast]; exact gD_lt _ _ h
/-- What is left of a bound behind a list and all its rows; -1 behind the bound. -/
def szL : List (List Int) → Int → Int
  | [], n => n
  | x :: t, n => if (x.length : Int) ≤ n then szL t (n - (x.length : Int)) else -1
def szR (l : List (List Int)) (n : Int) : Int := if (l.length : Int) ≤ n then szL l (n - (l.length : Int)) else -1
theorem szIntS_f (l : List Int) (hl : l.length ≤ maxLen) (n : Int) (h0 : 0 ≤ n) (h1 : n ≤ 1048576) : laws_szIntS.f l n = some (if (l.length : Int) ≤ n then n - (l.length : Int) else -1) := by
  unfold maxLen at hl
  unfold laws_szIntS.f
  rw [w64 (by omega) (by omega)]
  by_cases h : (l.length : Int) ≤ n
  · rw [if_neg (by omega), if_pos h]
  · rw [if_pos (by omega), if_neg h]
theorem szL_le : ∀ (l : List (List Int)) (n : Int), 0 ≤ n → -1 ≤ szL l n ∧ szL l n ≤ n
  | [], n, h => ⟨by rw [szL]; omega, Int.le_refl _⟩
  | x :: t, n, h => by
    rw [szL]
    by_cases c : (x.length : Int) ≤ n
    · rw [if_pos c]
      have := szL_le t (n - (x.length : Int)) (by omega)
      omega
    · rw [if_neg c]; omega
theorem szIntSS_l0 {l : List (List Int)} (hx : ∀ x ∈ l, x.length ≤ maxLen) (hl : l.length ≤ 1048576) : ∀ (d i : Nat) (n : Int), i + d = l.length → 0 ≤ n → n ≤ 1048576 → Ev (fun k => laws_szIntSS.l0 k l n i) (szL (l.drop i) n)
  | 0, i, n, hi, h0, h1 => by
    refine Ev.step (f := fun _ => some n) (fun k => ?_) (evEq (Ev.now _) (by rw [List.drop_eq_nil_of_le (by omega)]; rfl))
    rw [laws_szIntSS.l0, if_neg (by omega)]
  | d + 1, i, n, hi, h0, h1 => by
    have w1 : wrap64 ((i : Int) + 1) = ((i + 1 : Nat) : Int) := by rw [w64 (by omega) (by omega)]; rfl
    have hi2 : i < l.length := by omega
    rw [List.drop_eq_getElem_cons hi2, szL]
    by_cases c : (l[i].length : Int) ≤ n
    · rw [if_pos c]
      refine Ev.step (fun k => ?_) (szIntSS_l0 hx hl d (i + 1) (n - (l[i].length : Int)) (by omega) (by omega) (by omega))
      rw [laws_szIntSS.l0, if_pos (by omega), if_pos (by omega), rdL hi2, szIntS_f _ (hx _ (List.getElem_mem hi2)) n h0 h1, Option.bind_some, if_pos c, if_neg (by omega), w1]
    · rw [if_neg c]
      refine Ev.step (f := fun _ => some (-1)) (fun k => ?_) (Ev.now _)
      rw [laws_szIntSS.l0, if_pos (by omega), if_pos (by omega), rdL hi2, szIntS_f _ (hx _ (List.getElem_mem hi2)) n h0 h1, Option.bind_some, if_neg c, if_pos (by omega)]
theorem szIntSS {l : List (List Int)} (hl : l.length ≤ maxLen) (hx : ∀ x ∈ l, x.length ≤ maxLen) {n : Int} (h0 : 0 ≤ n) (h1 : n ≤ 1048576) : Ev (fun k => laws_szIntSS.f k l n) (szR l n) := by
  unfold maxLen at hl
  unfold laws_szIntSS.f szR
  rw [w64 (by omega) (by omega)]
  by_cases c : (l.length : Int) ≤ n
  · rw [if_pos c]
    refine Ev.congr (fun k => if_neg (by omega)) ?_
    have := szIntSS_l0 hx (by omega) l.length 0 (n - (l.length : Int)) (by omega) (by omega) (by omega)
    rw [List.drop_zero] at this
    exact this
  · rw [if_neg c]
    exact Ev.congr (fun k => if_pos (by omega)) (Ev.now _)
theorem szL_len : ∀ (l : List (List Int)) (n : Int), 0 ≤ n → 0 ≤ szL l n → ∀ x ∈ l, (x.length : Int) ≤ n
  | x :: t, n, h0, h, y, hy => by
    rw [szL] at h
    by_cases c : (x.length : Int) ≤ n
    · rw [if_pos c] at h
      rcases List.mem_cons.1 hy with rfl | hy
      · exact c
      · have := szL_len t _ (by omega) h y hy
        omega
    · rw [if_neg c] at h; omega
theorem szR_len {l : List (List Int)} {n : Int} (h0 : 0 ≤ n) (h : 0 ≤ szR l n) : (l.length : Int) ≤ n ∧ ∀ x ∈ l, (x.length : Int) ≤ n := by
  unfold szR at h
  by_cases c : (l.length : Int) ≤ n
  · rw [if_pos c] at h
    exact ⟨c, fun x hx => by have := szL_len l _ (by omega) h x hx; omega⟩
  · rw [if_neg c] at h; omega
theorem toIntSS_l0 {l : List (List Int)} (hl : l.length ≤ 1048576) (hx : ∀ x ∈ l, x.length ≤ 1048576) : ∀ (d i : Nat) (x : List (List Int)), i + d = l.length → x.length = l.length → x.take i = l.take i → Ev (fun k => laws_toIntSS.l0 k l x i) l
  | 0, i, x, hi, hxl, ht => by
    refine Ev.step (f := fun _ => some l) (fun k => ?_) (Ev.now _)
    rw [laws_toIntSS.l0, if_neg (by omega)]
    rw [List.take_of_length_le (by omega), List.take_of_length_le (by omega)] at ht
    rw [ht]
  | d + 1, i, x, hi, hxl, ht => by
    have h1 : wrap64 ((i : Int) + 1) = ((i + 1 : Nat) : Int) := by rw [w64 (by omega) (by omega)]; rfl
    have hi2 : i < l.length := by omega
    refine Ev.step (f := fun k => (laws_toIntS.f k l[i]).bind fun t => laws_toIntSS.l0 k l (x.set i t) ((i + 1 : Nat) : Int)) (fun k => ?_) ?_
    · rw [laws_toIntSS.l0, if_pos (by omega), if_pos (by omega), rdL hi2, h1, Int.toNat_natCast]
      congr 1
      funext t
      rw [if_pos (by omega)]
    · refine Ev.bind (toIntS (hx _ (List.getElem_mem hi2))) ?_
      refine toIntSS_l0 hl hx d (i + 1) (x.set i l[i]) (by omega) (by simpa using hxl) ?_
      rw [List.take_succ_eq_append_getElem (by simp; omega), List.take_succ_eq_append_getElem (by omega), List.take_set_of_le (by omega), ht]
      simp
theorem toIntSS {l : List (List Int)} (hl : l.length ≤ 1048576) (hx : ∀ x ∈ l, x.length ≤ 1048576) : Ev (fun k => laws_toIntSS.f k l) l := by
  refine Ev.congr (fun k => ?_) (toIntSS_l0 hl hx l.length 0 (List.replicate l.length []) (by omega) (by simp) (by simp))
  unfold laws_toIntSS.f
  rw [if_pos (by omega), Int.toNat_natCast, if_pos (by omega)]; rfl
theorem eqIntSS_l0 {a b : List (List Int)} (hl : a.length ≤ 4611686018427387904) (hx : ∀ x ∈ a, x.length ≤ 4611686018427387904) (h : a.length = b.length) : ∀ (d i : Nat), i + d = a.length → a.take i = b.take i → Ev (fun k => laws_eqIntSS.l0 k a b i) (decide (a = b))
  | 0, i, hi, ht => by
    refine Ev.step (f := fun _ => some (decide (a = b))) (fun k => ?_) (Ev.now _)
    rw [laws_eqIntSS.l0, if_neg (by omega)]
    rw [List.take_of_length_le (by omega), List.take_of_length_le (by omega)] at ht
    simp [ht]
  | d + 1, i, hi, ht => by
    have h1 : wrap64 ((i : Int) + 1) = ((i + 1 : Nat) : Int) := by rw [w64 (by omega) (by omega)]; rfl
    have hi2 : i < a.length := by omega
    refine Ev.step (f := fun k => (laws_eqIntS.f k a[i] (b[i]'(by omega))).bind fun t => if t = true then laws_eqIntSS.l0 k a b ((i + 1 : Nat) : Int) else some false) (fun k => ?_) ?_
    · rw [laws_eqIntSS.l0, if_pos (by omega), if_pos (by omega), if_pos (by omega), h1, rdL hi2, rdL (by omega)]
    · refine Ev.bind (eqIntS (by have := hx _ (List.getElem_mem hi2); omega)) ?_
      by_cases e : a[i] = b[i]'(by omega)
      · refine Ev.congr (fun k => if_pos (decide_eq_true e)) (eqIntSS_l0 hl hx h d (i + 1) (by omega) ?_)
        rw [List.take_succ_eq_append_getElem (by omega), List.take_succ_eq_append_getElem (by omega), ht, e]
      · have : a ≠ b := fun hab => e (by simp [hab])
        rw [decide_eq_false this]
        exact Ev.congr (fun k => if_neg (by simpa using e)) (Ev.now _)
theorem eqIntSS {a b : List (List Int)} (hl : a.length ≤ 4611686018427387904) (hx : ∀ x ∈ a, x.length ≤ 4611686018427387904) : Ev (fun k => laws_eqIntSS.f k a b) (decide (a = b)) := by
  unfold laws_eqIntSS.f
  by_cases h : a.length = b.length
  · refine Ev.congr (fun k => if_pos (by omega)) (eqIntSS_l0 hl hx h a.length 0 (by omega) (by simp))
  · have : a ≠ b := fun hab => h (by simp [hab])
    rw [decide_eq_false this]
    exact Ev.congr (fun k => if_neg (by omega)) (Ev.now _)
end Go.Proofs.Ytlhblnphfpijkaa.RowsK
