/- Texts of this claim put together (14): words, what the functions compute, and plain facts. No conditions. -/
import Derived.Test.YtadkkcdhgepbkaaSFnRanksOfRows5
import Derived.Test.YtadkkcdhgepbkaaSFnRanksOfRows13
import Derived.Test.YtadkkcdhgepbkaaSFnRanksOfRows4
import Derived.Test.YtadkkcdhgepbkaaSFnRanksOfRows12
section
namespace Go.Proofs.Ytadkkcdhgepbkaa.LinAlg
set_option linter.unusedVariables false
set_option linter.unusedSectionVars false
open Go.RowKit Go.Proofs.YtadkkcdhgepbkaaW.PrintWords Go.Proofs.YtadkkcdhgepbkaaW.PrintLast Go.Proofs.YtadkkcdhgepbkaaW.PrintMore
open Go.Proofs.YtadkkcdhgepbkaaL
def sumI : Nat → (Nat → Int) → Int
  | 0, _ => 0
  | n + 1, f => sumI n f + f n
theorem sumI_congr {f g : Nat → Int} : ∀ {n : Nat}, (∀ i, i < n → f i = g i) → sumI n f = sumI n g
  | 0, _ => rfl
  | n + 1, h => by rw [sumI, sumI, sumI_congr (fun i hi => h i (by omega)), h n (by omega)]
theorem sumI_add (f g : Nat → Int) : ∀ n, sumI n (fun i => f i + g i) = sumI n f + sumI n g
  | 0 => rfl
  | n + 1 => by rw [sumI, sumI, sumI, sumI_add f g n]; omega
theorem sumI_sub (f g : Nat → Int) : ∀ n, sumI n (fun i => f i - g i) = sumI n f - sumI n g
  | 0 => rfl
  | n + 1 => by rw [sumI, sumI, sumI, sumI_sub f g n]; omega
theorem sumI_mul (k : Int) (f : Nat → Int) : ∀ n, sumI n (fun i => k * f i) = k * sumI n f
  | 0 => by rw [sumI, sumI, Int.mul_zero]
  | n + 1 => by rw [sumI, sumI, sumI_mul k f n, Int.mul_add]
theorem sumI_mul' (k : Int) (f : Nat → Int) (n : Nat) : sumI n (fun i => f i * k) = sumI n f * k := by
  rw [Int.mul_comm, ← sumI_mul]
  exact sumI_congr (fun i _ => Int.mul_comm _ _)
theorem sumI_zero : ∀ n, sumI n (fun _ => 0) = 0
  | 0 => rfl
  | n + 1 => by rw [sumI, sumI_zero n, Int.add_zero]
theorem sumI_swap (F : Nat → Nat → Int) (m : Nat) : ∀ n, sumI n (fun i => sumI m (F i)) = sumI m (fun j => sumI n (fun i => F i j))
  | 0 => (sumI_zero m).symm
  | n + 1 => by
    rw [sumI, sumI_swap F m n, ← sumI_add]
    rfl
theorem sumI_one (v : Int) (m : Nat) (f : Nat → Int) : ∀ n, sumI n (fun i => (if i = m then v else 0) * f i) = if m < n then v * f m else 0
  | 0 => by rw [sumI, if_neg (by omega)]
  | n + 1 => by
    rw [sumI, sumI_one v m f n]
    by_cases h : n = m
    · subst h; rw [if_neg (by omega), if_pos rfl, if_pos (by omega), Int.zero_add]
    · rw [if_neg h, Int.zero_mul, Int.add_zero]
      by_cases h2 : m < n
      · rw [if_pos h2, if_pos (by omega)]
      · rw [if_neg h2, if_neg (by omega)]
def sk (p i : Nat) : Nat := if i < p then i else i + 1
theorem sum_skip (f : Nat → Int) (p : Nat) : ∀ n, p ≤ n → sumI (n + 1) f = f p + sumI n (fun i => f (sk p i))
  | 0, h => by
    have : p = 0 := by omega
    subst this
    rw [sumI, sumI, sumI]; omega
  | n + 1, h => by
    by_cases e : p = n + 1
    · subst e
      rw [sumI, Int.add_comm]
      congr 1
      exact sumI_congr (fun i hi => by unfold sk; rw [if_pos hi])
    · have ih := sum_skip f p n (by omega)
      have e1 : sumI (n + 1 + 1) f = sumI (n + 1) f + f (n + 1) := rfl
      have e2 : sumI (n + 1) (fun i => f (sk p i)) = sumI n (fun i => f (sk p i)) + f (sk p n) := rfl
      have e3 : sk p n = n + 1 := by unfold sk; rw [if_neg (by omega)]
      rw [e1, e2, e3, ih]
      omega
section
variable {q : Int}
theorem dvd_sum {f : Nat → Int} : ∀ {n : Nat}, (∀ i, i < n → q ∣ f i) → q ∣ sumI n f
  | 0, _ => ⟨0, by rw [sumI]; omega⟩
  | n + 1, h => by
    rw [sumI]
    exact Int.dvd_add (dvd_sum (fun i hi => h i (by omega))) (h n (by omega))
theorem dep (h1 : ¬ q ∣ 1) (hinv : ∀ a : Int, ¬ q ∣ a → ∃ u : Int, q ∣ u * a - 1) : ∀ (l k : Nat), l < k → ∀ c : Nat → Nat → Int, ∃ x : Nat → Int, (∃ i, i < k ∧ ¬ q ∣ x i) ∧ ∀ t, t < l → q ∣ sumI k (fun i => x i * c i t)
  | 0, k, hk, c => ⟨fun _ => 1, ⟨0, hk, h1⟩, fun t ht => by omega⟩
  | l + 1, k, hk, c => by
    by_cases h : ∃ p, p < k ∧ ¬ q ∣ c p l
    · obtain ⟨p, hp, hn⟩ := h
      obtain ⟨u, hu⟩ := hinv _ hn
      obtain ⟨m, rfl⟩ : ∃ m, k = m + 1 := ⟨k - 1, by omega⟩
      obtain ⟨y, ⟨i, hi, hy⟩, hs⟩ := dep h1 hinv l m (by omega) (fun i t => c (sk p i) t - c (sk p i) l * u * c p t)
      have hX : ∃ x : Nat → Int, (∀ i, x (sk p i) = y i) ∧ x p = -(u * sumI m (fun i => y i * c (sk p i) l)) := by
        obtain ⟨X, hX0⟩ : ∃ X : Int, X = -(u * sumI m (fun i => y i * c (sk p i) l)) := ⟨_, rfl⟩
        refine ⟨fun j => if j = p then X else if j < p then y j else y (j - 1), fun i => ?_, by rw [← hX0]; exact if_pos rfl⟩
        show (if sk p i = p then X else if sk p i < p then y (sk p i) else y (sk p i - 1)) = y i
        unfold sk
        by_cases hip : i < p
        · rw [if_pos hip, if_neg (by omega), if_pos hip]
        · rw [if_neg hip, if_neg (by omega), if_neg (by omega), Nat.add_sub_cancel]
      obtain ⟨x, hx, hxp⟩ := hX
      have hform : ∀ t, sumI (m + 1) (fun i => x i * c i t) = sumI m (fun i => y i * c (sk p i) t) - u * sumI m (fun i => y i * c (sk p i) l) * c p t := by
        intro t
        have e : sumI (m + 1) (fun i => x i * c i t) = x p * c p t + sumI m (fun i => x (sk p i) * c (sk p i) t) := sum_skip (fun i => x i * c i t) p m (by omega)
        have e2 : sumI m (fun i => x (sk p i) * c (sk p i) t) = sumI m (fun i => y i * c (sk p i) t) := sumI_congr (fun i _ => by rw [hx])
        rw [e, e2, hxp, Int.neg_mul]
        omega
      refine ⟨x, ⟨sk p i, by unfold sk; split <;> omega, by rw [hx]; exact hy⟩, fun t ht => ?_⟩
      rw [hform]
      by_cases e : t = l
      · subst e
        obtain ⟨w, hw⟩ := hu
        refine ⟨-(w * sumI m (fun i => y i * c (sk p i) t)), ?_⟩
        have e2 : u * sumI m (fun i => y i * c (sk p i) t) * c p t = (u * c p t) * sumI m (fun i => y i * c (sk p i) t) := by
          rw [Int.mul_right_comm]
        rw [e2, show u * c p t = q * w + 1 by omega, Int.add_mul, Int.one_mul, Int.mul_neg, Int.mul_assoc]
        omega
      · have h3 := hs t (by omega)
        have e3 : sumI m (fun i => y i * (c (sk p i) t - c (sk p i) l * u * c p t)) = sumI m (fun i => y i * c (sk p i) t) - u * sumI m (fun i => y i * c (sk p i) l) * c p t := by
          rw [← sumI_mul, ← sumI_mul', ← sumI_sub]
          refine sumI_congr (fun i _ => ?_)
          rw [Int.mul_sub]
          congr 1
          rw [← Int.mul_assoc, ← Int.mul_assoc, Int.mul_comm u, Int.mul_right_comm]
        rw [← e3]
        exact h3
    · obtain ⟨x, hx, hs⟩ := dep h1 hinv l k (by omega) c
      refine ⟨x, hx, fun t ht => ?_⟩
      by_cases e : t = l
      · subst e
        refine dvd_sum (fun i hi => ?_)
        have : q ∣ c i t := Decidable.byContradiction (fun hn => h ⟨i, hi, hn⟩)
        exact Int.dvd_trans this (Int.dvd_mul_left _ _)
      · exact hs t (by omega)
def Span (q : Int) (n k : Nat) (A : Nat → Nat → Int) (v : Nat → Int) : Prop := ∃ c : Nat → Int, ∀ j, j < n → q ∣ v j - sumI k (fun s => c s * A s j)
def Indep (q : Int) (n k : Nat) (A : Nat → Nat → Int) : Prop := ∀ x : Nat → Int, (∀ j, j < n → q ∣ sumI k (fun s => x s * A s j)) → ∀ s, s < k → q ∣ x s
theorem choose_all {P : Nat → (Nat → Int) → Prop} : ∀ k : Nat, (∀ s, s < k → ∃ c, P s c) → ∃ C : Nat → Nat → Int, ∀ s, s < k → P s (C s)
  | 0, _ => ⟨fun _ _ => 0, fun s hs => by omega⟩
  | k + 1, h => by
    obtain ⟨C, hC⟩ := choose_all k (fun s hs => h s (by omega))
    obtain ⟨c, hc⟩ := h k (by omega)
    refine ⟨fun s => if s = k then c else C s, fun s hs => ?_⟩
    show P s (if s = k then c else C s)
    by_cases e : s = k
    · rw [if_pos e, e]; exact hc
    · rw [if_neg e]; exact hC s (by omega)
theorem double (k l : Nat) (x : Nat → Int) (C : Nat → Nat → Int) (B : Nat → Nat → Int) (j : Nat) : sumI k (fun s => x s * sumI l (fun t => C s t * B t j)) = sumI l (fun t => sumI k (fun s => x s * C s t) * B t j) := by
  have e1 : ∀ s, x s * sumI l (fun t => C s t * B t j) = sumI l (fun t => x s * C s t * B t j) := fun s => by
    rw [← sumI_mul]
    exact sumI_congr (fun t _ => (Int.mul_assoc _ _ _).symm)
  rw [sumI_congr (fun s _ => e1 s), sumI_swap]
  exact sumI_congr (fun t _ => sumI_mul' _ _ _)
theorem Span.trans {n k l : Nat} {A B : Nat → Nat → Int} {v : Nat → Int} (h : Span q n k A v) (hA : ∀ s, s < k → Span q n l B (A s)) : Span q n l B v := by
  obtain ⟨c, hc⟩ := h
  obtain ⟨C, hC⟩ := choose_all (P := fun s d => ∀ j, j < n → q ∣ A s j - sumI l (fun t => d t * B t j)) k hA
  refine ⟨fun t => sumI k (fun s => c s * C s t), fun j hj => ?_⟩
  have h1 := hc j hj
  have h2 : q ∣ sumI k (fun s => c s * A s j - c s * sumI l (fun t => C s t * B t j)) := dvd_sum (fun s hs => by
    rw [← Int.mul_sub]
    exact Int.dvd_trans (hC s hs j hj) (Int.dvd_mul_left _ _))
  rw [sumI_sub, double] at h2
  have := Int.dvd_add h1 h2
  have e : v j - sumI k (fun s => c s * A s j) + (sumI k (fun s => c s * A s j) - sumI l (fun t => sumI k (fun s => c s * C s t) * B t j)) = v j - sumI l (fun t => sumI k (fun s => c s * C s t) * B t j) := by omega
  rw [e] at this
  exact this
theorem indep_le (h1 : ¬ q ∣ 1) (hinv : ∀ a : Int, ¬ q ∣ a → ∃ u : Int, q ∣ u * a - 1) {n k l : Nat} {A B : Nat → Nat → Int} (hA : Indep q n k A) (hs : ∀ s, s < k → Span q n l B (A s)) : k ≤ l := by
  refine Nat.le_of_not_lt (fun hlt => ?_)
  obtain ⟨C, hC⟩ := choose_all (P := fun s d => ∀ j, j < n → q ∣ A s j - sumI l (fun t => d t * B t j)) k hs
  obtain ⟨x, ⟨i, hi, hx⟩, hd⟩ := dep h1 hinv l k hlt C
  refine hx (hA x (fun j hj => ?_) i hi)
  have h2 : q ∣ sumI k (fun s => x s * A s j - x s * sumI l (fun t => C s t * B t j)) := dvd_sum (fun s hs => by
    rw [← Int.mul_sub]
    exact Int.dvd_trans (hC s hs j hj) (Int.dvd_mul_left _ _))
  rw [sumI_sub, double] at h2
  have h3 : q ∣ sumI l (fun t => sumI k (fun s => x s * C s t) * B t j) := dvd_sum (fun t ht => Int.dvd_trans (hd t ht) (Int.dvd_mul_right _ _))
  have := Int.dvd_add h2 h3
  have e : sumI k (fun s => x s * A s j) - sumI l (fun t => sumI k (fun s => x s * C s t) * B t j) + sumI l (fun t => sumI k (fun s => x s * C s t) * B t j) = sumI k (fun s => x s * A s j) := by omega
  rw [e] at this
  exact this
theorem steps_indep (hp : ∀ a b : Int, q ∣ a * b → q ∣ a ∨ q ∣ b) {n k : Nat} {A : Nat → Nat → Int} {e : Nat → Nat} (he : ∀ s, s < k → e s < n ∧ ¬ q ∣ A s (e s)) (hz : ∀ s t, s < t → t < k → q ∣ A t (e s)) : Indep q n k A := by
  intro x hx s
  induction s using Nat.strongRecOn with
  | _ s ih =>
    intro hs
    have h := hx (e s) (he s hs).1
    obtain ⟨m, rfl⟩ : ∃ m, k = m + 1 := ⟨k - 1, by omega⟩
    rw [sum_skip _ s m (by omega)] at h
    have h2 : q ∣ sumI m (fun i => x (sk s i) * A (sk s i) (e s)) := dvd_sum (fun i hi => by
      unfold sk
      by_cases hlt : i < s
      · rw [if_pos hlt]
        exact Int.dvd_trans (ih i hlt (by omega)) (Int.dvd_mul_right _ _)
      · rw [if_neg hlt]
        exact Int.dvd_trans (hz s (i + 1) (by omega) (by omega)) (Int.dvd_mul_left _ _))
    have h3 := Int.dvd_sub h h2
    rw [Int.add_sub_cancel] at h3
    rcases hp _ _ h3 with h4 | h4
    · exact h4
    · exact absurd h4 (he s hs).2
end
end Go.Proofs.Ytadkkcdhgepbkaa.LinAlg
end
section
namespace Go.Proofs.Ytadkkcdhgepbkaa.LeadLaw
set_option linter.unusedVariables false
set_option linter.unusedSectionVars false
open Go.RowKit Go.Proofs.YtadkkcdhgepbkaaW.PrintWords Go.Proofs.YtadkkcdhgepbkaaW.PrintLast Go.Proofs.YtadkkcdhgepbkaaW.PrintMore
open Go.Proofs.YtadkkcdhgepbkaaL Go.Proofs.Ytadkkcdhgepbkaa.LeadsK Go.Proofs.Ytadkkcdhgepbkaa.LinAlg
def fam (rows : List (List Int)) : Nat → Nat → Int := fun s j => (rows.getD s []).getD j 0
theorem fam_lt {rows : List (List Int)} {s : Nat} (h : s < rows.length) (j : Nat) : fam rows s j = rows[s].getD j 0 := by
  unfold fam
  rw [gD_lt _ _ h]
theorem fam_app {a b : List (List Int)} {s : Nat} (h : s < a.length) : fam (a ++ b) s = fam a s := by
  have e : (a ++ b).getD s [] = a.getD s [] := by rw [List.getD_eq_getElem?_getD, List.getD_eq_getElem?_getD, List.getElem?_append_left h]
  funext j
  unfold fam
  rw [e]
theorem fam_new (a : List (List Int)) (y : List Int) (j : Nat) : fam (a ++ [y]) a.length j = y.getD j 0 := by
  have e : (a ++ [y]).getD a.length [] = y := by rw [List.getD_eq_getElem?_getD, List.getElem?_append_right (Nat.le_refl _), Nat.sub_self]; rfl
  unfold fam
  rw [e]
theorem leadOf_shift : ∀ (x : List Int) (i : Int), 0 ≤ i → leadOf x i ≠ -1 → i ≤ leadOf x i ∧ x.getD (leadOf x i - i).toNat 0 ≠ 0
  | [], i, _, h => absurd rfl h
  | a :: t, i, hi, h => by
    rw [leadOf] at h ⊢
    by_cases e : a = 0
    · rw [if_pos e] at h ⊢
      have ih := leadOf_shift t (i + 1) (by omega) h
      refine ⟨by omega, ?_⟩
      rw [show (leadOf t (i + 1) - i).toNat = (leadOf t (i + 1) - (i + 1)).toNat + 1 by omega]
      exact ih.2
    · rw [if_neg e, Int.sub_self]
      exact ⟨Int.le_refl _, e⟩
theorem leadOf_ne {x : List Int} (h : leadOf x 0 ≠ -1) : x.getD (leadOf x 0).toNat 0 ≠ 0 := by
  have := (leadOf_shift x 0 (Int.le_refl _) h).2
  rwa [Int.sub_zero] at this
theorem leadOf_none : ∀ (x : List Int) (i : Int), 0 ≤ i → leadOf x i = -1 → ∀ j, x.getD j 0 = 0
  | [], i, _, _, j => rfl
  | a :: t, i, hi, h, j => by
    rw [leadOf] at h
    by_cases e : a = 0
    · rw [if_pos e] at h
      cases j with
      | zero => exact e
      | succ j => exact leadOf_none t (i + 1) (by omega) h j
    · rw [if_neg e] at h; omega
section
variable {q : Int} (hq : 2 ≤ q ∧ q ≤ 3) {n : Nat}
include hq
theorem q1 : ¬ q ∣ 1 := fun ⟨w, hw⟩ => by
  have h1 : q = 2 ∨ q = 3 := by omega
  rcases h1 with rfl | rfl <;> omega
theorem qinv (a : Int) (h : ¬ q ∣ a) : ∃ u : Int, q ∣ u * a - 1 := by
  have h1 : q = 2 ∨ q = 3 := by omega
  rcases h1 with rfl | rfl
  · refine ⟨1, ?_⟩
    omega
  · by_cases h2 : a % 3 = 1
    · exact ⟨1, by omega⟩
    · exact ⟨2, by omega⟩
theorem qprime (a b : Int) (h : q ∣ a * b) : q ∣ a ∨ q ∣ b := by
  by_cases ha : q ∣ a
  · exact .inl ha
  · obtain ⟨u, hu⟩ := qinv hq a ha
    refine .inr ?_
    have h2 : q ∣ u * (a * b) := Int.dvd_trans h (Int.dvd_mul_left _ _)
    have h3 : q ∣ (u * a - 1) * b := Int.dvd_trans hu (Int.dvd_mul_right _ _)
    have h4 := Int.dvd_sub h2 h3
    rw [Int.sub_mul, Int.one_mul, ← Int.mul_assoc] at h4
    have e : u * a * b - (u * a * b - b) = b := by omega
    rw [e] at h4
    exact h4
theorem dig_zero {a : Int} (h : 0 ≤ a ∧ a < q) (hd : q ∣ a) : a = 0 := by
  have h1 : q = 2 ∨ q = 3 := by omega
  rcases h1 with rfl | rfl <;> omega
theorem elim_get {by_ : Int} (hb : 0 ≤ by_ ∧ by_ < q) {o : List Int} (ho : Dig q n o) (j : Nat) : ∀ (d c : Nat) (x : List Int), c + d ≤ n → Dig q n x → (elimS q by_ o d c x).getD j 0 = if c ≤ j ∧ j < c + d then Int.tmod (x.getD j 0 + (q - by_) * o.getD j 0) q else x.getD j 0
  | 0, c, x, hc, hx => by rw [elimS, if_neg (by omega)]
  | d + 1, c, x, hc, hx => by
    rw [elimS, elim_get hb ho j d (c + 1) _ (by omega) (Dig.step hq hb ho hx (by omega)), set_getD _ _ _ _ (by rw [hx.len]; omega)]
    by_cases e : j = c
    · subst e
      rw [if_neg (by omega), if_pos rfl, if_pos (by omega)]
    · rw [if_neg e]
      by_cases h : c + 1 ≤ j ∧ j < c + 1 + d
      · rw [if_pos h, if_pos (by omega)]
      · rw [if_neg h, if_neg (by omega)]
theorem elim_mod {by_ : Int} (hb : 0 ≤ by_ ∧ by_ < q) {o x : List Int} (ho : Dig q n o) (hx : Dig q n x) (j : Nat) : q ∣ x.getD j 0 - (elimS q by_ o n 0 x).getD j 0 - by_ * o.getD j 0 := by
  have h1 := hx.dig j
  have h2 := ho.dig j
  rw [elim_get hq hb ho j n 0 x (by omega) hx]
  by_cases hj : j < n
  · have h3 := mul_in hq (a := q - by_) (b := o.getD j 0) (by omega) (by omega)
    rw [if_pos (by omega), Int.tmod_eq_emod_of_nonneg (by omega)]
    have h4 : q ∣ (x.getD j 0 + (q - by_) * o.getD j 0) - (x.getD j 0 + (q - by_) * o.getD j 0) % q := Int.dvd_self_sub_emod
    have h5 : q ∣ q * o.getD j 0 := Int.dvd_mul_right _ _
    have h6 := Int.dvd_sub h4 h5
    have e : x.getD j 0 + (q - by_) * o.getD j 0 - (x.getD j 0 + (q - by_) * o.getD j 0) % q - q * o.getD j 0 = x.getD j 0 - (x.getD j 0 + (q - by_) * o.getD j 0) % q - by_ * o.getD j 0 := by
      rw [Int.sub_mul]; omega
    rw [e] at h6
    exact h6
  · have e : o.getD j 0 = 0 := by rw [List.getD_eq_getElem?_getD, List.getElem?_eq_none (by rw [ho.len]; omega)]; rfl
    rw [if_neg (by omega), e, Int.mul_zero, Int.sub_self]
    exact ⟨0, by omega⟩
structure Steps (q : Int) (n : Nat) (done : List (List Int)) (out : List Int) : Prop where
  len : out.length = done.length
  dig : ∀ s, (h : s < done.length) → Dig q n done[s]
  lead : ∀ s, (h : s < done.length) → out.getD s 0 = leadOf done[s] 0
  zero : ∀ s t, s < t → (h : t < done.length) → out.getD s 0 ≠ -1 → done[t].getD (out.getD s 0).toNat 0 = 0
theorem lead_in {done : List (List Int)} {out : List Int} (h : Steps q n done out) {s : Nat} (hs : s < done.length) : out.getD s 0 = -1 ∨ (0 ≤ out.getD s 0 ∧ out.getD s 0 < n) := by
  rw [h.lead s hs]
  have := leadOf_in done[s] 0 (Int.le_refl _)
  rw [(h.dig s hs).len] at this
  omega
theorem red_at {done : List (List Int)} {out : List Int} (h : Steps q n done out) : ∀ (d i : Nat) (x : List Int), i + d = done.length → Dig q n x → (∀ s, s < i → out.getD s 0 ≠ -1 → x.getD (out.getD s 0).toNat 0 = 0) →
    Dig q n (red q n (done.drop i) (out.drop i) x) ∧ (∀ s, s < done.length → out.getD s 0 ≠ -1 → (red q n (done.drop i) (out.drop i) x).getD (out.getD s 0).toNat 0 = 0) ∧ ∃ c : Nat → Int, ∀ j, q ∣ x.getD j 0 - (red q n (done.drop i) (out.drop i) x).getD j 0 - sumI done.length (fun s => c s * fam done s j)
  | 0, i, x, hi, hx, hz => by
    have e : red q n (done.drop i) (out.drop i) x = x := by
      rw [List.drop_eq_nil_of_le (by omega)]
      unfold red
      rfl
    rw [e]
    refine ⟨hx, fun s hs => hz s (by omega), fun _ => 0, fun j => ?_⟩
    rw [Int.sub_self, sumI_congr (g := fun _ => 0) (fun s _ => Int.zero_mul _), sumI_zero]
    exact ⟨0, by omega⟩
  | d + 1, i, x, hi, hx, hz => by
    have hi2 : i < done.length := by omega
    have hi3 : i < out.length := by rw [h.len]; exact hi2
    have ho := h.dig i hi2
    have hl := h.lead i hi2
    have hge : out.getD i 0 = out[i] := gD_lt _ _ hi3
    rw [List.drop_eq_getElem_cons hi2, List.drop_eq_getElem_cons hi3, red, ← hge]
    by_cases e : out.getD i 0 = -1
    · rw [if_pos e]
      exact red_at h d (i + 1) x (by omega) hx (fun s hs hne => by
        by_cases es : s = i
        · subst es; exact absurd e hne
        · exact hz s (by omega) hne)
    · rw [if_neg e]
      have hb := by_in hq ho hx (out.getD i 0).toNat
      have hm := elim_mod hq hb ho hx
      have hx2 := Dig.elim hq hb ho n 0 x (by omega) hx
      obtain ⟨by_, hby⟩ : ∃ b, b = Int.tmod (x.getD (out.getD i 0).toNat 0 * done[i].getD (out.getD i 0).toNat 0) q := ⟨_, rfl⟩
      rw [← hby] at hb hm hx2 ⊢
      obtain ⟨y, hy⟩ : ∃ y, y = elimS q by_ done[i] n 0 x := ⟨_, rfl⟩
      rw [← hy] at hm hx2 ⊢
      have ih := red_at h d (i + 1) y (by omega) hx2 (fun s hs hne => by
        refine dig_zero hq (hx2.dig _) ?_
        have m := hm (out.getD s 0).toNat
        by_cases es : s = i
        · subst es
          have hd := ho.dig (out.getD s 0).toNat
          have hn : done[s].getD (out.getD s 0).toNat 0 ≠ 0 := by rw [hl]; exact leadOf_ne (by rw [← hl]; exact hne)
          have hxd := hx.dig (out.getD s 0).toNat
          obtain ⟨a, ha⟩ : ∃ a, a = x.getD (out.getD s 0).toNat 0 := ⟨_, rfl⟩
          obtain ⟨b, hbb⟩ : ∃ b, b = done[s].getD (out.getD s 0).toNat 0 := ⟨_, rfl⟩
          rw [← ha, ← hbb] at m hby
          rw [← hbb] at hd hn
          rw [← ha] at hxd
          have hq2 : q = 2 ∨ q = 3 := by omega
          have ha3 : a = 0 ∨ a = 1 ∨ a = 2 := by omega
          have hb3 : b = 1 ∨ b = 2 := by omega
          rcases hq2 with rfl | rfl <;> rcases ha3 with rfl | rfl | rfl <;> rcases hb3 with rfl | rfl <;> first | (exfalso; omega) | (have hbv : by_ = _ := hby; simp at hbv; subst hbv; omega)
        · have z1 := hz s (by omega) hne
          have z2 := h.zero s i (by omega) hi2 hne
          rw [z1, z2, Int.mul_zero, Int.sub_zero, Int.zero_sub] at m
          exact Int.dvd_neg.1 m)
      obtain ⟨g1, g2, c, hc⟩ := ih
      refine ⟨g1, g2, fun s => c s + (if s = i then by_ else 0), fun j => ?_⟩
      have e1 : sumI done.length (fun s => (c s + (if s = i then by_ else 0)) * fam done s j) = sumI done.length (fun s => c s * fam done s j) + by_ * done[i].getD j 0 := by
        rw [sumI_congr (g := fun s => c s * fam done s j + (if s = i then by_ else 0) * fam done s j) (fun s _ => Int.add_mul _ _ _), sumI_add, sumI_one, if_pos hi2, fam_lt hi2]
      have h1 := Int.dvd_add (hc j) (hm j)
      rw [e1]
      have e2 : y.getD j 0 - (red q n (done.drop (i + 1)) (out.drop (i + 1)) y).getD j 0 - sumI done.length (fun s => c s * fam done s j) + (x.getD j 0 - y.getD j 0 - by_ * done[i].getD j 0) = x.getD j 0 - (red q n (done.drop (i + 1)) (out.drop (i + 1)) y).getD j 0 - (sumI done.length (fun s => c s * fam done s j) + by_ * done[i].getD j 0) := by omega
      rw [e2] at h1
      exact h1
end
end Go.Proofs.Ytadkkcdhgepbkaa.LeadLaw
end
section
namespace Go.Proofs.Ytadkkcdhgepbkaa.LeadLaw
set_option linter.unusedVariables false
set_option linter.unusedSectionVars false
open Go.RowKit Go.Proofs.YtadkkcdhgepbkaaW.PrintWords Go.Proofs.YtadkkcdhgepbkaaW.PrintLast Go.Proofs.YtadkkcdhgepbkaaW.PrintMore
open Go.Proofs.YtadkkcdhgepbkaaL Go.Proofs.Ytadkkcdhgepbkaa.LeadsK Go.Proofs.Ytadkkcdhgepbkaa.LinAlg Go.Proofs.Ytadkkcdhgepbkaa.Walk
theorem app_lt {α : Type} {a : List α} {y : α} {s : Nat} (h : s < a.length) (h2 : s < (a ++ [y]).length) : (a ++ [y])[s]'h2 = a[s] := List.getElem_append_left h
theorem app_new {α : Type} {a : List α} {y : α} (h2 : a.length < (a ++ [y]).length) : (a ++ [y])[a.length]'h2 = y := by simp
theorem getD_app {a : List Int} {y : Int} {s : Nat} (h : s < a.length) : (a ++ [y]).getD s 0 = a.getD s 0 := by
  rw [List.getD_eq_getElem?_getD, List.getD_eq_getElem?_getD, List.getElem?_append_left h]
theorem getD_new {a : List Int} {y : Int} : (a ++ [y]).getD a.length 0 = y := by
  rw [List.getD_eq_getElem?_getD, List.getElem?_append_right (Nat.le_refl _), Nat.sub_self]
  rfl
theorem Span.unit {q : Int} {n k : Nat} {A : Nat → Nat → Int} {v : Nat → Int} {t : Nat} (ht : t < k) (h : ∀ j, j < n → v j = A t j) : Span q n k A v := by
  refine ⟨fun s => if s = t then 1 else 0, fun j hj => ?_⟩
  rw [sumI_one, if_pos ht, Int.one_mul, h j hj, Int.sub_self]
  exact ⟨0, by omega⟩
theorem Span.less {q : Int} {n k l : Nat} {A B : Nat → Nat → Int} {v y : Nat → Int} {c : Nat → Int} (hv : Span q n k A v) (hB : ∀ s, s < l → Span q n k A (B s)) (h : ∀ j, j < n → q ∣ v j - y j - sumI l (fun s => c s * B s j)) : Span q n k A y := by
  refine Span.trans (A := fun s => if s < l then B s else v) (k := l + 1) ⟨fun s => if s < l then -c s else 1, fun j hj => ?_⟩ (fun s hs => ?_)
  · have e : sumI (l + 1) (fun s => (if s < l then -c s else 1) * (if s < l then B s else v) j) = v j - sumI l (fun s => c s * B s j) := by
      have e1 : sumI (l + 1) (fun s => (if s < l then -c s else 1) * (if s < l then B s else v) j) = sumI l (fun s => (if s < l then -c s else 1) * (if s < l then B s else v) j) + (if l < l then -c l else 1) * (if l < l then B l else v) j := rfl
      have e2 : sumI l (fun s => (if s < l then -c s else 1) * (if s < l then B s else v) j) = sumI l (fun s => (-1) * (c s * B s j)) := sumI_congr (fun s hs => by
        rw [if_pos hs, if_pos hs, Int.neg_mul]; omega)
      rw [e1, e2, sumI_mul, if_neg (by omega), if_neg (by omega), Int.one_mul]
      omega
    rw [e]
    have h1 := Int.dvd_neg.2 (h j hj)
    have e3 : -(v j - y j - sumI l (fun s => c s * B s j)) = y j - (v j - sumI l (fun s => c s * B s j)) := by omega
    rw [e3] at h1
    exact h1
  · by_cases hl : s < l
    · rw [if_pos hl]; exact hB s hl
    · rw [if_neg hl]; exact hv
section
variable {q : Int} (hq : 2 ≤ q ∧ q ≤ 3) {n : Nat}
include hq
theorem steps_snoc {done : List (List Int)} {out : List Int} (h : Steps q n done out) {x : List Int} (hx : Dig q n x) : Steps q n (done ++ [red q n done out x]) (out ++ [leadOf (red q n done out x) 0]) := by
  obtain ⟨g1, g2, _⟩ := red_at hq h done.length 0 x (by omega) hx (fun s hs => by omega)
  rw [List.drop_zero, List.drop_zero] at g1 g2
  obtain ⟨y, hy⟩ : ∃ y, y = red q n done out x := ⟨_, rfl⟩
  rw [← hy] at g1 g2 ⊢
  have hlen := h.len
  refine ⟨by rw [List.length_append, List.length_append, hlen]; rfl, fun s hs => ?_, fun s hs => ?_, fun s t hst ht hne => ?_⟩
  · by_cases hl : s < done.length
    · rw [app_lt hl]; exact h.dig s hl
    · have e : s = done.length := by rw [List.length_append, List.length_singleton] at hs; omega
      subst e
      rw [app_new]; exact g1
  · by_cases hl : s < done.length
    · rw [app_lt hl, getD_app (by omega)]; exact h.lead s hl
    · have e : s = done.length := by rw [List.length_append, List.length_singleton] at hs; omega
      subst e
      rw [app_new, ← hlen, getD_new]
  · rw [List.length_append, List.length_singleton] at ht
    rw [getD_app (by omega)] at hne ⊢
    by_cases hl : t < done.length
    · rw [app_lt hl]; exact h.zero s t hst hl hne
    · have e : t = done.length := by omega
      subst e
      rw [app_new]; exact g2 s hst hne
theorem run {all : List (List Int)} (hall : ∀ s, (h : s < all.length) → Dig q n all[s]) : ∀ (d i : Nat) (done : List (List Int)) (out : List Int), i + d = all.length → done.length = i → Steps q n done out → (∀ s, s < i → Span q n all.length (fam all) (fam done s)) → (∀ s, s < i → Span q n i (fam done) (fam all s)) →
    ∃ dn, Steps q n dn (leadsF q n (all.drop i) done out) ∧ dn.length = all.length ∧ (∀ s, s < all.length → Span q n all.length (fam all) (fam dn s)) ∧ (∀ s, s < all.length → Span q n all.length (fam dn) (fam all s))
  | 0, i, done, out, hi, hd, hs, h1, h2 => by
    have e : i = all.length := by omega
    subst e
    rw [List.drop_length, leadsF]
    exact ⟨done, hs, hd, h1, h2⟩
  | d + 1, i, done, out, hi, hd, hs, h1, h2 => by
    subst hd
    have hi2 : done.length < all.length := by omega
    obtain ⟨g1, g2, c, hc⟩ := red_at hq hs done.length 0 all[done.length] (by omega) (hall _ hi2) (fun s hs => by omega)
    rw [List.drop_zero, List.drop_zero] at hc
    rw [List.drop_eq_getElem_cons hi2, leadsF]
    have hst := steps_snoc hq hs (hall _ hi2)
    obtain ⟨y, hy⟩ : ∃ y, y = red q n done out all[done.length] := ⟨_, rfl⟩
    rw [← hy] at hst hc ⊢
    refine run hall d (done.length + 1) (done ++ [y]) (out ++ [leadOf y 0]) (by omega) (by rw [List.length_append]; rfl) hst (fun s hs2 => ?_) (fun s hs2 => ?_)
    · by_cases hl : s < done.length
      · rw [fam_app hl]; exact h1 s hl
      · have e : s = done.length := by omega
        subst e
        refine Span.less (v := fam all done.length) (B := fam done) (l := done.length) (c := c) (Span.unit hi2 (fun j _ => rfl)) h1 (fun j hj => ?_)
        rw [fam_new, fam_lt hi2]
        exact hc j
    · by_cases hl : s < done.length
      · obtain ⟨a, ha⟩ := h2 s hl
        refine ⟨fun t => if t < done.length then a t else 0, fun j hj => ?_⟩
        have e : sumI (done.length + 1) (fun t => (if t < done.length then a t else 0) * fam (done ++ [y]) t j) = sumI done.length (fun t => a t * fam done t j) := by
          have e1 : sumI (done.length + 1) (fun t => (if t < done.length then a t else 0) * fam (done ++ [y]) t j) = sumI done.length (fun t => (if t < done.length then a t else 0) * fam (done ++ [y]) t j) + (if done.length < done.length then a done.length else 0) * fam (done ++ [y]) done.length j := rfl
          rw [e1, if_neg (by omega), Int.zero_mul, Int.add_zero]
          exact sumI_congr (fun t ht => by rw [if_pos ht, fam_app ht])
        rw [e]
        exact ha j hj
      · have e : s = done.length := by omega
        subst e
        refine ⟨fun t => if t < done.length then c t else 1, fun j hj => ?_⟩
        have e : sumI (done.length + 1) (fun t => (if t < done.length then c t else 1) * fam (done ++ [y]) t j) = sumI done.length (fun t => c t * fam done t j) + y.getD j 0 := by
          have e1 : sumI (done.length + 1) (fun t => (if t < done.length then c t else 1) * fam (done ++ [y]) t j) = sumI done.length (fun t => (if t < done.length then c t else 1) * fam (done ++ [y]) t j) + (if done.length < done.length then c done.length else 1) * fam (done ++ [y]) done.length j := rfl
          rw [e1, if_neg (by omega), Int.one_mul, fam_new]
          congr 1
          exact sumI_congr (fun t ht => by rw [if_pos ht, fam_app ht])
        have h3 := hc j
        rw [e, fam_lt hi2]
        have e4 : all[done.length].getD j 0 - y.getD j 0 - sumI done.length (fun s => c s * fam done s j) = all[done.length].getD j 0 - (sumI done.length (fun t => c t * fam done t j) + y.getD j 0) := by omega
        rw [e4] at h3
        exact h3
end
theorem count_getD (p : Int → Bool) (l : List Int) : (List.range l.length).countP (fun s => p (l.getD s 0)) = l.countP p := by
  have e : l = (List.range l.length).map (fun s => l.getD s 0) := by
    refine List.ext_getElem (by simp) (fun i h1 h2 => ?_)
    rw [List.getElem_map, List.getElem_range, gD_lt _ _ h1]
  conv => rhs; rw [e]
  rw [List.countP_map]
  rfl
section
variable {q : Int} (hq : 2 ≤ q ∧ q ≤ 3) {n : Nat}
include hq
theorem basis {all : List (List Int)} (hall : ∀ s, (h : s < all.length) → Dig q n all[s]) : ∃ A : Nat → Nat → Int, Indep q n (rooksN (leadsF q n all [] [])) A ∧ (∀ s, s < rooksN (leadsF q n all [] []) → Span q n all.length (fam all) (A s)) ∧ ∀ s, s < all.length → Span q n (rooksN (leadsF q n all [] [])) A (fam all s) := by
  obtain ⟨dn, hst, hlen, h1, h2⟩ := run hq hall all.length 0 [] [] (by omega) rfl ⟨rfl, fun s h => absurd h (by simp), fun s h => absurd h (by simp), fun s t _ h => absurd h (by simp)⟩ (fun s h => by omega) (fun s h => by omega)
  rw [List.drop_zero] at hst
  obtain ⟨out, hout⟩ : ∃ out, out = leadsF q n all [] [] := ⟨_, rfl⟩
  rw [← hout] at hst ⊢
  obtain ⟨I, hI⟩ : ∃ I, I = (List.range out.length).filter (fun s => out.getD s 0 != -1) := ⟨_, rfl⟩
  have hk : I.length = rooksN out := by
    rw [hI, ← List.countP_eq_length_filter]
    exact count_getD (fun x => x != -1) out
  have hmem : ∀ t, t < I.length → I.getD t 0 < dn.length ∧ out.getD (I.getD t 0) 0 ≠ -1 := by
    intro t ht
    have : I.getD t 0 ∈ I := by rw [gD_lt _ _ ht]; exact List.getElem_mem ht
    rw [hI] at this
    obtain ⟨m1, m2⟩ := List.mem_filter.1 this
    have m3 := List.mem_range.1 m1
    rw [← hI] at m2 m3
    exact ⟨by have := hst.len; omega, by simpa using m2⟩
  have hlt : ∀ s t, s < t → t < I.length → I.getD s 0 < I.getD t 0 := by
    intro s t hst2 ht
    have hp : I.Pairwise (fun a b => a < b) := by rw [hI]; exact List.pairwise_lt_range.filter _
    rw [List.pairwise_iff_getElem] at hp
    rw [gD_lt _ _ ht, gD_lt _ _ (by omega)]
    exact hp s t (by omega) ht hst2
  rw [← hk]
  refine ⟨fun t => fam dn (I.getD t 0), ?_, fun s hs => h1 _ (by have := (hmem s hs).1; omega), fun s hs => ?_⟩
  · refine steps_indep (qprime hq) (e := fun t => (out.getD (I.getD t 0) 0).toNat) (fun t ht => ?_) (fun s t hs ht => ?_)
    · obtain ⟨m1, m2⟩ := hmem t ht
      have hin := lead_in hq hst m1
      refine ⟨by omega, fun hd => ?_⟩
      rw [fam_lt m1] at hd
      have hz := dig_zero hq ((hst.dig _ m1).dig _) hd
      rw [hst.lead _ m1] at hz m2
      exact leadOf_ne m2 hz
    · obtain ⟨m1, m2⟩ := hmem t ht
      obtain ⟨m3, m4⟩ := hmem s (by omega)
      rw [fam_lt m1, hst.zero _ _ (hlt s t hs ht) m1 m4]
      exact ⟨0, by omega⟩
  · refine Span.trans (h2 s hs) (fun r hr => ?_)
    have hr2 : r < dn.length := by omega
    by_cases e : out.getD r 0 = -1
    · refine ⟨fun _ => 0, fun j hj => ?_⟩
      rw [sumI_congr (g := fun _ => 0) (fun t _ => Int.zero_mul _), sumI_zero, fam_lt hr2, leadOf_none _ 0 (Int.le_refl _) (by rw [← hst.lead r hr2]; exact e) j]
      exact ⟨0, by omega⟩
    · have hm : r ∈ I := by
        rw [hI]
        exact List.mem_filter.2 ⟨List.mem_range.2 (by have := hst.len; omega), by simpa using e⟩
      obtain ⟨t, ht, et⟩ := List.mem_iff_getElem.1 hm
      refine Span.unit ht (fun j hj => ?_)
      rw [gD_lt _ _ ht, et]
theorem rank_mono {a b : List (List Int)} (ha : ∀ s, (h : s < a.length) → Dig q n a[s]) (hb : ∀ s, (h : s < b.length) → Dig q n b[s]) (h : ∀ s, s < a.length → Span q n b.length (fam b) (fam a s)) : rooksN (leadsF q n a [] []) ≤ rooksN (leadsF q n b [] []) := by
  obtain ⟨A, hA, hA1, hA2⟩ := basis hq ha
  obtain ⟨B, hB, hB1, hB2⟩ := basis hq hb
  exact indep_le (q1 hq) (qinv hq) hA (fun s hs => Span.trans (Span.trans (hA1 s hs) h) hB2)
theorem rank_turn {a : List (List Int)} (ha : ∀ s, (h : s < a.length) → Dig q n a[s]) : rooksN (leadsF q n a.reverse [] []) = rooksN (leadsF q n a [] []) := by
  have hr : ∀ s, (h : s < a.reverse.length) → Dig q n a.reverse[s] := fun s h => by
    rw [List.getElem_reverse]
    exact ha _ _
  refine Nat.le_antisymm (rank_mono hq hr ha (fun s hs => ?_)) (rank_mono hq ha hr (fun s hs => ?_))
  · have hs2 : s < a.length := by rw [List.length_reverse] at hs; exact hs
    refine Span.unit (t := a.length - 1 - s) (by omega) (fun j hj => ?_)
    rw [fam_lt hs, fam_lt (by omega), List.getElem_reverse]
  · refine Span.unit (t := a.length - 1 - s) (by rw [List.length_reverse]; omega) (fun j hj => ?_)
    rw [fam_lt hs, fam_lt (by rw [List.length_reverse]; omega), List.getElem_reverse]
    congr 2
    omega
theorem across_le {m : Nat} {rows cols : List (List Int)} (hr : ∀ s, (h : s < rows.length) → Dig q n rows[s]) (hc : ∀ s, (h : s < cols.length) → Dig q m cols[s]) (hrm : rows.length = m) (hcn : cols.length = n) (h : ∀ i j, i < m → j < n → fam cols j i = fam rows i j) : rooksN (leadsF q m cols [] []) ≤ rooksN (leadsF q n rows [] []) := by
  obtain ⟨B, hB, hB1, hB2⟩ := basis hq hr
  obtain ⟨A, hA, hA1, hA2⟩ := basis hq hc
  obtain ⟨C, hC⟩ := choose_all (P := fun s d => ∀ j, j < n → q ∣ fam rows s j - sumI (rooksN (leadsF q n rows [] [])) (fun t => d t * B t j)) rows.length hB2
  refine indep_le (q1 hq) (qinv hq) hA (fun s hs => Span.trans (hA1 s hs) (l := rooksN (leadsF q n rows [] [])) (B := fun t i => C i t) (fun j hj => ⟨fun t => B t j, fun i hi => ?_⟩))
  have := hC i (by omega) j (by omega)
  rw [h i j hi (by omega), sumI_congr (g := fun t => C i t * B t j) (fun t _ => Int.mul_comm _ _)]
  exact this
end
end Go.Proofs.Ytadkkcdhgepbkaa.LeadLaw
end
section
namespace Go.Proofs.Ytadkkcdhgepbkaa.LeadLaw
set_option linter.unusedVariables false
set_option linter.unusedSectionVars false
open Go.RowKit Go.Proofs.Ytadkkcdhgepbkaa.Q Go.Proofs.YtadkkcdhgepbkaaW.PrintWords Go.Proofs.YtadkkcdhgepbkaaW.PrintLast Go.Proofs.YtadkkcdhgepbkaaW.PrintMore
open Go.Proofs.YtadkkcdhgepbkaaL Go.Proofs.Ytadkkcdhgepbkaa.LawK Go.Proofs.Ytadkkcdhgepbkaa.BoardK Go.Proofs.Ytadkkcdhgepbkaa.RowsK Go.Proofs.Ytadkkcdhgepbkaa.LeadsK Go.Proofs.Ytadkkcdhgepbkaa.RankK Go.Proofs.Ytadkkcdhgepbkaa.Walk
section
variable {q : Int} (hq : 2 ≤ q ∧ q ≤ 3) {n : Nat}
include hq
theorem leads_apart {all : List (List Int)} (hall : ∀ s, (h : s < all.length) → Dig q n all[s]) {s t : Nat} (hst : s < t) (ht : t < all.length) (hs : (leadsF q n all [] []).getD s 0 ≠ -1) : (leadsF q n all [] []).getD t 0 ≠ (leadsF q n all [] []).getD s 0 := by
  obtain ⟨dn, hs1, hlen, h1, h2⟩ := run hq hall all.length 0 [] [] (by omega) rfl ⟨rfl, fun s h => absurd h (by simp), fun s h => absurd h (by simp), fun s t _ h => absurd h (by simp)⟩ (fun s h => by omega) (fun s h => by omega)
  rw [List.drop_zero] at hs1
  intro e
  have hz := hs1.zero s t hst (by omega) hs
  rw [← e] at hz
  have hl := hs1.lead t (by omega)
  rw [hl] at hz
  exact leadOf_ne (by rw [← hl, e]; exact hs) hz
end
def colOf (rows : List (List Int)) (c : Nat) : List Int := rows.map (fun r => r.getD c 0)
def colsOf (rows : List (List Int)) (n : Nat) : List (List Int) := (List.range n).map (colOf rows)
theorem colOf_len (rows : List (List Int)) (c : Nat) : (colOf rows c).length = rows.length := List.length_map ..
theorem colOf_get (rows : List (List Int)) (c i : Nat) : (colOf rows c).getD i 0 = fam rows i c := by
  unfold colOf fam
  by_cases h : i < rows.length
  · rw [gD_lt _ _ (show i < (rows.map (fun r => r.getD c 0)).length by rw [List.length_map]; exact h), List.getElem_map, gD_lt _ _ h]
  · rw [gD_ge _ _ (show (rows.map (fun r => r.getD c 0)).length ≤ i by rw [List.length_map]; omega), gD_ge rows [] (by omega)]
    rfl
theorem colsOf_len (rows : List (List Int)) (n : Nat) : (colsOf rows n).length = n := by unfold colsOf; simp
theorem colsOf_at (rows : List (List Int)) {n s : Nat} (h : s < (colsOf rows n).length) : (colsOf rows n)[s] = colOf rows s := by
  have h2 : s < ((List.range n).map (colOf rows)).length := h
  exact (List.getElem_map (colOf rows) (h := h2)).trans (by rw [List.getElem_range])
theorem are_rows {rows : List (List Int)} {q : Int} (hq : 2 ≤ q ∧ q ≤ 3) {n : Nat} (h1 : 1 ≤ rows.length) (h6 : rows.length ≤ 6) (hn1 : 1 ≤ n) (hn6 : n ≤ 6) (hd : ∀ s, (h : s < rows.length) → Dig q n rows[s]) : areRowsB rows q = true ∧ (rows.getD 0 []).length = n := by
  have e0 : (rows.getD 0 []).length = n := by rw [gD_lt _ _ (by omega)]; exact (hd 0 (by omega)).len
  refine ⟨?_, e0⟩
  unfold areRowsB
  rw [Bool.and_eq_true, Bool.and_eq_true, decide_eq_true_eq, decide_eq_true_eq, List.all_eq_true, e0]
  refine ⟨hq, by omega, fun r hr => ?_⟩
  obtain ⟨s, hs, rfl⟩ := List.mem_iff_getElem.1 hr
  have d := hd s hs
  unfold rowOk
  rw [Bool.and_eq_true, Bool.and_eq_true, decide_eq_true_eq, decide_eq_true_eq, List.all_eq_true]
  refine ⟨by have := d.len; omega, by have := d.len; omega, fun x hx => ?_⟩
  obtain ⟨j, hj, rfl⟩ := List.mem_iff_getElem.1 hx
  have := d.dig j
  rw [gD_lt _ _ hj] at this
  exact decide_eq_true (by omega)
section
variable {rows : List (List Int)} {q : Int} (h : areRowsB rows q = true)
include h
theorem dig_at : ∀ s, (hs : s < rows.length) → Dig q (rows.getD 0 []).length rows[s] := fun s hs => (areRows_out h).2.2.2.2 _ (List.getElem_mem hs)
theorem rows_pos : 1 ≤ rows.length := by
  unfold areRowsB at h
  rw [Bool.and_eq_true, Bool.and_eq_true, decide_eq_true_eq, decide_eq_true_eq] at h
  omega
theorem turn_rank : areRowsB rows.reverse q = true ∧ rooksN (leadsOf rows.reverse q) = rooksN (leadsOf rows q) := by
  obtain ⟨hq, h6, n1, n6, _⟩ := areRows_out h
  have hp := rows_pos h
  have hd := dig_at h
  obtain ⟨a, b⟩ := are_rows (rows := rows.reverse) hq (by rw [List.length_reverse]; exact hp) (by rw [List.length_reverse]; exact h6) n1 n6 (fun s hs => by rw [List.getElem_reverse]; exact hd _ _)
  refine ⟨a, ?_⟩
  unfold leadsOf
  rw [b]
  exact rank_turn hq hd
theorem across_rank : areRowsB (colsOf rows (rows.getD 0 []).length) q = true ∧ rooksN (leadsOf (colsOf rows (rows.getD 0 []).length) q) = rooksN (leadsOf rows q) := by
  obtain ⟨hq, h6, n1, n6, _⟩ := areRows_out h
  have hp := rows_pos h
  have hd := dig_at h
  obtain ⟨n, hn⟩ : ∃ n, n = (rows.getD 0 []).length := ⟨_, rfl⟩
  rw [← hn] at hd n1 n6 ⊢
  have hc : ∀ s, (hs : s < (colsOf rows n).length) → Dig q rows.length (colsOf rows n)[s] := fun s hs => by
    rw [colsOf_at]
    refine ⟨colOf_len _ _, fun i => ?_⟩
    rw [colOf_get]
    by_cases hi : i < rows.length
    · rw [fam_lt hi]; exact (hd i hi).dig s
    · unfold fam
      rw [gD_ge rows [] (by omega)]
      simp
      omega
  obtain ⟨a, b⟩ := are_rows (rows := colsOf rows n) hq (by rw [colsOf_len]; exact n1) (by rw [colsOf_len]; exact n6) hp h6 hc
  refine ⟨a, ?_⟩
  unfold leadsOf
  rw [b, ← hn]
  have hf : ∀ i j, i < rows.length → j < n → fam (colsOf rows n) j i = fam rows i j := fun i j hi hj => by
    rw [fam_lt (by rw [colsOf_len]; exact hj), colsOf_at, colOf_get]
  exact Nat.le_antisymm (across_le hq hd hc rfl (colsOf_len _ _) hf) (across_le hq hc hd (colsOf_len _ _) rfl (fun i j hi hj => (hf j i hj hi).symm))
theorem apart_at {s t : Nat} (hst : s < t) (ht : t < rows.length) (hs : (leadsOf rows q).getD s 0 ≠ -1) : (leadsOf rows q).getD t 0 ≠ (leadsOf rows q).getD s 0 := leads_apart (areRows_out h).1 (dig_at h) hst ht hs
end
end Go.Proofs.Ytadkkcdhgepbkaa.LeadLaw
end
section
namespace Go.Proofs.Ytadkkcdhgepbkaa.Pure
set_option linter.unusedVariables false
set_option linter.unusedSectionVars false
open Go.RowKit Go.Proofs.Ytadkkcdhgepbkaa.Q Go.Proofs.YtadkkcdhgepbkaaW.PrintWords Go.Proofs.YtadkkcdhgepbkaaW.PrintLast Go.Proofs.YtadkkcdhgepbkaaW.PrintMore
open Go.Proofs.YtadkkcdhgepbkaaL Go.Proofs.Ytadkkcdhgepbkaa.LawK Go.Proofs.Ytadkkcdhgepbkaa.BoardK Go.Proofs.Ytadkkcdhgepbkaa.RowsK Go.Proofs.Ytadkkcdhgepbkaa.LeadsK Go.Proofs.Ytadkkcdhgepbkaa.RankK Go.Proofs.Ytadkkcdhgepbkaa.Walk Go.Proofs.Ytadkkcdhgepbkaa.DrawK
open Go.Proofs.Ytadkkcdhgepbkaa.LensK (lenB len_of)
open Go.Proofs.Ytadkkcdhgepbkaa.MatK (pw sm setD matR sm_bd pw_bd pw_up td setD_length setD_num matR_length matR_row tm setD_at dig_split)
open Go.Proofs.Ytadkkcdhgepbkaa.LeadLaw (colOf colsOf colOf_len colsOf_len dig_at rows_pos turn_rank across_rank apart_at)
namespace RowRanksK
theorem rSame_l0 {a : List Int} (hl : a.length ≤ 1000000) : ∀ (d i : Nat), i + d = a.length → Ev (fun k => laws_rSame.l0 k a a (a.length : Int) i) true
  | 0, i, hi => Ev.step (f := fun _ => some true) (fun k => by rw [laws_rSame.l0, if_neg (by omega)]) (Ev.now _)
  | d + 1, i, hi => by
    have w1 := Aside0.mk (show wrap64 ((i : Int) + 1) = ((i + 1 : Nat) : Int) from by rw [w64 (by omega) (by omega)]; rfl)
    exact Ev.step (fun k => by rw [laws_rSame.l0, if_pos (by omega), if_pos (by omega), if_pos (by omega), if_pos (by omega), if_pos rfl, w1.out]) (rSame_l0 hl d (i + 1) (by omega))
theorem rSame_self {a : List Int} (hl : a.length ≤ 1000000) : Ev (fun k => laws_rSame.f k a a) true := by
  unfold laws_rSame.f
  exact Ev.congr (fun k => if_pos rfl) (rSame_l0 hl a.length 0 (by omega))
theorem rSameRows_l0 {a : List (List Int)} (hl : a.length ≤ 1000000) (hx : ∀ x ∈ a, x.length ≤ 1000000) : ∀ (d i : Nat), i + d = a.length → Ev (fun k => laws_rSameRows.l0 k a a (a.length : Int) i) true
  | 0, i, hi => Ev.step (f := fun _ => some true) (fun k => by rw [laws_rSameRows.l0, if_neg (by omega)]) (Ev.now _)
  | d + 1, i, hi => by
    have hi2 : i < a.length := by omega
    have w1 := Aside0.mk (show wrap64 ((i : Int) + 1) = ((i + 1 : Nat) : Int) from by rw [w64 (by omega) (by omega)]; rfl)
    refine Ev.step (fun k => by rw [laws_rSameRows.l0, if_pos (by omega), if_pos (by omega), if_pos (by omega), if_pos (by omega), rdL hi2]) (Ev.bind (rSame_self (hx _ (List.getElem_mem hi2))) ?_)
    exact Ev.congr (fun k => by rw [if_pos rfl, w1.out]) (rSameRows_l0 hl hx d (i + 1) (by omega))
theorem rSameRows_self {a : List (List Int)} (hl : a.length ≤ 1000000) (hx : ∀ x ∈ a, x.length ≤ 1000000) : Ev (fun k => laws_rSameRows.f k a a) true := by
  unfold laws_rSameRows.f
  exact Ev.congr (fun k => if_pos rfl) (rSameRows_l0 hl hx a.length 0 (by omega))
theorem rooksN_snoc (pre : List Int) (x : Int) : rooksN (pre ++ [x]) = rooksN pre + if x = -1 then 0 else 1 := by
  unfold rooksN
  rw [List.countP_append, List.countP_singleton]
  by_cases h : x = -1 <;> simp [h]
theorem rHas_l0 {x : Int} {l : List Int} (hl : l.length ≤ 1000000) (hx : ∀ i, (h : i < l.length) → l[i] ≠ x) : ∀ (d i : Nat), i + d = l.length → Ev (fun k => laws_rHas.l0 k x l (l.length : Int) i) false
  | 0, i, hi => Ev.step (f := fun _ => some false) (fun k => by rw [laws_rHas.l0, if_neg (by omega)]) (Ev.now _)
  | d + 1, i, hi => by
    have hi2 : i < l.length := by omega
    have w1 := Aside0.mk (show wrap64 ((i : Int) + 1) = ((i + 1 : Nat) : Int) from by rw [w64 (by omega) (by omega)]; rfl)
    exact Ev.step (fun k => by rw [laws_rHas.l0, if_pos (by omega), if_pos (by omega), if_pos (by omega), rd_lt _ _ hi2, if_neg (hx i hi2), w1.out]) (rHas_l0 hl hx d (i + 1) (by omega))
theorem rHas_no {x : Int} {l : List Int} (hl : l.length ≤ 1000000) (hx : ∀ i, (h : i < l.length) → l[i] ≠ x) : Ev (fun k => laws_rHas.f k l x) false := by
  unfold laws_rHas.f
  exact rHas_l0 hl hx l.length 0 (by omega)
theorem last {α : Type} {more : List Int} (hc : Bytes more) : Ev (fun k => (spec_DrawFitsBoard.f k more).bind fun a => (impl_FitsBoard.f k a.1 a.2.1 a.2.2).bind fun b => (spec_FitsBoard.f k a.1 a.2.1 a.2.2).bind fun c => if (b.2 == c.2) = true then some (b.1 == c.1) else some false) true := by
  obtain ⟨⟨l, rows, q⟩, hd, h8, hs⟩ := draw_fits hc
  simp only [] at h8 hs
  refine Ev.bind hd (Ev.bind (FitsA.impl_answer q (l := l) (rows := rows) (by omega)) (Ev.bind (FitsA.spec_answer q (l := l) (rows := rows) (by omega) (fun x hx => by have := hs.2 x hx; omega)) ?_))
  exact Ev.congr (f := fun _ => some true) (fun k => by rw [if_pos (by simp)]; simp) (Ev.now _)
theorem tp_bd {t P : Int} (h1 : 0 ≤ t ∧ t ≤ 2) (h2 : 1 ≤ P ∧ P ≤ 6561) : 0 ≤ t * P ∧ t * P ≤ 20000 := by
  obtain rfl | rfl | rfl : t = 0 ∨ t = 1 ∨ t = 2 := by omega
  · omega
  · omega
  · omega
section
variable {q : Int} (hq : 2 ≤ q ∧ q ≤ 3) {l : List Int} (hl : l.length ≤ 6) {more : List Int} {M : List (List Int)} {num : Int} (hn : num ≤ 10000)
include hq hl hn
theorem digs {X : Bool} {i : Nat} (hi : i < M.length) (hil : i < l.length) {r1 : Int} {J1 : Nat} (h36 : J1 ≤ 36) (hP : pw q J1 ≤ 6561)
    (hX : ∀ b, 0 ≤ b → b + pw q J1 * r1 = num → Ev (fun k => laws_FnRanksOfRows.l4 k more q num M b (pw q J1) l (l.length : Int) ((i + 1 : Nat) : Int)) X) :
    ∀ (d c : Nat) (r : Int) (row : List Int) (b : Int) (J : Nat), setD q d r row c = (M[i], r1) → c + d ≤ row.length → row.length ≤ 6 → 0 ≤ r ∧ r ≤ 10000 → J + d = J1 → 0 ≤ b → b + pw q J * r = num →
    Ev (fun k => laws_FnRanksOfRows.l5 k more q num M b (pw q J) i ((c + d : Nat) : Int) c l (l.length : Int) i) X
  | 0, c, r, row, b, J, hs, hc, h6, hr, hJ, hb, he => by
    have w1 := Aside0.mk (show wrap64 ((i : Int) + 1) = ((i + 1 : Nat) : Int) from by rw [w64 (by omega) (by omega)]; rfl)
    have er : r = r1 := congrArg Prod.snd hs
    have eJ : J = J1 := by omega
    subst er; subst eJ
    exact Ev.step (fun k => by rw [laws_FnRanksOfRows.l5, if_neg (by omega), w1.out]) (hX b hb he)
  | d + 1, c, r, row, b, J, hs, hc, h6, hr, hJ, hb, he => by
    have w1 := Aside0.mk (show wrap64 ((c : Int) + 1) = ((c + 1 : Nat) : Int) from by rw [w64 (by omega) (by omega)]; rfl)
    have hlen : M[i].length = row.length := by
      have := setD_length q (d + 1) r row c
      rw [hs] at this
      exact this
    have hat : M[i][c]'(by omega) = Int.tmod r q := by
      have := setD_at q d r (row := row) (c := c) (by omega)
      rw [hs] at this
      rw [← this]
      exact (gD_lt _ _ (by omega)).symm
    have ht := tm hq hr.1
    have hp1 := pw_bd hq (n := J) (by omega)
    have hp2 := pw_bd hq (n := J + 1) (by omega)
    have hup := pw_up hq J (d + 1) (by omega)
    rw [hJ] at hup
    have htp := tp_bd (t := Int.tmod r q) (P := pw q J) (by omega) (by omega)
    have hpr : 0 ≤ pw q J * r := Int.mul_nonneg (by omega) hr.1
    have e2 : (b + Int.tmod r q * pw q J) + pw q (J + 1) * Int.tdiv r q = num := by rw [pw, dig_split, he]
    have w2 := Aside0.mk (show wrap64 (Int.tmod r q * pw q J) = Int.tmod r q * pw q J from w64 (by omega) (by omega))
    have w3 := Aside0.mk (show wrap64 (b + Int.tmod r q * pw q J) = b + Int.tmod r q * pw q J from w64 (by omega) (by omega))
    have w4 := Aside0.mk (show wrap64 (pw q J * q) = pw q (J + 1) from w64 (by have := hp2.1; rw [pw] at this; omega) (by have := hp2.2; rw [pw] at this; omega))
    have ih := digs hi hil h36 hP hX d (c + 1) (Int.tdiv r q) (row.set c (Int.tmod r q)) (b + Int.tmod r q * pw q J) (J + 1) hs (by rw [List.length_set]; omega) (by rw [List.length_set]; omega) (td hq hr) (by omega) (by omega) e2
    rw [show c + 1 + d = c + (d + 1) by omega] at ih
    refine Ev.step (fun k => ?_) ih
    rw [laws_FnRanksOfRows.l5, if_pos (by omega), if_pos (by omega), if_pos (by omega), if_pos (by omega), rdL hi, if_pos (by omega), rd_lt _ _ (show c < M[i].length by omega), hat, w2.out, w3.out, w4.out, w1.out]
theorem backs (hx : ∀ i, (h : i < l.length) → 0 ≤ l[i] ∧ l[i] ≤ l.length) (hM : M.length = l.length) (hc : Bytes more) (hP : pw q (sm l).toNat ≤ 6561) (hlt : num < pw q (sm l).toNat) :
    ∀ (d i : Nat) (r b : Int) (J : Nat), i + d = l.length → M.drop i = matR q l.length (l.drop i) r → J + (sm (l.drop i)).toNat = (sm l).toNat → 0 ≤ r ∧ r ≤ 10000 → 0 ≤ b → b + pw q J * r = num →
    Ev (fun k => laws_FnRanksOfRows.l4 k more q num M b (pw q J) l (l.length : Int) i) true
  | 0, i, r, b, J, hi, hm, hJ, hr, hb, he => by
    have hz : J = (sm l).toNat := by
      rw [List.drop_eq_nil_of_le (by omega)] at hJ
      simpa [sm] using hJ
    subst hz
    have hs6 := sm_bd l (fun x hxm => by obtain ⟨j, hj, rfl⟩ := List.mem_iff_getElem.1 hxm; have := hx j hj; omega)
    have hpS := pw_bd hq (n := (sm l).toNat) (by omega)
    have hr0 : r = 0 := by
      rcases Int.lt_or_le 0 r with h | h
      · have : pw q (sm l).toNat * 1 ≤ pw q (sm l).toNat * r := Int.mul_le_mul_of_nonneg_left (by omega) (by omega)
        omega
      · omega
    subst hr0
    rw [Int.mul_zero, Int.add_zero] at he
    exact Ev.step (fun k => by rw [laws_FnRanksOfRows.l4, if_neg (by omega), if_pos he]) (last hc (α := Unit))
  | d + 1, i, r, b, J, hi, hm, hJ, hr, hb, he => by
    have hi2 : i < l.length := by omega
    have hiM : i < M.length := by omega
    have hm0 := hx i hi2
    have hs6 := sm_bd l (fun x hxm => by obtain ⟨j, hj, rfl⟩ := List.mem_iff_getElem.1 hxm; have := hx j hj; omega)
    have hsd := sm_bd (l.drop (i + 1)) (fun x hxm => by obtain ⟨j, hj, rfl⟩ := List.mem_iff_getElem.1 (List.mem_of_mem_drop hxm); have := hx j hj; omega)
    rw [List.drop_eq_getElem_cons hiM, List.drop_eq_getElem_cons hi2, matR] at hm
    obtain ⟨e1, e2⟩ := List.cons.inj hm
    rw [List.drop_eq_getElem_cons hi2, sm] at hJ
    have hJ2 : (J + l[i].toNat) + (sm (l.drop (i + 1))).toNat = (sm l).toNat := by omega
    have hup := pw_up hq (J + l[i].toNat) (sm (l.drop (i + 1))).toNat (by omega)
    rw [hJ2] at hup
    have hk : ∀ b', 0 ≤ b' → b' + pw q (J + l[i].toNat) * (setD q l[i].toNat r (List.replicate l.length 0) 0).2 = num → Ev (fun k => laws_FnRanksOfRows.l4 k more q num M b' (pw q (J + l[i].toNat)) l (l.length : Int) ((i + 1 : Nat) : Int)) true := fun b' hb' he' =>
      backs hx hM hc hP hlt d (i + 1) _ b' _ (by omega) e2 hJ2 (setD_num hq _ _ _ _ hr) hb' he'
    have hds := digs hq hl hn hiM hi2 (J1 := J + l[i].toNat) (by omega) (by omega) hk l[i].toNat 0 r (List.replicate l.length 0) b J (by rw [e1]) (by rw [List.length_replicate]; omega) (by rw [List.length_replicate]; exact hl) hr rfl hb he
    rw [show ((0 + l[i].toNat : Nat) : Int) = l[i] by omega] at hds
    exact Ev.step (fun k => by rw [laws_FnRanksOfRows.l4, if_pos (by omega), if_pos (by omega), if_pos (by omega), rd_lt _ _ hi2]; rfl) hds
end
theorem matAns_len (l : List Int) (q n : Int) (hl : l.length ≤ 8) : (MatK.ans l q n).1.length ≤ 1000000 ∧ ∀ x ∈ (MatK.ans l q n).1, x.length ≤ 1000000 := by
  unfold MatK.ans
  repeat' split
  all_goals first
  | (refine ⟨Nat.zero_le _, fun x hx => ?_⟩; simp at hx)
  | (simp only []
     refine ⟨by rw [matR_length]; omega, fun x hx => ?_⟩
     rw [matR_row q l.length l n x hx]; omega)
theorem j5 {more : List Int} (hc : Bytes more) : Ev (fun k => laws_FnRanksOfRows.j5 k more) true := by
  obtain ⟨⟨l, q, num⟩, hd, h8⟩ := draw_matrix hc
  simp only [] at h8
  have hml := matAns_len l q num h8
  refine Ev.step (fun k => by rw [laws_FnRanksOfRows.j5]) (Ev.bind hd (Ev.bind (MatK.impl_ans q num (l := l) (by omega)) (Ev.bind (MatK.spec_ans q num (l := l) (by omega)) ?_)))
  refine Ev.congr (fun k => by rw [if_neg (by simp)]) (Ev.bind (rSameRows_self hml.1 hml.2) ?_)
  refine Ev.step (fun k => by rw [laws_FnRanksOfRows.j6, if_neg (by simp)]) ?_
  by_cases hok : (MatK.ans l q num).2 = true
  · refine Ev.congr (fun k => if_pos hok) ?_
    have : (lenB l = true ∧ (2 ≤ q ∧ q ≤ 3)) ∧ pw q (sm l).toNat ≤ 6561 ∧ (0 ≤ num ∧ num ≤ pw q (sm l).toNat - 1) ∧ MatK.ans l q num = (matR q l.length l num, true) := by
      unfold MatK.ans at hok ⊢
      by_cases h1 : (lenB l && inR 2 3 q) = true
      · rw [if_pos h1] at hok ⊢
        by_cases h2 : pw q (sm l).toNat ≤ 6561
        · rw [if_pos h2] at hok ⊢
          by_cases h3 : inR 0 (pw q (sm l).toNat - 1) num = true
          · rw [if_pos h3]
            rw [Bool.and_eq_true] at h1
            exact ⟨⟨h1.1, of_decide_eq_true h1.2⟩, h2, of_decide_eq_true h3, rfl⟩
          · rw [if_neg h3] at hok; cases hok
        · rw [if_neg h2] at hok; cases hok
      · rw [if_neg h1] at hok; cases hok
    obtain ⟨⟨h, hq⟩, hP, hnum, ha⟩ := this
    obtain ⟨h1, h6, hx⟩ := len_of h
    have hfit := MatK.mat_fits hq hx h (num := num) (by omega)
    have hF := FitsA.impl_answer q (l := l) (rows := matR q l.length l num) (by omega)
    rw [hfit] at hF
    rw [ha]
    refine Ev.bind hF ?_
    refine Ev.congr (fun k => by rw [if_pos rfl]) (Ev.step (fun k => by rw [laws_FnRanksOfRows.j7, if_neg (by simp)]) ?_)
    exact backs hq h6 (num := num) (by omega) hx (matR_length _ _ _ _) hc hP (by omega) l.length 0 num 0 0 (by omega) rfl (by rw [List.drop_zero]; omega) (by omega) (by omega) (by rw [pw]; omega)
  · exact Ev.congr (fun k => if_neg hok) (last hc (α := Unit))
section
variable {rows : List (List Int)} {q : Int} (h : areRowsB rows q = true) {more : List Int} (hc : Bytes more)
include h hc
theorem cols_end {C : Int} : Ev (fun k => laws_FnRanksOfRows.l2 k more rows q (rooksN (leadsOf rows q)) (leadsOf rows q) (rooksN (leadsOf rows q)) (rooksN (leadsOf rows q)) true (colsOf rows (rows.getD 0 []).length) ((rows.getD 0 []).length : Int) ((rows.getD 0 []).length : Int)) true := by
  obtain ⟨ha, hr⟩ := across_rank h
  have hA := RankA.impl_a (colsOf rows (rows.getD 0 []).length) q
  unfold RankA.rankAns at hA
  rw [if_pos ha, hr] at hA
  have hl := (leadsOf_in h).1
  refine Ev.step (fun k => by rw [laws_FnRanksOfRows.l2, if_neg (by omega)]) (Ev.bind hA ?_)
  exact Ev.congr (fun k => by rw [if_pos rfl, if_pos (by rw [hl]), if_pos rfl, if_pos rfl, if_pos rfl, if_pos rfl]) (j5 hc)
theorem col_in {X : Bool} {acc : List (List Int)} (ha : acc.length ≤ 6) {c : Nat} (hcn : c < (rows.getD 0 []).length)
    (hX : Ev (fun k => laws_FnRanksOfRows.l2 k more rows q (rooksN (leadsOf rows q)) (leadsOf rows q) (rooksN (leadsOf rows q)) (rooksN (leadsOf rows q)) true (acc ++ [colOf rows c]) ((rows.getD 0 []).length : Int) ((c + 1 : Nat) : Int)) X) :
    ∀ (d i : Nat), i + d = rows.length → Ev (fun k => laws_FnRanksOfRows.l3 k more rows q (rooksN (leadsOf rows q)) (leadsOf rows q) (rooksN (leadsOf rows q)) (rooksN (leadsOf rows q)) true acc c ((rows.take i).map (fun r => r.getD c 0)) ((rows.getD 0 []).length : Int) c rows (rows.length : Int) i) X
  | 0, i, hi => by
    have w1 := Aside0.mk (show wrap64 ((c : Int) + 1) = ((c + 1 : Nat) : Int) from by rw [w64 (by have := (areRows_out h).2.2.2.1; omega) (by have := (areRows_out h).2.2.2.1; omega)]; rfl)
    have e : (rows.take i).map (fun r => r.getD c 0) = colOf rows c := by rw [List.take_of_length_le (by omega)]; rfl
    rw [e]
    exact Ev.step (fun k => by rw [laws_FnRanksOfRows.l3, if_neg (by omega), if_pos (by omega), w1.out]) hX
  | d + 1, i, hi => by
    obtain ⟨hq, h6, n1, n6, hD⟩ := areRows_out h
    have hi2 : i < rows.length := by omega
    have hlen := (dig_at h i hi2).len
    have w1 := Aside0.mk (show wrap64 ((i : Int) + 1) = ((i + 1 : Nat) : Int) from by rw [w64 (by omega) (by omega)]; rfl)
    have hci : c < rows[i].length := by omega
    have e : (rows.take i).map (fun r => r.getD c 0) ++ [rows[i][c]] = (rows.take (i + 1)).map (fun r => r.getD c 0) := by
      rw [List.take_succ_eq_append_getElem hi2, List.map_append, List.map_cons, List.map_nil, gD_lt _ _ hci]
    have hal : ((rows.take i).map (fun r => r.getD c 0)).length ≤ 6 := by rw [List.length_map, List.length_take]; omega
    refine Ev.step (fun k => ?_) (col_in ha hcn hX d (i + 1) (by omega))
    rw [laws_FnRanksOfRows.l3, if_pos (by omega), if_pos (by omega), if_pos (by omega), if_pos (by omega), rdL hi2, if_pos (by omega), if_pos (by omega), rd_lt _ _ hci, e, w1.out]
theorem cols : ∀ (d c : Nat), c + d = (rows.getD 0 []).length → Ev (fun k => laws_FnRanksOfRows.l2 k more rows q (rooksN (leadsOf rows q)) (leadsOf rows q) (rooksN (leadsOf rows q)) (rooksN (leadsOf rows q)) true (colsOf rows c) ((rows.getD 0 []).length : Int) c) true
  | 0, c, hd => by
    have e : c = (rows.getD 0 []).length := by omega
    rw [e]
    exact cols_end h hc (C := 0)
  | d + 1, c, hd => by
    obtain ⟨hq, h6, n1, n6, hD⟩ := areRows_out h
    have hX := cols d (c + 1) (by omega)
    have e : colsOf rows (c + 1) = colsOf rows c ++ [colOf rows c] := by unfold colsOf; rw [List.range_succ, List.map_append, List.map_cons, List.map_nil]
    rw [e] at hX
    have := col_in h hc (acc := colsOf rows c) (by rw [colsOf_len]; omega) (c := c) (by omega) hX rows.length 0 (by omega)
    exact Ev.step (fun k => by rw [laws_FnRanksOfRows.l2, if_pos (by omega)]; rfl) this
theorem turned_end : Ev (fun k => laws_FnRanksOfRows.l1 k more rows q (rooksN (leadsOf rows q)) (leadsOf rows q) (rooksN (leadsOf rows q)) rows.reverse (-1)) true := by
  obtain ⟨ha, hr⟩ := turn_rank h
  have hA := RankA.impl_a rows.reverse q
  unfold RankA.rankAns at hA
  rw [if_pos ha, hr] at hA
  have hp := rows_pos h
  have e0 : rd_L2 rows 0 = rows.getD 0 [] := by
    rw [gD_lt _ _ (by omega)]
    exact rdL (i := 0) (by omega)
  refine Ev.step (fun k => by rw [laws_FnRanksOfRows.l1, if_neg (by omega)]) (Ev.bind hA ?_)
  refine Ev.congr (fun k => by rw [if_pos (by omega), e0]) ?_
  exact cols h hc (rows.getD 0 []).length 0 (by omega)
theorem turned : ∀ (d : Nat) (z : Int), d ≤ rows.length → z = (d : Int) - 1 → Ev (fun k => laws_FnRanksOfRows.l1 k more rows q (rooksN (leadsOf rows q)) (leadsOf rows q) (rooksN (leadsOf rows q)) (rows.drop d).reverse z) true
  | 0, z, hd, hz => by
    rw [List.drop_zero, show z = -1 by omega]
    exact turned_end h hc
  | d + 1, z, hd, hz => by
    have h6 := (areRows_out h).2.1
    have hd2 : d < rows.length := by omega
    have ez : z = (d : Int) := by omega
    have w1 := Aside0.mk (show wrap64 ((d : Int) - 1) = (d : Int) - 1 from w64 (by omega) (by omega))
    have e : (rows.drop (d + 1)).reverse ++ [rows[d]] = (rows.drop d).reverse := by rw [List.drop_eq_getElem_cons hd2, List.reverse_cons]
    have hal : (rows.drop (d + 1)).reverse.length ≤ 6 := by rw [List.length_reverse, List.length_drop]; omega
    rw [ez]
    exact Ev.step (fun k => by rw [laws_FnRanksOfRows.l1, if_pos (by omega), if_pos (by omega), if_pos (by omega), if_pos (by omega), rdL hd2, e, w1.out]) (turned d _ (by omega) rfl)
theorem leads : ∀ (d i : Nat), i + d = rows.length → Ev (fun k => laws_FnRanksOfRows.l0 k more rows q (rooksN (leadsOf rows q)) (leadsOf rows q) (rooksN ((leadsOf rows q).take i)) (leadsOf rows q) ((leadsOf rows q).length : Int) i) true
  | 0, i, hi => by
    have h6 := (areRows_out h).2.1
    have hl := (leadsOf_in h).1
    have w1 := Aside0.mk (show wrap64 ((rows.length : Int) - 1) = (rows.length : Int) - 1 from w64 (by omega) (by omega))
    have ht := turned h hc rows.length ((rows.length : Int) - 1) (by omega) rfl
    rw [List.drop_eq_nil_of_le (by omega), List.reverse_nil] at ht
    rw [List.take_of_length_le (by omega)]
    exact Ev.step (fun k => by rw [laws_FnRanksOfRows.l0, if_neg (by omega), w1.out]) ht
  | d + 1, i, hi => by
    have h6 := (areRows_out h).2.1
    obtain ⟨hl, hin⟩ := leadsOf_in h
    have hi2 : i < (leadsOf rows q).length := by omega
    have ih := leads d (i + 1) (by omega)
    have hb := hin _ (List.getElem_mem hi2)
    have hle : rooksN ((leadsOf rows q).take i) ≤ ((leadsOf rows q).take i).length := List.countP_le_length
    have htl : ((leadsOf rows q).take i).length = i := by rw [List.length_take]; omega
    rw [List.take_succ_eq_append_getElem hi2, rooksN_snoc] at ih
    have w1 := Aside0.mk (show wrap64 ((i : Int) + 1) = ((i + 1 : Nat) : Int) from by rw [w64 (by omega) (by omega)]; rfl)
    have w2 := Aside0.mk (show wrap64 (((rooksN ((leadsOf rows q).take i) : Nat) : Int) + 1) = ((rooksN ((leadsOf rows q).take i) + 1 : Nat) : Int) from by rw [w64 (by omega) (by omega)]; rfl)
    refine Ev.step (fun k => by rw [laws_FnRanksOfRows.l0, if_pos (by omega), if_pos (by omega), if_pos (by omega), rd_lt _ _ hi2]) ?_
    by_cases hneg : (leadsOf rows q)[i] = -1
    · rw [if_pos hneg, Nat.add_zero] at ih
      exact Ev.congr (fun k => by rw [if_neg (by omega), w1.out]) ih
    · rw [if_neg hneg] at ih
      have hno : Ev (fun k => laws_rHas.f k ((leadsOf rows q).take i) (leadsOf rows q)[i]) false := rHas_no (by omega) (fun s hs e => by
        have hsi : s < i := by omega
        rw [List.getElem_take] at e
        have hne : (leadsOf rows q).getD s 0 ≠ -1 := by rw [gD_lt _ _ (by omega), e]; exact hneg
        have := apart_at h hsi (show i < rows.length by omega) hne
        exact this (by rw [gD_lt _ _ hi2, gD_lt _ _ (show s < (leadsOf rows q).length by omega), e]))
      refine Ev.congr (fun k => by rw [if_pos (by omega), if_pos (by omega), Int.toNat_natCast]) (Ev.bind hno ?_)
      exact Ev.congr (fun k => by rw [if_neg (by simp), w1.out, w2.out]) ih
end
end RowRanksK
open RowRanksK
theorem FnRanksOfRows : laws_FnRanksOfRows.Pure := by
  intro code more hcl _ hcw hml hm8 hmw
  unfold laws_FnRanksOfRows.f
  refine ends ?_
  rcases big_f code more (by omega) with hbig | ⟨hbig, h1, h2⟩
  · exact Ev.congr (fun k => by rw [hbig, Option.bind_some, if_pos rfl]) (Ev.now _)
  have hc : Bytes code := ⟨h1, fun x hx => byte_of (hcw x hx)⟩
  have hm : Bytes more := ⟨h2, fun x hx => byte_of (hmw x hx)⟩
  refine Ev.congr (fun k => by rw [hbig, Option.bind_some, if_neg (by simp)]) ?_
  obtain ⟨⟨rows, q⟩, hd, hs⟩ := draw_modulo hc
  simp only [] at hs
  have hx : ∀ x ∈ rows, x.length ≤ 1048576 := fun x hx => by have := hs.2 x hx; omega
  refine Ev.bind hd (Ev.bind (RankA.impl_a rows q) (Ev.bind (RankA.spec_a q hx) ?_))
  refine Ev.congr (fun k => by rw [LeadsA.impl_a, Option.bind_some]) (Ev.bind (LeadsA.spec_a q hx) ?_)
  have hll : (LeadsA.ans rows q).1.length ≤ 1000000 := by
    unfold LeadsA.ans
    by_cases h : areRowsB rows q = true
    · rw [if_pos h, (leadsOf_in h).1]
      have := hs.1
      omega
    · rw [if_neg h]; exact Nat.zero_le _
  refine Ev.congr (fun k => by rw [if_neg (by simp), if_pos rfl, if_neg (by simp)]) (Ev.bind (rSame_self hll) ?_)
  refine Ev.congr (fun k => by rw [if_pos rfl]) ?_
  unfold LeadsA.ans RankA.rankAns
  by_cases h : areRowsB rows q = true
  · rw [if_pos h, if_pos h]
    refine Ev.step (fun k => by rw [laws_FnRanksOfRows.j0, if_neg (by simp), if_pos rfl]) ?_
    exact leads h hm rows.length 0 (by omega)
  · rw [if_neg h, if_neg h]
    exact Ev.step (fun k => by rw [laws_FnRanksOfRows.j0, if_neg (by simp), if_neg (by simp)]) (j5 hm)
end Go.Proofs.Ytadkkcdhgepbkaa.Pure
end
