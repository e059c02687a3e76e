/- The law's last texts put together: what the program and the reference answer, and the pure statement. No conditions. -/
import Derived.Test.YtlhblnphfpijkaaW1
import Derived.Test.YtlhblnphfpijkaaRookN
import Derived.Test.YtlhblnphfpijkaaFreeI
import Derived.Test.YtlhblnphfpijkaaWays
import Derived.Test.YtlhblnphfpijkaaWalkW
import Derived.Test.YtlhblnphfpijkaaQimplboardOf
import Derived.Test.YtlhblnphfpijkaaQ0
import Derived.Test.YtlhblnphfpijkaaQimplat
import Derived.Test.YtlhblnphfpijkaaQimplisWeighted
import Derived.Test.YtlhblnphfpijkaaQimplbracket
import Derived.Test.YtlhblnphfpijkaaQlawstoIntS
import Derived.Test.YtlhblnphfpijkaaQlawseqIntS
import Derived.Test.YtlhblnphfpijkaaQspecWeightedSumAt
import Derived.Test.YtlhblnphfpijkaaL
import Derived.Test.YtlhblnphfpijkaaQimplpower
import Derived.Test.YtlhblnphfpijkaaQspecweAt
import Derived.Test.YtlhblnphfpijkaaQspecweAll
section
namespace Go.Proofs.Ytlhblnphfpijkaa.BagK
set_option linter.unusedVariables false
open Go.RowKit Go.Proofs.YtlhblnphfpijkaaW.PrintWords Go.Proofs.YtlhblnphfpijkaaW.PrintLast Go.Proofs.YtlhblnphfpijkaaW.PrintMore
open Go.Proofs.YtlhblnphfpijkaaL Go.Proofs.Ytlhblnphfpijkaa.LawK Go.Proofs.Ytlhblnphfpijkaa.W1 Go.Proofs.Ytlhblnphfpijkaa.Walk Go.Proofs.Ytlhblnphfpijkaa.FreeK Go.Proofs.Ytlhblnphfpijkaa.LensK Go.Proofs.Ytlhblnphfpijkaa.BoardK

/-- A row's numbers are told by c, and its last number is not 0. -/
structure RepC (r : List Int) (c : Nat → Nat) : Prop where
  get : ∀ i, r.getD i 0 = (c i : Int)
  last : ∀ i, r.length = i + 1 → c i ≠ 0
theorem RepC.nil : RepC [] (fun _ => 0) := ⟨fun i => rfl, fun i h => by simp at h⟩
theorem RepC.congr {r : List Int} {c d : Nat → Nat} (h : RepC r c) (e : ∀ i, c i = d i) : RepC r d := ⟨fun i => by rw [h.get, e], fun i hi => by rw [← e]; exact h.last i hi⟩
theorem RepC.eq {r s : List Int} {c d : Nat → Nat} (h : RepC r c) (k : RepC s d) (e : ∀ i, c i = d i) : r = s := by
  have hl : r.length = s.length := by
    rcases Nat.lt_trichotomy r.length s.length with hlt | heq | hgt
    · exfalso
      obtain ⟨i, hi⟩ : ∃ i, s.length = i + 1 := ⟨s.length - 1, by omega⟩
      have h1 := k.last i hi
      have h2 := h.get i
      rw [gD_ge r 0 (by omega)] at h2
      have := e i
      omega
    · exact heq
    · exfalso
      obtain ⟨i, hi⟩ : ∃ i, r.length = i + 1 := ⟨r.length - 1, by omega⟩
      have h1 := h.last i hi
      have h2 := k.get i
      rw [gD_ge s 0 (by omega)] at h2
      have := e i
      omega
  refine List.ext_getElem hl (fun i h1 h2 => ?_)
  have a := h.get i
  have b := k.get i
  rw [gD_lt r 0 h1] at a
  rw [gD_lt s 0 h2] at b
  rw [a, b, e i]

theorem pad_length (row : List Int) (e : Nat) : (pad row e).length = max row.length (e + 1) := by
  unfold pad; rw [List.length_append, List.length_replicate]; omega
theorem app0_getD (row : List Int) (n i : Nat) : (row ++ List.replicate n (0 : Int)).getD i 0 = row.getD i 0 := by
  by_cases h : i < row.length
  · rw [gD_lt _ _ (by rw [List.length_append]; omega), gD_lt _ _ h, List.getElem_append_left h]
  · rw [gD_ge row 0 (by omega)]
    by_cases h2 : i < (row ++ List.replicate n (0 : Int)).length
    · rw [gD_lt _ _ h2, List.getElem_append_right (by omega), List.getElem_replicate]
    · exact gD_ge _ _ (by omega)
theorem pad_getD (row : List Int) (e i : Nat) : (pad row e).getD i 0 = row.getD i 0 := app0_getD _ _ _
/-- Some more at a place. -/
def addAt (row : List Int) (p : Nat) (n : Int) : List Int := (pad row p).set p (wrap64 (rd (pad row p) (p : Int) + n))
theorem bump_eq (row : List Int) (e : Nat) : bump row e = addAt row e 1 := rfl
theorem addAt_length (row : List Int) (p : Nat) (n : Int) : (addAt row p n).length = max row.length (p + 1) := by
  unfold addAt; rw [List.length_set, pad_length]
theorem set_getD (l : List Int) (p i : Nat) (x : Int) (hp : p < l.length) : (l.set p x).getD i 0 = if i = p then x else l.getD i 0 := by
  rw [List.getD_eq_getElem?_getD, List.getElem?_set, List.getD_eq_getElem?_getD]
  by_cases h : p = i
  · subst h; simp [hp]
  · rw [if_neg h, if_neg (fun e => h e.symm)]
theorem addAt_rep {row : List Int} {c : Nat → Nat} {p n : Nat} (h : RepC row c) (hn : 0 < n) (hb : c p + n ≤ 4611686018427387904) : RepC (addAt row p (n : Int)) (fun i => if i = p then c i + n else c i) := by
  have hp : p < (pad row p).length := by rw [pad_length]; omega
  refine ⟨fun i => ?_, fun i hi => ?_⟩
  · unfold addAt
    rw [set_getD _ _ _ _ hp, rd_nat, pad_getD, pad_getD, h.get, h.get]
    by_cases e : i = p
    · rw [if_pos e, if_pos e, e, w64 (by omega) (by omega)]; simp
    · rw [if_neg e, if_neg e]
  · rw [addAt_length] at hi
    by_cases e : i = p
    · rw [if_pos e]; omega
    · rw [if_neg e]; exact h.last i (by omega)

/-- What one more row of length m makes of a placement with so many rooks and free cells. -/
def step (m : Nat) (x : Nat × Nat) : List (Nat × Nat) := (x.1, x.2 + (m - x.1)) :: (List.range (m - x.1)).map fun i => (x.1 + 1, x.2 + i)
def cnt (F : List (Nat × Nat)) (k e : Nat) : Nat := F.count (k, e)
def sumTo : Nat → (Nat → Nat) → Nat
  | 0, _ => 0
  | n + 1, f => sumTo n f + f n
theorem sumTo_add (f g : Nat → Nat) : ∀ n, sumTo n (fun b => f b + g b) = sumTo n f + sumTo n g
  | 0 => rfl
  | n + 1 => by rw [sumTo, sumTo, sumTo, sumTo_add f g n]; omega
theorem sumTo_congr {f g : Nat → Nat} (n : Nat) (h : ∀ b, b < n → f b = g b) : sumTo n f = sumTo n g := by
  induction n with
  | zero => rfl
  | succ n ih => rw [sumTo, sumTo, ih (fun b hb => h b (by omega)), h n (by omega)]
theorem sumTo_zero : ∀ n, sumTo n (fun _ => 0) = 0
  | 0 => rfl
  | n + 1 => by rw [sumTo, sumTo_zero n]
theorem sumTo_le {f : Nat → Nat} {B : Nat} (h : ∀ b, f b ≤ B) : ∀ n, sumTo n f ≤ n * B
  | 0 => by simp [sumTo]
  | n + 1 => by rw [sumTo, Nat.succ_mul]; have := sumTo_le h n; have := h n; omega
theorem sumTo_one (e e0 : Nat) : ∀ n, sumTo n (fun b => if b ≤ e ∧ e - b = e0 then 1 else 0) = if e0 ≤ e ∧ e - e0 < n then 1 else 0
  | 0 => by rw [sumTo, if_neg (by omega)]
  | n + 1 => by
    rw [sumTo, sumTo_one e e0 n]
    by_cases h1 : e0 ≤ e ∧ e - e0 < n
    · rw [if_pos h1, if_neg (by omega), if_pos (by omega)]
    · rw [if_neg h1]
      by_cases h2 : n ≤ e ∧ e - n = e0
      · rw [if_pos h2, if_pos (by omega)]
      · rw [if_neg h2, if_neg (by omega)]
theorem cnt_cons (x : Nat × Nat) (F : List (Nat × Nat)) (k e : Nat) : cnt (x :: F) k e = cnt F k e + if k = x.1 ∧ e = x.2 then 1 else 0 := by
  unfold cnt
  rw [List.count_cons]
  congr 1
  by_cases h : k = x.1 ∧ e = x.2
  · rw [if_pos h, if_pos (by rw [beq_iff_eq]; exact Prod.ext h.1.symm h.2.symm)]
  · rw [if_neg h, if_neg (by rw [beq_iff_eq]; rintro rfl; exact h ⟨rfl, rfl⟩)]
theorem cnt_nil (k e : Nat) : cnt [] k e = 0 := rfl
theorem cnt_append (F G : List (Nat × Nat)) (k e : Nat) : cnt (F ++ G) k e = cnt F k e + cnt G k e := List.count_append
theorem cnt_range (j e0 k e : Nat) : ∀ n, cnt ((List.range n).map fun i => (j, e0 + i)) k e = if k = j ∧ e0 ≤ e ∧ e - e0 < n then 1 else 0
  | 0 => by rw [if_neg (by omega)]; rfl
  | n + 1 => by
    rw [List.range_succ, List.map_append, cnt_append, cnt_range j e0 k e n, List.map_cons, List.map_nil, cnt_cons, cnt_nil, Nat.zero_add]
    simp only []
    by_cases h1 : k = j ∧ e0 ≤ e ∧ e - e0 < n
    · rw [if_pos h1, if_neg (by omega), if_pos (by omega)]
    · rw [if_neg h1]
      by_cases h2 : k = j ∧ e = e0 + n
      · rw [if_pos h2, if_pos (by omega)]
      · rw [if_neg h2, if_neg (by omega)]
/-- What stands in the table behind one more row. -/
def nextC (F : List (Nat × Nat)) (m k e : Nat) : Nat := (if k ≤ m ∧ m - k ≤ e then cnt F k (e - (m - k)) else 0) + (if k = 0 then 0 else sumTo (m + 1 - k) (fun b => if b ≤ e then cnt F (k - 1) (e - b) else 0))
theorem cnt_step (m k e : Nat) : ∀ F : List (Nat × Nat), (∀ x ∈ F, x.1 ≤ m) → cnt (F.flatMap (step m)) k e = nextC F m k e
  | [], _ => by
    unfold nextC
    simp only [List.flatMap_nil, cnt_nil, ite_self, sumTo_zero]
  | x :: F, h => by
    have hx := h x (List.mem_cons_self)
    rw [List.flatMap_cons, cnt_append, cnt_step m k e F (fun y hy => h y (List.mem_cons_of_mem _ hy)), step, cnt_cons, cnt_range]
    simp only []
    have e1 : nextC (x :: F) m k e = nextC F m k e + ((if k ≤ m ∧ m - k ≤ e then (if k = x.1 ∧ e - (m - k) = x.2 then 1 else 0) else 0) + (if k = 0 then 0 else sumTo (m + 1 - k) (fun b => if b ≤ e then (if k - 1 = x.1 ∧ e - b = x.2 then 1 else 0) else 0))) := by
      unfold nextC
      have e2 : (fun b => if b ≤ e then cnt (x :: F) (k - 1) (e - b) else 0) = fun b => (if b ≤ e then cnt F (k - 1) (e - b) else 0) + (if b ≤ e then (if k - 1 = x.1 ∧ e - b = x.2 then 1 else 0) else 0) := by
        funext b
        by_cases hb : b ≤ e
        · rw [if_pos hb, if_pos hb, if_pos hb, cnt_cons]
        · rw [if_neg hb, if_neg hb, if_neg hb]
      rw [e2, sumTo_add, cnt_cons]
      by_cases h1 : k ≤ m ∧ m - k ≤ e
      · rw [if_pos h1, if_pos h1, if_pos h1]
        by_cases h2 : k = 0
        · rw [if_pos h2, if_pos h2, if_pos h2]; omega
        · rw [if_neg h2, if_neg h2, if_neg h2]; omega
      · rw [if_neg h1, if_neg h1, if_neg h1]
        by_cases h2 : k = 0
        · rw [if_pos h2, if_pos h2, if_pos h2]
        · rw [if_neg h2, if_neg h2, if_neg h2]; omega
    rw [e1, Nat.add_comm]
    congr 1
    rw [Nat.add_comm]
    congr 1
    · by_cases h1 : k = x.1 ∧ e = x.2 + (m - x.1)
      · rw [if_pos h1, if_pos (by omega), if_pos (by omega)]
      · rw [if_neg h1]
        by_cases h2 : k ≤ m ∧ m - k ≤ e
        · rw [if_pos h2, if_neg (by omega)]
        · rw [if_neg h2]
    · by_cases h0 : k = 0
      · rw [if_pos h0, if_neg (by omega)]
      · rw [if_neg h0]
        by_cases h1 : k - 1 = x.1
        · rw [sumTo_congr (g := fun b => if b ≤ e ∧ e - b = x.2 then 1 else 0) _ (fun b _ => by
            by_cases hb : b ≤ e
            · rw [if_pos hb]
              by_cases h2 : e - b = x.2
              · rw [if_pos ⟨h1, h2⟩, if_pos ⟨hb, h2⟩]
              · rw [if_neg (by omega), if_neg (by omega)]
            · rw [if_neg hb, if_neg (by omega)]), sumTo_one]
          by_cases h3 : x.2 ≤ e ∧ e - x.2 < m + 1 - k
          · rw [if_pos h3, if_pos (by omega)]
          · rw [if_neg h3, if_neg (by omega)]
        · rw [sumTo_congr (g := fun _ => 0) _ (fun b _ => by
            by_cases hb : b ≤ e
            · rw [if_pos hb, if_neg (by omega)]
            · rw [if_neg hb]), sumTo_zero, if_neg (by omega)]

/-- All placements of the first rows, by rooks and free cells. -/
def Fk (l : List Int) : Nat → List (Nat × Nat)
  | 0 => [(0, 0)]
  | r + 1 => (Fk l r).flatMap (step (l.getD r 0).toNat)
def Gk (l : List Int) : Nat → Nat → Nat × Nat → List (Nat × Nat)
  | 0, _, x => [x]
  | d + 1, r, x => (step (l.getD r 0).toNat x).flatMap (Gk l d (r + 1))
theorem flat_self {α : Type} : ∀ F : List α, F.flatMap (fun x => [x]) = F
  | [] => rfl
  | x :: F => by rw [List.flatMap_cons, flat_self F]; rfl
theorem F_G (l : List Int) : ∀ d r, (Fk l r).flatMap (Gk l d r) = Fk l (r + d)
  | 0, r => flat_self _
  | d + 1, r => by
    have e : Gk l (d + 1) r = fun x => (step (l.getD r 0).toNat x).flatMap (Gk l d (r + 1)) := rfl
    rw [e, ← List.flatMap_assoc, show r + (d + 1) = r + 1 + d by omega, ← F_G l d (r + 1)]
    rfl
theorem step_len {m : Nat} (hm : m ≤ 6) (x : Nat × Nat) : (step m x).length ≤ 7 := by
  unfold step; rw [List.length_cons, List.length_map, List.length_range]; omega
theorem flat_len {α β : Type} {f : α → List β} {B : Nat} : ∀ F : List α, (∀ x ∈ F, (f x).length ≤ B) → (F.flatMap f).length ≤ F.length * B
  | [], _ => by simp
  | x :: F, h => by
    rw [List.flatMap_cons, List.length_append, List.length_cons, Nat.succ_mul]
    have h1 := h x List.mem_cons_self
    have h2 := flat_len F (fun y hy => h y (List.mem_cons_of_mem _ hy))
    omega
theorem Fk_len {l : List Int} (hm : ∀ r, (l.getD r 0).toNat ≤ 6) : ∀ r, (Fk l r).length ≤ 7 ^ r
  | 0 => by simp [Fk]
  | r + 1 => by
    rw [Fk, Nat.pow_succ]
    exact Nat.le_trans (flat_len _ (fun x _ => step_len (hm r) x)) (Nat.mul_le_mul_right _ (Fk_len hm r))
theorem Fk_rooks {l : List Int} : ∀ r x, x ∈ Fk l r → x.1 ≤ r ∧ (∀ m : Nat, (∀ i, i < r → (l.getD i 0).toNat ≤ m) → x.1 ≤ m)
  | 0, x, h => by rw [Fk, List.mem_singleton] at h; subst h; exact ⟨Nat.le_refl _, fun m _ => Nat.zero_le _⟩
  | r + 1, x, h => by
    rw [Fk, List.mem_flatMap] at h
    obtain ⟨y, hy, hx⟩ := h
    obtain ⟨q1, q2⟩ := Fk_rooks r y hy
    rw [step, List.mem_cons, List.mem_map] at hx
    rcases hx with rfl | ⟨i, hi, rfl⟩
    · exact ⟨by simp only []; omega, fun m hm => q2 m (fun i hi => hm i (by omega))⟩
    · rw [List.mem_range] at hi
      exact ⟨by simp only []; omega, fun m hm => by have := hm r (by omega); simp only []; omega⟩

/-- How many columns below x are not taken. -/
def fr (t : Nat) : Nat → Nat
  | 0 => 0
  | x + 1 => fr t x + if t.testBit x then 0 else 1
theorem fr_mono (t : Nat) : ∀ d x, fr t x ≤ fr t (x + d)
  | 0, x => Nat.le_refl _
  | d + 1, x => by
    have h := fr_mono t d x
    have e : fr t (x + d + 1) = fr t (x + d) + if t.testBit (x + d) then 0 else 1 := rfl
    rw [show x + (d + 1) = x + d + 1 by omega, e]
    omega
theorem rowFree_fr {q : List Int} {r t X m : Nat} (ht : ∀ c, c < m → taken q r c = (decide (X ≤ c) || t.testBit c)) : ∀ (d c : Nat) (n : Int), c + d = m → rowFree q r d c n = n + ((fr t (min m X) : Int) - fr t (min c X))
  | 0, c, n, h => by rw [rowFree, show c = m by omega]; omega
  | d + 1, c, n, h => by
    rw [rowFree, rowFree_fr ht d (c + 1) _ (by omega), ht c (by omega)]
    by_cases h1 : X ≤ c
    · rw [decide_eq_true h1, Bool.true_or, if_pos rfl, show min (c + 1) X = min c X by omega]
    · rw [decide_eq_false h1, Bool.false_or, show min (c + 1) X = c + 1 by omega, show min c X = c by omega, fr]
      by_cases h2 : t.testBit c = true
      · rw [if_pos h2, if_pos h2, Nat.add_zero]
      · rw [if_neg h2, if_neg h2]; omega
theorem fr_or {t c : Nat} (hc : t.testBit c = false) : ∀ x, c < x → fr (t ||| 2 ^ c) x + 1 = fr t x
  | 0, h => by omega
  | x + 1, h => by
    have low : ∀ y, y ≤ c → fr (t ||| 2 ^ c) y = fr t y := by
      intro y
      induction y with
      | zero => intro _; rfl
      | succ y ih =>
        intro hy
        rw [fr, fr, ih (by omega), Nat.testBit_or, Nat.testBit_two_pow, decide_eq_false (show ¬ c = y by omega), Bool.or_false]
    by_cases e : c = x
    · subst e
      rw [fr, fr, low c (Nat.le_refl _), Nat.testBit_or, Nat.testBit_two_pow_self, Bool.or_true, if_pos rfl, hc]
      simp
    · have ih := fr_or hc x (by omega)
      rw [fr, fr, Nat.testBit_or, Nat.testBit_two_pow, decide_eq_false (show ¬ c = x by omega), Bool.or_false]
      omega
theorem ways_pre (rows : List Int) (C : Nat) : ∀ (d r t : Nat) (pre : List Int), ∀ q ∈ waysFrom rows C d r t pre, ∃ s, q = pre ++ s ∧ s.length = d
  | 0, r, t, pre, q, hq => by rw [waysFrom, List.mem_singleton] at hq; exact ⟨[], by simp [hq], rfl⟩
  | d + 1, r, t, pre, q, hq => by
    rw [waysFrom, List.mem_flatMap] at hq
    obtain ⟨c, hc, hq⟩ := hq
    unfold colWays at hq
    split at hq
    · obtain ⟨s, h1, h2⟩ := ways_pre rows C d (r + 1) _ _ q hq
      exact ⟨c :: s, by rw [h1]; simp, by simp [h2]⟩
    · split at hq
      · obtain ⟨s, h1, h2⟩ := ways_pre rows C d (r + 1) _ _ q hq
        exact ⟨c :: s, by rw [h1]; simp, by simp [h2]⟩
      · cases hq
theorem cell_rows {l : List Int} {r c : Nat} (hr : r < l.length) (h0 : 0 ≤ l.getD r 0) : cell (rowsOf l) r c = decide (c < (l.getD r 0).toNat) := by
  unfold cell rowsOf
  rw [gD_lt _ _ (by simpa using hr), List.getElem_map, gD_lt _ _ hr]
  have e : ((2 : Int) ^ l[r].toNat - 1).toNat = 2 ^ l[r].toNat - 1 := by
    have : 0 < 2 ^ l[r].toNat := Nat.two_pow_pos _
    have e2 : ((2 ^ l[r].toNat : Nat) : Int) = 2 ^ l[r].toNat := by simp
    omega
  rw [e, Nat.testBit_two_pow_sub_one]
/-- A placement's rooks, and its free cells from a row on, on top of some. -/
def keyFrom (l : List Int) (r : Nat) (n : Int) (q : List Int) : Nat × Nat := (rooksN q, (allFree q (l.drop r) r n).toNat)
theorem rooksN_snoc (pre : List Int) (x : Int) : rooksN (pre ++ [x]) = rooksN pre + if x = -1 then 0 else 1 := by
  unfold rooksN
  rw [List.countP_append, List.countP_singleton]
  by_cases h : x = -1 <;> simp [h]
theorem keyFrom_next {l : List Int} {r t X m C d t2 : Nat} {n x : Int} {pre : List Int} (hr : r < l.length) (hp : pre.length = r) (hm : (l.getD r 0).toNat = m)
    (ht : ∀ c : Nat, t.testBit c = decide ((c : Int) ∈ pre)) (hX : ∀ c : Nat, c < m → (decide (x ≠ -1) && decide (x ≤ c)) = decide (X ≤ c)) {q : List Int} (hq : q ∈ waysFrom (rowsOf l) C d (r + 1) t2 (pre ++ [x])) :
    keyFrom l r n q = keyFrom l (r + 1) (n + fr t (min m X)) q := by
  obtain ⟨s, rfl, hs⟩ := ways_pre _ _ _ _ _ _ q hq
  unfold keyFrom
  rw [List.drop_eq_getElem_cons hr, allFree]
  have e1 : (pre ++ [x] ++ s).getD r 0 = x := by
    rw [List.append_assoc, gD_lt _ _ (by simp; omega), List.getElem_append_right (by omega)]; simp [hp]
  have e2 : (pre ++ [x] ++ s).take r = pre := by rw [List.append_assoc, List.take_left' hp]
  have e3 : l[r].toNat = m := by rw [← gD_lt l 0 hr]; exact hm
  have e4 := rowFree_fr (q := pre ++ [x] ++ s) (r := r) (t := t) (X := X) (m := m) (fun c hc => by
    unfold taken
    rw [e1, e2, ht c, hX c hc]) m 0 n (by omega)
  rw [e3, e4, Nat.zero_min]
  rw [show fr t 0 = 0 from rfl]
  congr 3
theorem ways_key {l : List Int} (hlen : ∀ i, i < l.length → 0 ≤ l.getD i 0 ∧ l.getD i 0 ≤ l.length) (hrise : ∀ i, i + 1 < l.length → l.getD i 0 ≤ l.getD (i + 1) 0) :
    ∀ (d r t : Nat) (pre : List Int) (n : Nat), r + d = l.length → pre.length = r → (∀ c : Nat, t.testBit c = decide ((c : Int) ∈ pre)) → (∀ c : Nat, t.testBit c = true → r < l.length → (c : Int) < l.getD r 0) →
      (∀ x : Nat, (∀ c : Nat, t.testBit c = true → c < x) → fr t x + rooksN pre = x) →
      (waysFrom (rowsOf l) l.length d r t pre).map (keyFrom l r n) = Gk l d r (rooksN pre, n)
  | 0, r, t, pre, n, hr, hp, ht, hlt, hfr => by
    rw [waysFrom, Gk, List.map_singleton, keyFrom, List.drop_eq_nil_of_le (by omega)]
    rfl
  | d + 1, r, t, pre, n, hr, hp, ht, hlt, hfr => by
    have hr2 : r < l.length := by omega
    obtain ⟨b1, b2⟩ := hlen r hr2
    obtain ⟨m, hm⟩ : ∃ m, m = (l.getD r 0).toNat := ⟨_, rfl⟩
    have hfm : fr t m + rooksN pre = m := hfr m (fun c hc => by have := hlt c hc hr2; omega)
    have hnxt : ∀ c : Nat, (c : Int) < l.getD r 0 → r + 1 < l.length → (c : Int) < l.getD (r + 1) 0 := fun c hc h => by have := hrise r h; omega
    have hit : ∀ x, x ≤ l.length → (iota 0 x).flatMap (fun c => (colWays (rowsOf l) r t pre (waysFrom (rowsOf l) l.length d (r + 1)) c).map (keyFrom l r n)) = (List.range (fr t (min m x))).flatMap (fun i => Gk l d (r + 1) (rooksN pre + 1, n + i)) := by
      intro x
      induction x with
      | zero => intro _; rw [Nat.min_zero]; rfl
      | succ x ih =>
        intro hx
        rw [iota_snoc, List.flatMap_append, ih (by omega), List.flatMap_cons, List.flatMap_nil, List.append_nil, Int.zero_add]
        have hcell := cell_rows (l := l) (r := r) (c := x) hr2 b1
        unfold colWays
        rw [if_neg (by omega), Int.toNat_natCast, hcell, ← hm]
        by_cases h1 : x < m
        · rw [decide_eq_true h1, Bool.true_and, show min m (x + 1) = x + 1 by omega, show min m x = x by omega, fr]
          by_cases h2 : t.testBit x = true
          · rw [h2, if_neg (by simp), if_pos rfl, Nat.add_zero]; simp
          · have h2f : t.testBit x = false := by simpa using h2
            rw [h2f, if_pos (by simp), if_neg (by simp), List.range_succ, List.flatMap_append, List.flatMap_cons, List.flatMap_nil, List.append_nil]
            congr 1
            have hnm : ¬ (x : Int) ∈ pre := by have := ht x; rw [h2f] at this; simpa using this.symm
            have e5 := List.map_congr_left (f := keyFrom l r n) (g := keyFrom l (r + 1) ((n + fr t x : Nat) : Int)) (l := waysFrom (rowsOf l) l.length d (r + 1) (t ||| 2 ^ x) (pre ++ [(x : Int)])) (fun q hq => by
              have := keyFrom_next (n := n) (X := x) hr2 hp hm.symm ht (fun c hc => by
                rw [decide_eq_true (show (x : Int) ≠ -1 by omega), Bool.true_and]
                exact decide_eq_decide.2 (by omega)) hq
              rw [this, show min m x = x by omega]
              simp)
            rw [e5]
            have ih2 := ways_key hlen hrise d (r + 1) (t ||| 2 ^ x) (pre ++ [(x : Int)]) (n + fr t x) (by omega) (by simp; omega)
              (fun c => by
                rw [Nat.testBit_or, ht c, Nat.testBit_two_pow, ← Bool.decide_or]
                apply decide_eq_decide.2
                rw [List.mem_append, List.mem_singleton]
                constructor
                · rintro (h | h)
                  · exact .inl h
                  · exact .inr (by omega)
                · rintro (h | h)
                  · exact .inl h
                  · exact .inr (by omega))
              (fun c hc h => by
                rw [Nat.testBit_or, Nat.testBit_two_pow, Bool.or_eq_true] at hc
                rcases hc with hc | hc
                · exact hnxt c (hlt c hc hr2) h
                · have : x = c := of_decide_eq_true hc
                  exact hnxt c (by omega) h)
              (fun y hy => by
                rw [rooksN_snoc, if_neg (by omega)]
                have q1 := hy x (by rw [Nat.testBit_or, Nat.testBit_two_pow_self, Bool.or_true])
                have q2 := fr_or h2f y q1
                have q3 := hfr y (fun c hc => hy c (by rw [Nat.testBit_or, hc, Bool.true_or]))
                omega)
            rw [ih2, rooksN_snoc, if_neg (by omega)]
        · rw [decide_eq_false h1, Bool.false_and, if_neg (by simp), show min m (x + 1) = min m x by omega]; simp
    have e0 : iota (-1) (l.length + 1) = (-1) :: iota 0 l.length := rfl
    rw [waysFrom, List.map_flatMap, e0, List.flatMap_cons, hit l.length (Nat.le_refl _), Gk, ← hm, step, List.flatMap_cons, List.flatMap_map]
    simp only []
    have hmn : m ≤ l.length := by omega
    rw [Nat.min_eq_left hmn, show m - rooksN pre = fr t m by omega]
    congr 1
    have e5 := List.map_congr_left (f := keyFrom l r n) (g := keyFrom l (r + 1) ((n + fr t m : Nat) : Int)) (l := waysFrom (rowsOf l) l.length d (r + 1) t (pre ++ [(-1 : Int)])) (fun q hq => by
      have := keyFrom_next (n := n) (X := m) hr2 hp hm.symm ht (fun c hc => by
        rw [decide_eq_false (show ¬ (-1 : Int) ≠ -1 by simp), Bool.false_and]
        exact (decide_eq_false (by omega)).symm) hq
      rw [this, Nat.min_self]
      simp)
    unfold colWays
    rw [if_pos (by omega), e5, ways_key hlen hrise d (r + 1) t (pre ++ [(-1 : Int)]) (n + fr t m) (by omega) (by simp; omega)
      (fun c => by
        rw [ht c]
        apply decide_eq_decide.2
        rw [List.mem_append, List.mem_singleton]
        constructor
        · exact .inl
        · rintro (h | h)
          · exact h
          · omega)
      (fun c hc h => hnxt c (hlt c hc hr2) h)
      (fun y hy => by rw [rooksN_snoc, if_pos rfl]; exact hfr y hy)]
    rw [rooksN_snoc, if_pos rfl]
    rfl
theorem ways_keys {l : List Int} (h : lenB l = true) : (waysFrom (rowsOf l) l.length l.length 0 0 []).map (keyFrom l 0 0) = Fk l l.length := by
  obtain ⟨h1, h2, h3⟩ := len_of h
  have hr : riseFrom l 1 = true := by unfold lenB at h; simp only [Bool.and_eq_true] at h; exact h.2
  have e := ways_key (l := l) (fun i hi => by rw [gD_lt _ _ hi]; exact h3 i hi) (fun i hi => of_decide_eq_true hr i (by omega) (by omega)) l.length 0 0 [] 0 (by omega) rfl (fun c => by simp) (fun c hc => by simp at hc) (fun x hx => by
    have : ∀ y, fr 0 y = y := by
      intro y
      induction y with
      | zero => rfl
      | succ y ih => rw [fr, ih]; simp
    rw [this]; rfl)
  have e2 := F_G l l.length 0
  rw [Nat.zero_add] at e2
  rw [← e2, Fk, List.flatMap_cons, List.flatMap_nil, List.append_nil]
  exact e

/-- The table's rows are told by the placements seen. -/
structure RepT (n : Nat) (out : List (List Int)) (F : List (Nat × Nat)) : Prop where
  len : out.length = n + 1
  rep : ∀ k, k ≤ n → RepC (out.getD k []) (cnt F k)
theorem RepT.eq {n : Nat} {a b : List (List Int)} {F : List (Nat × Nat)} (h : RepT n a F) (k : RepT n b F) : a = b := by
  refine List.ext_getElem (by rw [h.len, k.len]) (fun i h1 h2 => ?_)
  have hi : i ≤ n := by have := h.len; omega
  have := (h.rep i hi).eq (k.rep i hi) (fun _ => rfl)
  rwa [gD_lt _ _ h1, gD_lt _ _ h2] at this
theorem RepT.start (n : Nat) : RepT n (List.replicate (n + 1) []) [] := by
  refine ⟨by simp, fun k hk => ?_⟩
  rw [gD_lt _ _ (by simp; omega), List.getElem_replicate]
  exact RepC.nil
/-- One more placement. -/
def tab (l : List Int) (out : List (List Int)) (p : List Int) : List (List Int) := out.set (rooksN p) (bump (out.getD (rooksN p) []) (allFree p l 0 0).toNat)
theorem RepT.tab {n : Nat} {l : List Int} {out : List (List Int)} {F : List (Nat × Nat)} {p : List Int} (h : RepT n out F) (hp : rooksN p ≤ n) (hF : F.length ≤ 1000000) : RepT n (tab l out p) (F ++ [keyFrom l 0 0 p]) := by
  refine ⟨by unfold BagK.tab; rw [List.length_set]; exact h.len, fun k hk => ?_⟩
  have hkl : rooksN p < out.length := by rw [h.len]; omega
  have hc : ∀ k e, cnt F k e ≤ 1000000 := fun k e => Nat.le_trans (List.count_le_length) hF
  unfold BagK.tab
  rw [List.getD_eq_getElem?_getD, List.getElem?_set]
  by_cases e : rooksN p = k
  · rw [if_pos e, if_pos hkl, Option.getD_some, bump_eq]
    have := addAt_rep (p := (allFree p l 0 0).toNat) (n := 1) (h.rep (rooksN p) (by omega)) (by omega) (by have := hc (rooksN p) (allFree p l 0 0).toNat; omega)
    refine RepC.congr this (fun i => ?_)
    rw [cnt_append, cnt_cons, cnt_nil, Nat.zero_add, e, keyFrom, List.drop_zero]
    simp only []
    by_cases hi : i = (allFree p l 0 0).toNat
    · rw [if_pos hi, if_pos ⟨e.symm, hi⟩]
    · rw [if_neg hi, if_neg (fun h => hi h.2)]; rfl
  · rw [if_neg e, ← List.getD_eq_getElem?_getD]
    refine RepC.congr (h.rep k hk) (fun i => ?_)
    rw [cnt_append, cnt_cons, cnt_nil, Nat.zero_add, keyFrom]
    simp only []
    rw [if_neg (fun h => e h.1.symm), Nat.add_zero]
theorem RepT.fold {n : Nat} {l : List Int} : ∀ (V : List (List Int)) {out : List (List Int)} {F : List (Nat × Nat)}, RepT n out F → (∀ p ∈ V, rooksN p ≤ n) → F.length + V.length ≤ 1000000 → RepT n (V.foldl (BagK.tab l) out) (F ++ V.map (keyFrom l 0 0))
  | [], out, F, h, _, _ => by simpa using h
  | p :: V, out, F, h, hp, hF => by
    rw [List.length_cons] at hF
    have := RepT.fold (l := l) V (h.tab (l := l) (hp p List.mem_cons_self) (by omega)) (fun q hq => hp q (List.mem_cons_of_mem _ hq)) (by rw [List.length_append, List.length_singleton]; omega)
    rw [List.foldl_cons, List.map_cons]
    rwa [List.append_assoc, List.singleton_append] at this
/-- The weights by the walk. -/
def wtab (l : List Int) : List (List Int) := (waysFrom (rowsOf l) l.length l.length 0 0 []).foldl (BagK.tab l) (List.replicate (l.length + 1) [])
theorem rooksN_le (p : List Int) : rooksN p ≤ p.length := List.countP_le_length
theorem ways_len6 {l : List Int} (h : lenB l = true) : (waysFrom (rowsOf l) l.length l.length 0 0 []).length ≤ 117649 := by
  obtain ⟨h1, h2, h3⟩ := len_of h
  have a := ways_len (rowsOf l) l.length l.length 0 0 []
  have b : ∀ R : Fin 7, (R.val + 1) ^ R.val ≤ 117649 := by decide
  have c := b ⟨l.length, by omega⟩
  simp only [] at c
  omega
theorem wtab_rep {l : List Int} (h : lenB l = true) : RepT l.length (wtab l) (Fk l l.length) := by
  have hl := ways_len6 h
  have := RepT.fold (n := l.length) (l := l) (waysFrom (rowsOf l) l.length l.length 0 0 []) (RepT.start l.length) (fun p hp => by
    obtain ⟨s, h1, h2⟩ := ways_pre _ _ _ _ _ _ p hp
    have := rooksN_le p
    rw [h1, List.nil_append] at this
    rw [h1, List.nil_append]
    omega) (by simp; omega)
  rw [ways_keys h, List.nil_append] at this
  exact this

end Go.Proofs.Ytlhblnphfpijkaa.BagK
end
section
namespace Go.Proofs.Ytlhblnphfpijkaa.Q
set_option linter.unusedVariables false
open Go.RowKit Go.Proofs.YtlhblnphfpijkaaW.PrintWords Go.Proofs.YtlhblnphfpijkaaW.PrintLast Go.Proofs.YtlhblnphfpijkaaW.PrintMore
open Go.Proofs.YtlhblnphfpijkaaL Go.Proofs.Ytlhblnphfpijkaa.LawK Go.Proofs.Ytlhblnphfpijkaa.BoardK Go.Proofs.Ytlhblnphfpijkaa.Walk Go.Proofs.Ytlhblnphfpijkaa.LensK Go.Proofs.Ytlhblnphfpijkaa.FreeK Go.Proofs.Ytlhblnphfpijkaa.BagK
def impl_weights.f (l0 : List Int) : Option (List (List Int)) := if lenB l0 = true then some (wtab l0) else none
/-- The blocks that the table may have. -/
def OkW (n : Nat) (S : Nat → Prop) (gl go ab i : Nat) : Prop := n ≤ i ∧ ¬ S i ∧ i ≠ gl ∧ i ≠ go ∧ i ≠ ab
/-- What holds while the placements are told. -/
structure WInv (gl go g c1 ab cb : Nat) (l : List Int) (A0 : Option Addr) (c0 : Nat) (w0 W : World) (S : Nat → Prop) (vis : List (List Int)) (w : World) : Prop where
  cl : w.heap[gl]? = some (.cells #[.slice A0 l.length c0] 22 (0, 0))
  o : w.heap[go]? = some (.cells #[.slice (some ⟨g, 0, none⟩) (l.length + 1) c1] 23 (0, 0))
  b : Kd.R (Kd.int .i64) 3 w 0 (fun i => i = ab) (.slice (some ⟨ab, 0, none⟩) l.length cb) (rowsOf l)
  r : Kd.S (Kd.slice 3 (Kd.int .i64)) 22 w w0.heap.size (OkW w0.heap.size S gl go ab) (.slice (some ⟨g, 0, none⟩) (l.length + 1) c1) (vis.foldl (tab l) (List.replicate (l.length + 1) []))
  B : Below w0.heap.size w0 w
  s : ∀ i, S i → W.heap.size ≤ i
theorem allFree_bd (p : List Int) : ∀ (l : List Int) (i : Nat) (n : Int), (∀ x ∈ l, x ≤ 6) → n ≤ allFree p l i n ∧ allFree p l i n ≤ n + 6 * l.length
  | [], i, n, _ => by simp [allFree]
  | m :: t, i, n, h => by
    have h1 := rowFree_bound p i m.toNat 0 n
    have h2 := allFree_bd p t (i + 1) (rowFree p i m.toNat 0 n) (fun x hx => h x (List.mem_cons_of_mem _ hx))
    have h3 := h m List.mem_cons_self
    rw [allFree, List.length_cons]
    omega
theorem two_ev {α β : Type} {f : Nat → Option α} {g : Nat → Option β} {a : α} {b : β} (h : Ev f a) (k : Ev g b) : ∃ n, f n = some a ∧ g n = some b := by
  obtain ⟨K, h⟩ := h
  obtain ⟨K', k⟩ := k
  exact ⟨max K K', h _ (by omega), k _ (by omega)⟩
theorem rowsOf_bits {l : List Int} (h : lenB l = true) : ∀ i (hi : i < (rowsOf l).length), 0 ≤ (rowsOf l)[i] ∧ (rowsOf l)[i] < 2 ^ l.length := by
  obtain ⟨h1, h2, h3⟩ := len_of h
  intro i hi
  have hi2 : i < l.length := by simpa [rowsOf] using hi
  have h4 := h3 i hi2
  have e : (rowsOf l)[i] = 2 ^ l[i].toNat - 1 := by simp [rowsOf]
  have h5 : 2 ^ l[i].toNat ≤ 2 ^ l.length := Nat.pow_le_pow_right (by decide) (by omega)
  have h6 : 0 < 2 ^ l[i].toNat := Nat.two_pow_pos _
  have h7 : ((2 ^ l[i].toNat : Nat) : Int) = 2 ^ l[i].toNat := by simp
  have h8 : ((2 ^ l.length : Nat) : Int) = 2 ^ l.length := by simp
  rw [e]
  omega
set_option maxHeartbeats 8000000 in
set_option maxRecDepth 100000 in
theorem impl_weights.calls (A0 : Option Addr) (c0 : Nat) (l0 : List Int) (r : List (List Int)) (w : World) (hr0 : Kd.C (Kd.int .i64) w A0 l0.length l0) (hc0 : l0.length ≤ c0) (h : impl_weights.f l0 = some r) :
    Calls Try.prog 82 #[.slice A0 l0.length c0] w fun e w' => ∃ v0_ : Value, e = .returned (v0_) ∧ Kd.S (Kd.slice 3 (Kd.int .i64)) 22 w' w.heap.size (fun _ => True) v0_ r ∧ Below w.heap.size w w' := by
  by_cases hs : lenB l0 = true
  rotate_left
  · rw [impl_weights.f, if_neg hs] at h; cases h
  rw [impl_weights.f, if_pos hs] at h
  have h := Option.some.inj h
  obtain ⟨h1, h6, h3⟩ := len_of hs
  have hx6 : ∀ x ∈ l0, x ≤ 6 := fun x hx => by obtain ⟨i, hi, rfl⟩ := List.mem_iff_getElem.1 hx; have := h3 i hi; omega
  have rl : (rowsOf l0).length = l0.length := by simp [rowsOf]
  obtain ⟨kb, hkb⟩ := (impl_board hs).rounds
  have CB := Lib.hid (fun (W : World) (hb : Below w.heap.size w W) => by
    have := impl_boardOf.calls kb A0 c0 l0 _ _ _ W (Kd.C_below hr0 hb) hc0 hkb
    exact this)
  have KEY : ∀ (W : World) (gl go g c1 ab cb : Nat), Below w.heap.size w W → w.heap.size ≤ gl → w.heap.size ≤ go → gl < W.heap.size → go < W.heap.size → ab < W.heap.size → gl ≠ go → gl ≠ ab → go ≠ ab → l0.length ≤ cb → 
      WInv gl go g c1 ab cb l0 A0 c0 w W (fun _ => False) [] W →
      Calls Try.prog 112 #[.agg #[.int .i64 (l0.length : Int), .int .i64 (l0.length : Int), .slice (some ⟨ab, 0, none⟩) l0.length cb], .func (.func 113) #[] #[.pointer (some ⟨gl, 0, none⟩), .pointer (some ⟨go, 0, none⟩)]] W fun e w' => e = .returned (.tuple #[]) ∧
        ∃ v, w'.heap[go]? = some (.cells #[v] 23 (0, 0)) ∧ Kd.S (Kd.slice 3 (Kd.int .i64)) 22 w' w.heap.size (fun _ => True) v r ∧ Below w.heap.size w w' := by
    intro W gl go g c1 ab cb hBW bl bo ll lo lb nlo nla noa hcb hst
    have key := WalkW.walk_calls (WInv gl go g c1 ab cb l0 A0 c0 w W)
      (by
        intro S vis w1 w2 hi hs1
        have kp : ∀ g, g < W.heap.size → ∀ {o}, w1.heap[g]? = some o → w2.heap[g]? = some o := fun g hg o ho => (hs1.kept.2 g (blk_lt ho) (fun h => by have := hi.s g h; omega)).trans ho
        exact ⟨kp gl ll hi.cl, kp go lo hi.o, Kd.R_step hi.b (fun i hi' hlt => by subst hi'; exact hs1.kept.2 _ hlt (fun h => by have := hi.s _ h; omega)), Kd.S_step hi.r (fun i hi' hlt => hs1.kept.2 i hlt hi'.2.1), Still.below hi.B hs1 (fun i h => Nat.le_trans hBW.size (hi.s i h)), hi.s⟩)
      l0.length l0.length l0.length l0.length rfl rfl (rowsOf l0) (some ⟨ab, 0, none⟩) cb (by rw [rl]; exact hcb) (.pointer (some ⟨gl, 0, none⟩)) (.pointer (some ⟨go, 0, none⟩))
      (fun S vis w1 hi => by have := (Kd.R_reads' hi.b).2.2; exact this)
      rl h1 h6 h6 (rowsOf_bits hs) W
      (by
        intro S w1 hS hB1
        exact ⟨blk_below hst.cl hB1, blk_below hst.o hB1, Kd.R_below hst.b hB1, Kd.S_below (Kd.S_mono (Kd.S_bound hst.r) (fun i hi' => ⟨hi'.1.1, fun h => by have := hS i h; have := hi'.2.2.1; omega, hi'.1.2.2⟩)) hB1, hBW.trans (hB1.mono hBW.size), hS⟩)
      (by
        intro S vis ps w1 a cp hS hSlt hps hmem hSa hC hcp hi
        obtain ⟨b, hb2⟩ := hmem
        have hwl := ways_len6 hs
        rw [hb2, List.length_append, List.length_cons] at hwl
        have hvp : ∀ p ∈ vis, rooksN p ≤ l0.length := fun p hp => by
          obtain ⟨s, e1, e2⟩ := ways_pre (rowsOf l0) l0.length l0.length 0 0 [] p (by rw [hb2]; exact List.mem_append_left _ hp)
          have := rooksN_le p
          rw [e1, List.nil_append] at this ⊢
          omega
        have hT := RepT.fold (n := l0.length) (l := l0) vis (RepT.start l0.length) hvp (by simp; omega)
        rw [List.nil_append] at hT
        have hrk := rooksN_le ps
        have hfb := allFree_bd ps l0 0 0 hx6
        obtain ⟨eI, heI⟩ : ∃ eI : Nat, allFree ps l0 0 0 = eI := ⟨(allFree ps l0 0 0).toNat, by omega⟩
        have hev1 : Ev (fun k => impl_rooks.f k ps) (rooksN ps : Int) := by
          have h := rooks_l0 (l := ps) (by omega) ps.length 0 0 (by omega) (by omega)
          rw [List.drop_zero, Nat.zero_add] at h
          exact h
        have hev2 : Ev (fun k => impl_free.f k l0 ps) (eI : Int) := by
          have h := impl_rows (l := l0) (p := ps) h6 (fun i hi => by have := h3 i hi; omega) hps l0.length 0 0 (by omega) (by omega) (by omega)
          rw [List.drop_zero, heI] at h
          exact h
        obtain ⟨kk, hk1, hk2⟩ := two_ev hev1 hev2
        have hir := hi.r
        have hio := hi.o
        obtain ⟨out, hout⟩ : ∃ out, out = vis.foldl (tab l0) (List.replicate (l0.length + 1) []) := ⟨_, rfl⟩
        rw [← hout] at hT hir
        have hlen := hT.len
        have hkl : rooksN ps < out.length := by omega
        have hrow : out[rooksN ps]? = some (out.getD (rooksN ps) []) := by
          rw [List.getD_eq_getElem?_getD, List.getElem?_eq_getElem hkl]; rfl
        have hrep := hT.rep (rooksN ps) (by omega)
        have hshort : (out.getD (rooksN ps) []).length ≤ 1000 := by
          rcases Nat.eq_zero_or_pos (out.getD (rooksN ps) []).length with q | q
          · omega
          · have hne := hrep.last ((out.getD (rooksN ps) []).length - 1) (by omega)
            have hin := List.count_pos_iff.1 (Nat.pos_of_ne_zero hne)
            obtain ⟨p, hp, hpe⟩ := List.mem_map.1 hin
            have hpb := allFree_bd p l0 0 0 hx6
            unfold keyFrom at hpe
            rw [List.drop_zero] at hpe
            have := congrArg Prod.snd hpe
            simp only [] at this
            omega
        have hlo : l0.length + 1 = out.length := hlen.symm
        rw [hlo] at hio hir
        have hww : w.heap.size ≤ w1.heap.size := hi.B.size
        refine (W1.w1_calls (rooksN ps) eI l0.length cp a gl go w.heap.size kk g c1 l0 ps out A0 c0 _ (OkW w.heap.size S gl go ab) w1 hps hcp hc0 hC (Kd.C_below hr0 hi.B) hi.cl hio (fun k h => h.2.2.2.1) hww (fun k hk' => ⟨Nat.le_trans hww hk', fun h => by have := hSlt k h; omega, fun h => by have := blk_lt hi.cl; omega, fun h => by have := blk_lt hi.o; omega, fun h => by obtain ⟨cells, hc⟩ := Kd.R_typed hi.b ab rfl; have := blk_lt hc; omega⟩) hir hkl (by omega) hrow hshort (by omega) hk1 hk2).mono ?_
        rintro e w2 ⟨rfl, hS2, hK, hB2⟩
        refine ⟨rfl, ⟨blk_kept hi.cl hK (fun h => h.2.2.1 rfl), blk_kept hi.o hK (fun h => h.2.2.2.1 rfl), Kd.R_step hi.b (fun i hi' hlt => by subst hi'; exact hK.2 _ hlt (fun h => h.2.2.2.2 rfl)), ?_, hi.B.trans hB2, hi.s⟩, fun i hSi hlt => hK.2 i hlt (fun h => h.2.1 hSi)⟩
        rw [List.foldl_append, List.foldl_cons, List.foldl_nil, ← hout]
        rw [← hlo] at hS2
        unfold tab
        rw [heI]
        exact hS2)
    rw [rl] at key
    refine key.mono ?_
    rintro e w' ⟨rfl, S, hS, hi⟩
    exact ⟨rfl, _, hi.o, by rw [← h]; exact Kd.S_mono hi.r (fun _ _ => trivial), hi.B⟩
  have KX := Lib.hid KEY
  have HL := Aside0.mk (And.intro h1 (And.intro h6 rl))
  obtain ⟨ji, hji⟩ : ∃ j_ : Int, (wrap64 ((l0.length : Int) + 1)) = j_ := ⟨_, rfl⟩
  have hjiw : (IntKind.i64.wrap ((l0.length : Int) + 1)) = ji := (i64_w _).trans hji
  have hj2 : ji = ((l0.length + 1 : Nat) : Int) := by rw [← hji, w64 (by omega) (by omega)]; rfl
  have HJ := Aside0.mk hj2
  have hj0 : decide (0 ≤ ji) = true := decide_eq_true (by omega)
  clear KEY h hs h1 h6 h3 hx6 rl hkb hr0 hc0 hj2 hji
  have hu79 := Try.underlying79
  go_enter Try.func82, Try.ntmps82
  go_wp2_with (first
    | ((with_reducible refine gate_dst (N := 1) rfl ?_); refine box_event ?hg (N := 1) ?hd (cs := #[.slice A0 l0.length c0]) (t := 22) ?hr ?_; (case hd => rfl); (case hg => rfl); (case hr => first | (go_simp; done) | (go_simp; rfl)); intro gl hg w1 hbox hb; have G1 := Aside0.mk hg; have K1 := Aside0.mk hbox; have B1 := Aside0.mk hb; clear hg hbox hb; have z1 : w1.cell? ⟨gl, 0, none⟩ = some (.slice A0 l0.length c0) := (blk_cell K1.out 0).trans rfl)
    | ((with_reducible refine gate_dst (N := 7) rfl ?_); refine Kd.S_make (Kd.slice 3 (Kd.int .i64)) _ 22 rfl (N := 7) rfl 23 _ _ rfl ji rfl rfl Try.underlying23 (.slice none 0 0) 24 info22 rfl (by decide) (by omega) [] (ok := fun _ => True) (okp := fun _ => True) ⟨_, rfl, Kd.R_nil _ _ _ _ _⟩ (fun _ hk => hk) trivial (by have := HJ.out; omega) (by have := HJ.out; have := HL.out; omega) (Below.refl _ _) (Nat.le_refl _) ?_; intro v2 w2 ho hb hg_ hnew_; clear hg_ hnew_; rw [HJ.out, Int.toNat_natCast] at ho; obtain ⟨g, c1, ev2, hg1, hg2, cells2, hc2⟩ := Kd.S_form ho (by rw [List.length_replicate]; omega); rw [List.length_replicate] at ev2; subst ev2; have G2 := Aside0.mk (And.intro hg1 hg2); have O2 := Aside0.mk ho; have K2 := Aside0.mk (blk_below K1.out hb); have B2 := Aside0.mk hb; clear hg1 hg2 hc2 ho hb)
    | ((with_reducible refine gate_dst (N := 3) rfl ?_); refine box_event ?hg (N := 3) ?hd (cs := #[.slice none 0 0]) (t := 23) ?hr ?_; (case hd => rfl); (case hg => rfl); (case hr => first | (go_simp; done) | (go_simp; rfl)); intro go hg w3 hbox hb; have G3 := Aside0.mk hg; have K3 := Aside0.mk hbox; have B3 := Aside0.mk hb; clear hg hbox hb; have y1 : w3.cell? ⟨go, 0, none⟩ = some (.slice none 0 0) := (blk_cell K3.out 0).trans rfl; have f1 : w3.frozen? ⟨go, 0, none⟩ = false := blk_frozen K3.out 0; have nlo := Aside0.mk (show gl ≠ go from Nat.ne_of_lt (by rw [G3.out]; exact blk_lt K2.out)); have z5 : (w3.setCell ⟨go, 0, none⟩ (.slice (some ⟨g, 0, none⟩) (l0.length + 1) c1)).cell? ⟨gl, 0, none⟩ = some (.slice A0 l0.length c0) := (blk_cell (blk_far (blk_below K2.out B3.out) nlo.out _) 0).trans rfl)
    | (go_at_call 111; refine (CB.out _ ?sb).mono ?_; (case sb => (have o1 := blk_lt K1.out; have o2 := G1.out; have o3 := G3.out; have o4 := blk_lt K2.out; exact Below.setCell ((B1.out.trans (B2.out.mono (by omega))).trans (B3.out.mono (by omega))) (by (try simp only []); omega) _)); rintro e w4 ⟨v4, rfl, ho, hb⟩; obtain ⟨ab, cb, hv4, hab, hab2, cells4, hc4⟩ := Kd.R_form ho (by rw [HL.out.2.2]; exact HL.out.1); rw [HL.out.2.2] at hv4; subst hv4; have G4 := Aside0.mk (And.intro hab hab2); have O4 := Aside0.mk ho; have B4 := Aside0.mk hb; have K4 := Aside0.mk (blk_below (blk_far (blk_below K2.out B3.out) nlo.out _) hb); have K4b := Aside0.mk (blk_below (blk_put K3.out 0 _ rfl) hb); clear hab hab2 hc4 ho hb)
    | (go_at_call 112; (refine (KX.out _ gl go g c1 ab cb ?sB ?s1 ?s2 ?s3 ?s4 ?s5 ?s6 ?s7 ?s8 ?s9 ?sw).mono ?_); (all_goals have o1 := G1.out); (all_goals have o2 := blk_lt K1.out); (all_goals have o3 := G2.out); (all_goals have o4 := G3.out); (all_goals have o5 := G4.out); (all_goals have o6 := blk_lt K2.out); (all_goals have o7 := blk_lt K3.out); (all_goals have o8 : ∀ v, (w3.setCell ⟨go, 0, none⟩ v).heap.size = w3.heap.size := (fun v => by simp [World.setCell])); (all_goals rw [o8] at o5); (all_goals have o9 := blk_lt K4.out); (all_goals have o10 := blk_lt K4b.out); (all_goals have bb : Below w.heap.size w w4 := ((Below.setCell ((B1.out.trans (B2.out.mono (by omega))).trans (B3.out.mono (by omega))) (by (try simp only []); omega) _).trans (B4.out.mono (by rw [o8]; omega)))); (case sB => exact bb); (case s1 => omega); (case s2 => omega); (case s3 => omega); (case s4 => omega); (case s5 => omega); (case s6 => exact nlo.out); (case s7 => omega); (case s8 => omega); (case s9 => exact (Kd.R_reads' O4.out).2.1); (case sw => exact ⟨K4.out, K4b.out, Kd.R_mono (Kd.R_lower (Kd.R_tight rfl O4.out) (Nat.zero_le _)) (fun i hi => (by simpa [Value.ownBlock] using hi : i = ab)), Kd.S_below (Kd.S_far (p := ⟨go, 0, none⟩) (Kd.S_mono (Kd.S_below (Kd.S_lower (Kd.S_bound O2.out) (by omega)) B3.out) (ok' := OkW w.heap.size (fun _ => False) gl go ab) (fun i hi => (by have q1 := hi.2.1; have q2 := hi.2.2.1; exact ⟨by omega, fun h => h, by omega, by omega, by omega⟩))) (fun k hk => hk.2.2.2.1) _) B4.out, bb, fun i hi => hi.elim⟩); clear o1 o2 o3 o4 o5 o6 o7 o8 o9 o10 bb; rintro e w7 ⟨rfl, v7, hf1, hf2, hf3⟩; have F2 := Aside0.mk hf2; have F3 := Aside0.mk hf3; have y7 : w7.cell? ⟨go, 0, none⟩ = some v7 := (blk_cell hf1 0).trans rfl; clear hf1 hf2 hf3))
  go_ret
  exact ⟨_, rfl, F2.out, F3.out⟩
end Go.Proofs.Ytlhblnphfpijkaa.Q
end
section
namespace Go.Proofs.Ytlhblnphfpijkaa.Q
open Go.RowKit Go.Proofs.YtlhblnphfpijkaaW.PrintWords Go.Proofs.YtlhblnphfpijkaaW.PrintLast Go.Proofs.YtlhblnphfpijkaaW.PrintMore
attribute [local go_sem] max2_int min2_int max_two min_two max_three min_three max_four min_four   -- for this text's walks alone
set_option linter.unusedVariables false
set_option linter.unusedSimpArgs false

/-! ### impl_WeightedSumAt: function 40 -/
mutual
def impl_WeightedSumAt.l0 : Nat → List Int → Int → Int → Int → List (List Int) → Int → Int → Option (Int × Bool)
  | 0, _, _, _, _, _, _, _ => none
  | k + 1, x0, x1, x2, x8, x19, x20, x21 => if x21 < x20 then (if 0 ≤ x21 then (if x21 < (x19.length : Int) then ((impl_at.f k (rd_L1 x19 x21) x1).bind fun t106 => (impl_WeightedSumAt.l1 k x0 x1 x2 x8 t106 x19 x20 x21 (wrap64 ((x0.length : Int) - x21)) 0)) else (none)) else (none)) else (some (x8, true))
def impl_WeightedSumAt.l1 : Nat → List Int → Int → Int → Int → Int → List (List Int) → Int → Int → Int → Int → Option (Int × Bool)
  | 0, _, _, _, _, _, _, _, _, _, _ => none
  | k + 1, x0, x1, x2, x8, x11, x19, x20, x21, x32, x33 => if x33 < x32 then ((impl_bracket.f k (wrap64 (x2 - x33)) x1).bind fun t107 => (impl_WeightedSumAt.l1 k x0 x1 x2 x8 (wrap64 (x11 * t107)) x19 x20 x21 x32 (wrap64 (x33 + 1)))) else (impl_WeightedSumAt.l0 k x0 x1 x2 (wrap64 (x8 + x11)) x19 x20 (wrap64 (x21 + 1)))
end
def impl_WeightedSumAt.f (k : Nat) (l0 : List Int) (a1 : Int) (a2 : Int) : Option (Int × Bool) := (impl_isWeighted.f k l0 a1 a2).bind fun t101 => (if t101 = true then ((impl_weights.f l0).bind fun t102 => (impl_WeightedSumAt.l0 k l0 a1 a2 0 t102 (t102.length : Int) 0)) else (some (0, false)))
theorem impl_WeightedSumAt.mono_l : ∀ k, (∀ y0 y1 y2 y3 y4 y5 y6, LeO (impl_WeightedSumAt.l0 k y0 y1 y2 y3 y4 y5 y6) (impl_WeightedSumAt.l0 (k + 1) y0 y1 y2 y3 y4 y5 y6)) ∧ (∀ y0 y1 y2 y3 y4 y5 y6 y7 y8 y9, LeO (impl_WeightedSumAt.l1 k y0 y1 y2 y3 y4 y5 y6 y7 y8 y9) (impl_WeightedSumAt.l1 (k + 1) y0 y1 y2 y3 y4 y5 y6 y7 y8 y9))
  | 0 => ⟨fun _ _ _ _ _ _ _ r h => by simp [impl_WeightedSumAt.l0] at h, fun _ _ _ _ _ _ _ _ _ _ r h => by simp [impl_WeightedSumAt.l1] at h⟩
  | k + 1 => by
    obtain ⟨ih0, ih1⟩ := impl_WeightedSumAt.mono_l k
    refine ⟨?_, ?_⟩
    · intro y0 y1 y2 y3 y4 y5 y6
      unfold impl_WeightedSumAt.l0
      repeat' first
      | (with_reducible exact ih0 _ _ _ _ _ _ _)
      | (with_reducible exact ih1 _ _ _ _ _ _ _ _ _ _)
      | (with_reducible exact impl_at.mono _ _ _)
      | (with_reducible exact impl_bracket.mono _ _ _)
      | (with_reducible exact impl_isWeighted.mono _ _ _ _)
      | (with_reducible exact LeO.refl _)
      | (with_reducible exact LeO.none _)
      | (with_reducible refine LeO.ite ?_ ?_)
      | (with_reducible refine LeO.bind ?_ (fun _ => ?_))
      | exact ih0 _ _ _ _ _ _ _
      | exact ih1 _ _ _ _ _ _ _ _ _ _
      | exact impl_at.mono _ _ _
      | exact impl_bracket.mono _ _ _
      | exact impl_isWeighted.mono _ _ _ _
      | exact LeO.none _
      | refine LeO.ite ?_ ?_
      | refine LeO.bind ?_ (fun _ => ?_)
    · intro y0 y1 y2 y3 y4 y5 y6 y7 y8 y9
      unfold impl_WeightedSumAt.l1
      repeat' first
      | (with_reducible exact ih0 _ _ _ _ _ _ _)
      | (with_reducible exact ih1 _ _ _ _ _ _ _ _ _ _)
      | (with_reducible exact impl_at.mono _ _ _)
      | (with_reducible exact impl_bracket.mono _ _ _)
      | (with_reducible exact impl_isWeighted.mono _ _ _ _)
      | (with_reducible exact LeO.refl _)
      | (with_reducible exact LeO.none _)
      | (with_reducible refine LeO.ite ?_ ?_)
      | (with_reducible refine LeO.bind ?_ (fun _ => ?_))
      | exact ih0 _ _ _ _ _ _ _
      | exact ih1 _ _ _ _ _ _ _ _ _ _
      | exact impl_at.mono _ _ _
      | exact impl_bracket.mono _ _ _
      | exact impl_isWeighted.mono _ _ _ _
      | exact LeO.none _
      | refine LeO.ite ?_ ?_
      | refine LeO.bind ?_ (fun _ => ?_)
theorem impl_WeightedSumAt.mono : ∀ a0 a1 a2 k, LeO (impl_WeightedSumAt.f k a0 a1 a2) (impl_WeightedSumAt.f (k + 1) a0 a1 a2) := by
  intro a0 a1 a2 k
  obtain ⟨ih0, ih1⟩ := impl_WeightedSumAt.mono_l k
  unfold impl_WeightedSumAt.f
  repeat' first
      | (with_reducible exact ih0 _ _ _ _ _ _ _)
      | (with_reducible exact ih1 _ _ _ _ _ _ _ _ _ _)
      | (with_reducible exact impl_at.mono _ _ _)
      | (with_reducible exact impl_bracket.mono _ _ _)
      | (with_reducible exact impl_isWeighted.mono _ _ _ _)
      | (with_reducible exact LeO.refl _)
      | (with_reducible exact LeO.none _)
      | (with_reducible refine LeO.ite ?_ ?_)
      | (with_reducible refine LeO.bind ?_ (fun _ => ?_))
      | exact ih0 _ _ _ _ _ _ _
      | exact ih1 _ _ _ _ _ _ _ _ _ _
      | exact impl_at.mono _ _ _
      | exact impl_bracket.mono _ _ _
      | exact impl_isWeighted.mono _ _ _ _
      | exact LeO.none _
      | refine LeO.ite ?_ ?_
      | refine LeO.bind ?_ (fun _ => ?_)
set_option maxHeartbeats 8000000 in
set_option maxRecDepth 100000 in
theorem impl_WeightedSumAt.calls (k : Nat) (A0 : Option Addr) (c0 : Nat) (l0 : List Int) (a1 : Int) (a2 : Int) (r1 : Int) (r2 : Bool) (w : World) (hr0 : Kd.C (Kd.int .i64) w A0 l0.length l0) (hc0 : l0.length ≤ c0) (h : impl_WeightedSumAt.f k l0 a1 a2 = some (r1, r2)) :
    Calls Try.prog 40 #[.slice A0 l0.length c0, .int .i64 a1, .int .i64 a2] w fun e w' => e = .returned (.tuple #[.int .i64 r1, .bool r2]) ∧ Below w.heap.size w w' := by
  have HR0 := Aside0.mk hr0
  have HC0 := Aside0.mk hc0
  clear hr0 hc0
  have HB := Aside0.mk (Below.refl w.heap.size w)
  have H : ((impl_isWeighted.f k l0 a1 a2).bind fun t101 => (if t101 = true then ((impl_weights.f l0).bind fun t102 => (impl_WeightedSumAt.l0 k l0 a1 a2 0 t102 (t102.length : Int) 0)) else (some (0, false)))) = some (r1, r2) := h
  clear h
  replace H := Option.bind_eq_some_iff.mp H
  obtain ⟨t101, A40, H⟩ := H
  replace H : (if t101 = true then ((impl_weights.f l0).bind fun t102 => (impl_WeightedSumAt.l0 k l0 a1 a2 0 t102 (t102.length : Int) 0)) else (some (0, false))) = some (r1, r2) := H
  have A4 := Aside0.mk A40
  clear A40
  by_cases c5 : t101 = true
  · subst c5
    have H1 : ((impl_weights.f l0).bind fun t102 => (impl_WeightedSumAt.l0 k l0 a1 a2 0 t102 (t102.length : Int) 0)) = some (r1, r2) := by rw [if_pos rfl] at H; exact H
    clear H
    have H := H1
    clear H1
    replace H := Option.bind_eq_some_iff.mp H
    obtain ⟨t102, A60, H⟩ := H
    replace H : (impl_WeightedSumAt.l0 k l0 a1 a2 0 t102 (t102.length : Int) 0) = some (r1, r2) := H
    have A6 := Aside0.mk A60
    clear A60
    have H' := Aside0.mk H
    clear H
    go_enter Try.func40, Try.ntmps40
    go_wp2_with (first | ((with_reducible refine gate_callee (f := 87) rfl ?_); refine goesL_ (some 16) rfl rfl Try.func87 (by kernel_rfl) rfl #[.slice A0 l0.length c0, .int .i64 a1, .int .i64 a2] rfl (by (try simp only [List.map_toArray, List.map_cons, List.map_nil]); first | done | rfl | (simp only [List.length_drop, List.length_take]; rfl)) ?_; (with_reducible refine (impl_isWeighted.calls k _ _ l0 a1 a2 true _ ?side1 ?side2 A4.out).mono ?_); (case side1 => repeat (first | exact HR0.out | (with_reducible refine Kd.C_alloc ?_ _) | (with_reducible refine Kd.C_drewN ?_ _) | (with_reducible refine Kd.C_drew ?_))); (case side2 => exact HC0.out); rintro e w' ⟨rfl, ⟨nd, rfl⟩⟩; refine ⟨_, rfl, ?_⟩) | ((with_reducible refine gate_callee (f := 82) rfl ?_); refine goesL_ (some 19) rfl rfl Try.func82 (by kernel_rfl) rfl #[.slice A0 l0.length c0] rfl (by (try simp only [List.map_toArray, List.map_cons, List.map_nil]); first | done | rfl | (simp only [List.length_drop, List.length_take]; rfl)) ?_; (with_reducible refine (impl_weights.calls _ _ l0 t102 _ ?side1 ?side2 A6.out).mono ?_); (case side1 => repeat (first | exact HR0.out | (with_reducible refine Kd.C_alloc ?_ _) | (with_reducible refine Kd.C_drewN ?_ _) | (with_reducible refine Kd.C_drew ?_))); (case side2 => exact HC0.out); rintro e w7 ⟨v103, rfl, ho0, hb⟩; refine ⟨_, rfl, ?_⟩; have n0_ := Aside0.mk (Kd.S_lower ho0 (below_size (by repeat (first | (with_reducible first | exact HB.out | apply below_alloc | apply pw_below_drewN | apply below_drew1) | exact HB.out)))); have n1_ := Aside0.mk (below_step (by repeat (first | (with_reducible first | exact HB.out | apply below_alloc | apply pw_below_drewN | apply below_drew1) | exact HB.out)) hb); clear HB; have HO104 := n0_; have HB := n1_; clear n0_ n1_; (try clear hb); (try clear hb2); (try clear hk); (try clear hi); (try clear ho0); obtain ⟨Ao8, co8, eo8⟩ := Kd.S_slice HO104.out; subst eo8))
    go_loopg [8, 21] k (fun kq v8 v21 w' => ∃ (x8_1 : Int) (x21_1 : Int), v8 = .int .i64 x8_1 ∧ v21 = .int .i64 x21_1 ∧ Aside0 (impl_WeightedSumAt.l0 kq l0 a1 a2 x8_1 t102 (t102.length : Int) x21_1 = some (r1, r2)) ∧ Aside0 (kq ≤ k) ∧ Aside0 (Kd.S (Kd.slice 3 (Kd.int .i64)) 22 w' w.heap.size (fun _ => True) (.slice Ao8 t102.length co8) t102) ∧ Aside0 (Below w.heap.size w w'))
    case atStart => exact ⟨(0), (0), (by first | rfl | (simp; done) | (simp [*]; done)), (by first | rfl | (simp; done) | (simp [*]; done)), H', ⟨Nat.le_refl _⟩, ⟨by (with_reducible repeat (first | apply Kd.S_alloc | apply Kd.S_drewN | apply Kd.S_drew)); exact HO104.out⟩, ⟨by repeat (first | (with_reducible first | exact HB.out | apply below_alloc | apply pw_below_drewN | apply below_drew1) | exact HB.out)⟩⟩
    case round =>
      clear H'
      try clear p2
      try clear c4
      try clear c5
      try clear c8
      obtain ⟨x8_1, x21_1, rfl, rfl, HA, HK1, HO_19, HB⟩ := hrel
      cases gk with
      | zero => exact absurd HA.out (by simp [impl_WeightedSumAt.l0])
      | succ k1 =>
        have H := HA.out
        clear HA
        simp only [impl_WeightedSumAt.l0] at H
        by_cases c9 : x21_1 < (t102.length : Int)
        · rw [if_pos c9] at H
          have c9b0 : decide (x21_1 < (t102.length : Int)) = true := decide_eq_true c9
          clear c9
          by_cases c10 : 0 ≤ x21_1
          · rw [if_pos c10] at H
            have c10b0 : decide (0 ≤ x21_1) = true := decide_eq_true c10
            clear c10
            by_cases c11 : x21_1 < (t102.length : Int)
            · rw [if_pos c11] at H
              have c11b0 : decide (x21_1 < (t102.length : Int)) = true := decide_eq_true c11
              clear c11
              replace H := Option.bind_eq_some_iff.mp H
              obtain ⟨t106, A120, H⟩ := H
              replace H : (impl_WeightedSumAt.l1 k1 l0 a1 a2 x8_1 t106 t102 (t102.length : Int) x21_1 (wrap64 ((l0.length : Int) - x21_1)) 0) = some (r1, r2) := H
              have A12 := Aside0.mk A120
              clear A120
              have H' := Aside0.mk H
              clear H
              have p105 : 0 ≤ (x21_1 : Int) := of_decide_eq_true (by first | (with_reducible assumption) | assumption)
              have q105 : x21_1 < (t102.length : Int) := of_decide_eq_true (by first | (with_reducible assumption) | assumption)
              obtain ⟨ad105, A105_0, c105_0, e105, hx105_0, hl105_0, hi105_0⟩ := at_L1 (Kd.S_reads' HO_19.out).2.2 x21_1 p105 q105
              cases e105
              obtain ⟨ce105, hce105, hMe105, hcc105⟩ := Kd.S_get HO_19.out [] x21_1 p105 (by first | exact q105 | exact of_decide_eq_true (by first | (with_reducible assumption) | assumption) | (have e_ := (Kd.S_reads' HO_19.out).1; omega))
              obtain ⟨ve105_0, rfl, ge105_0⟩ := hMe105
              have hv105_0 := hcc105 0 _ rfl
              rw [Nat.add_zero, show ((Kd.slice 3 (Kd.int .i64))).sz = 1 from rfl, Nat.mul_one] at hv105_0
              replace hv105_0 := Option.some.inj (hv105_0.symm.trans hx105_0)
              rw [hv105_0] at ge105_0
              have HL105_0 := Aside0.mk (show Kd.R (Kd.int .i64) 3 _ _ _ _ (rd_L1 t102 x21_1) from ge105_0)
              clear hv105_0 ge105_0
              clear hcc105 hce105
              have HR105_0 := Aside0.mk hi105_0
              have HC105_0 := Aside0.mk hl105_0
              clear hi105_0 hl105_0
              replace p105 := eq_true p105
              replace q105 := eq_true q105
              go_wp2_with (first | ((with_reducible refine gate_callee (f := 84) rfl ?_); refine goesL_ (some 28) rfl rfl Try.func84 (by kernel_rfl) rfl #[.slice A105_0 (rd_L1 t102 x21_1).length c105_0, .int .i64 a1] rfl (by (try simp only [List.map_toArray, List.map_cons, List.map_nil]); first | done | rfl | (simp only [List.length_drop, List.length_take]; rfl)) ?_; (with_reducible refine (impl_at.calls k1 _ _ (rd_L1 t102 x21_1) a1 t106 _ ?side1 ?side2 A12.out).mono ?_); (case side1 => repeat (first | exact (by repeat (first | (with_reducible exact HR105_0.out) | (with_reducible refine Kd.C_alloc ?_ _) | (with_reducible refine Kd.C_drewN ?_ _) | (with_reducible refine Kd.C_drew ?_) | exact HR105_0.out)) | (with_reducible refine Kd.C_alloc ?_ _) | (with_reducible refine Kd.C_drewN ?_ _) | (with_reducible refine Kd.C_drew ?_))); (case side2 => exact HC105_0.out); rintro e w' ⟨rfl, ⟨nd, rfl⟩⟩; refine ⟨_, rfl, ?_⟩))
              go_loopg [11, 33] k1 (fun kq v11 v33 w' => ∃ (x11_2 : Int) (x33_2 : Int), v11 = .int .i64 x11_2 ∧ v33 = .int .i64 x33_2 ∧ Aside0 (impl_WeightedSumAt.l1 kq l0 a1 a2 x8_1 x11_2 t102 (t102.length : Int) x21_1 (wrap64 ((l0.length : Int) - x21_1)) x33_2 = some (r1, r2)) ∧ Aside0 (kq ≤ k1) ∧ Aside0 (Kd.S (Kd.slice 3 (Kd.int .i64)) 22 w' w.heap.size (fun _ => True) (.slice (some ad105) t102.length co8) t102) ∧ Aside0 (Kd.C (Kd.int .i64) w' A105_0 (rd_L1 t102 x21_1).length (rd_L1 t102 x21_1)) ∧ Aside0 (Below w.heap.size w w'))
              case atStart => exact ⟨(t106), (0), (by first | rfl | (simp; done) | (simp [*]; done)), (by first | rfl | (simp; done) | (simp [*]; done)), H', ⟨Nat.le_refl _⟩, ⟨by (with_reducible repeat (first | apply Kd.S_alloc | apply Kd.S_drewN | apply Kd.S_drew)); exact HO_19.out⟩, ⟨by repeat (first | (with_reducible exact HR105_0.out) | (with_reducible refine Kd.C_alloc ?_ _) | (with_reducible refine Kd.C_drewN ?_ _) | (with_reducible refine Kd.C_drew ?_) | exact HR105_0.out)⟩, ⟨by repeat (first | (with_reducible first | exact HB.out | apply below_alloc | apply pw_below_drewN | apply below_drew1) | exact HB.out)⟩⟩
              case round =>
                clear H'
                try clear c1
                try clear p1
                try clear q1
                try clear hx1
                try clear p2
                try clear c4
                try clear c5
                try clear p6
                try clear c8
                try clear c9
                try clear c9b0
                try clear c10
                try clear c10b0
                try clear p10
                try clear q10
                try clear hx10
                try clear c11
                try clear c11b0
                try clear hx105_0
                try clear p105
                try clear p2
                try clear q105
                obtain ⟨x11_2, x33_2, rfl, rfl, HA, HK2, HO_19, HR105_0, HB⟩ := hrel
                cases gk with
                | zero => exact absurd HA.out (by simp [impl_WeightedSumAt.l1])
                | succ k2 =>
                  have H := HA.out
                  clear HA
                  simp only [impl_WeightedSumAt.l1] at H
                  by_cases c13 : x33_2 < (wrap64 ((l0.length : Int) - x21_1))
                  · rw [if_pos c13] at H
                    have c13b0 : decide (x33_2 < (wrap64 ((l0.length : Int) - x21_1))) = true := decide_eq_true c13
                    clear c13
                    replace H := Option.bind_eq_some_iff.mp H
                    obtain ⟨t107, A140, H⟩ := H
                    replace H : (impl_WeightedSumAt.l1 k2 l0 a1 a2 x8_1 (wrap64 (x11_2 * t107)) t102 (t102.length : Int) x21_1 (wrap64 ((l0.length : Int) - x21_1)) (wrap64 (x33_2 + 1))) = some (r1, r2) := H
                    have A14 := Aside0.mk A140
                    clear A140
                    have H' := Aside0.mk H
                    clear H
                    go_wp2_with (first | ((with_reducible refine gate_callee (f := 88) rfl ?_); refine goesL_ (some 41) rfl rfl Try.func88 (by kernel_rfl) rfl #[.int .i64 (wrap64 (a2 - x33_2)), .int .i64 a1] rfl (by (try simp only [List.map_toArray, List.map_cons, List.map_nil]); first | done | rfl | (simp only [List.length_drop, List.length_take]; rfl)) ?_; (with_reducible refine (impl_bracket.calls k2 (wrap64 (a2 - x33_2)) a1 t107 _ A14.out).mono ?_); rintro e w' ⟨rfl, ⟨nd, rfl⟩⟩; refine ⟨_, rfl, ?_⟩))
                    go_roundg k2
                    case measure => have := HK1.out; have := HK2.out; omega
                    case rel => exact ⟨(wrap64 (x11_2 * t107)), (wrap64 (x33_2 + 1)), (by first | rfl | (simp; done) | (simp [*]; done)), (by first | rfl | (simp; done) | (simp [*]; done)), H', ⟨by have := HK1.out; have := HK2.out; omega⟩, ⟨by (with_reducible repeat (first | apply Kd.S_alloc | apply Kd.S_drewN | apply Kd.S_drew)); exact HO_19.out⟩, ⟨by repeat (first | (with_reducible exact HR105_0.out) | (with_reducible refine Kd.C_alloc ?_ _) | (with_reducible refine Kd.C_drewN ?_ _) | (with_reducible refine Kd.C_drew ?_) | exact HR105_0.out)⟩, ⟨by repeat (first | (with_reducible first | exact HB.out | apply below_alloc | apply pw_below_drewN | apply below_drew1) | exact HB.out)⟩⟩
                  · rw [if_neg c13] at H
                    have c13b0 : decide (x33_2 < (wrap64 ((l0.length : Int) - x21_1))) = false := decide_eq_false c13
                    clear c13
                    have H' := Aside0.mk H
                    clear H
                    go_wp2
                    go_roundg k2
                    case measure => have := HK1.out; have := HK2.out; omega
                    case rel => exact ⟨(wrap64 (x8_1 + x11_2)), (wrap64 (x21_1 + 1)), (by first | rfl | (simp; done) | (simp [*]; done)), (by first | rfl | (simp; done) | (simp [*]; done)), H', ⟨by have := HK1.out; have := HK2.out; omega⟩, ⟨by (with_reducible repeat (first | apply Kd.S_alloc | apply Kd.S_drewN | apply Kd.S_drew)); exact HO_19.out⟩, ⟨by repeat (first | (with_reducible first | exact HB.out | apply below_alloc | apply pw_below_drewN | apply below_drew1) | exact HB.out)⟩⟩
            · rw [if_neg c11] at H
              exact absurd H (by simp)
          · rw [if_neg c10] at H
            exact absurd H (by simp)
        · rw [if_neg c9] at H
          have c9b0 : decide (x21_1 < (t102.length : Int)) = false := decide_eq_false c9
          clear c9
          simp only [Option.some.injEq, Prod.mk.injEq] at H
          obtain ⟨rfl, rfl⟩ := H
          go_wp2
          go_ret2
          exact ⟨by first | rfl | (simp [errW_none, errW_some] <;> rfl) | (simp [*, errW_none, errW_some] <;> rfl), by repeat (first | (with_reducible first | exact HB.out | apply below_alloc | apply pw_below_drewN | apply below_drew1) | exact HB.out)⟩
  · replace c5 := Bool.eq_false_iff.mpr c5
    subst c5
    have H1 : (some (0, false)) = some (r1, r2) := by rw [if_neg (show ¬ (false = true) by decide)] at H; exact H
    clear H
    have H := H1
    clear H1
    simp only [Option.some.injEq, Prod.mk.injEq] at H
    obtain ⟨rfl, rfl⟩ := H
    go_enter Try.func40, Try.ntmps40
    go_wp2_with (first | ((with_reducible refine gate_callee (f := 87) rfl ?_); refine goesL_ (some 16) rfl rfl Try.func87 (by kernel_rfl) rfl #[.slice A0 l0.length c0, .int .i64 a1, .int .i64 a2] rfl (by (try simp only [List.map_toArray, List.map_cons, List.map_nil]); first | done | rfl | (simp only [List.length_drop, List.length_take]; rfl)) ?_; (with_reducible refine (impl_isWeighted.calls k _ _ l0 a1 a2 false _ ?side1 ?side2 A4.out).mono ?_); (case side1 => repeat (first | exact HR0.out | (with_reducible refine Kd.C_alloc ?_ _) | (with_reducible refine Kd.C_drewN ?_ _) | (with_reducible refine Kd.C_drew ?_))); (case side2 => exact HC0.out); rintro e w' ⟨rfl, ⟨nd, rfl⟩⟩; refine ⟨_, rfl, ?_⟩))
    go_ret2
    exact ⟨by first | rfl | (simp [errW_none, errW_some] <;> rfl) | (simp [*, errW_none, errW_some] <;> rfl), by repeat (first | (with_reducible first | exact HB.out | apply below_alloc | apply pw_below_drewN | apply below_drew1) | exact HB.out)⟩

end Go.Proofs.Ytlhblnphfpijkaa.Q
end
section
namespace Go.Proofs.Ytlhblnphfpijkaa.Q
open Go.RowKit Go.Proofs.YtlhblnphfpijkaaW.PrintWords Go.Proofs.YtlhblnphfpijkaaW.PrintLast Go.Proofs.YtlhblnphfpijkaaW.PrintMore
attribute [local go_sem] max2_int min2_int max_two min_two max_three min_three max_four min_four   -- for this text's walks alone
set_option linter.unusedVariables false
set_option linter.unusedSimpArgs false

/-! ### laws_FnExactWeightedSumAt: function 10 -/
def laws_FnExactWeightedSumAt.j0 : Nat → List Int → List Int → Bool → Option (Bool)
  | 0, _, _, _ => none
  | k + 1, x0, x9, x39 => if x39 = true then (some false) else ((laws_toIntS.f k x0).bind fun t111 => ((laws_eqIntS.f k x9 t111).bind fun t114 => (if t114 = true then (some true) else (some false))))
def laws_FnExactWeightedSumAt.f (k : Nat) (l0 : List Int) (a1 : Int) (a2 : Int) : Option (Bool) := if (l0.length : Int) > 1048576 then (some true) else ((laws_toIntS.f k l0).bind fun t101 => ((spec_WeightedSumAt.f k t101 a1 a2).bind fun bt104 => ((laws_toIntS.f k l0).bind fun t106 => ((impl_WeightedSumAt.f k t106 a1 a2).bind fun bt109 => (if bt109.1 = bt104.1 then (laws_FnExactWeightedSumAt.j0 k l0 t106 (bt109.2 != bt104.2)) else (laws_FnExactWeightedSumAt.j0 k l0 t106 true))))))
theorem laws_FnExactWeightedSumAt.mono_l : ∀ k, (∀ y0 y1 y2, LeO (laws_FnExactWeightedSumAt.j0 k y0 y1 y2) (laws_FnExactWeightedSumAt.j0 (k + 1) y0 y1 y2))
  | 0 => fun _ _ _ r h => by simp [laws_FnExactWeightedSumAt.j0] at h
  | k + 1 => by
    have ih0 := laws_FnExactWeightedSumAt.mono_l k
    · intro y0 y1 y2
      unfold laws_FnExactWeightedSumAt.j0
      repeat' first
      | (with_reducible exact ih0 _ _ _)
      | (with_reducible exact impl_WeightedSumAt.mono _ _ _ _)
      | (with_reducible exact laws_eqIntS.mono _ _ _)
      | (with_reducible exact laws_toIntS.mono _ _)
      | (with_reducible exact spec_WeightedSumAt.mono _ _ _ _)
      | (with_reducible exact LeO.refl _)
      | (with_reducible exact LeO.none _)
      | (with_reducible refine LeO.ite ?_ ?_)
      | (with_reducible refine LeO.bind ?_ (fun _ => ?_))
      | exact ih0 _ _ _
      | exact impl_WeightedSumAt.mono _ _ _ _
      | exact laws_eqIntS.mono _ _ _
      | exact laws_toIntS.mono _ _
      | exact spec_WeightedSumAt.mono _ _ _ _
      | exact LeO.none _
      | refine LeO.ite ?_ ?_
      | refine LeO.bind ?_ (fun _ => ?_)
theorem laws_FnExactWeightedSumAt.mono : ∀ a0 a1 a2 k, LeO (laws_FnExactWeightedSumAt.f k a0 a1 a2) (laws_FnExactWeightedSumAt.f (k + 1) a0 a1 a2) := by
  intro a0 a1 a2 k
  have ih0 := laws_FnExactWeightedSumAt.mono_l k
  unfold laws_FnExactWeightedSumAt.f
  repeat' first
      | (with_reducible exact ih0 _ _ _)
      | (with_reducible exact impl_WeightedSumAt.mono _ _ _ _)
      | (with_reducible exact laws_eqIntS.mono _ _ _)
      | (with_reducible exact laws_toIntS.mono _ _)
      | (with_reducible exact spec_WeightedSumAt.mono _ _ _ _)
      | (with_reducible exact LeO.refl _)
      | (with_reducible exact LeO.none _)
      | (with_reducible refine LeO.ite ?_ ?_)
      | (with_reducible refine LeO.bind ?_ (fun _ => ?_))
      | exact ih0 _ _ _
      | exact impl_WeightedSumAt.mono _ _ _ _
      | exact laws_eqIntS.mono _ _ _
      | exact laws_toIntS.mono _ _
      | exact spec_WeightedSumAt.mono _ _ _ _
      | exact LeO.none _
      | refine LeO.ite ?_ ?_
      | refine LeO.bind ?_ (fun _ => ?_)
set_option maxHeartbeats 8000000 in
set_option maxRecDepth 100000 in
theorem laws_FnExactWeightedSumAt.calls (k : Nat) (A0 : Option Addr) (c0 : Nat) (l0 : List Int) (a1 : Int) (a2 : Int) (r : Bool) (w : World) (hr0 : Kd.C (Kd.int .i64) w A0 l0.length l0) (hc0 : l0.length ≤ c0) (h : laws_FnExactWeightedSumAt.f k l0 a1 a2 = some r) :
    Calls Try.prog 10 #[.slice A0 l0.length c0, .int .i64 a1, .int .i64 a2] w fun e w' => e = .returned (.bool r) ∧ Below w.heap.size w w' := by
  have HR0 := Aside0.mk hr0
  have HC0 := Aside0.mk hc0
  clear hr0 hc0
  have HB := Aside0.mk (Below.refl w.heap.size w)
  have H : (if (l0.length : Int) > 1048576 then (some true) else ((laws_toIntS.f k l0).bind fun t101 => ((spec_WeightedSumAt.f k t101 a1 a2).bind fun bt104 => ((laws_toIntS.f k l0).bind fun t106 => ((impl_WeightedSumAt.f k t106 a1 a2).bind fun bt109 => (if bt109.1 = bt104.1 then (laws_FnExactWeightedSumAt.j0 k l0 t106 (bt109.2 != bt104.2)) else (laws_FnExactWeightedSumAt.j0 k l0 t106 true))))))) = some r := h
  clear h
  by_cases c4 : (l0.length : Int) > 1048576
  · rw [if_pos c4] at H
    have c4b0 : decide (1048576 < (l0.length : Int)) = true := decide_eq_true c4
    have c4b1 : decide (1048576 < l0.length) = true := decide_eq_true (by omega)
    clear c4
    obtain rfl := Option.some.inj H
    go_enter Try.func10, Try.ntmps10
    go_wp2
    go_ret
    exact ⟨by first | rfl | (simp [errW_none, errW_some] <;> rfl) | (simp [*, errW_none, errW_some] <;> rfl), by repeat (first | (with_reducible first | exact HB.out | apply below_alloc | apply pw_below_drewN | apply below_drew1) | exact HB.out)⟩
  · rw [if_neg c4] at H
    have c4b0 : decide (1048576 < (l0.length : Int)) = false := decide_eq_false c4
    have c4b1 : decide (1048576 < l0.length) = false := decide_eq_false (by omega)
    clear c4
    replace H := Option.bind_eq_some_iff.mp H
    obtain ⟨t101, A50, H⟩ := H
    replace H : ((spec_WeightedSumAt.f k t101 a1 a2).bind fun bt104 => ((laws_toIntS.f k l0).bind fun t106 => ((impl_WeightedSumAt.f k t106 a1 a2).bind fun bt109 => (if bt109.1 = bt104.1 then (laws_FnExactWeightedSumAt.j0 k l0 t106 (bt109.2 != bt104.2)) else (laws_FnExactWeightedSumAt.j0 k l0 t106 true))))) = some r := H
    have A5 := Aside0.mk A50
    clear A50
    replace H := Option.bind_eq_some_iff.mp H
    obtain ⟨⟨t104, t105⟩, A60, H⟩ := H
    replace H : ((laws_toIntS.f k l0).bind fun t106 => ((impl_WeightedSumAt.f k t106 a1 a2).bind fun bt109 => (if bt109.1 = t104 then (laws_FnExactWeightedSumAt.j0 k l0 t106 (bt109.2 != t105)) else (laws_FnExactWeightedSumAt.j0 k l0 t106 true)))) = some r := H
    have A6 := Aside0.mk A60
    clear A60
    replace H := Option.bind_eq_some_iff.mp H
    obtain ⟨t106, A70, H⟩ := H
    replace H : ((impl_WeightedSumAt.f k t106 a1 a2).bind fun bt109 => (if bt109.1 = t104 then (laws_FnExactWeightedSumAt.j0 k l0 t106 (bt109.2 != t105)) else (laws_FnExactWeightedSumAt.j0 k l0 t106 true))) = some r := H
    have A7 := Aside0.mk A70
    clear A70
    replace H := Option.bind_eq_some_iff.mp H
    obtain ⟨⟨t109, t110⟩, A80, H⟩ := H
    replace H : (if t109 = t104 then (laws_FnExactWeightedSumAt.j0 k l0 t106 (t110 != t105)) else (laws_FnExactWeightedSumAt.j0 k l0 t106 true)) = some r := H
    have A8 := Aside0.mk A80
    clear A80
    have HC9 := Aside0.mk H
    clear H
    go_enter Try.func10, Try.ntmps10
    go_upto_region 6 with (first | ((with_reducible refine gate_callee (f := 18) rfl ?_); refine goesL_ (some 17) rfl rfl Try.func18 (by kernel_rfl) rfl #[.slice A0 l0.length c0] rfl (by (try simp only [List.map_toArray, List.map_cons, List.map_nil]); first | done | rfl | (simp only [List.length_drop, List.length_take]; rfl)) ?_; (with_reducible refine (laws_toIntS.calls k _ _ l0 t101 _ ?side1 ?side2 A5.out).mono ?_); (case side1 => repeat (first | exact HR0.out | (with_reducible refine Kd.C_alloc ?_ _) | (with_reducible refine Kd.C_drewN ?_ _) | (with_reducible refine Kd.C_drew ?_))); (case side2 => exact HC0.out); rintro e w10 ⟨v102, rfl, ho0, hb⟩; refine ⟨_, rfl, ?_⟩; have n0_ := Aside0.mk (Kd.R_lower ho0 (below_size (by repeat (first | (with_reducible first | exact HB.out | apply below_alloc | apply pw_below_drewN | apply below_drew1) | exact HB.out)))); have n1_ := Aside0.mk (below_step (by repeat (first | (with_reducible first | exact HB.out | apply below_alloc | apply pw_below_drewN | apply below_drew1) | exact HB.out)) hb); clear HB; have HO103 := n0_; have HB := n1_; clear n0_ n1_; (try clear hb); (try clear hb2); (try clear hk); (try clear hi); (try clear ho0); obtain ⟨Ao11, co11, eo11⟩ := Kd.R_slice HO103.out; subst eo11) | ((with_reducible refine gate_callee (f := 39) rfl ?_); refine goesL_ (some 20) rfl rfl Try.func39 (by kernel_rfl) rfl #[.slice Ao11 t101.length co11, .int .i64 a1, .int .i64 a2] rfl (by (try simp only [List.map_toArray, List.map_cons, List.map_nil]); first | done | rfl | (simp only [List.length_drop, List.length_take]; rfl)) ?_; (with_reducible refine (spec_WeightedSumAt.calls k _ _ t101 a1 a2 t104 t105 _ ?side1 ?side2 A6.out).mono ?_); (case side1 => repeat (first | exact (Kd.R_reads' HO103.out).2.2 | (with_reducible refine Kd.C_alloc ?_ _) | (with_reducible refine Kd.C_drewN ?_ _) | (with_reducible refine Kd.C_drew ?_))); (case side2 => exact (Kd.R_reads' HO103.out).2.1); rintro e w12 ⟨rfl, hb⟩; refine ⟨_, rfl, ?_⟩; have n0_ := Aside0.mk (Kd.R_below (by (with_reducible repeat (first | apply Kd.R_alloc | apply Kd.R_drewN | apply Kd.R_drew)); exact HO103.out) hb); have n1_ := Aside0.mk (below_step (by repeat (first | (with_reducible first | exact HB.out | apply below_alloc | apply pw_below_drewN | apply below_drew1) | exact HB.out)) hb); clear HO103; clear HB; have HO103 := n0_; have HB := n1_; clear n0_ n1_; (try clear hb); (try clear hb2); (try clear hk); (try clear hi)) | ((with_reducible refine gate_callee (f := 18) rfl ?_); refine goesL_ (some 24) rfl rfl Try.func18 (by kernel_rfl) rfl #[.slice A0 l0.length c0] rfl (by (try simp only [List.map_toArray, List.map_cons, List.map_nil]); first | done | rfl | (simp only [List.length_drop, List.length_take]; rfl)) ?_; (with_reducible refine (laws_toIntS.calls k _ _ l0 t106 _ ?side1 ?side2 A7.out).mono ?_); (case side1 => repeat (first | exact (Kd.C_below HR0.out HB.out) | (with_reducible refine Kd.C_alloc ?_ _) | (with_reducible refine Kd.C_drewN ?_ _) | (with_reducible refine Kd.C_drew ?_))); (case side2 => exact HC0.out); rintro e w13 ⟨v107, rfl, ho0, hb⟩; refine ⟨_, rfl, ?_⟩; have n0_ := Aside0.mk (Kd.R_elder' (by (with_reducible repeat (first | apply Kd.R_alloc | apply Kd.R_drewN | apply Kd.R_drew)); exact HO103.out) (Kd.R_base ho0) hb); have n1_ := Aside0.mk (Kd.R_lower (Kd.R_new' ho0 (Kd.R_lt (by (with_reducible repeat (first | apply Kd.R_alloc | apply Kd.R_drewN | apply Kd.R_drew)); exact HO103.out))) (below_size (by repeat (first | (with_reducible first | exact HB.out | apply below_alloc | apply pw_below_drewN | apply below_drew1) | exact HB.out)))); have n2_ := Aside0.mk (below_step (by repeat (first | (with_reducible first | exact HB.out | apply below_alloc | apply pw_below_drewN | apply below_drew1) | exact HB.out)) hb); clear HO103; clear HB; have HO103 := n0_; have HO108 := n1_; have HB := n2_; clear n0_ n1_ n2_; (try clear hb); (try clear hb2); (try clear hk); (try clear hi); (try clear ho0); obtain ⟨Ao14, co14, eo14⟩ := Kd.R_slice HO108.out; subst eo14) | ((with_reducible refine gate_callee (f := 40) rfl ?_); refine goesL_ (some 29) rfl rfl Try.func40 (by kernel_rfl) rfl #[.slice Ao14 t106.length co14, .int .i64 a1, .int .i64 a2] rfl (by (try simp only [List.map_toArray, List.map_cons, List.map_nil]); first | done | rfl | (simp only [List.length_drop, List.length_take]; rfl)) ?_; (with_reducible refine (impl_WeightedSumAt.calls k _ _ t106 a1 a2 t109 t110 _ ?side1 ?side2 A8.out).mono ?_); (case side1 => repeat (first | exact (Kd.R_reads' HO108.out).2.2 | (with_reducible refine Kd.C_alloc ?_ _) | (with_reducible refine Kd.C_drewN ?_ _) | (with_reducible refine Kd.C_drew ?_))); (case side2 => exact (Kd.R_reads' HO108.out).2.1); rintro e w15 ⟨rfl, hb⟩; refine ⟨_, rfl, ?_⟩; have n0_ := Aside0.mk (Kd.R_below (by (with_reducible repeat (first | apply Kd.R_alloc | apply Kd.R_drewN | apply Kd.R_drew)); exact HO103.out) hb); have n1_ := Aside0.mk (Kd.R_below (by (with_reducible repeat (first | apply Kd.R_alloc | apply Kd.R_drewN | apply Kd.R_drew)); exact HO108.out) hb); have n2_ := Aside0.mk (below_step (by repeat (first | (with_reducible first | exact HB.out | apply below_alloc | apply pw_below_drewN | apply below_drew1) | exact HB.out)) hb); clear HO103; clear HO108; clear HB; have HO103 := n0_; have HO108 := n1_; have HB := n2_; clear n0_ n1_ n2_; (try clear hb); (try clear hb2); (try clear hk); (try clear hi)))
    (try simp only [Act.put, List.setIfInBounds_toArray, List.set_cons_zero, List.set_cons_succ])
    go_cut [39] (fun v39 wc => ∃ (kq : Nat) (x39_8 : Bool), v39 = .bool x39_8 ∧ Aside0 (laws_FnExactWeightedSumAt.j0 kq l0 t106 x39_8 = some r) ∧ Aside0 (kq ≤ k) ∧ Aside0 (Kd.R (Kd.int .i64) 3 wc w.heap.size (fun _ => True) (.slice Ao14 t106.length co14) t106) ∧ Aside0 (Below w.heap.size w wc))
    case first =>
      have H := HC9.out
      clear HC9
      by_cases c16 : t109 = t104
      · rw [if_pos c16] at H
        have c16b0 : (t109 == t104) = true := beq_iff_eq.mpr c16
        have c16b1 : (t109 != t104) = false := bne_eq_false_iff_eq.mpr c16
        clear c16
        (first | rw [c16b0] | (simp only [i64_w, i32_w]; rw [c16b0]) | skip)
        have H' := Aside0.mk H
        clear H
        go_wp2
        go_meet
        case rel => exact ⟨_, ((t110 != t105)), (by first | rfl | (simp; done) | (simp [*]; done)), H', ⟨by first | omega | exact Nat.le_refl _⟩, ⟨by (with_reducible repeat (first | apply Kd.R_alloc | apply Kd.R_drewN | apply Kd.R_drew)); exact Kd.R_mono HO108.out (fun _ hk => trivial)⟩, ⟨by repeat (first | (with_reducible first | exact HB.out | apply below_alloc | apply pw_below_drewN | apply below_drew1) | exact HB.out)⟩⟩
      · rw [if_neg c16] at H
        have c16b0 : (t109 == t104) = false := beq_eq_false_iff_ne.mpr c16
        have c16b1 : (t109 != t104) = true := bne_iff_ne.mpr c16
        (first | rw [c16b0] | (simp only [i64_w, i32_w]; rw [c16b0]) | skip)
        have H' := Aside0.mk H
        clear H
        go_wp2
        go_meet
        case rel => exact ⟨_, (true), (by first | rfl | (simp; done) | (simp [*]; done)), H', ⟨by first | omega | exact Nat.le_refl _⟩, ⟨by (with_reducible repeat (first | apply Kd.R_alloc | apply Kd.R_drewN | apply Kd.R_drew)); exact Kd.R_mono HO108.out (fun _ hk => trivial)⟩, ⟨by repeat (first | (with_reducible first | exact HB.out | apply below_alloc | apply pw_below_drewN | apply below_drew1) | exact HB.out)⟩⟩
    case rest =>
      clear HC9
      try clear c1
      try clear p2
      try clear c3
      try clear c4
      try clear c4b0
      try clear c4b1
      try clear c10
      try clear c16
      try clear c16b0
      try clear c16b1
      obtain ⟨kq, x39_8, rfl, HA, HJ8, HO_9, HB⟩ := hcut
      cases kq with
      | zero => exact absurd HA.out (by simp [laws_FnExactWeightedSumAt.j0])
      | succ kj8 =>
        have H := HA.out
        clear HA
        simp only [laws_FnExactWeightedSumAt.j0] at H
        by_cases c17 : x39_8 = true
        · subst c17
          have H1 : (some false) = some r := by rw [if_pos rfl] at H; exact H
          clear H
          have H := H1
          clear H1
          obtain rfl := Option.some.inj H
          go_wp2
          go_ret
          exact ⟨by first | rfl | (simp [errW_none, errW_some] <;> rfl) | (simp [*, errW_none, errW_some] <;> rfl), by repeat (first | (with_reducible first | exact HB.out | apply below_alloc | apply pw_below_drewN | apply below_drew1) | exact HB.out)⟩
        · replace c17 := Bool.eq_false_iff.mpr c17
          subst c17
          have H1 : ((laws_toIntS.f kj8 l0).bind fun t111 => ((laws_eqIntS.f kj8 t106 t111).bind fun t114 => (if t114 = true then (some true) else (some false)))) = some r := by rw [if_neg (show ¬ (false = true) by decide)] at H; exact H
          clear H
          have H := H1
          clear H1
          replace H := Option.bind_eq_some_iff.mp H
          obtain ⟨t111, A180, H⟩ := H
          replace H : ((laws_eqIntS.f kj8 t106 t111).bind fun t114 => (if t114 = true then (some true) else (some false))) = some r := H
          have A18 := Aside0.mk A180
          clear A180
          replace H := Option.bind_eq_some_iff.mp H
          obtain ⟨t114, A190, H⟩ := H
          replace H : (if t114 = true then (some true) else (some false)) = some r := H
          have A19 := Aside0.mk A190
          clear A190
          by_cases c20 : t114 = true
          · subst c20
            have H1 : (some true) = some r := by rw [if_pos rfl] at H; exact H
            clear H
            have H := H1
            clear H1
            obtain rfl := Option.some.inj H
            go_wp2_with (first | ((with_reducible refine gate_callee (f := 18) rfl ?_); refine goesL_ (some 42) rfl rfl Try.func18 (by kernel_rfl) rfl #[.slice A0 l0.length c0] rfl (by (try simp only [List.map_toArray, List.map_cons, List.map_nil]); first | done | rfl | (simp only [List.length_drop, List.length_take]; rfl)) ?_; (with_reducible refine (laws_toIntS.calls kj8 _ _ l0 t111 _ ?side1 ?side2 A18.out).mono ?_); (case side1 => repeat (first | exact (Kd.C_below HR0.out HB.out) | (with_reducible refine Kd.C_alloc ?_ _) | (with_reducible refine Kd.C_drewN ?_ _) | (with_reducible refine Kd.C_drew ?_))); (case side2 => exact HC0.out); rintro e w21 ⟨v112, rfl, ho0, hb⟩; refine ⟨_, rfl, ?_⟩; have n0_ := Aside0.mk (Kd.R_elder' (by (with_reducible repeat (first | apply Kd.R_alloc | apply Kd.R_drewN | apply Kd.R_drew)); exact HO_9.out) (Kd.R_base ho0) hb); have n1_ := Aside0.mk (Kd.R_lower (Kd.R_new' ho0 (Kd.R_lt (by (with_reducible repeat (first | apply Kd.R_alloc | apply Kd.R_drewN | apply Kd.R_drew)); exact HO_9.out))) (below_size (by repeat (first | (with_reducible first | exact HB.out | apply below_alloc | apply pw_below_drewN | apply below_drew1) | exact HB.out)))); have n2_ := Aside0.mk (below_step (by repeat (first | (with_reducible first | exact HB.out | apply below_alloc | apply pw_below_drewN | apply below_drew1) | exact HB.out)) hb); clear HO_9; clear HB; have HO_9 := n0_; have HO113 := n1_; have HB := n2_; clear n0_ n1_ n2_; (try clear hb); (try clear hb2); (try clear hk); (try clear hi); (try clear ho0); obtain ⟨Ao22, co22, eo22⟩ := Kd.R_slice HO113.out; subst eo22) | ((with_reducible refine gate_callee (f := 21) rfl ?_); refine goesL_ (some 43) rfl rfl Try.func21 (by kernel_rfl) rfl #[.slice Ao14 t106.length co14, .slice Ao22 t111.length co22] rfl (by (try simp only [List.map_toArray, List.map_cons, List.map_nil]); first | done | rfl | (simp only [List.length_drop, List.length_take]; rfl)) ?_; (with_reducible refine (laws_eqIntS.calls kj8 _ _ t106 _ _ t111 true _ ?side1 ?side2 ?side3 ?side4 A19.out).mono ?_); (case side1 => repeat (first | exact (Kd.R_reads' HO_9.out).2.2 | (with_reducible refine Kd.C_alloc ?_ _) | (with_reducible refine Kd.C_drewN ?_ _) | (with_reducible refine Kd.C_drew ?_))); (case side2 => exact (Kd.R_reads' HO_9.out).2.1); (case side3 => repeat (first | exact (Kd.R_reads' HO113.out).2.2 | (with_reducible refine Kd.C_alloc ?_ _) | (with_reducible refine Kd.C_drewN ?_ _) | (with_reducible refine Kd.C_drew ?_))); (case side4 => exact (Kd.R_reads' HO113.out).2.1); rintro e w' ⟨rfl, ⟨nd, rfl⟩⟩; refine ⟨_, rfl, ?_⟩))
            go_ret
            exact ⟨by first | rfl | (simp [errW_none, errW_some] <;> rfl) | (simp [*, errW_none, errW_some] <;> rfl), by repeat (first | (with_reducible first | exact HB.out | apply below_alloc | apply pw_below_drewN | apply below_drew1) | exact HB.out)⟩
          · replace c20 := Bool.eq_false_iff.mpr c20
            subst c20
            have H1 : (some false) = some r := by rw [if_neg (show ¬ (false = true) by decide)] at H; exact H
            clear H
            have H := H1
            clear H1
            obtain rfl := Option.some.inj H
            go_wp2_with (first | ((with_reducible refine gate_callee (f := 18) rfl ?_); refine goesL_ (some 42) rfl rfl Try.func18 (by kernel_rfl) rfl #[.slice A0 l0.length c0] rfl (by (try simp only [List.map_toArray, List.map_cons, List.map_nil]); first | done | rfl | (simp only [List.length_drop, List.length_take]; rfl)) ?_; (with_reducible refine (laws_toIntS.calls kj8 _ _ l0 t111 _ ?side1 ?side2 A18.out).mono ?_); (case side1 => repeat (first | exact (Kd.C_below HR0.out HB.out) | (with_reducible refine Kd.C_alloc ?_ _) | (with_reducible refine Kd.C_drewN ?_ _) | (with_reducible refine Kd.C_drew ?_))); (case side2 => exact HC0.out); rintro e w23 ⟨v112, rfl, ho0, hb⟩; refine ⟨_, rfl, ?_⟩; have n0_ := Aside0.mk (Kd.R_elder' (by (with_reducible repeat (first | apply Kd.R_alloc | apply Kd.R_drewN | apply Kd.R_drew)); exact HO_9.out) (Kd.R_base ho0) hb); have n1_ := Aside0.mk (Kd.R_lower (Kd.R_new' ho0 (Kd.R_lt (by (with_reducible repeat (first | apply Kd.R_alloc | apply Kd.R_drewN | apply Kd.R_drew)); exact HO_9.out))) (below_size (by repeat (first | (with_reducible first | exact HB.out | apply below_alloc | apply pw_below_drewN | apply below_drew1) | exact HB.out)))); have n2_ := Aside0.mk (below_step (by repeat (first | (with_reducible first | exact HB.out | apply below_alloc | apply pw_below_drewN | apply below_drew1) | exact HB.out)) hb); clear HO_9; clear HB; have HO_9 := n0_; have HO113 := n1_; have HB := n2_; clear n0_ n1_ n2_; (try clear hb); (try clear hb2); (try clear hk); (try clear hi); (try clear ho0); obtain ⟨Ao24, co24, eo24⟩ := Kd.R_slice HO113.out; subst eo24) | ((with_reducible refine gate_callee (f := 21) rfl ?_); refine goesL_ (some 43) rfl rfl Try.func21 (by kernel_rfl) rfl #[.slice Ao14 t106.length co14, .slice Ao24 t111.length co24] rfl (by (try simp only [List.map_toArray, List.map_cons, List.map_nil]); first | done | rfl | (simp only [List.length_drop, List.length_take]; rfl)) ?_; (with_reducible refine (laws_eqIntS.calls kj8 _ _ t106 _ _ t111 false _ ?side1 ?side2 ?side3 ?side4 A19.out).mono ?_); (case side1 => repeat (first | exact (Kd.R_reads' HO_9.out).2.2 | (with_reducible refine Kd.C_alloc ?_ _) | (with_reducible refine Kd.C_drewN ?_ _) | (with_reducible refine Kd.C_drew ?_))); (case side2 => exact (Kd.R_reads' HO_9.out).2.1); (case side3 => repeat (first | exact (Kd.R_reads' HO113.out).2.2 | (with_reducible refine Kd.C_alloc ?_ _) | (with_reducible refine Kd.C_drewN ?_ _) | (with_reducible refine Kd.C_drew ?_))); (case side4 => exact (Kd.R_reads' HO113.out).2.1); rintro e w' ⟨rfl, ⟨nd, rfl⟩⟩; refine ⟨_, rfl, ?_⟩))
            go_ret
            exact ⟨by first | rfl | (simp [errW_none, errW_some] <;> rfl) | (simp [*, errW_none, errW_some] <;> rfl), by repeat (first | (with_reducible first | exact HB.out | apply below_alloc | apply pw_below_drewN | apply below_drew1) | exact HB.out)⟩

/-- THE ONE PURE STATEMENT of laws_FnExactWeightedSumAt: yours. -/
def laws_FnExactWeightedSumAt.Pure : Prop := ∀ (l0 : List Int) (a1 : Int) (a2 : Int), l0.length ≤ maxLen → l0.length * 8 ≤ 140737488351232 → (∀ x ∈ l0, (Lit.int .i64 x).wf = true) → (Lit.int .i64 a1).wf = true → (Lit.int .i64 a2).wf = true → ∃ k, laws_FnExactWeightedSumAt.f k l0 a1 a2 = some true
theorem laws_FnExactWeightedSumAt.walk (P : laws_FnExactWeightedSumAt.Pure) (a0 : Option Addr) (len0 cap0 : Nat) (z0 : List Int) (a1 : Int) (a2 : Int) (w : World) (w0 : (a0 = none ∧ len0 = 0 ∧ cap0 = 0 ∧ z0 = []) ∨ ∃ x, a0 = some x ∧ len0 ≤ cap0 ∧ cap0 ≤ maxLen ∧ z0.length = cap0 ∧ (∀ i, i < z0.length → w.cell? (x.add i) = some (.int .i64 (z0.getD i 0))) ∧ ∀ n ∈ z0, (Lit.int .i64 n).wf = true) (y0 : len0 * 8 ≤ 140737488351232) (w1 : (Lit.int .i64 a1).wf = true) (w2 : (Lit.int .i64 a2).wf = true) :
    Calls Try.prog 10 #[.slice a0 len0 cap0, .int .i64 a1, .int .i64 a2] w fun e w' => e = .returned (.bool true) ∧ Below w.heap.size w w' := by
  obtain ⟨l0, rfl, hr0, hm0, hw0, hc0⟩ := ReadsInt.ofRowC w0
  obtain ⟨k, h⟩ := P l0 a1 a2 hm0 y0 hw0 w1 w2
  refine (laws_FnExactWeightedSumAt.calls k _ _ l0 a1 a2 true w (Kd.C_of_reads (d := (0 : Int)) (h1 := fun _ => rfl) hr0) hc0 h).mono ?_
  rintro e w' ⟨rfl, hd⟩
  exact ⟨rfl, hd⟩

end Go.Proofs.Ytlhblnphfpijkaa.Q
end
section
namespace Go.Proofs.Ytlhblnphfpijkaa.Q
open Go.RowKit Go.Proofs.YtlhblnphfpijkaaW.PrintWords Go.Proofs.YtlhblnphfpijkaaW.PrintLast Go.Proofs.YtlhblnphfpijkaaW.PrintMore
attribute [local go_sem] max2_int min2_int max_two min_two max_three min_three max_four min_four   -- for this text's walks alone
set_option linter.unusedVariables false
set_option linter.unusedSimpArgs false

/-! ### spec_wePower: function 70 -/
def spec_wePower.l0 : Nat → Int → Int → Int → Option (Int)
  | 0, _, _, _ => none
  | k + 1, x0, x1, x5 => if x1 > 0 then (spec_wePower.l0 k x0 (wrap64 (x1 - 1)) (wrap64 (x5 * x0))) else (some x5)
def spec_wePower.f (k : Nat) (a0 : Int) (a1 : Int) : Option (Int) := spec_wePower.l0 k a0 a1 1
theorem spec_wePower.mono_l : ∀ k, (∀ y0 y1 y2, LeO (spec_wePower.l0 k y0 y1 y2) (spec_wePower.l0 (k + 1) y0 y1 y2))
  | 0 => fun _ _ _ r h => by simp [spec_wePower.l0] at h
  | k + 1 => by
    have ih0 := spec_wePower.mono_l k
    · intro y0 y1 y2
      unfold spec_wePower.l0
      repeat' first
      | (with_reducible exact ih0 _ _ _)
      | (with_reducible exact LeO.refl _)
      | (with_reducible exact LeO.none _)
      | (with_reducible refine LeO.ite ?_ ?_)
      | (with_reducible refine LeO.bind ?_ (fun _ => ?_))
      | exact ih0 _ _ _
      | exact LeO.none _
      | refine LeO.ite ?_ ?_
      | refine LeO.bind ?_ (fun _ => ?_)
theorem spec_wePower.mono : ∀ a0 a1 k, LeO (spec_wePower.f k a0 a1) (spec_wePower.f (k + 1) a0 a1) := by
  intro a0 a1 k
  have ih0 := spec_wePower.mono_l k
  unfold spec_wePower.f
  repeat' first
      | (with_reducible exact ih0 _ _ _)
      | (with_reducible exact LeO.refl _)
      | (with_reducible exact LeO.none _)
      | (with_reducible refine LeO.ite ?_ ?_)
      | (with_reducible refine LeO.bind ?_ (fun _ => ?_))
      | exact ih0 _ _ _
      | exact LeO.none _
      | refine LeO.ite ?_ ?_
      | refine LeO.bind ?_ (fun _ => ?_)
set_option maxHeartbeats 8000000 in
set_option maxRecDepth 100000 in
theorem spec_wePower.calls (k : Nat) (a0 : Int) (a1 : Int) (r : Int) (w : World) (h : spec_wePower.f k a0 a1 = some r) :
    Calls Try.prog 70 #[.int .i64 a0, .int .i64 a1] w fun e w' => e = .returned (.int .i64 r) ∧ Drawn0 w w' := by
  have H : (spec_wePower.l0 k a0 a1 1) = some r := h
  clear h
  have H' := Aside0.mk H
  clear H
  go_enter Try.func70, Try.ntmps70
  go_wp2
  go_loopg [1, 5] k (fun kq v1 v5 w' => ∃ (x1_1 : Int) (x5_1 : Int), v1 = .int .i64 x1_1 ∧ v5 = .int .i64 x5_1 ∧ Aside0 (spec_wePower.l0 kq a0 x1_1 x5_1 = some r) ∧ Aside0 (kq ≤ k) ∧ Drawn0 w w')
  case atStart => exact ⟨(a1), (1), (by first | rfl | (simp; done) | (simp [*]; done)), (by first | rfl | (simp; done) | (simp [*]; done)), H', ⟨Nat.le_refl _⟩, by repeat (first | exact Drawn0.refl _ | apply Drawn0.step)⟩
  case round =>
    clear H'
    try clear p2
    obtain ⟨x1_1, x5_1, rfl, rfl, HA, HK1, ⟨m1, rfl⟩⟩ := hrel
    cases gk with
    | zero => exact absurd HA.out (by simp [spec_wePower.l0])
    | succ k1 =>
      have H := HA.out
      clear HA
      simp only [spec_wePower.l0] at H
      by_cases c3 : x1_1 > 0
      · rw [if_pos c3] at H
        have c3b0 : decide (0 < x1_1) = true := decide_eq_true c3
        clear c3
        have H' := Aside0.mk H
        clear H
        go_wp2
        go_roundg k1
        case measure => have := HK1.out; omega
        case rel => exact ⟨(wrap64 (x1_1 - 1)), (wrap64 (x5_1 * a0)), (by first | rfl | (simp; done) | (simp [*]; done)), (by first | rfl | (simp; done) | (simp [*]; done)), H', ⟨by have := HK1.out; omega⟩, by repeat (first | exact Drawn0.refl _ | apply Drawn0.step)⟩
      · rw [if_neg c3] at H
        have c3b0 : decide (0 < x1_1) = false := decide_eq_false c3
        clear c3
        obtain rfl := Option.some.inj H
        go_wp2
        go_ret
        exact ⟨by first | rfl | (simp; done) | (simp [*]; done), by repeat (first | exact Drawn0.refl _ | apply Drawn0.step)⟩

end Go.Proofs.Ytlhblnphfpijkaa.Q
end
section
namespace Go.Proofs.Ytlhblnphfpijkaa.WValK
set_option linter.unusedVariables false
open Go.RowKit Go.Proofs.Ytlhblnphfpijkaa.Q Go.Proofs.YtlhblnphfpijkaaW.PrintWords Go.Proofs.YtlhblnphfpijkaaW.PrintLast Go.Proofs.YtlhblnphfpijkaaW.PrintMore
open Go.Proofs.YtlhblnphfpijkaaL
theorem evEq1 {α : Type} {g : Nat → Option α} {a b : α} (h : Ev g a) (e : a = b) : Ev g b := e ▸ h
def wpow (q : Int) : Nat → Int
  | 0 => 1
  | n + 1 => wrap64 (wpow q n * q)
theorem impl_pow (q : Int) {n : Int} (hn : n ≤ 1000) : Ev (fun k => impl_power.f k q n) (wpow q n.toNat) := by
  have key : ∀ (d j : Nat), j + d = n.toNat → Ev (fun k => impl_power.l0 k q (wpow q j) n j) (wpow q n.toNat) := by
    intro d
    induction d with
    | zero => intro j hj; exact Ev.step (f := fun _ => some (wpow q j)) (fun k => by rw [impl_power.l0, if_neg (by omega)]) (evEq1 (Ev.now _) (by rw [show j = n.toNat by omega]))
    | succ d ih =>
      intro j hj
      have w1 : wrap64 ((j : Int) + 1) = ((j + 1 : Nat) : Int) := by rw [w64 (by omega) (by omega)]; rfl
      refine Ev.step (fun k => ?_) (ih (j + 1) (by omega))
      rw [impl_power.l0, if_pos (by omega), w1, wpow]
  exact key n.toNat 0 (by omega)
theorem spec_pow (q : Int) {n : Int} (h0 : -9000000000 ≤ n) (hn : n ≤ 1000) : Ev (fun k => spec_wePower.f k q n) (wpow q n.toNat) := by
  have key : ∀ (d j : Nat) (m : Int), m.toNat = d → m ≤ 1000 → -9000000000 ≤ m → j + d = n.toNat → Ev (fun k => spec_wePower.l0 k q m (wpow q j)) (wpow q n.toNat) := by
    intro d
    induction d with
    | zero => intro j m hm h1 h2 hj; exact Ev.step (f := fun _ => some (wpow q j)) (fun k => by rw [spec_wePower.l0, if_neg (by omega)]) (evEq1 (Ev.now _) (by rw [show j = n.toNat by omega]))
    | succ d ih =>
      intro j m hm h1 h2 hj
      have w1 : wrap64 (m - 1) = m - 1 := w64 (by omega) (by omega)
      refine Ev.step (fun k => ?_) (ih (j + 1) (m - 1) (by omega) (by omega) (by omega) (by omega))
      rw [spec_wePower.l0, if_pos (by omega), w1, wpow]
  exact key n.toNat 0 n rfl hn h0 (by omega)
end Go.Proofs.Ytlhblnphfpijkaa.WValK
end
section
namespace Go.Proofs.Ytlhblnphfpijkaa.WValK
set_option linter.unusedVariables false
open Go.RowKit Go.Proofs.Ytlhblnphfpijkaa.Q Go.Proofs.YtlhblnphfpijkaaW.PrintWords Go.Proofs.YtlhblnphfpijkaaW.PrintLast Go.Proofs.YtlhblnphfpijkaaW.PrintMore
open Go.Proofs.YtlhblnphfpijkaaL
def rsum (q : Int) (row : List Int) : Nat → Nat → Int → Int
  | 0, _, s => s
  | d + 1, e, s => rsum q row d (e + 1) (wrap64 (s + wrap64 (row.getD e 0 * wpow q e)))
theorem impl_at (q : Int) {row : List Int} (hl : row.length ≤ 64) : Ev (fun k => impl_at.f k row q) (rsum q row row.length 0 0) := by
  have key : ∀ (d e : Nat) (s : Int), e + d = row.length → Ev (fun k => impl_at.l0 k q s row (row.length : Int) e) (rsum q row d e s) := by
    intro d
    induction d with
    | zero => intro e s h; exact Ev.step (f := fun _ => some s) (fun k => by rw [impl_at.l0, if_neg (by omega)]) (Ev.now _)
    | succ d ih =>
      intro e s h
      have w1 : wrap64 ((e : Int) + 1) = ((e + 1 : Nat) : Int) := by rw [w64 (by omega) (by omega)]; rfl
      rw [rsum]
      refine Ev.step (fun k => by rw [impl_at.l0, if_pos (by omega), if_pos (by omega), if_pos (by omega), rd_nat, w1]) ?_
      refine Ev.bind (impl_pow q (n := (e : Int)) (by omega)) ?_
      rw [Int.toNat_natCast]
      exact ih (e + 1) _ (by omega)
  exact key row.length 0 0 (by omega)
theorem spec_at (q : Int) {row : List Int} (hl : row.length ≤ 64) : Ev (fun k => spec_weAt.f k row q) (rsum q row row.length 0 0) := by
  have key : ∀ (d e : Nat) (s : Int), e + d = row.length → Ev (fun k => spec_weAt.l0 k q s (wpow q e) row (row.length : Int) e) (rsum q row d e s) := by
    intro d
    induction d with
    | zero => intro e s h; exact Ev.step (f := fun _ => some s) (fun k => by rw [spec_weAt.l0, if_neg (by omega)]) (Ev.now _)
    | succ d ih =>
      intro e s h
      have w1 : wrap64 ((e : Int) + 1) = ((e + 1 : Nat) : Int) := by rw [w64 (by omega) (by omega)]; rfl
      rw [rsum]
      refine Ev.step (fun k => ?_) (ih (e + 1) _ (by omega))
      rw [spec_weAt.l0, if_pos (by omega), if_pos (by omega), if_pos (by omega), rd_nat, w1, wpow]
  exact key row.length 0 0 (by omega)
end Go.Proofs.Ytlhblnphfpijkaa.WValK
end
section
namespace Go.Proofs.Ytlhblnphfpijkaa.WeAllK
set_option linter.unusedVariables false
set_option linter.unusedSectionVars false
open Go.RowKit Go.Proofs.Ytlhblnphfpijkaa.Q Go.Proofs.YtlhblnphfpijkaaW.PrintWords Go.Proofs.YtlhblnphfpijkaaW.PrintLast Go.Proofs.YtlhblnphfpijkaaW.PrintMore
open Go.Proofs.YtlhblnphfpijkaaL Go.Proofs.Ytlhblnphfpijkaa.LawK Go.Proofs.Ytlhblnphfpijkaa.W1 Go.Proofs.Ytlhblnphfpijkaa.BagK Go.Proofs.Ytlhblnphfpijkaa.LensK Go.Proofs.Ytlhblnphfpijkaa.BoardK

theorem rd1_nat (T : List (List Int)) (i : Nat) : rd_L1 T (i : Int) = T.getD i [] := by unfold rd_L1; rw [Int.toNat_natCast]
theorem own_f {l : List Int} (h : l.length ≤ 1000000) : spec_l1Own.f l = some l := by
  unfold spec_l1Own.f
  rw [Option.bind_some, if_pos (by rw [List.length_nil]; omega), List.nil_append]
theorem pad_snoc {row : List Int} {p : Nat} (h : row.length ≤ p) : pad (row ++ [0]) p = pad row p := by
  unfold pad
  rw [List.append_assoc, List.length_append, List.length_singleton, show p + 1 - row.length = (p + 1 - (row.length + 1)) + 1 by omega, List.replicate_succ]
  rfl
theorem pad_long {row : List Int} {p : Nat} (h : p < row.length) : pad row p = row := by
  unfold pad
  rw [show p + 1 - row.length = 0 by omega, List.replicate_zero, List.append_nil]
theorem add_l1 {b : List Int} {by_ e n : Nat} (hp : by_ + e ≤ 1000000) {g : List Int} : ∀ (d : Nat) (row : List Int), d = e + by_ + 1 - row.length →
    Ev (fun k => spec_weAdd.l0 k by_ (addAt row (e + by_) n) b (b.length : Int) ((e + 1 : Nat) : Int)) g → Ev (fun k => spec_weAdd.l1 k by_ row e n b (b.length : Int) e) g
  | 0, row, hd, next => by
    have w1 : wrap64 ((e : Int) + by_) = ((e + by_ : Nat) : Int) := by rw [w64 (by omega) (by omega)]; rfl
    have w2 : wrap64 ((e : Int) + 1) = ((e + 1 : Nat) : Int) := by rw [w64 (by omega) (by omega)]; rfl
    refine Ev.step (fun k => ?_) next
    rw [spec_weAdd.l1, w1, if_neg (by omega), if_pos (by omega), if_pos (by omega), w2, Int.toNat_natCast]
    unfold addAt
    rw [pad_long (by omega)]
  | d + 1, row, hd, next => by
    have w1 : wrap64 ((e : Int) + by_) = ((e + by_ : Nat) : Int) := by rw [w64 (by omega) (by omega)]; rfl
    refine Ev.step (fun k => ?_) (add_l1 hp d (row ++ [0]) (by rw [List.length_append, List.length_singleton]; omega) (by unfold addAt at next ⊢; rw [pad_snoc (by omega)]; exact next))
    rw [spec_weAdd.l1, w1, if_pos (by omega), if_pos (by omega)]
/-- A row's numbers behind the first e of another one were added, moved. -/
def plus (c d : Nat → Nat) (by_ e i : Nat) : Nat := c i + if by_ ≤ i ∧ i - by_ < e then d (i - by_) else 0
theorem add_l0 {b : List Int} {c d : Nat → Nat} {by_ : Nat} (hb : RepC b d) (hbl : b.length ≤ 1000) (hby : by_ ≤ 1000) (hc : ∀ i, c i ≤ 1000000000) (hd : ∀ i, d i ≤ 1000000000) :
    ∀ (r e : Nat) (row : List Int), e + r = b.length → RepC row (plus c d by_ e) → ∃ out, Ev (fun k => spec_weAdd.l0 k by_ row b (b.length : Int) e) out ∧ RepC out (plus c d by_ b.length)
  | 0, e, row, he, hr => by
    refine ⟨row, ?_, by rw [show b.length = e by omega]; exact hr⟩
    refine Ev.step (f := fun _ => some row) (fun k => ?_) (Ev.now _)
    rw [spec_weAdd.l0, if_neg (by omega)]
  | r + 1, e, row, he, hr => by
    have he2 : e < b.length := by omega
    have w2 : wrap64 ((e : Int) + 1) = ((e + 1 : Nat) : Int) := by rw [w64 (by omega) (by omega)]; rfl
    have hg := hb.get e
    have hrd : rd b (e : Int) = (d e : Int) := by rw [rd_nat, hg]
    by_cases h0 : d e = 0
    · obtain ⟨out, h1, h2⟩ := add_l0 hb hbl hby hc hd r (e + 1) row (by omega) (hr.congr (fun i => by
        unfold plus
        congr 1
        by_cases q : by_ ≤ i ∧ i - by_ < e
        · rw [if_pos q, if_pos (by omega)]
        · rw [if_neg q]
          by_cases q2 : by_ ≤ i ∧ i - by_ < e + 1
          · rw [if_pos q2, show i - by_ = e by omega, h0]
          · rw [if_neg q2]))
      refine ⟨out, Ev.step (fun k => ?_) h1, h2⟩
      rw [spec_weAdd.l0, if_pos (by omega), if_pos (by omega), if_pos (by omega), hrd, if_pos (by omega), w2]
    · have hpc : plus c d by_ e (e + by_) = c (e + by_) := by unfold plus; rw [if_neg (by omega), Nat.add_zero]
      have hA := addAt_rep (p := e + by_) (n := d e) hr (by omega) (by rw [hpc]; have := hc (e + by_); have := hd e; omega)
      obtain ⟨out, h1, h2⟩ := add_l0 hb hbl hby hc hd r (e + 1) (addAt row (e + by_) (d e)) (by omega) (hA.congr (fun i => by
        unfold plus
        by_cases q : i = e + by_
        · subst q
          rw [if_pos rfl, if_neg (by omega), if_pos (by omega), show e + by_ - by_ = e by omega]
          rfl
        · rw [if_neg q]
          congr 1
          by_cases q2 : by_ ≤ i ∧ i - by_ < e
          · rw [if_pos q2, if_pos (by omega)]
          · rw [if_neg q2, if_neg (by omega)]))
      refine ⟨out, Ev.step (fun k => ?_) (add_l1 (by_ := by_) (e := e) (n := d e) (b := b) (by omega) (e + by_ + 1 - row.length) row rfl h1), h2⟩
      rw [spec_weAdd.l0, if_pos (by omega), if_pos (by omega), if_pos (by omega), hrd, if_neg (by omega)]
theorem weAdd {a b : List Int} {c d : Nat → Nat} {by_ : Nat} (ha : RepC a c) (hb : RepC b d) (hal : a.length ≤ 1000) (hbl : b.length ≤ 1000) (hby : by_ ≤ 1000) (hc : ∀ i, c i ≤ 1000000000) (hd : ∀ i, d i ≤ 1000000000) :
    ∃ out, Ev (fun k => spec_weAdd.f k a b by_) out ∧ RepC out (fun i => c i + if by_ ≤ i then d (i - by_) else 0) := by
  obtain ⟨out, h1, h2⟩ := add_l0 (c := c) hb hbl hby hc hd b.length 0 a (by omega) (ha.congr (fun i => by unfold plus; rw [if_neg (by omega), Nat.add_zero]))
  refine ⟨out, ?_, h2.congr (fun i => ?_)⟩
  · unfold spec_weAdd.f
    refine Ev.congr (fun k => by rw [own_f (by omega), Option.bind_some]; rfl) h1
  · unfold plus
    congr 1
    by_cases q : by_ ≤ i
    · rw [if_pos q]
      by_cases q2 : i - by_ < b.length
      · rw [if_pos ⟨q, q2⟩]
      · rw [if_neg (by omega)]
        have := hb.get (i - by_)
        rw [gD_ge _ _ (by omega)] at this
        omega
    · rw [if_neg q, if_neg (by omega)]
theorem RepC.short {r : List Int} {c : Nat → Nat} (h : RepC r c) (hs : ∀ i, c i ≠ 0 → i < 64) : r.length ≤ 64 := by
  rcases Nat.eq_zero_or_pos r.length with h0 | h0
  · omega
  · have := hs (r.length - 1) (h.last (r.length - 1) (by omega)); omega

/-- The table while a row is worked off: those above k are new. -/
structure Mid (n m : Nat) (F : List (Nat × Nat)) (T : List (List Int)) (k : Nat) : Prop where
  len : T.length = n + 1
  new : ∀ j, k ≤ j → j ≤ n → RepC (T.getD j []) (nextC F m j)
  old : ∀ j, j < k → j ≤ n → RepC (T.getD j []) (cnt F j)
theorem set_getD1 (T : List (List Int)) (p i : Nat) (x : List Int) (hp : p < T.length) : (T.set p x).getD i [] = if i = p then x else T.getD i [] := by
  rw [List.getD_eq_getElem?_getD, List.getElem?_set, List.getD_eq_getElem?_getD]
  by_cases h : p = i
  · subst h; simp [hp]
  · rw [if_neg h, if_neg (fun e => h e.symm)]
section
variable {l : List Int} {F : List (Nat × Nat)} {n m r : Nat} (hn : n ≤ 6) (hm : m ≤ 6) (hF : F.length ≤ 1000000) (hFe : ∀ x ∈ F, x.2 < 40)
include hn hm hF hFe
theorem cnt_le (k e : Nat) : cnt F k e ≤ 1000000 := Nat.le_trans List.count_le_length hF
theorem cnt_far (k e : Nat) (h : cnt F k e ≠ 0) : e < 40 := by
  have : (k, e) ∈ F := List.count_pos_iff.1 (Nat.pos_of_ne_zero h)
  exact hFe _ this
/-- What one more row gives a table's row, behind some places. -/
def part (F : List (Nat × Nat)) (m k b i : Nat) : Nat := (if k ≤ m ∧ m - k ≤ i then cnt F k (i - (m - k)) else 0) + (if k = 0 then 0 else sumTo b (fun b => if b ≤ i then cnt F (k - 1) (i - b) else 0))
theorem sum_far {k i : Nat} : ∀ b, sumTo b (fun b => if b ≤ i then cnt F k (i - b) else 0) ≠ 0 → i < 40 + b
  | 0, h => absurd rfl h
  | b + 1, h => by
    rw [sumTo] at h
    by_cases h1 : sumTo b (fun b => if b ≤ i then cnt F k (i - b) else 0) = 0
    · rw [h1, Nat.zero_add] at h
      by_cases h2 : b ≤ i
      · rw [if_pos h2] at h
        have := cnt_far hn hm hF hFe k (i - b) h
        omega
      · omega
    · have := sum_far b h1; omega
theorem part_far {k b i : Nat} (hb : b ≤ 7) (h : part F m k b i ≠ 0) : i < 64 := by
  unfold part at h
  by_cases h1 : (if k ≤ m ∧ m - k ≤ i then cnt F k (i - (m - k)) else 0) = 0
  · rw [h1, Nat.zero_add] at h
    by_cases h2 : k = 0
    · rw [if_pos h2] at h; exact absurd rfl h
    · rw [if_neg h2] at h
      have := sum_far hn hm hF hFe b h
      omega
  · by_cases h3 : k ≤ m ∧ m - k ≤ i
    · rw [if_pos h3] at h1
      have := cnt_far hn hm hF hFe _ _ h1
      omega
    · rw [if_neg h3] at h1; exact absurd rfl h1
theorem part_le {k b i : Nat} (hb : b ≤ 7) : part F m k b i ≤ 8000000 := by
  unfold part
  have h1 : (if k ≤ m ∧ m - k ≤ i then cnt F k (i - (m - k)) else 0) ≤ 1000000 := by
    split
    · exact cnt_le hn hm hF hFe _ _
    · omega
  have h2 : (if k = 0 then 0 else sumTo b (fun b => if b ≤ i then cnt F (k - 1) (i - b) else 0)) ≤ 7000000 := by
    split
    · omega
    · have := sumTo_le (f := fun b => if b ≤ i then cnt F (k - 1) (i - b) else 0) (B := 1000000) (fun b => by
        split
        · exact cnt_le hn hm hF hFe _ _
        · omega) b
      have h3 : b * 1000000 ≤ 7 * 1000000 := Nat.mul_le_mul_right _ hb
      omega
  omega
theorem old_short {T : List (List Int)} {k j : Nat} (h : Mid n m F T k) (hj : j < k) (hjn : j ≤ n) : (T.getD j []).length ≤ 64 :=
  RepC.short (h.old j hj hjn) (fun i hi => by have := cnt_far hn hm hF hFe j i hi; omega)
theorem all_l2 (hl : l.length = n) {g : List (List Int)} {T : List (List Int)} {k : Nat} (hk : k ≤ n) (hT : Mid n m F T (k + 1))
    (next : ∀ T', Mid n m F T' k → Ev (fun q => spec_weAll.l1 q l T' m ((k : Int) - 1) l (l.length : Int) r) g) :
    ∀ (d b : Nat) (row : List Int), b + d = m + 1 - k → RepC row (part F m k b) → Ev (fun q => spec_weAll.l2 q l T m k row b l (l.length : Int) r) g
  | 0, b, row, hb, hr => by
    have w1 : wrap64 ((m : Int) - k) = (m : Int) - k := w64 (by omega) (by omega)
    have w2 : wrap64 ((m : Int) - k + 1) = (m : Int) - k + 1 := w64 (by omega) (by omega)
    have w3 : wrap64 ((k : Int) - 1) = (k : Int) - 1 := w64 (by omega) (by omega)
    have hM : Mid n m F (T.set k row) k := by
      refine ⟨by rw [List.length_set]; exact hT.len, fun j h1 h2 => ?_, fun j h1 h2 => ?_⟩
      · rw [set_getD1 _ _ _ _ (by rw [hT.len]; omega)]
        by_cases e : j = k
        · rw [if_pos e]
          refine hr.congr (fun i => ?_)
          rw [e]
          unfold part nextC
          by_cases hk0 : k = 0
          · rw [if_pos hk0, if_pos hk0]
          · rw [if_neg hk0, if_neg hk0, show b = m + 1 - k by omega]
        · rw [if_neg e]; exact hT.new j (by omega) h2
      · rw [set_getD1 _ _ _ _ (by rw [hT.len]; omega), if_neg (by omega)]
        exact hT.old j (by omega) h2
    refine Ev.step (fun q => ?_) (next _ hM)
    rw [spec_weAll.l2, w1, w2, w3]
    by_cases hk0 : (k : Int) > 0
    · rw [if_pos hk0, if_neg (by omega), if_pos (by omega), if_pos (by rw [hT.len]; omega), Int.toNat_natCast]
    · rw [if_neg hk0, if_pos (by omega), if_pos (by rw [hT.len]; omega), Int.toNat_natCast]
  | d + 1, b, row, hb, hr => by
    have hb7 : b ≤ 7 := by clear hT next hr; omega
    have hbm : (b : Int) < (m : Int) - k + 1 := by clear hT next hr; omega
    have w1 : wrap64 ((m : Int) - k) = (m : Int) - k := w64 (by omega) (by omega)
    have w2 : wrap64 ((m : Int) - k + 1) = (m : Int) - k + 1 := w64 (by omega) (by omega)
    have w4 : wrap64 ((b : Int) + 1) = ((b + 1 : Nat) : Int) := by rw [w64 (by omega) (by omega)]; rfl
    by_cases hk0 : k = 0
    · have hM : Mid n m F (T.set k row) k := by
        refine ⟨by rw [List.length_set]; exact hT.len, fun j h1 h2 => ?_, fun j h1 h2 => by omega⟩
        rw [set_getD1 _ _ _ _ (by rw [hT.len]; omega)]
        by_cases e : j = k
        · rw [if_pos e]
          refine hr.congr (fun i => ?_)
          rw [e]
          unfold part nextC
          rw [if_pos hk0, if_pos hk0]
        · rw [if_neg e]; exact hT.new j (by omega) h2
      have w3 : wrap64 ((k : Int) - 1) = (k : Int) - 1 := w64 (by omega) (by omega)
      refine Ev.step (fun q => ?_) (next _ hM)
      rw [spec_weAll.l2, w3, if_neg (by omega), if_pos (by omega), if_pos (by rw [hT.len]; omega), Int.toNat_natCast]
    · have w3 : wrap64 ((k : Int) - 1) = ((k - 1 : Nat) : Int) := by rw [w64 (by omega) (by omega)]; omega
      have hold := hT.old (k - 1) (by omega) (by omega)
      have hs := old_short hn hm hF hFe hT (show k - 1 < k + 1 by omega) (by omega)
      obtain ⟨out, h1, h2⟩ := weAdd (by_ := b) hr hold (Nat.le_trans (RepC.short hr (fun i hi => part_far hn hm hF hFe hb7 hi)) (by decide)) (Nat.le_trans hs (by decide)) (Nat.le_trans hb7 (by decide)) (fun i => Nat.le_trans (part_le hn hm hF hFe (k := k) (b := b) (i := i) hb7) (by decide)) (fun i => Nat.le_trans (cnt_le hn hm hF hFe (k - 1) i) (by decide))
      have ih := all_l2 hl hk hT next d (b + 1) out (by omega) (h2.congr (fun i => by
        unfold part
        rw [if_neg hk0, if_neg hk0, sumTo, Nat.add_assoc]))
      refine Ev.step (fun q => by rw [spec_weAll.l2, w1, w2, w3, if_pos (by omega), if_pos hbm, if_pos (by omega), if_pos (by rw [hT.len]; omega), rd1_nat, w4]) ?_
      refine Ev.bind h1 ?_
      exact ih
theorem all_l1 (hl : l.length = n) {g : List (List Int)} (next : ∀ T', Mid n m F T' 0 → Ev (fun q => spec_weAll.l0 q l T' l (l.length : Int) (wrap64 ((r : Int) + 1))) g) :
    ∀ (k : Nat) (T : List (List Int)), k ≤ n + 1 → Mid n m F T k → Ev (fun q => spec_weAll.l1 q l T m ((k : Int) - 1) l (l.length : Int) r) g
  | 0, T, hk, hT => by
    refine Ev.step (fun q => ?_) (next T hT)
    rw [spec_weAll.l1, if_neg (by omega)]
  | k + 1, T, hk, hT => by
    have ih := fun T' h' => all_l1 hl next k T' (by omega) h'
    have e0 : ((k + 1 : Nat) : Int) - 1 = k := by omega
    rw [e0]
    have w1 : ∀ h : k ≤ m, wrap64 ((m : Int) - k) = ((m - k : Nat) : Int) := fun h => by rw [w64 (by omega) (by omega)]; omega
    by_cases hkm : k ≤ m
    · have hold := hT.old k (by omega) (by omega)
      have hs := old_short hn hm hF hFe hT (show k < k + 1 by omega) (by omega)
      obtain ⟨out, h1, h2⟩ := weAdd (a := []) (by_ := m - k) RepC.nil hold (by simp) (by omega) (by omega) (fun i => by omega) (fun i => by have := cnt_le hn hm hF hFe k i; omega)
      have h3 := all_l2 hn hm hF hFe hl (r := r) (by omega) hT ih (m + 1 - k) 0 out (by omega) (h2.congr (fun i => by
        unfold part
        rw [Nat.zero_add]
        by_cases q : m - k ≤ i
        · rw [if_pos q, if_pos ⟨hkm, q⟩]; by_cases hk0 : k = 0 <;> simp [hk0, sumTo]
        · rw [if_neg q, if_neg (by omega)]; by_cases hk0 : k = 0 <;> simp [hk0, sumTo]))
      refine Ev.step (fun q => by rw [spec_weAll.l1, if_pos (by omega), if_pos (by omega), if_pos (by omega), if_pos (by rw [hT.len]; omega), rd1_nat, w1 hkm]) ?_
      refine Ev.bind h1 ?_
      exact Ev.step (fun q => by rw [spec_weAll.j2]; rfl) h3
    · have h3 := all_l2 hn hm hF hFe hl (r := r) (by omega) hT ih 0 0 [] (by omega) (RepC.nil.congr (fun i => by
        unfold part
        rw [if_neg (by omega)]
        by_cases hk0 : k = 0 <;> simp [hk0, sumTo]))
      refine Ev.step (fun q => by rw [spec_weAll.l1, if_pos (by omega), if_neg (by omega)]) ?_
      exact Ev.step (fun q => by rw [spec_weAll.j2]; rfl) h3
end
theorem Fk_free {l : List Int} (hm : ∀ r, (l.getD r 0).toNat ≤ 6) : ∀ r x, x ∈ Fk l r → x.2 ≤ 6 * r
  | 0, x, h => by rw [Fk, List.mem_singleton] at h; subst h; exact Nat.le_refl _
  | r + 1, x, h => by
    rw [Fk, List.mem_flatMap] at h
    obtain ⟨y, hy, hx⟩ := h
    have q := Fk_free hm r y hy
    have q2 := hm r
    rw [BagK.step, List.mem_cons, List.mem_map] at hx
    rcases hx with rfl | ⟨i, hi, rfl⟩
    · simp only []; omega
    · rw [List.mem_range] at hi
      simp only []; omega
theorem weAll {l : List Int} (h : lenB l = true) : Ev (fun k => spec_weAll.f k l) (wtab l) := by
  obtain ⟨h1, h2, h3⟩ := len_of h
  have hr : riseFrom l 1 = true := by unfold lenB at h; simp only [Bool.and_eq_true] at h; exact h.2
  have hgd : ∀ i, 0 ≤ l.getD i 0 ∧ l.getD i 0 ≤ l.length := by
    intro i
    by_cases hi : i < l.length
    · rw [gD_lt _ _ hi]; exact h3 i hi
    · rw [gD_ge _ _ (by omega)]; omega
  have hm6 : ∀ i, (l.getD i 0).toNat ≤ 6 := fun i => by have := hgd i; omega
  have hlen : ∀ r, r ≤ l.length → (Fk l r).length ≤ 1000000 := by
    intro r hr
    have a := Fk_len hm6 r
    have b : 7 ^ r ≤ 7 ^ 6 := Nat.pow_le_pow_right (by omega) (by omega)
    omega
  have key : ∀ (d r : Nat) (T : List (List Int)), r + d = l.length → RepT l.length T (Fk l r) → Ev (fun q => spec_weAll.l0 q l T l (l.length : Int) r) (wtab l) := by
    intro d
    induction d with
    | zero =>
      intro r T hrd hT
      refine Ev.step (f := fun _ => some T) (fun k => by rw [spec_weAll.l0, if_neg (by omega)]) (evEq (Ev.now _) ?_)
      rw [show r = l.length by omega] at hT
      exact hT.eq (wtab_rep h)
    | succ d ih =>
      intro r T hrd hT
      have hr2 : r < l.length := by omega
      have w2 : wrap64 ((r : Int) + 1) = ((r + 1 : Nat) : Int) := by rw [w64 (by omega) (by omega)]; rfl
      obtain ⟨m, hm⟩ : ∃ m, m = (l.getD r 0).toNat := ⟨_, rfl⟩
      have hmi : rd l (r : Int) = (m : Int) := by rw [rd_nat, hm]; have := hgd r; omega
      have hm62 := hm6 r
      have hle : ∀ x ∈ Fk l r, x.1 ≤ m := by
        intro x hx
        refine (Fk_rooks r x hx).2 m (fun i hi => ?_)
        have := rise_le hr (r - i) i (by omega)
        rw [show i + (r - i) = r by omega] at this
        omega
      have hfe : ∀ x ∈ Fk l r, x.2 < 40 := fun x hx => by have := Fk_free hm6 r x hx; omega
      have e0 : ((l.length + 1 : Nat) : Int) - 1 = (l.length : Int) := by omega
      have := all_l1 (l := l) (r := r) (m := m) (n := l.length) h2 (by omega) (hlen r (by omega)) hfe rfl (fun T' hT' => by
        rw [w2]
        refine ih (r + 1) T' (by omega) ⟨hT'.len, fun k hk => (hT'.new k (by omega) hk).congr (fun i => ?_)⟩
        rw [Fk, ← hm, cnt_step m k i _ hle]) (l.length + 1) T (Nat.le_refl _) ⟨hT.len, fun j h1 h2 => by omega, fun j h1 h2 => hT.rep j h2⟩
      rw [e0] at this
      refine Ev.step (fun q => ?_) this
      rw [spec_weAll.l0, if_pos (by omega), if_pos (by omega), if_pos (by omega), hmi]
  have e1 : wrap64 ((l.length : Int) + 1) = ((l.length + 1 : Nat) : Int) := by rw [w64 (by omega) (by omega)]; rfl
  unfold spec_weAll.f
  refine Ev.congr (fun k => by rw [e1, if_pos (by omega), Int.toNat_natCast, if_pos (by omega), Option.bind_some, if_pos (by rw [List.length_replicate]; omega)]) ?_
  refine key l.length 0 _ (by omega) ⟨by rw [List.length_set, List.length_replicate], fun k hk => ?_⟩
  rw [show ((0 : Int)).toNat = 0 from rfl, set_getD1 _ _ _ _ (by rw [List.length_replicate]; omega)]
  by_cases e : k = 0
  · rw [if_pos e]
    refine ⟨fun i => ?_, fun i hi => ?_⟩
    · rw [Fk, cnt_cons, cnt_nil, Nat.zero_add]
      simp only []
      by_cases hi : i = 0
      · rw [if_pos ⟨e, hi⟩, hi]; rfl
      · rw [if_neg (by omega), gD_ge _ _ (by simp; omega)]; rfl
    · have hi0 : i = 0 := by simpa using hi.symm
      rw [Fk, cnt_cons, cnt_nil, e, hi0]; simp
  · rw [if_neg e, gD_lt _ _ (by rw [List.length_replicate]; omega), List.getElem_replicate]
    refine RepC.nil.congr (fun i => ?_)
    rw [Fk, cnt_cons, cnt_nil]
    simp only []
    rw [if_neg (by omega)]
end Go.Proofs.Ytlhblnphfpijkaa.WeAllK
end
section
namespace Go.Proofs.Ytlhblnphfpijkaa.WValK
set_option linter.unusedVariables false
open Go.RowKit Go.Proofs.Ytlhblnphfpijkaa.Q Go.Proofs.YtlhblnphfpijkaaW.PrintWords Go.Proofs.YtlhblnphfpijkaaW.PrintLast Go.Proofs.YtlhblnphfpijkaaW.PrintMore
open Go.Proofs.YtlhblnphfpijkaaL Go.Proofs.Ytlhblnphfpijkaa.LawK Go.Proofs.Ytlhblnphfpijkaa.BagK Go.Proofs.Ytlhblnphfpijkaa.LensK Go.Proofs.Ytlhblnphfpijkaa.BoardK Go.Proofs.Ytlhblnphfpijkaa.WeAllK
theorem withinR (a b c : Int) : impl_within.f a b c = some (inR b c a) := by
  unfold impl_within.f inR
  by_cases h : b ≤ a
  · rw [if_pos h]; simp [h]
  · rw [if_neg h]; congr 1; exact (decide_eq_false (by omega)).symm
theorem wtab_len {l : List Int} (h : lenB l = true) : (wtab l).length = l.length + 1 := (wtab_rep h).len
theorem wtab_row {l : List Int} (h : lenB l = true) (k : Nat) : ((wtab l).getD k []).length ≤ 64 := by
  obtain ⟨h1, h2, h3⟩ := len_of h
  by_cases hk : k ≤ l.length
  · refine RepC.short ((wtab_rep h).rep k hk) (fun i hi => ?_)
    have hm6 : ∀ i, (l.getD i 0).toNat ≤ 6 := by
      intro i
      by_cases hi : i < l.length
      · rw [gD_lt _ _ hi]; have := h3 i hi; omega
      · rw [gD_ge _ _ (by omega)]; exact Nat.zero_le _
    have := Fk_free hm6 l.length (k, i) (List.count_pos_iff.1 (Nat.pos_of_ne_zero hi))
    simp only [] at this
    omega
  · rw [gD_ge _ _ (by rw [wtab_len h]; omega)]; exact Nat.zero_le _
end Go.Proofs.Ytlhblnphfpijkaa.WValK
end
section
namespace Go.Proofs.Ytlhblnphfpijkaa.Pure
set_option linter.unusedVariables false
open Go.RowKit Go.Proofs.Ytlhblnphfpijkaa.Q Go.Proofs.YtlhblnphfpijkaaW.PrintWords Go.Proofs.YtlhblnphfpijkaaW.PrintLast Go.Proofs.YtlhblnphfpijkaaW.PrintMore
open Go.Proofs.YtlhblnphfpijkaaL Go.Proofs.Ytlhblnphfpijkaa.LawK Go.Proofs.Ytlhblnphfpijkaa.BoardK Go.Proofs.Ytlhblnphfpijkaa.LensK Go.Proofs.Ytlhblnphfpijkaa.BagK Go.Proofs.Ytlhblnphfpijkaa.WeAllK Go.Proofs.Ytlhblnphfpijkaa.WValK
namespace WSK
/-- A bracket's value. -/
def brk (q m : Int) : Int := (spec_weBracket.f 40 m q).getD 0
theorem brk0 : ∀ m : Fin 9, (impl_bracket.f 40 (m.val : Int) 2 = some (brk 2 m.val) ∧ spec_weBracket.f 40 (m.val : Int) 2 = some (brk 2 m.val)) ∧ (impl_bracket.f 40 (m.val : Int) 3 = some (brk 3 m.val) ∧ spec_weBracket.f 40 (m.val : Int) 3 = some (brk 3 m.val)) := by decide +kernel
theorem brk_f {q m : Int} (hq : 2 ≤ q ∧ q ≤ 3) (h0 : 0 ≤ m) (h8 : m ≤ 8) : Ev (fun k => impl_bracket.f k m q) (brk q m) ∧ Ev (fun k => spec_weBracket.f k m q) (brk q m) := by
  obtain ⟨n, rfl⟩ : ∃ n : Nat, m = n := ⟨m.toNat, by omega⟩
  have h := brk0 ⟨n, by omega⟩
  obtain rfl | rfl : q = 2 ∨ q = 3 := by omega
  · exact ⟨Ev.of (fun k => impl_bracket.mono _ _ k) h.1.1, Ev.of (fun k => spec_weBracket.mono _ _ k) h.1.2⟩
  · exact ⟨Ev.of (fun k => impl_bracket.mono _ _ k) h.2.1, Ev.of (fun k => spec_weBracket.mono _ _ k) h.2.2⟩
def prod (q x : Int) : Nat → Nat → Int → Int
  | 0, _, o => o
  | d + 1, i, o => prod q x d (i + 1) (wrap64 (o * brk q (x - i)))
def tot (q x : Int) (n : Nat) (T : List (List Int)) : Nat → Nat → Int → Int
  | 0, _, s => s
  | d + 1, k, s => tot q x n T d (k + 1) (wrap64 (s + prod q x (n - k) 0 (rsum q (T.getD k []) (T.getD k []).length 0 0)))
section
variable {l : List Int} {T : List (List Int)} {q x : Int} (hl6 : l.length ≤ 6) (hT : T.length = l.length + 1) (hr : ∀ k, (T.getD k []).length ≤ 64) (hq : 2 ≤ q ∧ q ≤ 3) (hx : l.length ≤ x ∧ x ≤ 8)
include hl6 hT hr hq hx
theorem impl_tot : ∀ (d k : Nat) (s : Int), k + d = l.length + 1 → Ev (fun n => impl_WeightedSumAt.l0 n l q x s T (T.length : Int) k) (tot q x l.length T d k s, true)
  | 0, k, s, h => Ev.step (f := fun _ => some (s, true)) (fun n => by rw [impl_WeightedSumAt.l0, if_neg (by omega)]) (Ev.now _)
  | d + 1, k, s, h => by
    have w1 := Aside0.mk (show wrap64 ((k : Int) + 1) = ((k + 1 : Nat) : Int) from by rw [w64 (by omega) (by omega)]; rfl)
    have w2 := Aside0.mk (show wrap64 ((l.length : Int) - k) = ((l.length - k : Nat) : Int) from by rw [w64 (by omega) (by omega)]; omega)
    rw [tot]
    refine Ev.step (fun n => by rw [impl_WeightedSumAt.l0, if_pos (by omega), if_pos (by omega), if_pos (by omega), rd1_nat, w2.out]) ?_
    refine Ev.bind (impl_at q (hr k)) ?_
    have key : ∀ (e i : Nat) (o : Int), i + e = l.length - k → Ev (fun n => impl_WeightedSumAt.l1 n l q x s o T (T.length : Int) k ((l.length - k : Nat) : Int) i) (tot q x l.length T d (k + 1) (wrap64 (s + prod q x e i o)), true) := by
      intro e
      induction e with
      | zero =>
        intro i o hi
        refine Ev.step (fun n => ?_) (impl_tot d (k + 1) _ (by omega))
        rw [impl_WeightedSumAt.l1, if_neg (by omega), w1.out, prod]
      | succ e ih =>
        intro i o hi
        have w3 := Aside0.mk (show wrap64 ((i : Int) + 1) = ((i + 1 : Nat) : Int) from by rw [w64 (by omega) (by omega)]; rfl)
        have w4 := Aside0.mk (show wrap64 (x - i) = x - i from w64 (by omega) (by omega))
        rw [prod]
        refine Ev.step (fun n => by rw [impl_WeightedSumAt.l1, if_pos (by omega), w4.out, w3.out]) ?_
        refine Ev.bind (brk_f hq (by omega) (by omega)).1 ?_
        exact ih (i + 1) _ (by omega)
    exact key (l.length - k) 0 _ (by omega)
theorem spec_tot : ∀ (d k : Nat) (s : Int), k + d = l.length + 1 → Ev (fun n => spec_WeightedSumAt.l0 n l q x s T (T.length : Int) k) (tot q x l.length T d k s, true)
  | 0, k, s, h => Ev.step (f := fun _ => some (s, true)) (fun n => by rw [spec_WeightedSumAt.l0, if_neg (by omega)]) (Ev.now _)
  | d + 1, k, s, h => by
    have w1 := Aside0.mk (show wrap64 ((k : Int) + 1) = ((k + 1 : Nat) : Int) from by rw [w64 (by omega) (by omega)]; rfl)
    have w2 := Aside0.mk (show wrap64 ((l.length : Int) - k) = ((l.length - k : Nat) : Int) from by rw [w64 (by omega) (by omega)]; omega)
    rw [tot]
    refine Ev.step (fun n => by rw [spec_WeightedSumAt.l0, if_pos (by omega), if_pos (by omega), if_pos (by omega), rd1_nat]) ?_
    refine Ev.bind (spec_at q (hr k)) ?_
    have key : ∀ (e i : Nat) (o : Int), i + e = l.length - k → Ev (fun n => spec_WeightedSumAt.l1 n l q x s k o i T (T.length : Int) k) (tot q x l.length T d (k + 1) (wrap64 (s + prod q x e i o)), true) := by
      intro e
      induction e with
      | zero =>
        intro i o hi
        refine Ev.step (fun n => ?_) (spec_tot d (k + 1) _ (by omega))
        rw [spec_WeightedSumAt.l1, w2.out, if_neg (by omega), w1.out, prod]
      | succ e ih =>
        intro i o hi
        have w3 := Aside0.mk (show wrap64 ((i : Int) + 1) = ((i + 1 : Nat) : Int) from by rw [w64 (by omega) (by omega)]; rfl)
        have w4 := Aside0.mk (show wrap64 (x - i) = x - i from w64 (by omega) (by omega))
        rw [prod]
        refine Ev.step (fun n => by rw [spec_WeightedSumAt.l1, w2.out, if_pos (by omega), w4.out, w3.out]) ?_
        refine Ev.bind (brk_f hq (by omega) (by omega)).2 ?_
        exact ih (i + 1) _ (by omega)
    exact key (l.length - k) 0 _ (by omega)
end
def wB (l : List Int) (q x : Int) : Bool := LensK.lenB l && (decide ((l.length : Int) ≤ 4) && (inR 2 3 q && inR (l.length : Int) 8 x))
theorem impl_w {l : List Int} (q x : Int) (hl : l.length ≤ 1048576) : Ev (fun k => impl_isWeighted.f k l q x) (wB l q x) := by
  unfold impl_isWeighted.f wB
  refine Ev.bind (LensK.impl_good hl) ?_
  by_cases h : LensK.lenB l = true
  · rw [h, Bool.true_and]
    refine Ev.congr (fun k => if_pos rfl) ?_
    by_cases c : (l.length : Int) ≤ 4
    · rw [decide_eq_true c, Bool.true_and]
      refine Ev.congr (fun k => by rw [if_pos c, impl_isQ.f, withinR, Option.bind_some, Option.bind_some, withinR, Option.bind_some]) ?_
      cases inR 2 3 q
      · exact Ev.congr (fun k => if_neg (by simp)) (Ev.now _)
      · exact Ev.congr (fun k => if_pos rfl) (Ev.now _)
    · rw [decide_eq_false c, Bool.false_and]
      exact Ev.congr (fun k => if_neg c) (Ev.now _)
  · rw [show LensK.lenB l = false by simpa using h, Bool.false_and]
    exact Ev.congr (fun k => if_neg (by simp)) (Ev.now _)
theorem spec_w {l : List Int} (q x : Int) (hl : l.length ≤ 1048576) : Ev (fun k => spec_weArgument.f k l q x) (wB l q x) := by
  unfold spec_weArgument.f wB
  refine Ev.bind (LensK.spec_good hl) ?_
  by_cases h : LensK.lenB l = true
  · rw [h, Bool.true_and]
    refine Ev.congr (fun k => if_pos rfl) ?_
    by_cases c : (l.length : Int) ≤ 4
    · rw [decide_eq_true c, Bool.true_and]
      refine Ev.congr (fun k => by rw [if_pos c, spec_weBase.f, l1In_f, Option.bind_some, Option.bind_some, l1In_f, Option.bind_some]) ?_
      cases inR 2 3 q
      · exact Ev.congr (fun k => if_neg (by simp)) (Ev.now _)
      · exact Ev.congr (fun k => if_pos rfl) (Ev.now _)
    · rw [decide_eq_false c, Bool.false_and]
      exact Ev.congr (fun k => if_neg c) (Ev.now _)
  · rw [show LensK.lenB l = false by simpa using h, Bool.false_and]
    exact Ev.congr (fun k => if_neg (by simp)) (Ev.now _)
theorem wB_out {l : List Int} {q x : Int} (h : wB l q x = true) : lenB l = true ∧ (2 ≤ q ∧ q ≤ 3) ∧ ((l.length : Int) ≤ x ∧ x ≤ 8) := by
  unfold wB at h
  rw [Bool.and_eq_true, Bool.and_eq_true, Bool.and_eq_true] at h
  obtain ⟨h1, h2, h3, h4⟩ := h
  exact ⟨h1, of_decide_eq_true h3, of_decide_eq_true h4⟩
def ans (l : List Int) (q x : Int) : Int × Bool := if wB l q x = true then (tot q x l.length (wtab l) (l.length + 1) 0 0, true) else (0, false)
theorem spec_a {l : List Int} (q x : Int) (hl : l.length ≤ 1048576) : Ev (fun k => spec_WeightedSumAt.f k l q x) (ans l q x) := by
  unfold spec_WeightedSumAt.f ans
  refine Ev.bind (spec_w q x hl) ?_
  by_cases h : wB l q x = true
  · obtain ⟨h1, h2, h3⟩ := wB_out h
    rw [h, if_pos rfl]
    refine Ev.congr (fun k => if_pos rfl) (Ev.bind (weAll h1) ?_)
    exact spec_tot (len_of h1).2.1 (wtab_len h1) (wtab_row h1) h2 h3 (l.length + 1) 0 0 (by omega)
  · rw [show wB l q x = false by simpa using h, if_neg (by simp)]
    exact Ev.congr (fun k => if_neg (by simp)) (Ev.now _)
theorem impl_a {l : List Int} (q x : Int) (hl : l.length ≤ 1048576) : Ev (fun k => impl_WeightedSumAt.f k l q x) (ans l q x) := by
  unfold impl_WeightedSumAt.f ans
  refine Ev.bind (impl_w q x hl) ?_
  by_cases h : wB l q x = true
  · obtain ⟨h1, h2, h3⟩ := wB_out h
    rw [h, if_pos rfl]
    refine Ev.congr (fun k => by rw [if_pos rfl, impl_weights.f, if_pos h1, Option.bind_some]) ?_
    exact impl_tot (len_of h1).2.1 (wtab_len h1) (wtab_row h1) h2 h3 (l.length + 1) 0 0 (by omega)
  · rw [show wB l q x = false by simpa using h, if_neg (by simp)]
    exact Ev.congr (fun k => if_neg (by simp)) (Ev.now _)
end WSK
open WSK
theorem FnExactWeightedSumAt : laws_FnExactWeightedSumAt.Pure := by
  intro l q x _ _ _ _ _
  unfold laws_FnExactWeightedSumAt.f
  refine ends ?_
  by_cases hl : l.length ≤ 1048576
  · refine Ev.congr (fun k => by rw [if_neg (by omega)]) ?_
    have tl := toIntS hl
    refine Ev.bind tl (Ev.bind (spec_a q x hl) (Ev.bind tl (Ev.bind (impl_a q x hl) ?_)))
    refine Ev.congr (fun k => by rw [if_pos rfl]) ?_
    refine Ev.step (fun k => by rw [laws_FnExactWeightedSumAt.j0, if_neg (by simp)]) ?_
    refine Ev.bind tl (Ev.bind (eqIntS (by omega)) ?_)
    exact Ev.congr (fun k => by rw [if_pos (by simp)]) (Ev.now _)
  · exact Ev.congr (fun k => by rw [if_pos (by omega)]) (Ev.now _)
end Go.Proofs.Ytlhblnphfpijkaa.Pure
end
