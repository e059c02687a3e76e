/- Rows of counts: a row is told by its counts; one more at a place; the table of placements by rooks and free cells, row by row. No program in sight. -/
import Derived.Test.YtlhblnphfpijkaaW1
import Derived.Test.YtlhblnphfpijkaaRookN
import Derived.Test.YtlhblnphfpijkaaFreeI
import Derived.Test.YtlhblnphfpijkaaWays
namespace Go.Proofs.Ytlhblnphfpijkaa.BagK
set_option linter.unusedVariables false
open Go.RowKit Go.Proofs.YtlhblnphfpijkaaW.PrintWords Go.Proofs.YtlhblnphfpijkaaW.PrintLast Go.Proofs.YtlhblnphfpijkaaW.PrintMore
open Go.Proofs.YtlhblnphfpijkaaL Go.Proofs.Ytlhblnphfpijkaa.LawK Go.Proofs.Ytlhblnphfpijkaa.W1 Go.Proofs.Ytlhblnphfpijkaa.Walk Go.Proofs.Ytlhblnphfpijkaa.FreeK Go.Proofs.Ytlhblnphfpijkaa.LensK Go.Proofs.Ytlhblnphfpijkaa.BoardK

/-- A row's numbers are told by c, and its last number is not 0. -/
structure RepC (r : List Int) (c : Nat → Nat) : Prop where
  get : ∀ i, r.getD i 0 = (c i : Int)
  last : ∀ i, r.length = i + 1 → c i ≠ 0
theorem RepC.nil : RepC [] (fun _ => 0) := ⟨fun i => rfl, fun i h => by simp at h⟩
theorem RepC.congr {r : List Int} {c d : Nat → Nat} (h : RepC r c) (e : ∀ i, c i = d i) : RepC r d := ⟨fun i => by rw [h.get, e], fun i hi => by rw [← e]; exact h.last i hi⟩
theorem RepC.eq {r s : List Int} {c d : Nat → Nat} (h : RepC r c) (k : RepC s d) (e : ∀ i, c i = d i) : r = s := by
  have hl : r.length = s.length := by
    rcases Nat.lt_trichotomy r.length s.length with hlt | heq | hgt
    · exfalso
      obtain ⟨i, hi⟩ : ∃ i, s.length = i + 1 := ⟨s.length - 1, by omega⟩
      have h1 := k.last i hi
      have h2 := h.get i
      rw [gD_ge r 0 (by omega)] at h2
      have := e i
      omega
    · exact heq
    · exfalso
      obtain ⟨i, hi⟩ : ∃ i, r.length = i + 1 := ⟨r.length - 1, by omega⟩
      have h1 := h.last i hi
      have h2 := k.get i
      rw [gD_ge s 0 (by omega)] at h2
      have := e i
      omega
  refine List.ext_getElem hl (fun i h1 h2 => ?_)
  have a := h.get i
  have b := k.get i
  rw [gD_lt r 0 h1] at a
  rw [gD_lt s 0 h2] at b
  rw [a, b, e i]

theorem pad_length (row : List Int) (e : Nat) : (pad row e).length = max row.length (e + 1) := by
  unfold pad; rw [List.length_append, List.length_replicate]; omega
theorem app0_getD (row : List Int) (n i : Nat) : (row ++ List.replicate n (0 : Int)).getD i 0 = row.getD i 0 := by
  by_cases h : i < row.length
  · rw [gD_lt _ _ (by rw [List.length_append]; omega), gD_lt _ _ h, List.getElem_append_left h]
  · rw [gD_ge row 0 (by omega)]
    by_cases h2 : i < (row ++ List.replicate n (0 : Int)).length
    · rw [gD_lt _ _ h2, List.getElem_append_right (by omega), List.getElem_replicate]
    · exact gD_ge _ _ (by omega)
theorem pad_getD (row : List Int) (e i : Nat) : (pad row e).getD i 0 = row.getD i 0 := app0_getD _ _ _
/-- Some more at a place. -/
def addAt (row : List Int) (p : Nat) (n : Int) : List Int := (pad row p).set p (wrap64 (rd (pad row p) (p : Int) + n))
theorem bump_eq (row : List Int) (e : Nat) : bump row e = addAt row e 1 := rfl
theorem addAt_length (row : List Int) (p : Nat) (n : Int) : (addAt row p n).length = max row.length (p + 1) := by
  unfold addAt; rw [List.length_set, pad_length]
theorem set_getD (l : List Int) (p i : Nat) (x : Int) (hp : p < l.length) : (l.set p x).getD i 0 = if i = p then x else l.getD i 0 := by
  rw [List.getD_eq_getElem?_getD, List.getElem?_set, List.getD_eq_getElem?_getD]
  by_cases h : p = i
  · subst h; simp [hp]
  · rw [if_neg h, if_neg (fun e => h e.symm)]
theorem addAt_rep {row : List Int} {c : Nat → Nat} {p n : Nat} (h : RepC row c) (hn : 0 < n) (hb : c p + n ≤ 4611686018427387904) : RepC (addAt row p (n : Int)) (fun i => if i = p then c i + n else c i) := by
  have hp : p < (pad row p).length := by rw [pad_length]; omega
  refine ⟨fun i => ?_, fun i hi => ?_⟩
  · unfold addAt
    rw [set_getD _ _ _ _ hp, rd_nat, pad_getD, pad_getD, h.get, h.get]
    by_cases e : i = p
    · rw [if_pos e, if_pos e, e, w64 (by omega) (by omega)]; simp
    · rw [if_neg e, if_neg e]
  · rw [addAt_length] at hi
    by_cases e : i = p
    · rw [if_pos e]; omega
    · rw [if_neg e]; exact h.last i (by omega)

/-- What one more row of length m makes of a placement with so many rooks and free cells. -/
def step (m : Nat) (x : Nat × Nat) : List (Nat × Nat) := (x.1, x.2 + (m - x.1)) :: (List.range (m - x.1)).map fun i => (x.1 + 1, x.2 + i)
def cnt (F : List (Nat × Nat)) (k e : Nat) : Nat := F.count (k, e)
def sumTo : Nat → (Nat → Nat) → Nat
  | 0, _ => 0
  | n + 1, f => sumTo n f + f n
theorem sumTo_add (f g : Nat → Nat) : ∀ n, sumTo n (fun b => f b + g b) = sumTo n f + sumTo n g
  | 0 => rfl
  | n + 1 => by rw [sumTo, sumTo, sumTo, sumTo_add f g n]; omega
theorem sumTo_congr {f g : Nat → Nat} (n : Nat) (h : ∀ b, b < n → f b = g b) : sumTo n f = sumTo n g := by
  induction n with
  | zero => rfl
  | succ n ih => rw [sumTo, sumTo, ih (fun b hb => h b (by omega)), h n (by omega)]
theorem sumTo_zero : ∀ n, sumTo n (fun _ => 0) = 0
  | 0 => rfl
  | n + 1 => by rw [sumTo, sumTo_zero n]
theorem sumTo_le {f : Nat → Nat} {B : Nat} (h : ∀ b, f b ≤ B) : ∀ n, sumTo n f ≤ n * B
  | 0 => by simp [sumTo]
  | n + 1 => by rw [sumTo, Nat.succ_mul]; have := sumTo_le h n; have := h n; omega
theorem sumTo_one (e e0 : Nat) : ∀ n, sumTo n (fun b => if b ≤ e ∧ e - b = e0 then 1 else 0) = if e0 ≤ e ∧ e - e0 < n then 1 else 0
  | 0 => by rw [sumTo, if_neg (by omega)]
  | n + 1 => by
    rw [sumTo, sumTo_one e e0 n]
    by_cases h1 : e0 ≤ e ∧ e - e0 < n
    · rw [if_pos h1, if_neg (by omega), if_pos (by omega)]
    · rw [if_neg h1]
      by_cases h2 : n ≤ e ∧ e - n = e0
      · rw [if_pos h2, if_pos (by omega)]
      · rw [if_neg h2, if_neg (by omega)]
theorem cnt_cons (x : Nat × Nat) (F : List (Nat × Nat)) (k e : Nat) : cnt (x :: F) k e = cnt F k e + if k = x.1 ∧ e = x.2 then 1 else 0 := by
  unfold cnt
  rw [List.count_cons]
  congr 1
  by_cases h : k = x.1 ∧ e = x.2
  · rw [if_pos h, if_pos (by rw [beq_iff_eq]; exact Prod.ext h.1.symm h.2.symm)]
  · rw [if_neg h, if_neg (by rw [beq_iff_eq]; rintro rfl; exact h ⟨rfl, rfl⟩)]
theorem cnt_nil (k e : Nat) : cnt [] k e = 0 := rfl
theorem cnt_append (F G : List (Nat × Nat)) (k e : Nat) : cnt (F ++ G) k e = cnt F k e + cnt G k e := List.count_append
theorem cnt_range (j e0 k e : Nat) : ∀ n, cnt ((List.range n).map fun i => (j, e0 + i)) k e = if k = j ∧ e0 ≤ e ∧ e - e0 < n then 1 else 0
  | 0 => by rw [if_neg (by omega)]; rfl
  | n + 1 => by
    rw [List.range_succ, List.map_append, cnt_append, cnt_range j e0 k e n, List.map_cons, List.map_nil, cnt_cons, cnt_nil, Nat.zero_add]
    simp only []
    by_cases h1 : k = j ∧ e0 ≤ e ∧ e - e0 < n
    · rw [if_pos h1, if_neg (by omega), if_pos (by omega)]
    · rw [if_neg h1]
      by_cases h2 : k = j ∧ e = e0 + n
      · rw [if_pos h2, if_pos (by omega)]
      · rw [if_neg h2, if_neg (by omega)]
/-- What stands in the table behind one more row. -/
def nextC (F : List (Nat × Nat)) (m k e : Nat) : Nat := (if k ≤ m ∧ m - k ≤ e then cnt F k (e - (m - k)) else 0) + (if k = 0 then 0 else sumTo (m + 1 - k) (fun b => if b ≤ e then cnt F (k - 1) (e - b) else 0))
theorem cnt_step (m k e : Nat) : ∀ F : List (Nat × Nat), (∀ x ∈ F, x.1 ≤ m) → cnt (F.flatMap (step m)) k e = nextC F m k e
  | [], _ => by
    unfold nextC
    simp only [List.flatMap_nil, cnt_nil, ite_self, sumTo_zero]
  | x :: F, h => by
    have hx := h x (List.mem_cons_self)
    rw [List.flatMap_cons, cnt_append, cnt_step m k e F (fun y hy => h y (List.mem_cons_of_mem _ hy)), step, cnt_cons, cnt_range]
    simp only []
    have e1 : nextC (x :: F) m k e = nextC F m k e + ((if k ≤ m ∧ m - k ≤ e then (if k = x.1 ∧ e - (m - k) = x.2 then 1 else 0) else 0) + (if k = 0 then 0 else sumTo (m + 1 - k) (fun b => if b ≤ e then (if k - 1 = x.1 ∧ e - b = x.2 then 1 else 0) else 0))) := by
      unfold nextC
      have e2 : (fun b => if b ≤ e then cnt (x :: F) (k - 1) (e - b) else 0) = fun b => (if b ≤ e then cnt F (k - 1) (e - b) else 0) + (if b ≤ e then (if k - 1 = x.1 ∧ e - b = x.2 then 1 else 0) else 0) := by
        funext b
        by_cases hb : b ≤ e
        · rw [if_pos hb, if_pos hb, if_pos hb, cnt_cons]
        · rw [if_neg hb, if_neg hb, if_neg hb]
      rw [e2, sumTo_add, cnt_cons]
      by_cases h1 : k ≤ m ∧ m - k ≤ e
      · rw [if_pos h1, if_pos h1, if_pos h1]
        by_cases h2 : k = 0
        · rw [if_pos h2, if_pos h2, if_pos h2]; omega
        · rw [if_neg h2, if_neg h2, if_neg h2]; omega
      · rw [if_neg h1, if_neg h1, if_neg h1]
        by_cases h2 : k = 0
        · rw [if_pos h2, if_pos h2, if_pos h2]
        · rw [if_neg h2, if_neg h2, if_neg h2]; omega
    rw [e1, Nat.add_comm]
    congr 1
    rw [Nat.add_comm]
    congr 1
    · by_cases h1 : k = x.1 ∧ e = x.2 + (m - x.1)
      · rw [if_pos h1, if_pos (by omega), if_pos (by omega)]
      · rw [if_neg h1]
        by_cases h2 : k ≤ m ∧ m - k ≤ e
        · rw [if_pos h2, if_neg (by omega)]
        · rw [if_neg h2]
    · by_cases h0 : k = 0
      · rw [if_pos h0, if_neg (by omega)]
      · rw [if_neg h0]
        by_cases h1 : k - 1 = x.1
        · rw [sumTo_congr (g := fun b => if b ≤ e ∧ e - b = x.2 then 1 else 0) _ (fun b _ => by
            by_cases hb : b ≤ e
            · rw [if_pos hb]
              by_cases h2 : e - b = x.2
              · rw [if_pos ⟨h1, h2⟩, if_pos ⟨hb, h2⟩]
              · rw [if_neg (by omega), if_neg (by omega)]
            · rw [if_neg hb, if_neg (by omega)]), sumTo_one]
          by_cases h3 : x.2 ≤ e ∧ e - x.2 < m + 1 - k
          · rw [if_pos h3, if_pos (by omega)]
          · rw [if_neg h3, if_neg (by omega)]
        · rw [sumTo_congr (g := fun _ => 0) _ (fun b _ => by
            by_cases hb : b ≤ e
            · rw [if_pos hb, if_neg (by omega)]
            · rw [if_neg hb]), sumTo_zero, if_neg (by omega)]

/-- All placements of the first rows, by rooks and free cells. -/
def Fk (l : List Int) : Nat → List (Nat × Nat)
  | 0 => [(0, 0)]
  | r + 1 => (Fk l r).flatMap (step (l.getD r 0).toNat)
def Gk (l : List Int) : Nat → Nat → Nat × Nat → List (Nat × Nat)
  | 0, _, x => [x]
  | d + 1, r, x => (step (l.getD r 0).toNat x).flatMap (Gk l d (r + 1))
theorem flat_self {α : Type} : ∀ F : List α, F.flatMap (fun x => [x]) = F
  | [] => rfl
  | x :: F => by rw [List.flatMap_cons, flat_self F]; rfl
theorem F_G (l : List Int) : ∀ d r, (Fk l r).flatMap (Gk l d r) = Fk l (r + d)
  | 0, r => flat_self _
  | d + 1, r => by
    have e : Gk l (d + 1) r = fun x => (step (l.getD r 0).toNat x).flatMap (Gk l d (r + 1)) := rfl
    rw [e, ← List.flatMap_assoc, show r + (d + 1) = r + 1 + d by omega, ← F_G l d (r + 1)]
    rfl
theorem step_len {m : Nat} (hm : m ≤ 6) (x : Nat × Nat) : (step m x).length ≤ 7 := by
  unfold step; rw [List.length_cons, List.length_map, List.length_range]; omega
theorem flat_len {α β : Type} {f : α → List β} {B : Nat} : ∀ F : List α, (∀ x ∈ F, (f x).length ≤ B) → (F.flatMap f).length ≤ F.length * B
  | [], _ => by simp
  | x :: F, h => by
    rw [List.flatMap_cons, List.length_append, List.length_cons, Nat.succ_mul]
    have h1 := h x List.mem_cons_self
    have h2 := flat_len F (fun y hy => h y (List.mem_cons_of_mem _ hy))
    omega
theorem Fk_len {l : List Int} (hm : ∀ r, (l.getD r 0).toNat ≤ 6) : ∀ r, (Fk l r).length ≤ 7 ^ r
  | 0 => by simp [Fk]
  | r + 1 => by
    rw [Fk, Nat.pow_succ]
    exact Nat.le_trans (flat_len _ (fun x _ => step_len (hm r) x)) (Nat.mul_le_mul_right _ (Fk_len hm r))
theorem Fk_rooks {l : List Int} : ∀ r x, x ∈ Fk l r → x.1 ≤ r ∧ (∀ m : Nat, (∀ i, i < r → (l.getD i 0).toNat ≤ m) → x.1 ≤ m)
  | 0, x, h => by rw [Fk, List.mem_singleton] at h; subst h; exact ⟨Nat.le_refl _, fun m _ => Nat.zero_le _⟩
  | r + 1, x, h => by
    rw [Fk, List.mem_flatMap] at h
    obtain ⟨y, hy, hx⟩ := h
    obtain ⟨q1, q2⟩ := Fk_rooks r y hy
    rw [step, List.mem_cons, List.mem_map] at hx
    rcases hx with rfl | ⟨i, hi, rfl⟩
    · exact ⟨by simp only []; omega, fun m hm => q2 m (fun i hi => hm i (by omega))⟩
    · rw [List.mem_range] at hi
      exact ⟨by simp only []; omega, fun m hm => by have := hm r (by omega); simp only []; omega⟩

/-- How many columns below x are not taken. -/
def fr (t : Nat) : Nat → Nat
  | 0 => 0
  | x + 1 => fr t x + if t.testBit x then 0 else 1
theorem fr_mono (t : Nat) : ∀ d x, fr t x ≤ fr t (x + d)
  | 0, x => Nat.le_refl _
  | d + 1, x => by
    have h := fr_mono t d x
    have e : fr t (x + d + 1) = fr t (x + d) + if t.testBit (x + d) then 0 else 1 := rfl
    rw [show x + (d + 1) = x + d + 1 by omega, e]
    omega
theorem rowFree_fr {q : List Int} {r t X m : Nat} (ht : ∀ c, c < m → taken q r c = (decide (X ≤ c) || t.testBit c)) : ∀ (d c : Nat) (n : Int), c + d = m → rowFree q r d c n = n + ((fr t (min m X) : Int) - fr t (min c X))
  | 0, c, n, h => by rw [rowFree, show c = m by omega]; omega
  | d + 1, c, n, h => by
    rw [rowFree, rowFree_fr ht d (c + 1) _ (by omega), ht c (by omega)]
    by_cases h1 : X ≤ c
    · rw [decide_eq_true h1, Bool.true_or, if_pos rfl, show min (c + 1) X = min c X by omega]
    · rw [decide_eq_false h1, Bool.false_or, show min (c + 1) X = c + 1 by omega, show min c X = c by omega, fr]
      by_cases h2 : t.testBit c = true
      · rw [if_pos h2, if_pos h2, Nat.add_zero]
      · rw [if_neg h2, if_neg h2]; omega
theorem fr_or {t c : Nat} (hc : t.testBit c = false) : ∀ x, c < x → fr (t ||| 2 ^ c) x + 1 = fr t x
  | 0, h => by omega
  | x + 1, h => by
    have low : ∀ y, y ≤ c → fr (t ||| 2 ^ c) y = fr t y := by
      intro y
      induction y with
      | zero => intro _; rfl
      | succ y ih =>
        intro hy
        rw [fr, fr, ih (by omega), Nat.testBit_or, Nat.testBit_two_pow, decide_eq_false (show ¬ c = y by omega), Bool.or_false]
    by_cases e : c = x
    · subst e
      rw [fr, fr, low c (Nat.le_refl _), Nat.testBit_or, Nat.testBit_two_pow_self, Bool.or_true, if_pos rfl, hc]
      simp
    · have ih := fr_or hc x (by omega)
      rw [fr, fr, Nat.testBit_or, Nat.testBit_two_pow, decide_eq_false (show ¬ c = x by omega), Bool.or_false]
      omega
theorem ways_pre (rows : List Int) (C : Nat) : ∀ (d r t : Nat) (pre : List Int), ∀ q ∈ waysFrom rows C d r t pre, ∃ s, q = pre ++ s ∧ s.length = d
  | 0, r, t, pre, q, hq => by rw [waysFrom, List.mem_singleton] at hq; exact ⟨[], by simp [hq], rfl⟩
  | d + 1, r, t, pre, q, hq => by
    rw [waysFrom, List.mem_flatMap] at hq
    obtain ⟨c, hc, hq⟩ := hq
    unfold colWays at hq
    split at hq
    · obtain ⟨s, h1, h2⟩ := ways_pre rows C d (r + 1) _ _ q hq
      exact ⟨c :: s, by rw [h1]; simp, by simp [h2]⟩
    · split at hq
      · obtain ⟨s, h1, h2⟩ := ways_pre rows C d (r + 1) _ _ q hq
        exact ⟨c :: s, by rw [h1]; simp, by simp [h2]⟩
      · cases hq
theorem cell_rows {l : List Int} {r c : Nat} (hr : r < l.length) (h0 : 0 ≤ l.getD r 0) : cell (rowsOf l) r c = decide (c < (l.getD r 0).toNat) := by
  unfold cell rowsOf
  rw [gD_lt _ _ (by simpa using hr), List.getElem_map, gD_lt _ _ hr]
  have e : ((2 : Int) ^ l[r].toNat - 1).toNat = 2 ^ l[r].toNat - 1 := by
    have : 0 < 2 ^ l[r].toNat := Nat.two_pow_pos _
    have e2 : ((2 ^ l[r].toNat : Nat) : Int) = 2 ^ l[r].toNat := by simp
    omega
  rw [e, Nat.testBit_two_pow_sub_one]
/-- A placement's rooks, and its free cells from a row on, on top of some. -/
def keyFrom (l : List Int) (r : Nat) (n : Int) (q : List Int) : Nat × Nat := (rooksN q, (allFree q (l.drop r) r n).toNat)
theorem rooksN_snoc (pre : List Int) (x : Int) : rooksN (pre ++ [x]) = rooksN pre + if x = -1 then 0 else 1 := by
  unfold rooksN
  rw [List.countP_append, List.countP_singleton]
  by_cases h : x = -1 <;> simp [h]
theorem keyFrom_next {l : List Int} {r t X m C d t2 : Nat} {n x : Int} {pre : List Int} (hr : r < l.length) (hp : pre.length = r) (hm : (l.getD r 0).toNat = m)
    (ht : ∀ c : Nat, t.testBit c = decide ((c : Int) ∈ pre)) (hX : ∀ c : Nat, c < m → (decide (x ≠ -1) && decide (x ≤ c)) = decide (X ≤ c)) {q : List Int} (hq : q ∈ waysFrom (rowsOf l) C d (r + 1) t2 (pre ++ [x])) :
    keyFrom l r n q = keyFrom l (r + 1) (n + fr t (min m X)) q := by
  obtain ⟨s, rfl, hs⟩ := ways_pre _ _ _ _ _ _ q hq
  unfold keyFrom
  rw [List.drop_eq_getElem_cons hr, allFree]
  have e1 : (pre ++ [x] ++ s).getD r 0 = x := by
    rw [List.append_assoc, gD_lt _ _ (by simp; omega), List.getElem_append_right (by omega)]; simp [hp]
  have e2 : (pre ++ [x] ++ s).take r = pre := by rw [List.append_assoc, List.take_left' hp]
  have e3 : l[r].toNat = m := by rw [← gD_lt l 0 hr]; exact hm
  have e4 := rowFree_fr (q := pre ++ [x] ++ s) (r := r) (t := t) (X := X) (m := m) (fun c hc => by
    unfold taken
    rw [e1, e2, ht c, hX c hc]) m 0 n (by omega)
  rw [e3, e4, Nat.zero_min]
  rw [show fr t 0 = 0 from rfl]
  congr 3
theorem ways_key {l : List Int} (hlen : ∀ i, i < l.length → 0 ≤ l.getD i 0 ∧ l.getD i 0 ≤ l.length) (hrise : ∀ i, i + 1 < l.length → l.getD i 0 ≤ l.getD (i + 1) 0) :
    ∀ (d r t : Nat) (pre : List Int) (n : Nat), r + d = l.length → pre.length = r → (∀ c : Nat, t.testBit c = decide ((c : Int) ∈ pre)) → (∀ c : Nat, t.testBit c = true → r < l.length → (c : Int) < l.getD r 0) →
      (∀ x : Nat, (∀ c : Nat, t.testBit c = true → c < x) → fr t x + rooksN pre = x) →
      (waysFrom (rowsOf l) l.length d r t pre).map (keyFrom l r n) = Gk l d r (rooksN pre, n)
  | 0, r, t, pre, n, hr, hp, ht, hlt, hfr => by
    rw [waysFrom, Gk, List.map_singleton, keyFrom, List.drop_eq_nil_of_le (by omega)]
    rfl
  | d + 1, r, t, pre, n, hr, hp, ht, hlt, hfr => by
    have hr2 : r < l.length := by omega
    obtain ⟨b1, b2⟩ := hlen r hr2
    obtain ⟨m, hm⟩ : ∃ m, m = (l.getD r 0).toNat := ⟨_, rfl⟩
    have hfm : fr t m + rooksN pre = m := hfr m (fun c hc => by have := hlt c hc hr2; omega)
    have hnxt : ∀ c : Nat, (c : Int) < l.getD r 0 → r + 1 < l.length → (c : Int) < l.getD (r + 1) 0 := fun c hc h => by have := hrise r h; omega
    have hit : ∀ x, x ≤ l.length → (iota 0 x).flatMap (fun c => (colWays (rowsOf l) r t pre (waysFrom (rowsOf l) l.length d (r + 1)) c).map (keyFrom l r n)) = (List.range (fr t (min m x))).flatMap (fun i => Gk l d (r + 1) (rooksN pre + 1, n + i)) := by
      intro x
      induction x with
      | zero => intro _; rw [Nat.min_zero]; rfl
      | succ x ih =>
        intro hx
        rw [iota_snoc, List.flatMap_append, ih (by omega), List.flatMap_cons, List.flatMap_nil, List.append_nil, Int.zero_add]
        have hcell := cell_rows (l := l) (r := r) (c := x) hr2 b1
        unfold colWays
        rw [if_neg (by omega), Int.toNat_natCast, hcell, ← hm]
        by_cases h1 : x < m
        · rw [decide_eq_true h1, Bool.true_and, show min m (x + 1) = x + 1 by omega, show min m x = x by omega, fr]
          by_cases h2 : t.testBit x = true
          · rw [h2, if_neg (by simp), if_pos rfl, Nat.add_zero]; simp
          · have h2f : t.testBit x = false := by simpa using h2
            rw [h2f, if_pos (by simp), if_neg (by simp), List.range_succ, List.flatMap_append, List.flatMap_cons, List.flatMap_nil, List.append_nil]
            congr 1
            have hnm : ¬ (x : Int) ∈ pre := by have := ht x; rw [h2f] at this; simpa using this.symm
            have e5 := List.map_congr_left (f := keyFrom l r n) (g := keyFrom l (r + 1) ((n + fr t x : Nat) : Int)) (l := waysFrom (rowsOf l) l.length d (r + 1) (t ||| 2 ^ x) (pre ++ [(x : Int)])) (fun q hq => by
              have := keyFrom_next (n := n) (X := x) hr2 hp hm.symm ht (fun c hc => by
                rw [decide_eq_true (show (x : Int) ≠ -1 by omega), Bool.true_and]
                exact decide_eq_decide.2 (by omega)) hq
              rw [this, show min m x = x by omega]
              simp)
            rw [e5]
            have ih2 := ways_key hlen hrise d (r + 1) (t ||| 2 ^ x) (pre ++ [(x : Int)]) (n + fr t x) (by omega) (by simp; omega)
              (fun c => by
                rw [Nat.testBit_or, ht c, Nat.testBit_two_pow, ← Bool.decide_or]
                apply decide_eq_decide.2
                rw [List.mem_append, List.mem_singleton]
                constructor
                · rintro (h | h)
                  · exact .inl h
                  · exact .inr (by omega)
                · rintro (h | h)
                  · exact .inl h
                  · exact .inr (by omega))
              (fun c hc h => by
                rw [Nat.testBit_or, Nat.testBit_two_pow, Bool.or_eq_true] at hc
                rcases hc with hc | hc
                · exact hnxt c (hlt c hc hr2) h
                · have : x = c := of_decide_eq_true hc
                  exact hnxt c (by omega) h)
              (fun y hy => by
                rw [rooksN_snoc, if_neg (by omega)]
                have q1 := hy x (by rw [Nat.testBit_or, Nat.testBit_two_pow_self, Bool.or_true])
                have q2 := fr_or h2f y q1
                have q3 := hfr y (fun c hc => hy c (by rw [Nat.testBit_or, hc, Bool.true_or]))
                omega)
            rw [ih2, rooksN_snoc, if_neg (by omega)]
        · rw [decide_eq_false h1, Bool.false_and, if_neg (by simp), show min m (x + 1) = min m x by omega]; simp
    have e0 : iota (-1) (l.length + 1) = (-1) :: iota 0 l.length := rfl
    rw [waysFrom, List.map_flatMap, e0, List.flatMap_cons, hit l.length (Nat.le_refl _), Gk, ← hm, step, List.flatMap_cons, List.flatMap_map]
    simp only []
    have hmn : m ≤ l.length := by omega
    rw [Nat.min_eq_left hmn, show m - rooksN pre = fr t m by omega]
    congr 1
    have e5 := List.map_congr_left (f := keyFrom l r n) (g := keyFrom l (r + 1) ((n + fr t m : Nat) : Int)) (l := waysFrom (rowsOf l) l.length d (r + 1) t (pre ++ [(-1 : Int)])) (fun q hq => by
      have := keyFrom_next (n := n) (X := m) hr2 hp hm.symm ht (fun c hc => by
        rw [decide_eq_false (show ¬ (-1 : Int) ≠ -1 by simp), Bool.false_and]
        exact (decide_eq_false (by omega)).symm) hq
      rw [this, Nat.min_self]
      simp)
    unfold colWays
    rw [if_pos (by omega), e5, ways_key hlen hrise d (r + 1) t (pre ++ [(-1 : Int)]) (n + fr t m) (by omega) (by simp; omega)
      (fun c => by
        rw [ht c]
        apply decide_eq_decide.2
        rw [List.mem_append, List.mem_singleton]
        constructor
        · exact .inl
        · rintro (h | h)
          · exact h
          · omega)
      (fun c hc h => hnxt c (hlt c hc hr2) h)
      (fun y hy => by rw [rooksN_snoc, if_pos rfl]; exact hfr y hy)]
    rw [rooksN_snoc, if_pos rfl]
    rfl
theorem ways_keys {l : List Int} (h : lenB l = true) : (waysFrom (rowsOf l) l.length l.length 0 0 []).map (keyFrom l 0 0) = Fk l l.length := by
  obtain ⟨h1, h2, h3⟩ := len_of h
  have hr : riseFrom l 1 = true := by unfold lenB at h; simp only [Bool.and_eq_true] at h; exact h.2
  have e := ways_key (l := l) (fun i hi => by rw [gD_lt _ _ hi]; exact h3 i hi) (fun i hi => of_decide_eq_true hr i (by omega) (by omega)) l.length 0 0 [] 0 (by omega) rfl (fun c => by simp) (fun c hc => by simp at hc) (fun x hx => by
    have : ∀ y, fr 0 y = y := by
      intro y
      induction y with
      | zero => rfl
      | succ y ih => rw [fr, ih]; simp
    rw [this]; rfl)
  have e2 := F_G l l.length 0
  rw [Nat.zero_add] at e2
  rw [← e2, Fk, List.flatMap_cons, List.flatMap_nil, List.append_nil]
  exact e

/-- The table's rows are told by the placements seen. -/
structure RepT (n : Nat) (out : List (List Int)) (F : List (Nat × Nat)) : Prop where
  len : out.length = n + 1
  rep : ∀ k, k ≤ n → RepC (out.getD k []) (cnt F k)
theorem RepT.eq {n : Nat} {a b : List (List Int)} {F : List (Nat × Nat)} (h : RepT n a F) (k : RepT n b F) : a = b := by
  refine List.ext_getElem (by rw [h.len, k.len]) (fun i h1 h2 => ?_)
  have hi : i ≤ n := by have := h.len; omega
  have := (h.rep i hi).eq (k.rep i hi) (fun _ => rfl)
  rwa [gD_lt _ _ h1, gD_lt _ _ h2] at this
theorem RepT.start (n : Nat) : RepT n (List.replicate (n + 1) []) [] := by
  refine ⟨by simp, fun k hk => ?_⟩
  rw [gD_lt _ _ (by simp; omega), List.getElem_replicate]
  exact RepC.nil
/-- One more placement. -/
def tab (l : List Int) (out : List (List Int)) (p : List Int) : List (List Int) := out.set (rooksN p) (bump (out.getD (rooksN p) []) (allFree p l 0 0).toNat)
theorem RepT.tab {n : Nat} {l : List Int} {out : List (List Int)} {F : List (Nat × Nat)} {p : List Int} (h : RepT n out F) (hp : rooksN p ≤ n) (hF : F.length ≤ 1000000) : RepT n (tab l out p) (F ++ [keyFrom l 0 0 p]) := by
  refine ⟨by unfold BagK.tab; rw [List.length_set]; exact h.len, fun k hk => ?_⟩
  have hkl : rooksN p < out.length := by rw [h.len]; omega
  have hc : ∀ k e, cnt F k e ≤ 1000000 := fun k e => Nat.le_trans (List.count_le_length) hF
  unfold BagK.tab
  rw [List.getD_eq_getElem?_getD, List.getElem?_set]
  by_cases e : rooksN p = k
  · rw [if_pos e, if_pos hkl, Option.getD_some, bump_eq]
    have := addAt_rep (p := (allFree p l 0 0).toNat) (n := 1) (h.rep (rooksN p) (by omega)) (by omega) (by have := hc (rooksN p) (allFree p l 0 0).toNat; omega)
    refine RepC.congr this (fun i => ?_)
    rw [cnt_append, cnt_cons, cnt_nil, Nat.zero_add, e, keyFrom, List.drop_zero]
    simp only []
    by_cases hi : i = (allFree p l 0 0).toNat
    · rw [if_pos hi, if_pos ⟨e.symm, hi⟩]
    · rw [if_neg hi, if_neg (fun h => hi h.2)]; rfl
  · rw [if_neg e, ← List.getD_eq_getElem?_getD]
    refine RepC.congr (h.rep k hk) (fun i => ?_)
    rw [cnt_append, cnt_cons, cnt_nil, Nat.zero_add, keyFrom]
    simp only []
    rw [if_neg (fun h => e h.1.symm), Nat.add_zero]
theorem RepT.fold {n : Nat} {l : List Int} : ∀ (V : List (List Int)) {out : List (List Int)} {F : List (Nat × Nat)}, RepT n out F → (∀ p ∈ V, rooksN p ≤ n) → F.length + V.length ≤ 1000000 → RepT n (V.foldl (BagK.tab l) out) (F ++ V.map (keyFrom l 0 0))
  | [], out, F, h, _, _ => by simpa using h
  | p :: V, out, F, h, hp, hF => by
    rw [List.length_cons] at hF
    have := RepT.fold (l := l) V (h.tab (l := l) (hp p List.mem_cons_self) (by omega)) (fun q hq => hp q (List.mem_cons_of_mem _ hq)) (by rw [List.length_append, List.length_singleton]; omega)
    rw [List.foldl_cons, List.map_cons]
    rwa [List.append_assoc, List.singleton_append] at this
/-- The weights by the walk. -/
def wtab (l : List Int) : List (List Int) := (waysFrom (rowsOf l) l.length l.length 0 0 []).foldl (BagK.tab l) (List.replicate (l.length + 1) [])
theorem rooksN_le (p : List Int) : rooksN p ≤ p.length := List.countP_le_length
theorem ways_len6 {l : List Int} (h : lenB l = true) : (waysFrom (rowsOf l) l.length l.length 0 0 []).length ≤ 117649 := by
  obtain ⟨h1, h2, h3⟩ := len_of h
  have a := ways_len (rowsOf l) l.length l.length 0 0 []
  have b : ∀ R : Fin 7, (R.val + 1) ^ R.val ≤ 117649 := by decide
  have c := b ⟨l.length, by omega⟩
  simp only [] at c
  omega
theorem wtab_rep {l : List Int} (h : lenB l = true) : RepT l.length (wtab l) (Fk l l.length) := by
  have hl := ways_len6 h
  have := RepT.fold (n := l.length) (l := l) (waysFrom (rowsOf l) l.length l.length 0 0 []) (RepT.start l.length) (fun p hp => by
    obtain ⟨s, h1, h2⟩ := ways_pre _ _ _ _ _ _ p hp
    have := rooksN_le p
    rw [h1, List.nil_append] at this
    rw [h1, List.nil_append]
    omega) (by simp; omega)
  rw [ways_keys h, List.nil_append] at this
  exact this

end Go.Proofs.Ytlhblnphfpijkaa.BagK
