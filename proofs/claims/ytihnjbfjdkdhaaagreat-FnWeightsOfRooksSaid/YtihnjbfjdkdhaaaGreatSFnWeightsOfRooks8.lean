/- Texts of this claim put together (8): words, what the functions compute, and plain facts. No conditions. -/
import Derived.Test.YtihnjbfjdkdhaaaGreatSFnWeightsOfRooks7
import Derived.Test.YtihnjbfjdkdhaaaGreatSFnWeightsOfRooks4
import Derived.Test.YtihnjbfjdkdhaaaGreatSFnWeightsOfRooks5
import Derived.Test.YtihnjbfjdkdhaaaGreatSFnWeightsOfRooks6
import Derived.Test.YtihnjbfjdkdhaaaGreatSFnWeightsOfRooks0
section
namespace Go.Proofs.YtihnjbfjdkdhaaaGreat.BagK
set_option linter.unusedVariables false
open Go.RowKit Go.Proofs.YtihnjbfjdkdhaaaGreatW.PrintWords Go.Proofs.YtihnjbfjdkdhaaaGreatW.PrintLast Go.Proofs.YtihnjbfjdkdhaaaGreatW.PrintMore
open Go.Proofs.YtihnjbfjdkdhaaaGreatL Go.Proofs.YtihnjbfjdkdhaaaGreat.LawK Go.Proofs.YtihnjbfjdkdhaaaGreat.W1 Go.Proofs.YtihnjbfjdkdhaaaGreat.Walk Go.Proofs.YtihnjbfjdkdhaaaGreat.FreeK Go.Proofs.YtihnjbfjdkdhaaaGreat.LensK Go.Proofs.YtihnjbfjdkdhaaaGreat.BoardK
structure RepC (r : List Int) (c : Nat → Nat) : Prop where
  get : ∀ i, r.getD i 0 = (c i : Int)
  last : ∀ i, r.length = i + 1 → c i ≠ 0
theorem RepC.nil : RepC [] (fun _ => 0) := ⟨fun i => rfl, fun i h => by simp at h⟩
theorem RepC.congr {r : List Int} {c d : Nat → Nat} (h : RepC r c) (e : ∀ i, c i = d i) : RepC r d := ⟨fun i => by rw [h.get, e], fun i hi => by rw [← e]; exact h.last i hi⟩
theorem RepC.eq {r s : List Int} {c d : Nat → Nat} (h : RepC r c) (k : RepC s d) (e : ∀ i, c i = d i) : r = s := by
  have hl : r.length = s.length := by
    rcases Nat.lt_trichotomy r.length s.length with hlt | heq | hgt
    · exfalso
      obtain ⟨i, hi⟩ : ∃ i, s.length = i + 1 := ⟨s.length - 1, by omega⟩
      have h1 := k.last i hi
      have h2 := h.get i
      rw [gD_ge r 0 (by omega)] at h2
      have := e i
      omega
    · exact heq
    · exfalso
      obtain ⟨i, hi⟩ : ∃ i, r.length = i + 1 := ⟨r.length - 1, by omega⟩
      have h1 := h.last i hi
      have h2 := k.get i
      rw [gD_ge s 0 (by omega)] at h2
      have := e i
      omega
  refine List.ext_getElem hl (fun i h1 h2 => ?_)
  have a := h.get i
  have b := k.get i
  rw [gD_lt r 0 h1] at a
  rw [gD_lt s 0 h2] at b
  rw [a, b, e i]
theorem pad_length (row : List Int) (e : Nat) : (pad row e).length = max row.length (e + 1) := by
  unfold pad; rw [List.length_append, List.length_replicate]; omega
theorem app0_getD (row : List Int) (n i : Nat) : (row ++ List.replicate n (0 : Int)).getD i 0 = row.getD i 0 := by
  by_cases h : i < row.length
  · rw [gD_lt _ _ (by rw [List.length_append]; omega), gD_lt _ _ h, List.getElem_append_left h]
  · rw [gD_ge row 0 (by omega)]
    by_cases h2 : i < (row ++ List.replicate n (0 : Int)).length
    · rw [gD_lt _ _ h2, List.getElem_append_right (by omega), List.getElem_replicate]
    · exact gD_ge _ _ (by omega)
theorem pad_getD (row : List Int) (e i : Nat) : (pad row e).getD i 0 = row.getD i 0 := app0_getD _ _ _
def addAt (row : List Int) (p : Nat) (n : Int) : List Int := (pad row p).set p (wrap64 (rd (pad row p) (p : Int) + n))
theorem bump_eq (row : List Int) (e : Nat) : bump row e = addAt row e 1 := rfl
theorem addAt_length (row : List Int) (p : Nat) (n : Int) : (addAt row p n).length = max row.length (p + 1) := by
  unfold addAt; rw [List.length_set, pad_length]
theorem set_getD (l : List Int) (p i : Nat) (x : Int) (hp : p < l.length) : (l.set p x).getD i 0 = if i = p then x else l.getD i 0 := by
  rw [List.getD_eq_getElem?_getD, List.getElem?_set, List.getD_eq_getElem?_getD]
  by_cases h : p = i
  · subst h; simp [hp]
  · rw [if_neg h, if_neg (fun e => h e.symm)]
theorem addAt_rep {row : List Int} {c : Nat → Nat} {p n : Nat} (h : RepC row c) (hn : 0 < n) (hb : c p + n ≤ 4611686018427387904) : RepC (addAt row p (n : Int)) (fun i => if i = p then c i + n else c i) := by
  have hp : p < (pad row p).length := by rw [pad_length]; omega
  refine ⟨fun i => ?_, fun i hi => ?_⟩
  · unfold addAt
    rw [set_getD _ _ _ _ hp, rd_nat, pad_getD, pad_getD, h.get, h.get]
    by_cases e : i = p
    · rw [if_pos e, if_pos e, e, w64 (by omega) (by omega)]; simp
    · rw [if_neg e, if_neg e]
  · rw [addAt_length] at hi
    by_cases e : i = p
    · rw [if_pos e]; omega
    · rw [if_neg e]; exact h.last i (by omega)
def step (m : Nat) (x : Nat × Nat) : List (Nat × Nat) := (x.1, x.2 + (m - x.1)) :: (List.range (m - x.1)).map fun i => (x.1 + 1, x.2 + i)
def cnt (F : List (Nat × Nat)) (k e : Nat) : Nat := F.count (k, e)
def sumTo : Nat → (Nat → Nat) → Nat
  | 0, _ => 0
  | n + 1, f => sumTo n f + f n
theorem sumTo_add (f g : Nat → Nat) : ∀ n, sumTo n (fun b => f b + g b) = sumTo n f + sumTo n g
  | 0 => rfl
  | n + 1 => by rw [sumTo, sumTo, sumTo, sumTo_add f g n]; omega
theorem sumTo_congr {f g : Nat → Nat} (n : Nat) (h : ∀ b, b < n → f b = g b) : sumTo n f = sumTo n g := by
  induction n with
  | zero => rfl
  | succ n ih => rw [sumTo, sumTo, ih (fun b hb => h b (by omega)), h n (by omega)]
theorem sumTo_zero : ∀ n, sumTo n (fun _ => 0) = 0
  | 0 => rfl
  | n + 1 => by rw [sumTo, sumTo_zero n]
theorem sumTo_le {f : Nat → Nat} {B : Nat} (h : ∀ b, f b ≤ B) : ∀ n, sumTo n f ≤ n * B
  | 0 => by simp [sumTo]
  | n + 1 => by rw [sumTo, Nat.succ_mul]; have := sumTo_le h n; have := h n; omega
theorem sumTo_one (e e0 : Nat) : ∀ n, sumTo n (fun b => if b ≤ e ∧ e - b = e0 then 1 else 0) = if e0 ≤ e ∧ e - e0 < n then 1 else 0
  | 0 => by rw [sumTo, if_neg (by omega)]
  | n + 1 => by
    rw [sumTo, sumTo_one e e0 n]
    by_cases h1 : e0 ≤ e ∧ e - e0 < n
    · rw [if_pos h1, if_neg (by omega), if_pos (by omega)]
    · rw [if_neg h1]
      by_cases h2 : n ≤ e ∧ e - n = e0
      · rw [if_pos h2, if_pos (by omega)]
      · rw [if_neg h2, if_neg (by omega)]
theorem cnt_cons (x : Nat × Nat) (F : List (Nat × Nat)) (k e : Nat) : cnt (x :: F) k e = cnt F k e + if k = x.1 ∧ e = x.2 then 1 else 0 := by
  unfold cnt
  rw [List.count_cons]
  congr 1
  by_cases h : k = x.1 ∧ e = x.2
  · rw [if_pos h, if_pos (by rw [beq_iff_eq]; exact Prod.ext h.1.symm h.2.symm)]
  · rw [if_neg h, if_neg (by rw [beq_iff_eq]; rintro rfl; exact h ⟨rfl, rfl⟩)]
theorem cnt_nil (k e : Nat) : cnt [] k e = 0 := rfl
theorem cnt_append (F G : List (Nat × Nat)) (k e : Nat) : cnt (F ++ G) k e = cnt F k e + cnt G k e := List.count_append
theorem cnt_range (j e0 k e : Nat) : ∀ n, cnt ((List.range n).map fun i => (j, e0 + i)) k e = if k = j ∧ e0 ≤ e ∧ e - e0 < n then 1 else 0
  | 0 => by rw [if_neg (by omega)]; rfl
  | n + 1 => by
    rw [List.range_succ, List.map_append, cnt_append, cnt_range j e0 k e n, List.map_cons, List.map_nil, cnt_cons, cnt_nil, Nat.zero_add]
    simp only []
    by_cases h1 : k = j ∧ e0 ≤ e ∧ e - e0 < n
    · rw [if_pos h1, if_neg (by omega), if_pos (by omega)]
    · rw [if_neg h1]
      by_cases h2 : k = j ∧ e = e0 + n
      · rw [if_pos h2, if_pos (by omega)]
      · rw [if_neg h2, if_neg (by omega)]
def nextC (F : List (Nat × Nat)) (m k e : Nat) : Nat := (if k ≤ m ∧ m - k ≤ e then cnt F k (e - (m - k)) else 0) + (if k = 0 then 0 else sumTo (m + 1 - k) (fun b => if b ≤ e then cnt F (k - 1) (e - b) else 0))
theorem cnt_step (m k e : Nat) : ∀ F : List (Nat × Nat), (∀ x ∈ F, x.1 ≤ m) → cnt (F.flatMap (step m)) k e = nextC F m k e
  | [], _ => by
    unfold nextC
    simp only [List.flatMap_nil, cnt_nil, ite_self, sumTo_zero]
  | x :: F, h => by
    have hx := h x (List.mem_cons_self)
    rw [List.flatMap_cons, cnt_append, cnt_step m k e F (fun y hy => h y (List.mem_cons_of_mem _ hy)), step, cnt_cons, cnt_range]
    simp only []
    have e1 : nextC (x :: F) m k e = nextC F m k e + ((if k ≤ m ∧ m - k ≤ e then (if k = x.1 ∧ e - (m - k) = x.2 then 1 else 0) else 0) + (if k = 0 then 0 else sumTo (m + 1 - k) (fun b => if b ≤ e then (if k - 1 = x.1 ∧ e - b = x.2 then 1 else 0) else 0))) := by
      unfold nextC
      have e2 : (fun b => if b ≤ e then cnt (x :: F) (k - 1) (e - b) else 0) = fun b => (if b ≤ e then cnt F (k - 1) (e - b) else 0) + (if b ≤ e then (if k - 1 = x.1 ∧ e - b = x.2 then 1 else 0) else 0) := by
        funext b
        by_cases hb : b ≤ e
        · rw [if_pos hb, if_pos hb, if_pos hb, cnt_cons]
        · rw [if_neg hb, if_neg hb, if_neg hb]
      rw [e2, sumTo_add, cnt_cons]
      by_cases h1 : k ≤ m ∧ m - k ≤ e
      · rw [if_pos h1, if_pos h1, if_pos h1]
        by_cases h2 : k = 0
        · rw [if_pos h2, if_pos h2, if_pos h2]; omega
        · rw [if_neg h2, if_neg h2, if_neg h2]; omega
      · rw [if_neg h1, if_neg h1, if_neg h1]
        by_cases h2 : k = 0
        · rw [if_pos h2, if_pos h2, if_pos h2]
        · rw [if_neg h2, if_neg h2, if_neg h2]; omega
    rw [e1, Nat.add_comm]
    congr 1
    rw [Nat.add_comm]
    congr 1
    · by_cases h1 : k = x.1 ∧ e = x.2 + (m - x.1)
      · rw [if_pos h1, if_pos (by omega), if_pos (by omega)]
      · rw [if_neg h1]
        by_cases h2 : k ≤ m ∧ m - k ≤ e
        · rw [if_pos h2, if_neg (by omega)]
        · rw [if_neg h2]
    · by_cases h0 : k = 0
      · rw [if_pos h0, if_neg (by omega)]
      · rw [if_neg h0]
        by_cases h1 : k - 1 = x.1
        · rw [sumTo_congr (g := fun b => if b ≤ e ∧ e - b = x.2 then 1 else 0) _ (fun b _ => by
            by_cases hb : b ≤ e
            · rw [if_pos hb]
              by_cases h2 : e - b = x.2
              · rw [if_pos ⟨h1, h2⟩, if_pos ⟨hb, h2⟩]
              · rw [if_neg (by omega), if_neg (by omega)]
            · rw [if_neg hb, if_neg (by omega)]), sumTo_one]
          by_cases h3 : x.2 ≤ e ∧ e - x.2 < m + 1 - k
          · rw [if_pos h3, if_pos (by omega)]
          · rw [if_neg h3, if_neg (by omega)]
        · rw [sumTo_congr (g := fun _ => 0) _ (fun b _ => by
            by_cases hb : b ≤ e
            · rw [if_pos hb, if_neg (by omega)]
            · rw [if_neg hb]), sumTo_zero, if_neg (by omega)]
def Fk (l : List Int) : Nat → List (Nat × Nat)
  | 0 => [(0, 0)]
  | r + 1 => (Fk l r).flatMap (step (l.getD r 0).toNat)
def Gk (l : List Int) : Nat → Nat → Nat × Nat → List (Nat × Nat)
  | 0, _, x => [x]
  | d + 1, r, x => (step (l.getD r 0).toNat x).flatMap (Gk l d (r + 1))
theorem flat_self {α : Type} : ∀ F : List α, F.flatMap (fun x => [x]) = F
  | [] => rfl
  | x :: F => by rw [List.flatMap_cons, flat_self F]; rfl
theorem F_G (l : List Int) : ∀ d r, (Fk l r).flatMap (Gk l d r) = Fk l (r + d)
  | 0, r => flat_self _
  | d + 1, r => by
    have e : Gk l (d + 1) r = fun x => (step (l.getD r 0).toNat x).flatMap (Gk l d (r + 1)) := rfl
    rw [e, ← List.flatMap_assoc, show r + (d + 1) = r + 1 + d by omega, ← F_G l d (r + 1)]
    rfl
theorem step_len {m : Nat} (hm : m ≤ 6) (x : Nat × Nat) : (step m x).length ≤ 7 := by
  unfold step; rw [List.length_cons, List.length_map, List.length_range]; omega
theorem flat_len {α β : Type} {f : α → List β} {B : Nat} : ∀ F : List α, (∀ x ∈ F, (f x).length ≤ B) → (F.flatMap f).length ≤ F.length * B
  | [], _ => by simp
  | x :: F, h => by
    rw [List.flatMap_cons, List.length_append, List.length_cons, Nat.succ_mul]
    have h1 := h x List.mem_cons_self
    have h2 := flat_len F (fun y hy => h y (List.mem_cons_of_mem _ hy))
    omega
theorem Fk_len {l : List Int} (hm : ∀ r, (l.getD r 0).toNat ≤ 6) : ∀ r, (Fk l r).length ≤ 7 ^ r
  | 0 => by simp [Fk]
  | r + 1 => by
    rw [Fk, Nat.pow_succ]
    exact Nat.le_trans (flat_len _ (fun x _ => step_len (hm r) x)) (Nat.mul_le_mul_right _ (Fk_len hm r))
theorem Fk_rooks {l : List Int} : ∀ r x, x ∈ Fk l r → x.1 ≤ r ∧ (∀ m : Nat, (∀ i, i < r → (l.getD i 0).toNat ≤ m) → x.1 ≤ m)
  | 0, x, h => by rw [Fk, List.mem_singleton] at h; subst h; exact ⟨Nat.le_refl _, fun m _ => Nat.zero_le _⟩
  | r + 1, x, h => by
    rw [Fk, List.mem_flatMap] at h
    obtain ⟨y, hy, hx⟩ := h
    obtain ⟨q1, q2⟩ := Fk_rooks r y hy
    rw [step, List.mem_cons, List.mem_map] at hx
    rcases hx with rfl | ⟨i, hi, rfl⟩
    · exact ⟨by simp only []; omega, fun m hm => q2 m (fun i hi => hm i (by omega))⟩
    · rw [List.mem_range] at hi
      exact ⟨by simp only []; omega, fun m hm => by have := hm r (by omega); simp only []; omega⟩
def fr (t : Nat) : Nat → Nat
  | 0 => 0
  | x + 1 => fr t x + if t.testBit x then 0 else 1
theorem rowFree_fr {q : List Int} {r t X m : Nat} (ht : ∀ c, c < m → taken q r c = (decide (X ≤ c) || t.testBit c)) : ∀ (d c : Nat) (n : Int), c + d = m → rowFree q r d c n = n + ((fr t (min m X) : Int) - fr t (min c X))
  | 0, c, n, h => by rw [rowFree, show c = m by omega]; omega
  | d + 1, c, n, h => by
    rw [rowFree, rowFree_fr ht d (c + 1) _ (by omega), ht c (by omega)]
    by_cases h1 : X ≤ c
    · rw [decide_eq_true h1, Bool.true_or, if_pos rfl, show min (c + 1) X = min c X by omega]
    · rw [decide_eq_false h1, Bool.false_or, show min (c + 1) X = c + 1 by omega, show min c X = c by omega, fr]
      by_cases h2 : t.testBit c = true
      · rw [if_pos h2, if_pos h2, Nat.add_zero]
      · rw [if_neg h2, if_neg h2]; omega
theorem fr_or {t c : Nat} (hc : t.testBit c = false) : ∀ x, c < x → fr (t ||| 2 ^ c) x + 1 = fr t x
  | 0, h => by omega
  | x + 1, h => by
    have low : ∀ y, y ≤ c → fr (t ||| 2 ^ c) y = fr t y := by
      intro y
      induction y with
      | zero => intro _; rfl
      | succ y ih =>
        intro hy
        rw [fr, fr, ih (by omega), Nat.testBit_or, Nat.testBit_two_pow, decide_eq_false (show ¬ c = y by omega), Bool.or_false]
    by_cases e : c = x
    · subst e
      rw [fr, fr, low c (Nat.le_refl _), Nat.testBit_or, Nat.testBit_two_pow_self, Bool.or_true, if_pos rfl, hc]
      simp
    · have ih := fr_or hc x (by omega)
      rw [fr, fr, Nat.testBit_or, Nat.testBit_two_pow, decide_eq_false (show ¬ c = x by omega), Bool.or_false]
      omega
theorem ways_pre (rows : List Int) (C : Nat) : ∀ (d r t : Nat) (pre : List Int), ∀ q ∈ waysFrom rows C d r t pre, ∃ s, q = pre ++ s ∧ s.length = d
  | 0, r, t, pre, q, hq => by rw [waysFrom, List.mem_singleton] at hq; exact ⟨[], by simp [hq], rfl⟩
  | d + 1, r, t, pre, q, hq => by
    rw [waysFrom, List.mem_flatMap] at hq
    obtain ⟨c, hc, hq⟩ := hq
    unfold colWays at hq
    split at hq
    · obtain ⟨s, h1, h2⟩ := ways_pre rows C d (r + 1) _ _ q hq
      exact ⟨c :: s, by rw [h1]; simp, by simp [h2]⟩
    · split at hq
      · obtain ⟨s, h1, h2⟩ := ways_pre rows C d (r + 1) _ _ q hq
        exact ⟨c :: s, by rw [h1]; simp, by simp [h2]⟩
      · cases hq
theorem cell_rows {l : List Int} {r c : Nat} (hr : r < l.length) (h0 : 0 ≤ l.getD r 0) : cell (rowsOf l) r c = decide (c < (l.getD r 0).toNat) := by
  unfold cell rowsOf
  rw [gD_lt _ _ (by simpa using hr), List.getElem_map, gD_lt _ _ hr]
  have e : ((2 : Int) ^ l[r].toNat - 1).toNat = 2 ^ l[r].toNat - 1 := by
    have : 0 < 2 ^ l[r].toNat := Nat.two_pow_pos _
    have e2 : ((2 ^ l[r].toNat : Nat) : Int) = 2 ^ l[r].toNat := by simp
    omega
  rw [e, Nat.testBit_two_pow_sub_one]
def keyFrom (l : List Int) (r : Nat) (n : Int) (q : List Int) : Nat × Nat := (rooksN q, (allFree q (l.drop r) r n).toNat)
theorem rooksN_snoc (pre : List Int) (x : Int) : rooksN (pre ++ [x]) = rooksN pre + if x = -1 then 0 else 1 := by
  unfold rooksN
  rw [List.countP_append, List.countP_singleton]
  by_cases h : x = -1 <;> simp [h]
theorem keyFrom_next {l : List Int} {r t X m C d t2 : Nat} {n x : Int} {pre : List Int} (hr : r < l.length) (hp : pre.length = r) (hm : (l.getD r 0).toNat = m)
    (ht : ∀ c : Nat, t.testBit c = decide ((c : Int) ∈ pre)) (hX : ∀ c : Nat, c < m → (decide (x ≠ -1) && decide (x ≤ c)) = decide (X ≤ c)) {q : List Int} (hq : q ∈ waysFrom (rowsOf l) C d (r + 1) t2 (pre ++ [x])) :
    keyFrom l r n q = keyFrom l (r + 1) (n + fr t (min m X)) q := by
  obtain ⟨s, rfl, hs⟩ := ways_pre _ _ _ _ _ _ q hq
  unfold keyFrom
  rw [List.drop_eq_getElem_cons hr, allFree]
  have e1 : (pre ++ [x] ++ s).getD r 0 = x := by
    rw [List.append_assoc, gD_lt _ _ (by simp; omega), List.getElem_append_right (by omega)]; simp [hp]
  have e2 : (pre ++ [x] ++ s).take r = pre := by rw [List.append_assoc, List.take_left' hp]
  have e3 : l[r].toNat = m := by rw [← gD_lt l 0 hr]; exact hm
  have e4 := rowFree_fr (q := pre ++ [x] ++ s) (r := r) (t := t) (X := X) (m := m) (fun c hc => by
    unfold taken
    rw [e1, e2, ht c, hX c hc]) m 0 n (by omega)
  rw [e3, e4, Nat.zero_min]
  rw [show fr t 0 = 0 from rfl]
  congr 3
theorem ways_key {l : List Int} (hlen : ∀ i, i < l.length → 0 ≤ l.getD i 0 ∧ l.getD i 0 ≤ l.length) (hrise : ∀ i, i + 1 < l.length → l.getD i 0 ≤ l.getD (i + 1) 0) :
    ∀ (d r t : Nat) (pre : List Int) (n : Nat), r + d = l.length → pre.length = r → (∀ c : Nat, t.testBit c = decide ((c : Int) ∈ pre)) → (∀ c : Nat, t.testBit c = true → r < l.length → (c : Int) < l.getD r 0) →
      (∀ x : Nat, (∀ c : Nat, t.testBit c = true → c < x) → fr t x + rooksN pre = x) →
      (waysFrom (rowsOf l) l.length d r t pre).map (keyFrom l r n) = Gk l d r (rooksN pre, n)
  | 0, r, t, pre, n, hr, hp, ht, hlt, hfr => by
    rw [waysFrom, Gk, List.map_singleton, keyFrom, List.drop_eq_nil_of_le (by omega)]
    rfl
  | d + 1, r, t, pre, n, hr, hp, ht, hlt, hfr => by
    have hr2 : r < l.length := by omega
    obtain ⟨b1, b2⟩ := hlen r hr2
    obtain ⟨m, hm⟩ : ∃ m, m = (l.getD r 0).toNat := ⟨_, rfl⟩
    have hfm : fr t m + rooksN pre = m := hfr m (fun c hc => by have := hlt c hc hr2; omega)
    have hnxt : ∀ c : Nat, (c : Int) < l.getD r 0 → r + 1 < l.length → (c : Int) < l.getD (r + 1) 0 := fun c hc h => by have := hrise r h; omega
    have hit : ∀ x, x ≤ l.length → (iota 0 x).flatMap (fun c => (colWays (rowsOf l) r t pre (waysFrom (rowsOf l) l.length d (r + 1)) c).map (keyFrom l r n)) = (List.range (fr t (min m x))).flatMap (fun i => Gk l d (r + 1) (rooksN pre + 1, n + i)) := by
      intro x
      induction x with
      | zero => intro _; rw [Nat.min_zero]; rfl
      | succ x ih =>
        intro hx
        rw [iota_snoc, List.flatMap_append, ih (by omega), List.flatMap_cons, List.flatMap_nil, List.append_nil, Int.zero_add]
        have hcell := cell_rows (l := l) (r := r) (c := x) hr2 b1
        unfold colWays
        rw [if_neg (by omega), Int.toNat_natCast, hcell, ← hm]
        by_cases h1 : x < m
        · rw [decide_eq_true h1, Bool.true_and, show min m (x + 1) = x + 1 by omega, show min m x = x by omega, fr]
          by_cases h2 : t.testBit x = true
          · rw [h2, if_neg (by simp), if_pos rfl, Nat.add_zero]; simp
          · have h2f : t.testBit x = false := by simpa using h2
            rw [h2f, if_pos (by simp), if_neg (by simp), List.range_succ, List.flatMap_append, List.flatMap_cons, List.flatMap_nil, List.append_nil]
            congr 1
            have hnm : ¬ (x : Int) ∈ pre := by have := ht x; rw [h2f] at this; simpa using this.symm
            have e5 := List.map_congr_left (f := keyFrom l r n) (g := keyFrom l (r + 1) ((n + fr t x : Nat) : Int)) (l := waysFrom (rowsOf l) l.length d (r + 1) (t ||| 2 ^ x) (pre ++ [(x : Int)])) (fun q hq => by
              have := keyFrom_next (n := n) (X := x) hr2 hp hm.symm ht (fun c hc => by
                rw [decide_eq_true (show (x : Int) ≠ -1 by omega), Bool.true_and]
                exact decide_eq_decide.2 (by omega)) hq
              rw [this, show min m x = x by omega]
              simp)
            rw [e5]
            have ih2 := ways_key hlen hrise d (r + 1) (t ||| 2 ^ x) (pre ++ [(x : Int)]) (n + fr t x) (by omega) (by simp; omega)
              (fun c => by
                rw [Nat.testBit_or, ht c, Nat.testBit_two_pow, ← Bool.decide_or]
                apply decide_eq_decide.2
                rw [List.mem_append, List.mem_singleton]
                constructor
                · rintro (h | h)
                  · exact .inl h
                  · exact .inr (by omega)
                · rintro (h | h)
                  · exact .inl h
                  · exact .inr (by omega))
              (fun c hc h => by
                rw [Nat.testBit_or, Nat.testBit_two_pow, Bool.or_eq_true] at hc
                rcases hc with hc | hc
                · exact hnxt c (hlt c hc hr2) h
                · have : x = c := of_decide_eq_true hc
                  exact hnxt c (by omega) h)
              (fun y hy => by
                rw [rooksN_snoc, if_neg (by omega)]
                have q1 := hy x (by rw [Nat.testBit_or, Nat.testBit_two_pow_self, Bool.or_true])
                have q2 := fr_or h2f y q1
                have q3 := hfr y (fun c hc => hy c (by rw [Nat.testBit_or, hc, Bool.true_or]))
                omega)
            rw [ih2, rooksN_snoc, if_neg (by omega)]
        · rw [decide_eq_false h1, Bool.false_and, if_neg (by simp), show min m (x + 1) = min m x by omega]; simp
    have e0 : iota (-1) (l.length + 1) = (-1) :: iota 0 l.length := rfl
    rw [waysFrom, List.map_flatMap, e0, List.flatMap_cons, hit l.length (Nat.le_refl _), Gk, ← hm, step, List.flatMap_cons, List.flatMap_map]
    simp only []
    have hmn : m ≤ l.length := by omega
    rw [Nat.min_eq_left hmn, show m - rooksN pre = fr t m by omega]
    congr 1
    have e5 := List.map_congr_left (f := keyFrom l r n) (g := keyFrom l (r + 1) ((n + fr t m : Nat) : Int)) (l := waysFrom (rowsOf l) l.length d (r + 1) t (pre ++ [(-1 : Int)])) (fun q hq => by
      have := keyFrom_next (n := n) (X := m) hr2 hp hm.symm ht (fun c hc => by
        rw [decide_eq_false (show ¬ (-1 : Int) ≠ -1 by simp), Bool.false_and]
        exact (decide_eq_false (by omega)).symm) hq
      rw [this, Nat.min_self]
      simp)
    unfold colWays
    rw [if_pos (by omega), e5, ways_key hlen hrise d (r + 1) t (pre ++ [(-1 : Int)]) (n + fr t m) (by omega) (by simp; omega)
      (fun c => by
        rw [ht c]
        apply decide_eq_decide.2
        rw [List.mem_append, List.mem_singleton]
        constructor
        · exact .inl
        · rintro (h | h)
          · exact h
          · omega)
      (fun c hc h => hnxt c (hlt c hc hr2) h)
      (fun y hy => by rw [rooksN_snoc, if_pos rfl]; exact hfr y hy)]
    rw [rooksN_snoc, if_pos rfl]
    rfl
theorem ways_keys {l : List Int} (h : lenB l = true) : (waysFrom (rowsOf l) l.length l.length 0 0 []).map (keyFrom l 0 0) = Fk l l.length := by
  obtain ⟨h1, h2, h3⟩ := len_of h
  have hr : riseFrom l 1 = true := by unfold lenB at h; simp only [Bool.and_eq_true] at h; exact h.2
  have e := ways_key (l := l) (fun i hi => by rw [gD_lt _ _ hi]; exact h3 i hi) (fun i hi => of_decide_eq_true hr i (by omega) (by omega)) l.length 0 0 [] 0 (by omega) rfl (fun c => by simp) (fun c hc => by simp at hc) (fun x hx => by
    have : ∀ y, fr 0 y = y := by
      intro y
      induction y with
      | zero => rfl
      | succ y ih => rw [fr, ih]; simp
    rw [this]; rfl)
  have e2 := F_G l l.length 0
  rw [Nat.zero_add] at e2
  rw [← e2, Fk, List.flatMap_cons, List.flatMap_nil, List.append_nil]
  exact e
structure RepT (n : Nat) (out : List (List Int)) (F : List (Nat × Nat)) : Prop where
  len : out.length = n + 1
  rep : ∀ k, k ≤ n → RepC (out.getD k []) (cnt F k)
theorem RepT.eq {n : Nat} {a b : List (List Int)} {F : List (Nat × Nat)} (h : RepT n a F) (k : RepT n b F) : a = b := by
  refine List.ext_getElem (by rw [h.len, k.len]) (fun i h1 h2 => ?_)
  have hi : i ≤ n := by have := h.len; omega
  have := (h.rep i hi).eq (k.rep i hi) (fun _ => rfl)
  rwa [gD_lt _ _ h1, gD_lt _ _ h2] at this
theorem RepT.start (n : Nat) : RepT n (List.replicate (n + 1) []) [] := by
  refine ⟨by simp, fun k hk => ?_⟩
  rw [gD_lt _ _ (by simp; omega), List.getElem_replicate]
  exact RepC.nil
def tab (l : List Int) (out : List (List Int)) (p : List Int) : List (List Int) := out.set (rooksN p) (bump (out.getD (rooksN p) []) (allFree p l 0 0).toNat)
theorem RepT.tab {n : Nat} {l : List Int} {out : List (List Int)} {F : List (Nat × Nat)} {p : List Int} (h : RepT n out F) (hp : rooksN p ≤ n) (hF : F.length ≤ 1000000) : RepT n (tab l out p) (F ++ [keyFrom l 0 0 p]) := by
  refine ⟨by unfold BagK.tab; rw [List.length_set]; exact h.len, fun k hk => ?_⟩
  have hkl : rooksN p < out.length := by rw [h.len]; omega
  have hc : ∀ k e, cnt F k e ≤ 1000000 := fun k e => Nat.le_trans (List.count_le_length) hF
  unfold BagK.tab
  rw [List.getD_eq_getElem?_getD, List.getElem?_set]
  by_cases e : rooksN p = k
  · rw [if_pos e, if_pos hkl, Option.getD_some, bump_eq]
    have := addAt_rep (p := (allFree p l 0 0).toNat) (n := 1) (h.rep (rooksN p) (by omega)) (by omega) (by have := hc (rooksN p) (allFree p l 0 0).toNat; omega)
    refine RepC.congr this (fun i => ?_)
    rw [cnt_append, cnt_cons, cnt_nil, Nat.zero_add, e, keyFrom, List.drop_zero]
    simp only []
    by_cases hi : i = (allFree p l 0 0).toNat
    · rw [if_pos hi, if_pos ⟨e.symm, hi⟩]
    · rw [if_neg hi, if_neg (fun h => hi h.2)]; rfl
  · rw [if_neg e, ← List.getD_eq_getElem?_getD]
    refine RepC.congr (h.rep k hk) (fun i => ?_)
    rw [cnt_append, cnt_cons, cnt_nil, Nat.zero_add, keyFrom]
    simp only []
    rw [if_neg (fun h => e h.1.symm), Nat.add_zero]
theorem RepT.fold {n : Nat} {l : List Int} : ∀ (V : List (List Int)) {out : List (List Int)} {F : List (Nat × Nat)}, RepT n out F → (∀ p ∈ V, rooksN p ≤ n) → F.length + V.length ≤ 1000000 → RepT n (V.foldl (BagK.tab l) out) (F ++ V.map (keyFrom l 0 0))
  | [], out, F, h, _, _ => by simpa using h
  | p :: V, out, F, h, hp, hF => by
    rw [List.length_cons] at hF
    have := RepT.fold (l := l) V (h.tab (l := l) (hp p List.mem_cons_self) (by omega)) (fun q hq => hp q (List.mem_cons_of_mem _ hq)) (by rw [List.length_append, List.length_singleton]; omega)
    rw [List.foldl_cons, List.map_cons]
    rwa [List.append_assoc, List.singleton_append] at this
def wtab (l : List Int) : List (List Int) := (waysFrom (rowsOf l) l.length l.length 0 0 []).foldl (BagK.tab l) (List.replicate (l.length + 1) [])
theorem rooksN_le (p : List Int) : rooksN p ≤ p.length := List.countP_le_length
theorem ways_len6 {l : List Int} (h : lenB l = true) : (waysFrom (rowsOf l) l.length l.length 0 0 []).length ≤ 117649 := by
  obtain ⟨h1, h2, h3⟩ := len_of h
  have a := ways_len (rowsOf l) l.length l.length 0 0 []
  have b : ∀ R : Fin 7, (R.val + 1) ^ R.val ≤ 117649 := by decide
  have c := b ⟨l.length, by omega⟩
  simp only [] at c
  omega
theorem wtab_rep {l : List Int} (h : lenB l = true) : RepT l.length (wtab l) (Fk l l.length) := by
  have hl := ways_len6 h
  have := RepT.fold (n := l.length) (l := l) (waysFrom (rowsOf l) l.length l.length 0 0 []) (RepT.start l.length) (fun p hp => by
    obtain ⟨s, h1, h2⟩ := ways_pre _ _ _ _ _ _ p hp
    have := rooksN_le p
    rw [h1, List.nil_append] at this
    rw [h1, List.nil_append]
    omega) (by simp; omega)
  rw [ways_keys h, List.nil_append] at this
  exact this
end Go.Proofs.YtihnjbfjdkdhaaaGreat.BagK
end
section
namespace Go.Proofs.YtihnjbfjdkdhaaaGreat.Q
set_option linter.unusedVariables false
open Go.RowKit Go.Proofs.YtihnjbfjdkdhaaaGreatW.PrintWords Go.Proofs.YtihnjbfjdkdhaaaGreatW.PrintLast Go.Proofs.YtihnjbfjdkdhaaaGreatW.PrintMore
open Go.Proofs.YtihnjbfjdkdhaaaGreatL Go.Proofs.YtihnjbfjdkdhaaaGreat.LawK Go.Proofs.YtihnjbfjdkdhaaaGreat.BoardK Go.Proofs.YtihnjbfjdkdhaaaGreat.Walk Go.Proofs.YtihnjbfjdkdhaaaGreat.LensK Go.Proofs.YtihnjbfjdkdhaaaGreat.FreeK Go.Proofs.YtihnjbfjdkdhaaaGreat.BagK
def impl_weights.f (l0 : List Int) : Option (List (List Int)) := if lenB l0 = true then some (wtab l0) else none
def OkW (n : Nat) (S : Nat → Prop) (gl go ab i : Nat) : Prop := n ≤ i ∧ ¬ S i ∧ i ≠ gl ∧ i ≠ go ∧ i ≠ ab
structure WInv (gl go g c1 ab cb : Nat) (l : List Int) (A0 : Option Addr) (c0 : Nat) (w0 W : World) (S : Nat → Prop) (vis : List (List Int)) (w : World) : Prop where
  cl : w.heap[gl]? = some (.cells #[.slice A0 l.length c0] 24 (0, 0))
  o : w.heap[go]? = some (.cells #[.slice (some ⟨g, 0, none⟩) (l.length + 1) c1] 30 (0, 0))
  b : Kd.R (Kd.int .i64) 3 w 0 (fun i => i = ab) (.slice (some ⟨ab, 0, none⟩) l.length cb) (rowsOf l)
  r : Kd.S (Kd.slice 3 (Kd.int .i64)) 24 w w0.heap.size (OkW w0.heap.size S gl go ab) (.slice (some ⟨g, 0, none⟩) (l.length + 1) c1) (vis.foldl (tab l) (List.replicate (l.length + 1) []))
  B : Below w0.heap.size w0 w
  s : ∀ i, S i → W.heap.size ≤ i
theorem allFree_bd (p : List Int) : ∀ (l : List Int) (i : Nat) (n : Int), (∀ x ∈ l, x ≤ 6) → n ≤ allFree p l i n ∧ allFree p l i n ≤ n + 6 * l.length
  | [], i, n, _ => by simp [allFree]
  | m :: t, i, n, h => by
    have h1 := rowFree_bound p i m.toNat 0 n
    have h2 := allFree_bd p t (i + 1) (rowFree p i m.toNat 0 n) (fun x hx => h x (List.mem_cons_of_mem _ hx))
    have h3 := h m List.mem_cons_self
    rw [allFree, List.length_cons]
    omega
theorem two_ev {α β : Type} {f : Nat → Option α} {g : Nat → Option β} {a : α} {b : β} (h : Ev f a) (k : Ev g b) : ∃ n, f n = some a ∧ g n = some b := by
  obtain ⟨K, h⟩ := h
  obtain ⟨K', k⟩ := k
  exact ⟨max K K', h _ (by omega), k _ (by omega)⟩
theorem rowsOf_bits {l : List Int} (h : lenB l = true) : ∀ i (hi : i < (rowsOf l).length), 0 ≤ (rowsOf l)[i] ∧ (rowsOf l)[i] < 2 ^ l.length := by
  obtain ⟨h1, h2, h3⟩ := len_of h
  intro i hi
  have hi2 : i < l.length := by simpa [rowsOf] using hi
  have h4 := h3 i hi2
  have e : (rowsOf l)[i] = 2 ^ l[i].toNat - 1 := by simp [rowsOf]
  have h5 : 2 ^ l[i].toNat ≤ 2 ^ l.length := Nat.pow_le_pow_right (by decide) (by omega)
  have h6 : 0 < 2 ^ l[i].toNat := Nat.two_pow_pos _
  have h7 : ((2 ^ l[i].toNat : Nat) : Int) = 2 ^ l[i].toNat := by simp
  have h8 : ((2 ^ l.length : Nat) : Int) = 2 ^ l.length := by simp
  rw [e]
  omega
set_option maxHeartbeats 8000000 in
set_option maxRecDepth 100000 in
theorem impl_weights.calls (A0 : Option Addr) (c0 : Nat) (l0 : List Int) (r : List (List Int)) (w : World) (hr0 : Kd.C (Kd.int .i64) w A0 l0.length l0) (hc0 : l0.length ≤ c0) (h : impl_weights.f l0 = some r) :
    Calls Tryz.prog 45 #[.slice A0 l0.length c0] w fun e w' => ∃ v0_ : Value, e = .returned (v0_) ∧ Kd.S (Kd.slice 3 (Kd.int .i64)) 24 w' w.heap.size (fun _ => True) v0_ r ∧ Below w.heap.size w w' := by
  by_cases hs : lenB l0 = true
  rotate_left
  · rw [impl_weights.f, if_neg hs] at h; cases h
  rw [impl_weights.f, if_pos hs] at h
  have h := Option.some.inj h
  obtain ⟨h1, h6, h3⟩ := len_of hs
  have hx6 : ∀ x ∈ l0, x ≤ 6 := fun x hx => by obtain ⟨i, hi, rfl⟩ := List.mem_iff_getElem.1 hx; have := h3 i hi; omega
  have rl : (rowsOf l0).length = l0.length := by simp [rowsOf]
  obtain ⟨kb, hkb⟩ := (impl_board hs).rounds
  have CB := Lib.hid (fun (W : World) (hb : Below w.heap.size w W) => by
    have := impl_boardOf.calls kb A0 c0 l0 _ _ _ W (Kd.C_below hr0 hb) hc0 hkb
    exact this)
  have KEY : ∀ (W : World) (gl go g c1 ab cb : Nat), Below w.heap.size w W → w.heap.size ≤ gl → w.heap.size ≤ go → gl < W.heap.size → go < W.heap.size → ab < W.heap.size → gl ≠ go → gl ≠ ab → go ≠ ab → l0.length ≤ cb → 
      WInv gl go g c1 ab cb l0 A0 c0 w W (fun _ => False) [] W →
      Calls Tryz.prog 77 #[.agg #[.int .i64 (l0.length : Int), .int .i64 (l0.length : Int), .slice (some ⟨ab, 0, none⟩) l0.length cb], .func (.func 78) #[] #[.pointer (some ⟨gl, 0, none⟩), .pointer (some ⟨go, 0, none⟩)]] W fun e w' => e = .returned (.tuple #[]) ∧
        ∃ v, w'.heap[go]? = some (.cells #[v] 30 (0, 0)) ∧ Kd.S (Kd.slice 3 (Kd.int .i64)) 24 w' w.heap.size (fun _ => True) v r ∧ Below w.heap.size w w' := by
    intro W gl go g c1 ab cb hBW bl bo ll lo lb nlo nla noa hcb hst
    have key := WalkW.walk_calls (WInv gl go g c1 ab cb l0 A0 c0 w W)
      (by
        intro S vis w1 w2 hi hs1
        have kp : ∀ g, g < W.heap.size → ∀ {o}, w1.heap[g]? = some o → w2.heap[g]? = some o := fun g hg o ho => (hs1.kept.2 g (blk_lt ho) (fun h => by have := hi.s g h; omega)).trans ho
        exact ⟨kp gl ll hi.cl, kp go lo hi.o, Kd.R_step hi.b (fun i hi' hlt => by subst hi'; exact hs1.kept.2 _ hlt (fun h => by have := hi.s _ h; omega)), Kd.S_step hi.r (fun i hi' hlt => hs1.kept.2 i hlt hi'.2.1), Still.below hi.B hs1 (fun i h => Nat.le_trans hBW.size (hi.s i h)), hi.s⟩)
      l0.length l0.length l0.length l0.length rfl rfl (rowsOf l0) (some ⟨ab, 0, none⟩) cb (by rw [rl]; exact hcb) (.pointer (some ⟨gl, 0, none⟩)) (.pointer (some ⟨go, 0, none⟩))
      (fun S vis w1 hi => by have := (Kd.R_reads' hi.b).2.2; exact this)
      rl h1 h6 h6 (rowsOf_bits hs) W
      (by
        intro S w1 hS hB1
        exact ⟨blk_below hst.cl hB1, blk_below hst.o hB1, Kd.R_below hst.b hB1, Kd.S_below (Kd.S_mono (Kd.S_bound hst.r) (fun i hi' => ⟨hi'.1.1, fun h => by have := hS i h; have := hi'.2.2.1; omega, hi'.1.2.2⟩)) hB1, hBW.trans (hB1.mono hBW.size), hS⟩)
      (by
        intro S vis ps w1 a cp hS hSlt hps hmem hSa hC hcp hi
        obtain ⟨b, hb2⟩ := hmem
        have hwl := ways_len6 hs
        rw [hb2, List.length_append, List.length_cons] at hwl
        have hvp : ∀ p ∈ vis, rooksN p ≤ l0.length := fun p hp => by
          obtain ⟨s, e1, e2⟩ := ways_pre (rowsOf l0) l0.length l0.length 0 0 [] p (by rw [hb2]; exact List.mem_append_left _ hp)
          have := rooksN_le p
          rw [e1, List.nil_append] at this ⊢
          omega
        have hT := RepT.fold (n := l0.length) (l := l0) vis (RepT.start l0.length) hvp (by simp; omega)
        rw [List.nil_append] at hT
        have hrk := rooksN_le ps
        have hfb := allFree_bd ps l0 0 0 hx6
        obtain ⟨eI, heI⟩ : ∃ eI : Nat, allFree ps l0 0 0 = eI := ⟨(allFree ps l0 0 0).toNat, by omega⟩
        have hev1 : Ev (fun k => impl_rooks.f k ps) (rooksN ps : Int) := by
          have h := rooks_l0 (l := ps) (by omega) ps.length 0 0 (by omega) (by omega)
          rw [List.drop_zero, Nat.zero_add] at h
          exact h
        have hev2 : Ev (fun k => impl_free.f k l0 ps) (eI : Int) := by
          have h := impl_rows (l := l0) (p := ps) h6 (fun i hi => by have := h3 i hi; omega) hps l0.length 0 0 (by omega) (by omega) (by omega)
          rw [List.drop_zero, heI] at h
          exact h
        obtain ⟨kk, hk1, hk2⟩ := two_ev hev1 hev2
        have hir := hi.r
        have hio := hi.o
        obtain ⟨out, hout⟩ : ∃ out, out = vis.foldl (tab l0) (List.replicate (l0.length + 1) []) := ⟨_, rfl⟩
        rw [← hout] at hT hir
        have hlen := hT.len
        have hkl : rooksN ps < out.length := by omega
        have hrow : out[rooksN ps]? = some (out.getD (rooksN ps) []) := by
          rw [List.getD_eq_getElem?_getD, List.getElem?_eq_getElem hkl]; rfl
        have hrep := hT.rep (rooksN ps) (by omega)
        have hshort : (out.getD (rooksN ps) []).length ≤ 1000 := by
          rcases Nat.eq_zero_or_pos (out.getD (rooksN ps) []).length with q | q
          · omega
          · have hne := hrep.last ((out.getD (rooksN ps) []).length - 1) (by omega)
            have hin := List.count_pos_iff.1 (Nat.pos_of_ne_zero hne)
            obtain ⟨p, hp, hpe⟩ := List.mem_map.1 hin
            have hpb := allFree_bd p l0 0 0 hx6
            unfold keyFrom at hpe
            rw [List.drop_zero] at hpe
            have := congrArg Prod.snd hpe
            simp only [] at this
            omega
        have hlo : l0.length + 1 = out.length := hlen.symm
        rw [hlo] at hio hir
        have hww : w.heap.size ≤ w1.heap.size := hi.B.size
        refine (W1.w1_calls (rooksN ps) eI l0.length cp a gl go w.heap.size kk g c1 l0 ps out A0 c0 _ (OkW w.heap.size S gl go ab) w1 hps hcp hc0 hC (Kd.C_below hr0 hi.B) hi.cl hio (fun k h => h.2.2.2.1) hww (fun k hk' => ⟨Nat.le_trans hww hk', fun h => by have := hSlt k h; omega, fun h => by have := blk_lt hi.cl; omega, fun h => by have := blk_lt hi.o; omega, fun h => by obtain ⟨cells, hc⟩ := Kd.R_typed hi.b ab rfl; have := blk_lt hc; omega⟩) hir hkl (by omega) hrow hshort (by omega) hk1 hk2).mono ?_
        rintro e w2 ⟨rfl, hS2, hK, hB2⟩
        refine ⟨rfl, ⟨blk_kept hi.cl hK (fun h => h.2.2.1 rfl), blk_kept hi.o hK (fun h => h.2.2.2.1 rfl), Kd.R_step hi.b (fun i hi' hlt => by subst hi'; exact hK.2 _ hlt (fun h => h.2.2.2.2 rfl)), ?_, hi.B.trans hB2, hi.s⟩, fun i hSi hlt => hK.2 i hlt (fun h => h.2.1 hSi)⟩
        rw [List.foldl_append, List.foldl_cons, List.foldl_nil, ← hout]
        rw [← hlo] at hS2
        unfold tab
        rw [heI]
        exact hS2)
    rw [rl] at key
    refine key.mono ?_
    rintro e w' ⟨rfl, S, hS, hi⟩
    exact ⟨rfl, _, hi.o, by rw [← h]; exact Kd.S_mono hi.r (fun _ _ => trivial), hi.B⟩
  have KX := Lib.hid KEY
  have HL := Aside0.mk (And.intro h1 (And.intro h6 rl))
  obtain ⟨ji, hji⟩ : ∃ j_ : Int, (wrap64 ((l0.length : Int) + 1)) = j_ := ⟨_, rfl⟩
  have hjiw : (IntKind.i64.wrap ((l0.length : Int) + 1)) = ji := (i64_w _).trans hji
  have hj2 : ji = ((l0.length + 1 : Nat) : Int) := by rw [← hji, w64 (by omega) (by omega)]; rfl
  have HJ := Aside0.mk hj2
  have hj0 : decide (0 ≤ ji) = true := decide_eq_true (by omega)
  clear KEY h hs h1 h6 h3 hx6 rl hkb hr0 hc0 hj2 hji
  have hu79 := Tryz.underlying42
  go_enter Tryz.func45, Tryz.ntmps45
  go_wp2_with (first
    | ((with_reducible refine gate_dst (N := 1) rfl ?_); refine box_event ?hg (N := 1) ?hd (cs := #[.slice A0 l0.length c0]) (t := 24) ?hr ?_; (case hd => rfl); (case hg => rfl); (case hr => first | (go_simp; done) | (go_simp; rfl)); intro gl hg w1 hbox hb; have G1 := Aside0.mk hg; have K1 := Aside0.mk hbox; have B1 := Aside0.mk hb; clear hg hbox hb; have z1 : w1.cell? ⟨gl, 0, none⟩ = some (.slice A0 l0.length c0) := (blk_cell K1.out 0).trans rfl)
    | ((with_reducible refine gate_dst (N := 7) rfl ?_); refine Kd.S_make (Kd.slice 3 (Kd.int .i64)) _ 24 rfl (N := 7) rfl 30 _ _ rfl ji rfl rfl Tryz.underlying30 (.slice none 0 0) 24 info24 rfl (by decide) (by omega) [] (ok := fun _ => True) (okp := fun _ => True) ⟨_, rfl, Kd.R_nil _ _ _ _ _⟩ (fun _ hk => hk) trivial (by have := HJ.out; omega) (by have := HJ.out; have := HL.out; omega) (Below.refl _ _) (Nat.le_refl _) ?_; intro v2 w2 ho hb hg_ hnew_; clear hg_ hnew_; rw [HJ.out, Int.toNat_natCast] at ho; obtain ⟨g, c1, ev2, hg1, hg2, cells2, hc2⟩ := Kd.S_form ho (by rw [List.length_replicate]; omega); rw [List.length_replicate] at ev2; subst ev2; have G2 := Aside0.mk (And.intro hg1 hg2); have O2 := Aside0.mk ho; have K2 := Aside0.mk (blk_below K1.out hb); have B2 := Aside0.mk hb; clear hg1 hg2 hc2 ho hb)
    | ((with_reducible refine gate_dst (N := 3) rfl ?_); refine box_event ?hg (N := 3) ?hd (cs := #[.slice none 0 0]) (t := 30) ?hr ?_; (case hd => rfl); (case hg => rfl); (case hr => first | (go_simp; done) | (go_simp; rfl)); intro go hg w3 hbox hb; have G3 := Aside0.mk hg; have K3 := Aside0.mk hbox; have B3 := Aside0.mk hb; clear hg hbox hb; have y1 : w3.cell? ⟨go, 0, none⟩ = some (.slice none 0 0) := (blk_cell K3.out 0).trans rfl; have f1 : w3.frozen? ⟨go, 0, none⟩ = false := blk_frozen K3.out 0; have nlo := Aside0.mk (show gl ≠ go from Nat.ne_of_lt (by rw [G3.out]; exact blk_lt K2.out)); have z5 : (w3.setCell ⟨go, 0, none⟩ (.slice (some ⟨g, 0, none⟩) (l0.length + 1) c1)).cell? ⟨gl, 0, none⟩ = some (.slice A0 l0.length c0) := (blk_cell (blk_far (blk_below K2.out B3.out) nlo.out _) 0).trans rfl)
    | (go_at_call 37; refine (CB.out _ ?sb).mono ?_; (case sb => (have o1 := blk_lt K1.out; have o2 := G1.out; have o3 := G3.out; have o4 := blk_lt K2.out; exact Below.setCell ((B1.out.trans (B2.out.mono (by omega))).trans (B3.out.mono (by omega))) (by (try simp only []); omega) _)); rintro e w4 ⟨v4, rfl, ho, hb⟩; obtain ⟨ab, cb, hv4, hab, hab2, cells4, hc4⟩ := Kd.R_form ho (by rw [HL.out.2.2]; exact HL.out.1); rw [HL.out.2.2] at hv4; subst hv4; have G4 := Aside0.mk (And.intro hab hab2); have O4 := Aside0.mk ho; have B4 := Aside0.mk hb; have K4 := Aside0.mk (blk_below (blk_far (blk_below K2.out B3.out) nlo.out _) hb); have K4b := Aside0.mk (blk_below (blk_put K3.out 0 _ rfl) hb); clear hab hab2 hc4 ho hb)
    | (go_at_call 77; (refine (KX.out _ gl go g c1 ab cb ?sB ?s1 ?s2 ?s3 ?s4 ?s5 ?s6 ?s7 ?s8 ?s9 ?sw).mono ?_); (all_goals have o1 := G1.out); (all_goals have o2 := blk_lt K1.out); (all_goals have o3 := G2.out); (all_goals have o4 := G3.out); (all_goals have o5 := G4.out); (all_goals have o6 := blk_lt K2.out); (all_goals have o7 := blk_lt K3.out); (all_goals have o8 : ∀ v, (w3.setCell ⟨go, 0, none⟩ v).heap.size = w3.heap.size := (fun v => by simp [World.setCell])); (all_goals rw [o8] at o5); (all_goals have o9 := blk_lt K4.out); (all_goals have o10 := blk_lt K4b.out); (all_goals have bb : Below w.heap.size w w4 := ((Below.setCell ((B1.out.trans (B2.out.mono (by omega))).trans (B3.out.mono (by omega))) (by (try simp only []); omega) _).trans (B4.out.mono (by rw [o8]; omega)))); (case sB => exact bb); (case s1 => omega); (case s2 => omega); (case s3 => omega); (case s4 => omega); (case s5 => omega); (case s6 => exact nlo.out); (case s7 => omega); (case s8 => omega); (case s9 => exact (Kd.R_reads' O4.out).2.1); (case sw => exact ⟨K4.out, K4b.out, Kd.R_mono (Kd.R_lower (Kd.R_tight rfl O4.out) (Nat.zero_le _)) (fun i hi => (by simpa [Value.ownBlock] using hi : i = ab)), Kd.S_below (Kd.S_far (p := ⟨go, 0, none⟩) (Kd.S_mono (Kd.S_below (Kd.S_lower (Kd.S_bound O2.out) (by omega)) B3.out) (ok' := OkW w.heap.size (fun _ => False) gl go ab) (fun i hi => (by have q1 := hi.2.1; have q2 := hi.2.2.1; exact ⟨by omega, fun h => h, by omega, by omega, by omega⟩))) (fun k hk => hk.2.2.2.1) _) B4.out, bb, fun i hi => hi.elim⟩); clear o1 o2 o3 o4 o5 o6 o7 o8 o9 o10 bb; rintro e w7 ⟨rfl, v7, hf1, hf2, hf3⟩; have F2 := Aside0.mk hf2; have F3 := Aside0.mk hf3; have y7 : w7.cell? ⟨go, 0, none⟩ = some v7 := (blk_cell hf1 0).trans rfl; clear hf1 hf2 hf3))
  go_ret
  exact ⟨_, rfl, F2.out, F3.out⟩
end Go.Proofs.YtihnjbfjdkdhaaaGreat.Q
end
section
namespace Go.Proofs.YtihnjbfjdkdhaaaGreat.Q
open Go.RowKit Go.Proofs.YtihnjbfjdkdhaaaGreatW.PrintWords Go.Proofs.YtihnjbfjdkdhaaaGreatW.PrintLast Go.Proofs.YtihnjbfjdkdhaaaGreatW.PrintMore
attribute [local go_sem] max2_int min2_int max_two min_two max_three min_three max_four min_four   -- for this text's walks alone
set_option linter.unusedVariables false
set_option linter.unusedSimpArgs false
def impl_AllWeights.f (k:Nat) (l0:List Int):Option ((List (List Int)) × Bool):=(impl_AreLengths.f k l0).bind fun t101=>(if t101=true then ((impl_weights.f l0).bind fun t102=>(some (t102,true))) else (some (([]:List (List Int)),false)))
set_option maxHeartbeats 8000000 in
set_option maxRecDepth 100000 in
theorem impl_AllWeights.calls (k:Nat) (A0:Option Addr) (c0:Nat) (l0:List Int) (r1:List (List Int)) (r2:Bool) (w:World) (hr0:Kd.C (Kd.int .i64) w A0 l0.length l0) (hc0:l0.length≤c0) (h:impl_AllWeights.f k l0=some (r1,r2)) :
  Calls Tryz.prog 9 #[.slice A0 l0.length c0] w fun e w'=>∃ v0_:Value,e=.returned (.tuple #[v0_,.bool r2])∧Kd.S (Kd.slice 3 (Kd.int .i64)) 24 w' w.heap.size (fun _=>True) v0_ r1∧Below w.heap.size w w':=by
 have HR0:=za hr0;have HC0:=za hc0;clear hr0 hc0;have HB:=za (Below.refl w.heap.size w);have H:((impl_AreLengths.f k l0).bind fun t101=>(if t101=true then ((impl_weights.f l0).bind fun t102=>(some (t102,true))) else (some (([]:List (List Int)),false))))=some (r1,r2):=h;clear h;obtain ⟨t101,A2,H⟩:=bindAside H;(try dsimp only at H);by_cases c3:t101=true
 · subst c3;(have H1:((impl_weights.f l0).bind fun t102=>(some (t102,true)))=some (r1,r2):=by rw [if_pos rfl] at H;exact H);clear H;have H:=H1;clear H1;obtain ⟨t102,A4,H⟩:=bindAside H;(try dsimp only at H);simp only [Option.some.injEq,Prod.mk.injEq] at H;obtain ⟨rfl,rfl⟩:=H;(go_enter Tryz.func9,Tryz.ntmps9);(go_wp2_with (first|((with_reducible refine zo (f:=36) rfl ?_);refine zp (some 5) rfl rfl Tryz.func36 (by kernel_rfl) rfl #[.slice A0 l0.length c0] rfl (by first|rfl|simp only [z3_,z4_,z5_];try rfl) ?_;(with_reducible refine (impl_AreLengths.calls k _ _ l0 true _ ?side1 ?side2 A2.out).mono ?_);(case side1=>repeat (first|exact HR0.out|(with_reducible refine zh ?_ _)|(with_reducible refine zi ?_ _)|(with_reducible refine zj ?_)));(case side2=>exact HC0.out);rintro e w' ⟨rfl,⟨nd,rfl⟩⟩;refine ⟨_,rfl,?_⟩)|((with_reducible refine zo (f:=45) rfl ?_);refine zp (some 8) rfl rfl Tryz.func45 (by kernel_rfl) rfl #[.slice A0 l0.length c0] rfl (by first|rfl|simp only [z3_,z4_,z5_];try rfl) ?_;(with_reducible refine (impl_weights.calls _ _ l0 t102 _ ?side1 ?side2 A4.out).mono ?_);(case side1=>repeat (first|exact HR0.out|(with_reducible refine zh ?_ _)|(with_reducible refine zi ?_ _)|(with_reducible refine zj ?_)));(case side2=>exact HC0.out);rintro e w5 ⟨v103,rfl,ho0,hb⟩;refine ⟨_,rfl,?_⟩;have HO104:=za (Kd.S_lower ho0 (zq (by repeat (first|(with_reducible first|exact HB.out|apply zc|apply zd|apply zb)|exact HB.out))));replace HB:=za (zm (by repeat (first|(with_reducible first|exact HB.out|apply zc|apply zd|apply zb)|exact HB.out)) hb))));(go_ret2);exact ⟨_,by first|rfl|simp [*,errW_none,errW_some] <;> rfl,by (with_reducible repeat (first|apply zH|apply zI|apply Kd.S_drew));exact HO104.out,by repeat (first|(with_reducible first|exact HB.out|apply zc|apply zd|apply zb)|exact HB.out)⟩
 · replace c3:=Bool.eq_false_iff.mpr c3;subst c3;(have H1:(some (([]:List (List Int)),false))=some (r1,r2):=by rw [if_neg (show ¬ (false=true) by decide)] at H;exact H);clear H;have H:=H1;clear H1;simp only [Option.some.injEq,Prod.mk.injEq] at H;obtain ⟨rfl,rfl⟩:=H;(go_enter Tryz.func9,Tryz.ntmps9);(go_wp2_with (first|((with_reducible refine zo (f:=36) rfl ?_);refine zp (some 5) rfl rfl Tryz.func36 (by kernel_rfl) rfl #[.slice A0 l0.length c0] rfl (by first|rfl|simp only [z3_,z4_,z5_];try rfl) ?_;(with_reducible refine (impl_AreLengths.calls k _ _ l0 false _ ?side1 ?side2 A2.out).mono ?_);(case side1=>repeat (first|exact HR0.out|(with_reducible refine zh ?_ _)|(with_reducible refine zi ?_ _)|(with_reducible refine zj ?_)));(case side2=>exact HC0.out);rintro e w' ⟨rfl,⟨nd,rfl⟩⟩;refine ⟨_,rfl,?_⟩)));(go_ret2);exact ⟨_,by first|rfl|simp [*,errW_none,errW_some] <;> rfl,by first|exact Kd.S_nil _ _ _ _ _|exact Kd.N_nil _ _ _ _ _|exact Kd.V_nil _ _ _ _ _|exact Kd.Q_nil _ _ _ _ _|exact Kd.R_nil _ _ _ _ _,by repeat (first|(with_reducible first|exact HB.out|apply zc|apply zd|apply zb)|exact HB.out)⟩
end Go.Proofs.YtihnjbfjdkdhaaaGreat.Q
end
section
namespace Go.Proofs.YtihnjbfjdkdhaaaGreat.Q
open Go.RowKit Go.Proofs.YtihnjbfjdkdhaaaGreatW.PrintWords Go.Proofs.YtihnjbfjdkdhaaaGreatW.PrintLast Go.Proofs.YtihnjbfjdkdhaaaGreatW.PrintMore
attribute [local go_sem] max2_int min2_int max_two min_two max_three min_three max_four min_four   -- for this text's walks alone
set_option linter.unusedVariables false
set_option linter.unusedSimpArgs false
mutual
def spec_weAdd.l0:Nat→Int→List Int→List Int→Int→Int→Option (List Int)
|0,_,_,_,_,_=>none
|k + 1,x2,x7,x12,x13,x14=>if x14 < x13 then (if 0≤x14 then (if x14 < (x12.length:Int) then (if (rd x12 x14)=0 then (spec_weAdd.l0 k x2 x7 x12 x13 (wrap64 (x14 + 1))) else (spec_weAdd.l1 k x2 x7 x14 (rd x12 x14) x12 x13 x14)) else (none)) else (none)) else (some x7)
def spec_weAdd.l1:Nat→Int→List Int→Int→Int→List Int→Int→Int→Option (List Int)
|0,_,_,_,_,_,_,_=>none
|k + 1,x2,x7,x8,x9,x12,x13,x14=>if (x7.length:Int)≤(wrap64 (x8 + x2)) then (if x7.length < 17592186044416 then (spec_weAdd.l1 k x2 (x7 ++ [0]) x8 x9 x12 x13 x14) else (none)) else (if 0≤(wrap64 (x8 + x2)) then (if (wrap64 (x8 + x2)) < (x7.length:Int) then (spec_weAdd.l0 k x2 (x7.set ((wrap64 (x8 + x2)):Int).toNat (wrap64 ((rd x7 (wrap64 (x8 + x2))) + x9))) x12 x13 (wrap64 (x14 + 1))) else (none)) else (none))
end
def spec_weAdd.f (k:Nat) (l0:List Int) (l1:List Int) (a2:Int):Option (List Int):=(spec_l1Own.f l0).bind fun t101=>(spec_weAdd.l0 k a2 t101 l1 (l1.length:Int) 0)
set_option maxHeartbeats 8000000 in
set_option maxRecDepth 100000 in
theorem spec_weAdd.calls (k:Nat) (A0:Option Addr) (c0:Nat) (l0:List Int) (A1:Option Addr) (c1:Nat) (l1:List Int) (a2:Int) (r:List Int) (w:World) (hr0:Kd.C (Kd.int .i64) w A0 l0.length l0) (hc0:l0.length≤c0) (hr1:Kd.C (Kd.int .i64) w A1 l1.length l1) (hc1:l1.length≤c1) (h:spec_weAdd.f k l0 l1 a2=some r) :
  Calls Tryz.prog 80 #[.slice A0 l0.length c0,.slice A1 l1.length c1,.int .i64 a2] w fun e w'=>∃ v0_:Value,e=.returned (v0_)∧Kd.R (Kd.int .i64) 3 w' w.heap.size (fun _=>True) v0_ r∧Below w.heap.size w w':=by
 have HR0:=za hr0;have HC0:=za hc0;clear hr0 hc0;have HR1:=za hr1;have HC1:=za hc1;clear hr1 hc1;have HB:=za (Below.refl w.heap.size w);have H:((spec_l1Own.f l0).bind fun t101=>(spec_weAdd.l0 k a2 t101 l1 (l1.length:Int) 0))=some r:=h;clear h;obtain ⟨t101,A4,H⟩:=bindAside H;(try dsimp only at H);have H':=za H;clear H;(go_enter Tryz.func80,Tryz.ntmps80);(go_wp2_with (first|((with_reducible refine zo (f:=89) rfl ?_);refine zp (some 11) rfl rfl Tryz.func89 (by kernel_rfl) rfl #[.slice A0 l0.length c0] rfl (by first|rfl|simp only [z3_,z4_,z5_];try rfl) ?_;(with_reducible refine (spec_l1Own.calls _ _ l0 t101 _ ?side1 ?side2 A4.out).mono ?_);(case side1=>repeat (first|exact HR0.out|(with_reducible refine zh ?_ _)|(with_reducible refine zi ?_ _)|(with_reducible refine zj ?_)));(case side2=>exact HC0.out);rintro e w5 ⟨v102,rfl,ho0,hb⟩;refine ⟨_,rfl,?_⟩;have HO103:=za (zA ho0 (zq (by repeat (first|(with_reducible first|exact HB.out|apply zc|apply zd|apply zb)|exact HB.out))));replace HB:=za (zm (by repeat (first|(with_reducible first|exact HB.out|apply zc|apply zd|apply zb)|exact HB.out)) hb))));(go_loopg [7,14] k (fun kq v7 v14 w'=>∃ (x7_1:List Int) (x14_1:Int),v14=.int .i64 x14_1∧Aside0 (spec_weAdd.l0 kq a2 x7_1 l1 (l1.length:Int) x14_1=some r)∧Aside0 (kq≤k)∧Aside0 (Kd.R (Kd.int .i64) 3 w' w.heap.size (fun _=>True) v7 x7_1)∧Aside0 (Below w.heap.size w w')));case atStart=>exact ⟨(t101),(0),(by first|rfl|(simp;done)|(simp [*];done)),H',⟨Nat.le_refl _⟩,⟨by (with_reducible repeat (first|apply zf|apply zg|apply ze));exact HO103.out⟩,⟨by repeat (first|(with_reducible first|exact HB.out|apply zc|apply zd|apply zb)|exact HB.out)⟩⟩
 case round =>
  clear H';(try clear c1);(try clear p2);obtain ⟨x7_1,x14_1,rfl,HA,HK1,HO_7,HB⟩:=hrel
  cases gk with
 |zero=>exact absurd HA.out (by simp [spec_weAdd.l0])
 |succ k1 =>
   have H:=HA.out;clear HA;simp only [spec_weAdd.l0] at H;by_cases c6:x14_1 < (l1.length:Int)
   ·
    rw [if_pos c6] at H;have c6b0:decide (x14_1 < (l1.length:Int))=true:=decide_eq_true c6;clear c6;by_cases c7:0≤x14_1
    ·
     rw [if_pos c7] at H;have c7b0:decide (0≤x14_1)=true:=decide_eq_true c7;clear c7;by_cases c8:x14_1 < (l1.length:Int)
     ·
      rw [if_pos c8] at H;have c8b0:decide (x14_1 < (l1.length:Int))=true:=decide_eq_true c8;clear c8;by_cases c9:(rd l1 x14_1)=0
      · rw [if_pos c9] at H;have c9b0:((rd l1 x14_1) == 0)=true:=beq_iff_eq.mpr c9;have c9b1:((rd l1 x14_1) != 0)=false:=bne_eq_false_iff_eq.mpr c9;clear c9;have H':=za H;clear H;have p104:0≤(x14_1:Int):=of_decide_eq_true ‹_›;have q104:x14_1 < (l1.length:Int):=of_decide_eq_true ‹_›;obtain ⟨ad104,e104,hx104_0⟩:=zz HR1.out x14_1 p104 q104;cases e104;replace hx104_0:=(HB.out.cell (World.block_lt_of_cell? w _ hx104_0)).trans hx104_0;replace p104:=eq_true p104;replace q104:=eq_true q104;(go_wp2);(go_roundg k1);(case measure=>have:=HK1.out;omega);case rel=>exact ⟨(x7_1),(wrap64 (x14_1 + 1)),(by first|rfl|(simp;done)|(simp [*];done)),H',⟨by have:=HK1.out;omega⟩,⟨by (with_reducible repeat (first|apply zf|apply zg|apply ze));exact HO_7.out⟩,⟨by repeat (first|(with_reducible first|exact HB.out|apply zc|apply zd|apply zb)|exact HB.out)⟩⟩
      ·
       rw [if_neg c9] at H;have c9b0:((rd l1 x14_1) == 0)=false:=beq_eq_false_iff_ne.mpr c9;have c9b1:((rd l1 x14_1) != 0)=true:=bne_iff_ne.mpr c9;have H':=za H;clear H;have p104:0≤(x14_1:Int):=of_decide_eq_true ‹_›;have q104:x14_1 < (l1.length:Int):=of_decide_eq_true ‹_›;obtain ⟨ad104,e104,hx104_0⟩:=zz HR1.out x14_1 p104 q104;cases e104;replace hx104_0:=(HB.out.cell (World.block_lt_of_cell? w _ hx104_0)).trans hx104_0;replace p104:=eq_true p104;replace q104:=eq_true q104;(go_wp2);(go_loopg [7] k1 (fun kq v7 w'=>∃ (x7_2:List Int),Aside0 (spec_weAdd.l1 kq a2 x7_2 x14_1 (rd l1 x14_1) l1 (l1.length:Int) x14_1=some r)∧Aside0 (kq≤k1)∧Aside0 (Kd.R (Kd.int .i64) 3 w' w.heap.size (fun _=>True) v7 x7_2)∧Aside0 (Below w.heap.size w w')));case atStart=>exact ⟨(x7_1),H',⟨Nat.le_refl _⟩,⟨by (with_reducible repeat (first|apply zf|apply zg|apply ze));exact HO_7.out⟩,⟨by repeat (first|(with_reducible first|exact HB.out|apply zc|apply zd|apply zb)|exact HB.out)⟩⟩
       case round =>
        clear H';(try clear c1);(try clear p1);(try clear q1);(try clear hx1);(try clear p2);(try clear c6);(try clear c6b0);(try clear p6);(try clear c7);(try clear c7b0);(try clear c8);(try clear c8b0);(try clear c9);(try clear c9b0);(try clear c9b1);(try clear hx104_0);(try clear p104);(try clear p2);(try clear q104);obtain ⟨x7_2,HA,HK2,HO_7,HB⟩:=hrel
        cases gk with
       |zero=>exact absurd HA.out (by simp [spec_weAdd.l1])
       |succ k2 =>
         have H:=HA.out;clear HA;simp only [spec_weAdd.l1] at H;by_cases c10:(x7_2.length:Int)≤(wrap64 (x14_1 + a2))
         ·
          rw [if_pos c10] at H;have c10b0:decide ((x7_2.length:Int)≤(wrap64 (x14_1 + a2)))=true:=decide_eq_true c10;clear c10;by_cases c11:x7_2.length < 17592186044416
          · rw [if_pos c11] at H;have LMc11:=za c11;clear c11;obtain ⟨y105,hy105⟩:∃ y_:List Int,y_=(x7_2 ++ [0]):=⟨_,rfl⟩;(replace H:(spec_weAdd.l1 k2 a2 y105 x14_1 (rd l1 x14_1) l1 (l1.length:Int) x14_1)=some r:=by first|(rw [hy105];with_reducible exact H)|(have H2_:=(Option.bind_some _ _).symm.trans H;rw [hy105];with_reducible exact H2_)|(have H2_:=(Option.bind_some _ _).symm.trans H;with_reducible exact H2_)|with_reducible exact H|(rw [hy105];exact H)|exact H);have Ny105:=za hy105;clear hy105;have H':=za H;clear H;obtain ⟨Ao12,co12,eo12⟩:=zy HO_7.out;subst eo12;(go_wp2_with (first|((with_reducible refine gate_builtin (b:=.append) (xs:=#[.tmp 27,.tmp 28]) rfl ?_);at_builtin;refine Kd.R_append (Kd.int .i64) (w0:=w) w.heap.size rfl (.tmp 27) (.tmp 28) 24 3 (.int .i64 0) 8 rfl Tryz.underlying24 info3 rfl (by decide) (by omega) (.slice Ao12 x7_2.length co12) x7_2 0 [.int .i64 0] (fun _=>True) (fun _=>False) rfl rfl ?aP (fun _ hk=>hk.elim) ?aF ?aO ?aB ?aS ?aL ?_;(case aP=>exact rfl);(case aB=>exact (by repeat (first|(with_reducible first|exact HB.out|apply zc|apply zd|apply zb)|exact HB.out)));(case aF=>exact (fun _ _=>trivial));(case aO=>exact (by (with_reducible repeat (first|apply zf|apply zg|apply ze));exact HO_7.out));(case aS=>exact (zq (by repeat (first|(with_reducible first|exact HB.out|apply zc|apply zd|apply zb)|exact HB.out))));(case aL=>have:=LMc11.out;omega);intro v106 w13 ho hb hg hat;rw [← Ny105.out] at ho;replace HB:=za (hb);have HO107:=za (ho);clear HO_7;clear ho hb hg hat)));(go_roundg k2);(case measure=>have:=HK1.out;have:=HK2.out;omega);case rel=>exact ⟨(y105),H',⟨by have:=HK1.out;have:=HK2.out;omega⟩,⟨by (with_reducible repeat (first|apply zf|apply zg|apply ze));exact HO107.out⟩,⟨by repeat (first|(with_reducible first|exact HB.out|apply zc|apply zd|apply zb)|exact HB.out)⟩⟩
          · rw [if_neg c11] at H;exact absurd H (by simp)
         ·
          rw [if_neg c10] at H;have c10b0:decide ((x7_2.length:Int)≤(wrap64 (x14_1 + a2)))=false:=decide_eq_false c10;clear c10;obtain ⟨ji14,hji14⟩:∃ j_:Int,(wrap64 (x14_1 + a2))=j_:=⟨_,rfl⟩;(replace H:(if 0≤(ji14) then (if (ji14) < (x7_2.length:Int) then (spec_weAdd.l0 k2 a2 (x7_2.set ((ji14):Int).toNat (wrap64 ((rd x7_2 (ji14)) + (rd l1 x14_1)))) l1 (l1.length:Int) (wrap64 (x14_1 + 1))) else (none)) else (none))=some r:=by first|(rw [hji14] at H;exact H)|(simp only [hji14] at H ⊢;exact H));(try rw [hji14] at c10b0);have hji14w:(IntKind.i64.wrap (x14_1 + a2))=ji14:=(i64_w _).trans hji14;by_cases c15:0≤(ji14)
          ·
           rw [if_pos c15] at H;have c15b0:decide (0≤(ji14))=true:=decide_eq_true c15;clear c15;by_cases c16:(ji14) < (x7_2.length:Int)
           · rw [if_pos c16] at H;have c16b0:decide ((ji14) < (x7_2.length:Int))=true:=decide_eq_true c16;clear c16;obtain ⟨y109,hy109⟩:∃ y_:List Int,y_=(x7_2.set ((ji14):Int).toNat (wrap64 ((rd x7_2 (ji14)) + (rd l1 x14_1)))):=⟨_,rfl⟩;(replace H:(spec_weAdd.l0 k2 a2 y109 l1 (l1.length:Int) (wrap64 (x14_1 + 1)))=some r:=by first|(rw [hy109];with_reducible exact H)|(have H2_:=(Option.bind_some _ _).symm.trans H;rw [hy109];with_reducible exact H2_)|(have H2_:=(Option.bind_some _ _).symm.trans H;with_reducible exact H2_)|with_reducible exact H|(rw [hy109];exact H)|exact H);have Ny109:=za hy109;clear hy109;have H':=za H;clear H;obtain ⟨Ao18,co18,eo18⟩:=zy HO_7.out;subst eo18;have p108:0≤((ji14):Int):=of_decide_eq_true ‹_›;have q108:(ji14) < (x7_2.length:Int):=of_decide_eq_true ‹_›;obtain ⟨ad108,e108,hx108_0⟩:=zz (zk HO_7.out).2.2 (ji14) p108 q108;cases e108;replace p108:=eq_true p108;replace q108:=eq_true q108;have p17:0≤((ji14):Int):=of_decide_eq_true ‹_›;have q17:((ji14):Int) < ((x7_2.length:Int):Int):=of_decide_eq_true ‹_›;obtain ⟨go17,co17,eo17,gb17,gl17,cl17,HG17⟩:=Kd.R_form HO_7.out (by omega);(first|cases eo17|(injection eo17 with ea_ en_ ec_;(first|subst ea_|(injection ea_ with ea_;subst ea_));subst ec_;clear en_));have GB17:=za gb17;have GG17:=za HG17;clear gb17 gl17 HG17;(first|simp only [add_plain] at hx108_0|skip);obtain ⟨hx17_0,hf17_0⟩:=Kd.R_celln 0 HO_7.out ((ji14):Int) p17 q17;replace p17:=eq_true p17;replace q17:=eq_true q17;have HP19:=Kd.R_putg HO_7.out ((ji14):Int) (wrap64 ((rd x7_2 (ji14)) + (rd l1 x14_1)));(go_wp2_with (first|((with_reducible refine gate_store (t:=3) (p:=38) rfl ?_);refine store_event (t:=3) (p:=38) (v:=?vo_w20) (w1:=(wr.setCell ⟨go17,((ji14):Int).toNat,none⟩ (.int .i64 (wrap64 ((rd x7_2 (ji14)) + (rd l1 x14_1)))))) ?hg ?ho ?hn ?hr ?_;(case ho=>rfl);(case hg=>rfl);(case hn=>rfl);(case hr=>first|(go_simp;done)|(go_simp;rfl));intro w20 hw;have hg:wr.grownBy w20 (some go17):=(by rw [hw];exact HP19.2);have hp_:Kd.R (Kd.int .i64) 3 w20 w.heap.size (fun _=>True) (.slice (some ⟨go17,0,none⟩) x7_2.length co18) y109:=(by rw [hw,Ny109.out];exact HP19.1);clear HP19;replace HO_7:=za (hp_);replace HB:=za ((by rw [hw];exact zl (HB.out) GB17.out:Below w.heap.size w w20));clear hg hw hp_)));(go_roundg k2);(case measure=>have:=HK1.out;have:=HK2.out;omega);case rel=>exact ⟨(y109),(wrap64 (x14_1 + 1)),(by first|rfl|(simp;done)|(simp [*];done)),H',⟨by have:=HK1.out;have:=HK2.out;omega⟩,⟨by (with_reducible repeat (first|apply zf|apply zg|apply ze));exact HO_7.out⟩,⟨by repeat (first|(with_reducible first|exact HB.out|apply zc|apply zd|apply zb)|exact HB.out)⟩⟩
           · rw [if_neg c16] at H;exact absurd H (by simp)
          · rw [if_neg c15] at H;exact absurd H (by simp)
     · rw [if_neg c8] at H;exact absurd H (by simp)
    · rw [if_neg c7] at H;exact absurd H (by simp)
   · rw [if_neg c6] at H;have c6b0:decide (x14_1 < (l1.length:Int))=false:=decide_eq_false c6;clear c6;obtain rfl:=Option.some.inj H;(go_wp2);(go_ret);exact ⟨_,by first|rfl|simp [*,errW_none,errW_some] <;> rfl,by (with_reducible repeat (first|apply zf|apply zg|apply ze));exact HO_7.out,by repeat (first|(with_reducible first|exact HB.out|apply zc|apply zd|apply zb)|exact HB.out)⟩
end Go.Proofs.YtihnjbfjdkdhaaaGreat.Q
end
section
namespace Go.Proofs.YtihnjbfjdkdhaaaGreat.Q
open Go.RowKit Go.Proofs.YtihnjbfjdkdhaaaGreatW.PrintWords Go.Proofs.YtihnjbfjdkdhaaaGreatW.PrintLast Go.Proofs.YtihnjbfjdkdhaaaGreatW.PrintMore
attribute [local go_sem] max2_int min2_int max_two min_two max_three min_three max_four min_four   -- for this text's walks alone
set_option linter.unusedVariables false
set_option linter.unusedSimpArgs false
mutual
def spec_weAll.l0:Nat→List Int→List (List Int)→List Int→Int→Int→Option ((List (List Int)))
|0,_,_,_,_,_=>none
|k + 1,x0,x3,x16,x17,x18=>if x18 < x17 then (if 0≤x18 then (if x18 < (x16.length:Int) then (spec_weAll.l1 k x0 x3 (rd x16 x18) (x0.length:Int) x16 x17 x18) else (none)) else (none)) else (some x3)
def spec_weAll.l1:Nat→List Int→List (List Int)→Int→Int→List Int→Int→Int→Option ((List (List Int)))
|0,_,_,_,_,_,_,_=>none
|k + 1,x0,x3,x5,x6,x16,x17,x18=>if x6 ≥ 0 then (if x5 ≥ x6 then (if 0≤x6 then (if x6 < (x3.length:Int) then ((spec_weAdd.f k ([]:List Int) (rd_L2 x3 x6) (wrap64 (x5 - x6))).bind fun t110=>(spec_weAll.j2 k x0 x3 x5 x6 t110 x16 x17 x18)) else (none)) else (none)) else (spec_weAll.j2 k x0 x3 x5 x6 ([]:List Int) x16 x17 x18)) else (spec_weAll.l0 k x0 x3 x16 x17 (wrap64 (x18 + 1)))
def spec_weAll.j2:Nat→List Int→List (List Int)→Int→Int→List Int→List Int→Int→Int→Option ((List (List Int)))
|0,_,_,_,_,_,_,_,_=>none
|k + 1,x0,x3,x5,x6,x7,x16,x17,x18=>spec_weAll.l2 k x0 x3 x5 x6 x7 0 x16 x17 x18
def spec_weAll.l2:Nat→List Int→List (List Int)→Int→Int→List Int→Int→List Int→Int→Int→Option ((List (List Int)))
|0,_,_,_,_,_,_,_,_,_=>none
|k + 1,x0,x3,x5,x6,x7,x8,x16,x17,x18=>if x6 > 0 then (if x8 < (wrap64 ((wrap64 (x5 - x6)) + 1)) then (if 0≤(wrap64 (x6 - 1)) then (if (wrap64 (x6 - 1)) < (x3.length:Int) then ((spec_weAdd.f k x7 (rd_L2 x3 (wrap64 (x6 - 1))) x8).bind fun t114=>(spec_weAll.l2 k x0 x3 x5 x6 t114 (wrap64 (x8 + 1)) x16 x17 x18)) else (none)) else (none)) else (if 0≤x6 then (if x6 < (x3.length:Int) then (spec_weAll.l1 k x0 (x3.set (x6:Int).toNat x7) x5 (wrap64 (x6 - 1)) x16 x17 x18) else (none)) else (none))) else (if 0≤x6 then (if x6 < (x3.length:Int) then (spec_weAll.l1 k x0 (x3.set (x6:Int).toNat x7) x5 (wrap64 (x6 - 1)) x16 x17 x18) else (none)) else (none))
end
def spec_weAll.f (k:Nat) (l0:List Int):Option ((List (List Int))):=if 0≤(wrap64 ((l0.length:Int) + 1)) then (if (wrap64 ((l0.length:Int) + 1):Int).toNat≤11728124029610 then ((some (List.replicate (wrap64 ((l0.length:Int) + 1):Int).toNat []:List (List Int))).bind fun y101=>(if 0 < (y101.length:Int) then (spec_weAll.l0 k l0 (y101.set (0:Int).toNat (([1]:List Int))) l0 (l0.length:Int) 0) else (none))) else (none)) else (none)
set_option maxHeartbeats 8000000 in
set_option maxRecDepth 100000 in
theorem spec_weAll.calls (k:Nat) (A0:Option Addr) (c0:Nat) (l0:List Int) (r:List (List Int)) (w:World) (hr0:Kd.C (Kd.int .i64) w A0 l0.length l0) (hc0:l0.length≤c0) (h:spec_weAll.f k l0=some r) :
  Calls Tryz.prog 46 #[.slice A0 l0.length c0] w fun e w'=>∃ v0_:Value,e=.returned (v0_)∧Kd.S (Kd.slice 3 (Kd.int .i64)) 24 w' w.heap.size (fun _=>True) v0_ r∧Below w.heap.size w w':=by
 have HR0:=za hr0;have HC0:=za hc0;clear hr0 hc0;have HB:=za (Below.refl w.heap.size w);have H:(if 0≤(wrap64 ((l0.length:Int) + 1)) then (if (wrap64 ((l0.length:Int) + 1):Int).toNat≤11728124029610 then ((some (List.replicate (wrap64 ((l0.length:Int) + 1):Int).toNat []:List (List Int))).bind fun y101=>(if 0 < (y101.length:Int) then (spec_weAll.l0 k l0 (y101.set (0:Int).toNat (([1]:List Int))) l0 (l0.length:Int) 0) else (none))) else (none)) else (none))=some r:=h;clear h;obtain ⟨ji2,hji2⟩:∃ j_:Int,(wrap64 ((l0.length:Int) + 1))=j_:=⟨_,rfl⟩;(replace H:(if 0≤(ji2) then (if (ji2:Int).toNat≤11728124029610 then ((some (List.replicate (ji2:Int).toNat []:List (List Int))).bind fun y101=>(if 0 < (y101.length:Int) then (spec_weAll.l0 k l0 (y101.set (0:Int).toNat (([1]:List Int))) l0 (l0.length:Int) 0) else (none))) else (none)) else (none))=some r:=by first|(rw [hji2] at H;exact H)|(simp only [hji2] at H ⊢;exact H));have hji2w:(IntKind.i64.wrap ((l0.length:Int) + 1))=ji2:=(i64_w _).trans hji2;by_cases c3:0≤(ji2)
 ·
  rw [if_pos c3] at H;have c3b0:=eq_true c3;have c3b1:decide (0≤(ji2))=true:=decide_eq_true c3;clear c3;by_cases c4:(ji2:Int).toNat≤11728124029610
  ·
   rw [if_pos c4] at H;have c4b0:=eq_true c4;have c4b1:decide ((ji2:Int).toNat≤11728124029610)=true:=decide_eq_true c4;clear c4;obtain ⟨y101,hy101⟩:∃ y_:List (List Int),y_=(List.replicate (ji2:Int).toNat []):=⟨_,rfl⟩;(replace H:(if 0 < (y101.length:Int) then (spec_weAll.l0 k l0 (y101.set (0:Int).toNat (([1]:List Int))) l0 (l0.length:Int) 0) else (none))=some r:=by first|(rw [hy101];with_reducible exact H)|(have H2_:=(Option.bind_some _ _).symm.trans H;rw [hy101];with_reducible exact H2_)|(have H2_:=(Option.bind_some _ _).symm.trans H;with_reducible exact H2_)|with_reducible exact H|(rw [hy101];exact H)|exact H);have Ny101:=za hy101;clear hy101;obtain ⟨y104,hy104⟩:∃ y_:List Int,y_=(([1]:List Int)):=⟨_,rfl⟩;(replace H:(if 0 < (y101.length:Int) then (spec_weAll.l0 k l0 (y101.set (0:Int).toNat y104) l0 (l0.length:Int) 0) else (none))=some r:=by first|(rw [hy104];with_reducible exact H)|(have H2_:=(Option.bind_some _ _).symm.trans H;rw [hy104];with_reducible exact H2_)|(have H2_:=(Option.bind_some _ _).symm.trans H;with_reducible exact H2_)|with_reducible exact H|(rw [hy104];exact H)|exact H);have Ny104:=za hy104;clear hy104;by_cases c5:0 < (y101.length:Int)
   ·
    rw [if_pos c5] at H;have c5b0:decide (0 < (y101.length:Int))=true:=decide_eq_true c5;have c5b1:decide (0 < y101.length)=true:=decide_eq_true (by omega);clear c5;obtain ⟨y107,hy107⟩:∃ y_:List (List Int),y_=(y101.set (0:Int).toNat y104):=⟨_,rfl⟩;(replace H:(spec_weAll.l0 k l0 y107 l0 (l0.length:Int) 0)=some r:=by first|(rw [hy107];with_reducible exact H)|(have H2_:=(Option.bind_some _ _).symm.trans H;rw [hy107];with_reducible exact H2_)|(have H2_:=(Option.bind_some _ _).symm.trans H;with_reducible exact H2_)|with_reducible exact H|(rw [hy107];exact H)|exact H);have Ny107:=za hy107;clear hy107;have H':=za H;clear H;(go_enter Tryz.func46,Tryz.ntmps46);(go_wp2_with (first|((with_reducible refine gate_dst (N:=12) rfl ?_);refine Kd.S_make (Kd.slice 3 (Kd.int .i64)) _ 24 rfl (N:=12) rfl 30 _ _ rfl ji2 rfl rfl Tryz.underlying30 (.slice none 0 0) 24 info24 rfl (by decide) (by omega) [] (ok:=fun _=>True) (okp:=fun _=>True) ⟨_,rfl,Kd.R_nil _ _ _ _ _⟩ (fun _ hk=>hk) trivial (of_decide_eq_true ‹_›) (Nat.le_trans (Nat.mul_le_mul_right _ (of_decide_eq_true ‹_›:ji2.toNat≤11728124029610)) (by omega)) (Below.refl _ _) (Nat.le_refl _) ?_;intro v102 w7 ho8 hb hg_ hnew_;clear hg_ hnew_;(first|rw [← Ny101.out] at ho8|(simp only [Int.reduceToNat] at ho8;rw [← Ny101.out] at ho8));have HO103:=za (Kd.S_lower ho8 (zq (by repeat (first|(with_reducible first|exact HB.out|apply zc|apply zd|apply zb)|exact HB.out))));replace HB:=za (zm (by repeat (first|(with_reducible first|exact HB.out|apply zc|apply zd|apply zb)|exact HB.out)) hb);clear hb ho8)|((with_reducible refine gate_dst (N:=14) rfl ?_);refine Kd.R_lit (Kd.int .i64) _ 3 ?hg (N:=14) ?hd (xs:=([1]:List Int)) (inner:=[.int .i64 1]) (ok:=fun _=>True) (okp:=fun _=>True) ?hr ?hp (fun _ hk=>hk) trivial (Below.refl _ _) (Nat.le_refl _) (by simp) ?_;(case hd=>rfl);(case hg=>rfl);(case hr=>first|(go_simp;done)|(go_simp;rfl));(case hp=>exact (Reps.one (show Kd.M (Kd.int .i64) _ _ _ 1 [.int .i64 1] from rfl) (Reps.none _ _)));intro v105 w9 ho10 hb hg_ hnew_;clear hg_ hnew_;(first|rw [← Ny104.out] at ho10|(simp only [Int.reduceToNat] at ho10;rw [← Ny104.out] at ho10));replace HO103:=za (Kd.S_elder' (by (with_reducible repeat (first|apply zH|apply zI|apply Kd.S_drew));exact HO103.out) (Kd.R_base ho10) hb);have HO106:=za (zA ho10 (zq (by repeat (first|(with_reducible first|exact HB.out|apply zc|apply zd|apply zb)|exact HB.out))));replace HB:=za (zm (by repeat (first|(with_reducible first|exact HB.out|apply zc|apply zd|apply zb)|exact HB.out)) hb);clear hb ho10;have p6:0≤(0:Int):=(by omega);have q6:(0:Int) < ((y101.length:Int):Int):=of_decide_eq_true ‹_›;have qi6:(0 < y101.length)=True:=eq_true (by omega);obtain ⟨go6,co6,eo6,gb6,gl6,cl6,HG6⟩:=Kd.S_form HO103.out (by omega);(first|cases eo6|(injection eo6 with ea_ en_ ec_;(first|subst ea_|(injection ea_ with ea_;subst ea_));subst ec_;clear en_));have GB6:=za gb6;have GG6:=za HG6;clear gb6 gl6 HG6;obtain ⟨_,ce6,hcl6,hM6,hcc6,hfr6,_,_⟩:=Kd.S_elem HO103.out [] (0:Int) p6 q6;obtain ⟨ve6_0,rfl,ge6_0⟩:=hM6;have hx6_0:=hcc6 0 _ rfl;have hf6_0:=hfr6 0;(try simp only [show ((Kd.slice 3 (Kd.int .i64))).sz=1 from rfl,Nat.mul_one,Nat.add_zero] at hx6_0);(try simp only [show ((Kd.slice 3 (Kd.int .i64))).sz=1 from rfl,Nat.mul_one,Nat.add_zero] at hf6_0);(try clear hM6);clear hcl6 hcc6 hfr6;(try rw [show ((0:Int)).toNat=0 from rfl] at hx6_0);(try simp only [Nat.reduceMul,Nat.zero_mul,Nat.zero_add,Nat.reduceAdd] at hx6_0);(try rw [show ((0:Int)).toNat=0 from rfl] at hf6_0);(try simp only [Nat.reduceMul,Nat.zero_mul,Nat.zero_add,Nat.reduceAdd] at hf6_0);replace p6:=eq_true p6;replace q6:=eq_true q6;have n_:=za (Kd.S_mono (ok':=(fun k_=>some k_ ≠ (v105:Value).ownBlock)) HO103.out (fun k_ hk=>hk.2));clear HO103;have HO103:=n_;clear n_;have HX11:=za (show Kd.S (Kd.slice 3 (Kd.int .i64)) 24 w9 w.heap.size (fun k_=>((fun _=>True)) k_∧¬ ((fun k_=>some k_=(v105:Value).ownBlock)) k_) (.slice (some ⟨go6,0,none⟩) y101.length co6) y101 from (by (with_reducible repeat (first|apply zH|apply zI|apply Kd.S_drew));exact Kd.S_mono HO103.out (fun k_ hk=>⟨trivial,fun e_=>hk e_⟩)));obtain ⟨oki11,ce11,hcl11,hM11,hcc11,hfr11,hoki11,hH11⟩:=Kd.S_elem HX11.out [] (0:Int) (by omega) (by have h_:(0:Int) < ((y101.length:Int):Int):=of_decide_eq_true ‹_›;first|exact h_|(have e_:=(Kd.S_reads' HO103.out).1;omega)|simpa using h_);obtain ⟨ve11_0,rfl,ge11_0⟩:=hM11;have HP11:=Kd.S_seg hH11 (by omega) (by have h_:(0:Int) < ((y101.length:Int):Int):=of_decide_eq_true ‹_›;first|exact h_|(have e_:=(Kd.S_reads' HO103.out).1;omega)|simpa using h_) (seg:=[v105]) (j:=0) (show 1≤1 from by decide) (x':=y104) (Kd.M_row (zs (Kd.R_tight rfl (zs (ok':=fun k_=>((fun _=>True)) k_∧k_ ≠ go6) (Kd.R_apart' (HO106.out) (Kd.S_typed HO103.out) (by decide)) (fun k_ hk=>⟨trivial,fun e_=>(hk.2) (by rw [e_];rfl)⟩))) (fun _ h_=>Or.inr (h_)))) (fun _ hk=>hk) (fun k_ hk_=>((zs (ok':=fun k_=>((fun _=>True)) k_∧k_ ≠ go6) (Kd.R_apart' (HO106.out) (Kd.S_typed HO103.out) (by decide)) (fun k_ hk=>⟨trivial,fun e_=>(hk.2) (by rw [e_];rfl)⟩))).1 k_ hk_.symm);have hx11_0:=hcc11 0 _ rfl;(try simp only [show ((Kd.slice 3 (Kd.int .i64))).sz=1 from rfl,Nat.mul_one,Nat.add_zero] at hx11_0);(try rw [show ((0:Int)).toNat=0 from rfl] at hx11_0);(try simp only [Nat.reduceMul,Nat.zero_mul,Nat.zero_add,Nat.reduceAdd] at hx11_0);have hf11_0:=hfr11 0;(try simp only [show ((Kd.slice 3 (Kd.int .i64))).sz=1 from rfl,Nat.mul_one,Nat.add_zero] at hf11_0);(try rw [show ((0:Int)).toNat=0 from rfl] at hf11_0);(try simp only [Nat.reduceMul,Nat.zero_mul,Nat.zero_add,Nat.reduceAdd] at hf11_0);(try clear hM11);clear hcl11 hcc11 hfr11 hoki11 hH11;(try simp only [show ((Kd.slice 3 (Kd.int .i64))).sz=1 from rfl,Nat.mul_one,Nat.add_zero] at HP11))|((with_reducible refine gate_store (t:=24) (p:=15) rfl ?_);refine store_event (t:=24) (p:=15) (v:=?vo_w12) (w1:=(w9.setCell ⟨go6,0,none⟩ (v105))) ?hg ?ho ?hn ?hr ?_;(case ho=>rfl);(case hg=>rfl);(case hn=>rfl);(case hr=>(obtain ⟨Aq_,cq_,eq_⟩:=zy HO106.out;subst eq_;first|(go_simp;done)|(go_simp;rfl)));intro w12 hw;have hg:w9.grownBy w12 (some go6):=(by rw [hw];exact HP11.2);have hp_:Kd.S (Kd.slice 3 (Kd.int .i64)) 24 w12 w.heap.size (fun _=>True) (.slice (some ⟨go6,0,none⟩) y101.length co6) y107:=(by rw [hw,Ny107.out];exact HP11.1);clear HP11;replace HO103:=za (hp_);replace HB:=za ((by rw [hw];exact zl (HB.out) GB6.out:Below w.heap.size w w12));clear HO106;clear hg hw hp_)));(go_loopg [18] k (fun kq v18 w'=>∃ (x3_1:List (List Int)) (x18_1:Int),v18=.int .i64 x18_1∧Aside0 (spec_weAll.l0 kq l0 x3_1 l0 (l0.length:Int) x18_1=some r)∧Aside0 (kq≤k)∧Aside0 (Kd.S (Kd.slice 3 (Kd.int .i64)) 24 w' w.heap.size (fun _=>True) (.slice (some ⟨go6,0,none⟩) y101.length co6) x3_1)∧Aside0 (Below w.heap.size w w')));case atStart=>exact ⟨(y107),(0),(by first|rfl|(simp;done)|(simp [*];done)),H',⟨Nat.le_refl _⟩,⟨by (with_reducible repeat (first|apply zH|apply zI|apply Kd.S_drew));exact HO103.out⟩,⟨by repeat (first|(with_reducible first|exact HB.out|apply zc|apply zd|apply zb)|exact HB.out)⟩⟩
    case round =>
     clear H';(try clear c1);(try clear hx1);(try clear hf1);(try clear p2);(try clear c3);(try clear c3b0);(try clear c3b1);(try clear c4);(try clear c4b0);(try clear c4b1);(try clear c5);(try clear c5b0);(try clear c5b1);(try clear c6);(try clear p6);(try clear q6);(try clear hx6);(try clear qi6);(try clear hf6);(try clear c11);(try clear hx11);(try clear hf11);(try clear hx11_0);(try clear hx6_0);(try clear p6);(try clear q6);obtain ⟨x3_1,x18_1,rfl,HA,HK1,HO_3,HB⟩:=hrel;have hl3_1:=(Kd.S_reads' HO_3.out).1;rw [hl3_1] at HO_3;(try simp only [hl3_1])
     cases gk with
    |zero=>exact absurd HA.out (by simp [spec_weAll.l0])
    |succ k1 =>
      have H:=HA.out;clear HA;simp only [spec_weAll.l0] at H;by_cases c13:x18_1 < (l0.length:Int)
      ·
       rw [if_pos c13] at H;have c13b0:decide (x18_1 < (l0.length:Int))=true:=decide_eq_true c13;clear c13;by_cases c14:0≤x18_1
       ·
        rw [if_pos c14] at H;have c14b0:decide (0≤x18_1)=true:=decide_eq_true c14;clear c14;by_cases c15:x18_1 < (l0.length:Int)
        ·
         rw [if_pos c15] at H;have c15b0:decide (x18_1 < (l0.length:Int))=true:=decide_eq_true c15;clear c15;have H':=za H;clear H;have p108:0≤(x18_1:Int):=of_decide_eq_true ‹_›;have q108:x18_1 < (l0.length:Int):=of_decide_eq_true ‹_›;obtain ⟨ad108,e108,hx108_0⟩:=zz HR0.out x18_1 p108 q108;cases e108;replace hx108_0:=(HB.out.cell (World.block_lt_of_cell? w _ hx108_0)).trans hx108_0;replace p108:=eq_true p108;replace q108:=eq_true q108;(go_wp2);(go_loopg [6] k1 (fun kq v6 w'=>∃ (x3_2:List (List Int)) (x6_2:Int),v6=.int .i64 x6_2∧Aside0 (spec_weAll.l1 kq l0 x3_2 (rd l0 x18_1) x6_2 l0 (l0.length:Int) x18_1=some r)∧Aside0 (kq≤k1)∧Aside0 (Kd.S (Kd.slice 3 (Kd.int .i64)) 24 w' w.heap.size (fun _=>True) (.slice (some ⟨go6,0,none⟩) x3_1.length co6) x3_2)∧Aside0 (Below w.heap.size w w')));case atStart=>exact ⟨(x3_1),((l0.length:Int)),(by first|rfl|(simp;done)|(simp [*];done)),H',⟨Nat.le_refl _⟩,⟨by (try simp only [hl3_1]);(with_reducible repeat (first|apply zH|apply zI|apply Kd.S_drew));exact HO_3.out⟩,⟨by repeat (first|(with_reducible first|exact HB.out|apply zc|apply zd|apply zb)|exact HB.out)⟩⟩
         case round =>
          clear H';(try clear c1);(try clear p1);(try clear q1);(try clear hx1);(try clear hf1);(try clear p2);(try clear c3);(try clear c3b0);(try clear c3b1);(try clear c4);(try clear c4b0);(try clear c4b1);(try clear c5);(try clear c5b0);(try clear c5b1);(try clear c6);(try clear p6);(try clear q6);(try clear hx6);(try clear qi6);(try clear hf6);(try clear p10);(try clear q10);(try clear hx10);(try clear c11);(try clear hx11);(try clear hf11);(try clear c13);(try clear c13b0);(try clear c14);(try clear c14b0);(try clear c15);(try clear c15b0);(try clear hx108_0);(try clear hx11_0);(try clear hx6_0);(try clear p108);(try clear p2);(try clear p6);(try clear q108);(try clear q6);obtain ⟨x3_2,x6_2,rfl,HA,HK2,HO_3,HB⟩:=hrel;have hl3_2:=(Kd.S_reads' HO_3.out).1;rw [hl3_2] at HO_3;(try simp only [hl3_2])
          cases gk with
         |zero=>exact absurd HA.out (by simp [spec_weAll.l1])
         |succ k2 =>
           have H:=HA.out;clear HA;simp only [spec_weAll.l1] at H;by_cases c16:x6_2 ≥ 0
           ·
            rw [if_pos c16] at H;have c16b0:decide (0≤x6_2)=true:=decide_eq_true c16;clear c16;have HC17:=za H;clear H;(go_upto_if 30 with (fail));go_cut [7] (fun v7 wc=>∃ (kq:Nat) (x7_16:List Int),Aside0 (spec_weAll.j2 kq l0 x3_2 (rd l0 x18_1) x6_2 x7_16 l0 (l0.length:Int) x18_1=some r)∧Aside0 (kq≤k2)∧Aside0 (Kd.S (Kd.slice 3 (Kd.int .i64)) 24 wc w.heap.size (fun k_=>some k_ ≠ (v7:Value).ownBlock) (.slice (some ⟨go6,0,none⟩) x3_2.length co6) x3_2)∧Aside0 (Kd.R (Kd.int .i64) 3 wc w.heap.size (fun _=>True) v7 x7_16)∧Aside0 (Below w.heap.size w wc))
            case first =>
             have H:=HC17.out;clear HC17;by_cases c18:(rd l0 x18_1) ≥ x6_2
             ·
              rw [if_pos c18] at H;have c18b0:decide (x6_2≤(rd l0 x18_1))=true:=decide_eq_true c18;clear c18;(first|rw [c18b0]|(simp only [i64_w,i32_w];rw [c18b0])|skip);by_cases c19:0≤x6_2
              ·
               rw [if_pos c19] at H;have c19b0:decide (0≤x6_2)=true:=decide_eq_true c19;clear c19;by_cases c20:x6_2 < (x3_2.length:Int)
               · rw [if_pos c20] at H;have c20b0:decide (x6_2 < (x3_2.length:Int))=true:=decide_eq_true c20;clear c20;obtain ⟨t110,A21,H⟩:=bindAside H;(try dsimp only at H);have H':=za H;clear H;have p109:0≤(x6_2:Int):=of_decide_eq_true ‹_›;have q109:x6_2 < (x3_2.length:Int):=of_decide_eq_true ‹_›;obtain ⟨ad109,A109_0,c109_0,e109,hx109_0,hl109_0,hi109_0⟩:=at_L2 (Kd.S_reads' HO_3.out).2.2 x6_2 p109 q109;obtain rfl:(⟨go6,0,none⟩:Addr)=ad109:=(by injection e109);obtain ⟨ce109,hce109,hMe109,hcc109⟩:=Kd.S_get HO_3.out [] x6_2 p109 (by first|exact q109|exact of_decide_eq_true ‹_›|(have e_:=(Kd.S_reads' HO_3.out).1;omega));obtain ⟨ve109_0,rfl,ge109_0⟩:=hMe109;have hv109_0:=hcc109 0 _ rfl;rw [Nat.add_zero,show ((Kd.slice 3 (Kd.int .i64))).sz=1 from rfl,Nat.mul_one] at hv109_0;replace hv109_0:=Option.some.inj (hv109_0.symm.trans hx109_0);rw [hv109_0] at ge109_0;have HL109_0:=za (show Kd.R (Kd.int .i64) 3 _ _ _ _ (rd_L2 x3_2 x6_2) from ge109_0);clear hv109_0 ge109_0;clear hcc109 hce109;(first|simp only [add_plain] at hx109_0|simp only [add_at] at hx109_0|simp only [Addr.add,Nat.zero_add] at hx109_0|skip);have HR109_0:=za hi109_0;have HC109_0:=za hl109_0;clear hi109_0 hl109_0;replace p109:=eq_true p109;replace q109:=eq_true q109;(go_wp2_with (first|((with_reducible refine zo (f:=80) rfl ?_);refine zp (some 39) rfl rfl Tryz.func80 (by kernel_rfl) rfl #[.slice none 0 0,.slice A109_0 (rd_L2 x3_2 x6_2).length c109_0,.int .i64 (wrap64 ((rd l0 x18_1) - x6_2))] rfl (by first|rfl|simp only [z3_,z4_,z5_];try rfl) ?_;(refine (spec_weAdd.calls k2 _ _ ([]:List Int) _ _ (rd_L2 x3_2 x6_2) (wrap64 ((rd l0 x18_1) - x6_2)) t110 _ ?side1 ?side2 ?side3 ?side4 A21.out).mono ?_);(case side1=>exact Kd.C_nil _ _);(case side2=>exact Nat.le_refl _);(case side3=>repeat (first|exact (by repeat (first|(with_reducible exact HR109_0.out)|(with_reducible refine zh ?_ _)|(with_reducible refine zi ?_ _)|(with_reducible refine zj ?_)|exact HR109_0.out))|(with_reducible refine zh ?_ _)|(with_reducible refine zi ?_ _)|(with_reducible refine zj ?_)));(case side4=>exact HC109_0.out);rintro e w22 ⟨v111,rfl,ho0,hb⟩;refine ⟨_,rfl,?_⟩;replace HO_3:=za (Kd.S_elder' (by (with_reducible repeat (first|apply zH|apply zI|apply Kd.S_drew));exact HO_3.out) (Kd.R_base ho0) hb);have HO112:=za (zA (Kd.R_new' ho0 (Kd.R_lt (by (with_reducible repeat (first|apply zf|apply zg|apply ze));exact HL109_0.out))) (zq (by repeat (first|(with_reducible first|exact HB.out|apply zc|apply zd|apply zb)|exact HB.out))));replace HL109_0:=za (Kd.R_elder' (by (with_reducible repeat (first|apply zf|apply zg|apply ze));exact HL109_0.out) (Kd.R_base ho0) hb);replace HR109_0:=za (zG (by repeat (first|(with_reducible exact HR109_0.out)|(with_reducible refine zh ?_ _)|(with_reducible refine zi ?_ _)|(with_reducible refine zj ?_)|exact HR109_0.out)) hb);replace HB:=za (zm (by repeat (first|(with_reducible first|exact HB.out|apply zc|apply zd|apply zb)|exact HB.out)) hb))));(go_meet);case rel=>exact ⟨_,(t110),H',⟨by have:=HK1.out;have:=HK2.out;first|omega|exact Nat.le_refl _⟩,⟨by (try simp only [hl3_1]);(try simp only [hl3_2]);(with_reducible repeat (first|apply zH|apply zI|apply Kd.S_drew));exact Kd.S_mono HO_3.out (fun _ hk=>hk.2)⟩,⟨by (try simp only [hl3_1]);(try simp only [hl3_2]);(with_reducible repeat (first|apply zf|apply zg|apply ze));exact zs HO112.out (fun _ hk=>trivial)⟩,⟨by repeat (first|(with_reducible first|exact HB.out|apply zc|apply zd|apply zb)|exact HB.out)⟩⟩
               · rw [if_neg c20] at H;exact absurd H (by simp)
              · rw [if_neg c19] at H;exact absurd H (by simp)
             · rw [if_neg c18] at H;have c18b0:decide (x6_2≤(rd l0 x18_1))=false:=decide_eq_false c18;clear c18;(first|rw [c18b0]|(simp only [i64_w,i32_w];rw [c18b0])|skip);have H':=za H;clear H;(go_wp2);(go_meet);case rel=>exact ⟨_,(([]:List Int)),H',⟨by have:=HK1.out;have:=HK2.out;first|omega|exact Nat.le_refl _⟩,⟨by (try simp only [hl3_1]);(try simp only [hl3_2]);(with_reducible repeat (first|apply zH|apply zI|apply Kd.S_drew));exact Kd.S_mono HO_3.out (fun _ hk=>(by simp [Value.ownBlock]))⟩,⟨by (try simp only [hl3_1]);(try simp only [hl3_2]);first|exact Kd.R_nil _ _ _ _ _|exact Kd.N_nil _ _ _ _ _|exact Kd.V_nil _ _ _ _ _|exact Kd.Q_nil _ _ _ _ _|exact Kd.S_nil _ _ _ _ _⟩,⟨by repeat (first|(with_reducible first|exact HB.out|apply zc|apply zd|apply zb)|exact HB.out)⟩⟩
            case rest =>
             clear HC17;(try clear c1);(try clear p1);(try clear q1);(try clear hx1);(try clear hf1);(try clear c2);(try clear p2);(try clear c3);(try clear c3b0);(try clear c3b1);(try clear c4);(try clear c4b0);(try clear c4b1);(try clear c5);(try clear c5b0);(try clear c5b1);(try clear c6);(try clear p6);(try clear q6);(try clear hx6);(try clear qi6);(try clear hf6);(try clear c8);(try clear c10);(try clear p10);(try clear q10);(try clear hx10);(try clear c11);(try clear hx11);(try clear hf11);(try clear c13);(try clear c13b0);(try clear c14);(try clear c14b0);(try clear c15);(try clear c15b0);(try clear c16);(try clear c16b0);(try clear c18);(try clear c18b0);(try clear c19);(try clear c19b0);(try clear c20);(try clear c20b0);(try clear hx108_0);(try clear hx109_0);(try clear hx11_0);(try clear hx6_0);(try clear p1);(try clear p10);(try clear p108);(try clear p109);(try clear p2);(try clear p6);(try clear q1);(try clear q10);(try clear q108);(try clear q109);(try clear q6);obtain ⟨kq,x7_16,HA,HJ16,HO_3,HO_7,HB⟩:=hcut
             cases kq with
            |zero=>exact absurd HA.out (by simp [spec_weAll.j2])
            |succ kj16 =>
              have H:=HA.out;clear HA;simp only [spec_weAll.j2] at H;have H':=za H;clear H;(go_wp2);(go_loopg [7,8] kj16 (fun kq v7 v8 w'=>∃ (x7_4:List Int) (x8_4:Int),v8=.int .i64 x8_4∧Aside0 (spec_weAll.l2 kq l0 x3_2 (rd l0 x18_1) x6_2 x7_4 x8_4 l0 (l0.length:Int) x18_1=some r)∧Aside0 (kq≤kj16)∧Aside0 (Kd.S (Kd.slice 3 (Kd.int .i64)) 24 w' w.heap.size (fun k_=>some k_ ≠ (v7:Value).ownBlock) (.slice (some ⟨go6,0,none⟩) x3_2.length co6) x3_2)∧Aside0 (Kd.R (Kd.int .i64) 3 w' w.heap.size (fun _=>True) v7 x7_4)∧Aside0 (Below w.heap.size w w')));case atStart=>exact ⟨(x7_16),(0),(by first|rfl|(simp;done)|(simp [*];done)),H',⟨Nat.le_refl _⟩,⟨by (try simp only [hl3_1]);(try simp only [hl3_2]);(with_reducible repeat (first|apply zH|apply zI|apply Kd.S_drew));exact HO_3.out⟩,⟨by (try simp only [hl3_1]);(try simp only [hl3_2]);(with_reducible repeat (first|apply zf|apply zg|apply ze));exact HO_7.out⟩,⟨by repeat (first|(with_reducible first|exact HB.out|apply zc|apply zd|apply zb)|exact HB.out)⟩⟩
              case round =>
               clear H';(try clear c1);(try clear p1);(try clear q1);(try clear hx1);(try clear hf1);(try clear c2);(try clear p2);(try clear c3);(try clear c3b0);(try clear c3b1);(try clear c4);(try clear c4b0);(try clear c4b1);(try clear c5);(try clear c5b0);(try clear c5b1);(try clear c6);(try clear p6);(try clear q6);(try clear hx6);(try clear qi6);(try clear hf6);(try clear c8);(try clear c10);(try clear p10);(try clear q10);(try clear hx10);(try clear c11);(try clear hx11);(try clear hf11);(try clear c13);(try clear c13b0);(try clear c14);(try clear c14b0);(try clear c15);(try clear c15b0);(try clear c16);(try clear c16b0);(try clear c18);(try clear c18b0);(try clear c19);(try clear c19b0);(try clear c20);(try clear c20b0);(try clear hx108_0);(try clear hx109_0);(try clear hx11_0);(try clear hx6_0);(try clear p1);(try clear p10);(try clear p108);(try clear p109);(try clear p2);(try clear p6);(try clear q1);(try clear q10);(try clear q108);(try clear q109);(try clear q6);obtain ⟨x7_4,x8_4,rfl,HA,HK4,HO_3,HO_7,HB⟩:=hrel
               cases gk with
              |zero=>exact absurd HA.out (by simp [spec_weAll.l2])
              |succ k4 =>
                have H:=HA.out;clear HA;simp only [spec_weAll.l2] at H;by_cases c23:x6_2 > 0
                ·
                 rw [if_pos c23] at H;have c23b0:decide (0 < x6_2)=true:=decide_eq_true c23;clear c23;by_cases c24:x8_4 < (wrap64 ((wrap64 ((rd l0 x18_1) - x6_2)) + 1))
                 ·
                  rw [if_pos c24] at H;have c24b0:decide (x8_4 < (wrap64 ((wrap64 ((rd l0 x18_1) - x6_2)) + 1)))=true:=decide_eq_true c24;clear c24;obtain ⟨ji25,hji25⟩:∃ j_:Int,(wrap64 (x6_2 - 1))=j_:=⟨_,rfl⟩;(replace H:(if 0≤(ji25) then (if (ji25) < (x3_2.length:Int) then ((spec_weAdd.f k4 x7_4 (rd_L2 x3_2 (ji25)) x8_4).bind fun t114=>(spec_weAll.l2 k4 l0 x3_2 (rd l0 x18_1) x6_2 t114 (wrap64 (x8_4 + 1)) l0 (l0.length:Int) x18_1)) else (none)) else (none))=some r:=by first|(rw [hji25] at H;exact H)|(simp only [hji25] at H ⊢;exact H));have hji25w:(IntKind.i64.wrap (x6_2 - 1))=ji25:=(i64_w _).trans hji25;by_cases c26:0≤(ji25)
                  ·
                   rw [if_pos c26] at H;have c26b0:decide (0≤(ji25))=true:=decide_eq_true c26;clear c26;by_cases c27:(ji25) < (x3_2.length:Int)
                   · rw [if_pos c27] at H;have c27b0:decide ((ji25) < (x3_2.length:Int))=true:=decide_eq_true c27;clear c27;obtain ⟨t114,A28,H⟩:=bindAside H;(try dsimp only at H);have H':=za H;clear H;have p113:0≤((ji25):Int):=of_decide_eq_true ‹_›;have q113:(ji25) < (x3_2.length:Int):=of_decide_eq_true ‹_›;obtain ⟨ad113,A113_0,c113_0,e113,hx113_0,hl113_0,hi113_0⟩:=at_L2 (Kd.S_reads' HO_3.out).2.2 (ji25) p113 q113;obtain rfl:(⟨go6,0,none⟩:Addr)=ad113:=(by injection e113);obtain ⟨ce113,hce113,hMe113,hcc113⟩:=Kd.S_get HO_3.out [] (ji25) p113 (by first|exact q113|exact of_decide_eq_true ‹_›|(have e_:=(Kd.S_reads' HO_3.out).1;omega));obtain ⟨ve113_0,rfl,ge113_0⟩:=hMe113;have hv113_0:=hcc113 0 _ rfl;rw [Nat.add_zero,show ((Kd.slice 3 (Kd.int .i64))).sz=1 from rfl,Nat.mul_one] at hv113_0;replace hv113_0:=Option.some.inj (hv113_0.symm.trans hx113_0);rw [hv113_0] at ge113_0;have HL113_0:=za (show Kd.R (Kd.int .i64) 3 _ _ _ _ (rd_L2 x3_2 (ji25)) from ge113_0);clear hv113_0 ge113_0;clear hcc113 hce113;(first|simp only [add_plain] at hx113_0|simp only [add_at] at hx113_0|simp only [Addr.add,Nat.zero_add] at hx113_0|skip);have HR113_0:=za hi113_0;have HC113_0:=za hl113_0;clear hi113_0 hl113_0;replace p113:=eq_true p113;replace q113:=eq_true q113;obtain ⟨Ao29,co29,eo29⟩:=zy HO_7.out;subst eo29;(go_wp2_with (first|((with_reducible refine zo (f:=80) rfl ?_);refine zp (some 59) rfl rfl Tryz.func80 (by kernel_rfl) rfl #[.slice Ao29 x7_4.length co29,.slice A113_0 (rd_L2 x3_2 (ji25)).length c113_0,.int .i64 x8_4] rfl (by (try simp only [z3_,z4_,z5_]);first|done|(simp only [hji25];rfl)|rfl|(simp only [List.length_drop,List.length_take];rfl)) ?_;(with_reducible refine (spec_weAdd.calls k4 _ _ x7_4 _ _ (rd_L2 x3_2 (ji25)) x8_4 t114 _ ?side1 ?side2 ?side3 ?side4 A28.out).mono ?_);(case side1=>repeat (first|exact (zk HO_7.out).2.2|(with_reducible refine zh ?_ _)|(with_reducible refine zi ?_ _)|(with_reducible refine zj ?_)));(case side2=>exact (zk HO_7.out).2.1);(case side3=>repeat (first|exact (by repeat (first|(with_reducible exact HR113_0.out)|(with_reducible refine zh ?_ _)|(with_reducible refine zi ?_ _)|(with_reducible refine zj ?_)|exact HR113_0.out))|(with_reducible refine zh ?_ _)|(with_reducible refine zi ?_ _)|(with_reducible refine zj ?_)));(case side4=>exact HC113_0.out);rintro e w30 ⟨v115,rfl,ho0,hb⟩;refine ⟨_,rfl,?_⟩;replace HO_3:=za (Kd.S_elder' (by (with_reducible repeat (first|apply zH|apply zI|apply Kd.S_drew));exact HO_3.out) (Kd.R_base ho0) hb);have HO116:=za (zA (Kd.R_new' (Kd.R_new' ho0 (Kd.R_lt (by (with_reducible repeat (first|apply zf|apply zg|apply ze));exact HO_7.out))) (Kd.R_lt (by (with_reducible repeat (first|apply zf|apply zg|apply ze));exact HL113_0.out))) (zq (by repeat (first|(with_reducible first|exact HB.out|apply zc|apply zd|apply zb)|exact HB.out))));replace HO_7:=za (Kd.R_elder' (by (with_reducible repeat (first|apply zf|apply zg|apply ze));exact HO_7.out) (Kd.R_base ho0) hb);replace HL113_0:=za (Kd.R_elder' (by (with_reducible repeat (first|apply zf|apply zg|apply ze));exact HL113_0.out) (Kd.R_base ho0) hb);replace HR113_0:=za (zG (by repeat (first|(with_reducible exact HR113_0.out)|(with_reducible refine zh ?_ _)|(with_reducible refine zi ?_ _)|(with_reducible refine zj ?_)|exact HR113_0.out)) hb);replace HB:=za (zm (by repeat (first|(with_reducible first|exact HB.out|apply zc|apply zd|apply zb)|exact HB.out)) hb))));(go_roundg k4);(case measure=>have:=HK1.out;have:=HK2.out;have:=HJ16.out;have:=HK4.out;omega);case rel=>exact ⟨(t114),(wrap64 (x8_4 + 1)),(by first|rfl|(simp;done)|(simp [*];done)),H',⟨by have:=HK1.out;have:=HK2.out;have:=HJ16.out;have:=HK4.out;omega⟩,⟨by (try simp only [hl3_1]);(try simp only [hl3_2]);(with_reducible repeat (first|apply zH|apply zI|apply Kd.S_drew));exact Kd.S_mono HO_3.out (fun _ hk=>hk.2)⟩,⟨by (try simp only [hl3_1]);(try simp only [hl3_2]);(with_reducible repeat (first|apply zf|apply zg|apply ze));exact zs HO116.out (fun _ hk=>trivial)⟩,⟨by repeat (first|(with_reducible first|exact HB.out|apply zc|apply zd|apply zb)|exact HB.out)⟩⟩
                   · rw [if_neg c27] at H;exact absurd H (by simp)
                  · rw [if_neg c26] at H;exact absurd H (by simp)
                 ·
                  rw [if_neg c24] at H;have c24b0:decide (x8_4 < (wrap64 ((wrap64 ((rd l0 x18_1) - x6_2)) + 1)))=false:=decide_eq_false c24;clear c24;by_cases c31:0≤x6_2
                  ·
                   rw [if_pos c31] at H;have c31b0:decide (0≤x6_2)=true:=decide_eq_true c31;clear c31;by_cases c32:x6_2 < (x3_2.length:Int)
                   · rw [if_pos c32] at H;have c32b0:decide (x6_2 < (x3_2.length:Int))=true:=decide_eq_true c32;clear c32;obtain ⟨y117,hy117⟩:∃ y_:List (List Int),y_=(x3_2.set (x6_2:Int).toNat x7_4):=⟨_,rfl⟩;(replace H:(spec_weAll.l1 k4 l0 y117 (rd l0 x18_1) (wrap64 (x6_2 - 1)) l0 (l0.length:Int) x18_1)=some r:=by first|(rw [hy117];with_reducible exact H)|(have H2_:=(Option.bind_some _ _).symm.trans H;rw [hy117];with_reducible exact H2_)|(have H2_:=(Option.bind_some _ _).symm.trans H;with_reducible exact H2_)|with_reducible exact H|(rw [hy117];exact H)|exact H);have Ny117:=za hy117;clear hy117;have H':=za H;clear H;have p33:0≤(x6_2:Int):=of_decide_eq_true ‹_›;have q33:(x6_2:Int) < ((x3_2.length:Int):Int):=of_decide_eq_true ‹_›;obtain ⟨_,ce33,hcl33,hM33,hcc33,hfr33,_,_⟩:=Kd.S_elem HO_3.out [] (x6_2:Int) p33 q33;obtain ⟨ve33_0,rfl,ge33_0⟩:=hM33;have hx33_0:=hcc33 0 _ rfl;have hf33_0:=hfr33 0;(try simp only [show ((Kd.slice 3 (Kd.int .i64))).sz=1 from rfl,Nat.mul_one,Nat.add_zero] at hx33_0);(try simp only [show ((Kd.slice 3 (Kd.int .i64))).sz=1 from rfl,Nat.mul_one,Nat.add_zero] at hf33_0);((try clear hM33);clear hcl33 hcc33 hfr33);replace p33:=eq_true p33;replace q33:=eq_true q33;have HX34:=za (show Kd.S (Kd.slice 3 (Kd.int .i64)) 24 wr w.heap.size (fun k_=>((fun _=>True)) k_∧¬ ((fun k_=>some k_=(u7:Value).ownBlock)) k_) (.slice (some ⟨go6,0,none⟩) x3_2.length co6) x3_2 from (by (with_reducible repeat (first|apply zH|apply zI|apply Kd.S_drew));exact Kd.S_mono HO_3.out (fun k_ hk=>⟨trivial,fun e_=>hk e_⟩)));obtain ⟨oki34,ce34,hcl34,hM34,hcc34,hfr34,hoki34,hH34⟩:=Kd.S_elem HX34.out [] (x6_2:Int) (of_decide_eq_true ‹_›) (by have h_:(x6_2:Int) < ((x3_2.length:Int):Int):=of_decide_eq_true ‹_›;first|exact h_|(have e_:=(Kd.S_reads' HO_3.out).1;omega)|simpa using h_);obtain ⟨ve34_0,rfl,ge34_0⟩:=hM34;have HP34:=Kd.S_seg hH34 (of_decide_eq_true ‹_›) (by have h_:(x6_2:Int) < ((x3_2.length:Int):Int):=of_decide_eq_true ‹_›;first|exact h_|(have e_:=(Kd.S_reads' HO_3.out).1;omega)|simpa using h_) (seg:=[u7]) (j:=0) (show 1≤1 from by decide) (x':=x7_4) (Kd.M_row (zs (Kd.R_tight rfl (zs (ok':=fun k_=>((fun _=>True)) k_∧k_ ≠ go6) (Kd.R_apart' (HO_7.out) (Kd.S_typed HO_3.out) (by decide)) (fun k_ hk=>⟨trivial,fun e_=>(hk.2) (by rw [e_];rfl)⟩))) (fun _ h_=>Or.inr (h_)))) (fun _ hk=>hk) (fun k_ hk_=>((zs (ok':=fun k_=>((fun _=>True)) k_∧k_ ≠ go6) (Kd.R_apart' (HO_7.out) (Kd.S_typed HO_3.out) (by decide)) (fun k_ hk=>⟨trivial,fun e_=>(hk.2) (by rw [e_];rfl)⟩))).1 k_ hk_.symm);have hx34_0:=hcc34 0 _ rfl;(try simp only [show ((Kd.slice 3 (Kd.int .i64))).sz=1 from rfl,Nat.mul_one,Nat.add_zero] at hx34_0);have hf34_0:=hfr34 0;(try simp only [show ((Kd.slice 3 (Kd.int .i64))).sz=1 from rfl,Nat.mul_one,Nat.add_zero] at hf34_0);((try clear hM34);clear hcl34 hcc34 hfr34 hoki34 hH34);(try simp only [show ((Kd.slice 3 (Kd.int .i64))).sz=1 from rfl,Nat.mul_one,Nat.add_zero] at HP34);(go_wp2_with (first|((with_reducible refine gate_store (t:=24) (p:=63) rfl ?_);refine store_event (t:=24) (p:=63) (v:=?vo_w35) (w1:=(wr.setCell ⟨go6,(x6_2:Int).toNat,none⟩ (u7))) ?hg ?ho ?hn ?hr ?_;(case ho=>rfl);(case hg=>rfl);(case hn=>rfl);(case hr=>(obtain ⟨Aq_,cq_,eq_⟩:=zy HO_7.out;subst eq_;first|(go_simp;done)|(go_simp;rfl)));intro w35 hw;have hg:wr.grownBy w35 (some go6):=(by rw [hw];exact HP34.2);have hp_:Kd.S (Kd.slice 3 (Kd.int .i64)) 24 w35 w.heap.size (fun _=>True) (.slice (some ⟨go6,0,none⟩) x3_2.length co6) y117:=(by rw [hw,Ny117.out];exact HP34.1);clear HP34;replace HO_3:=za (hp_);replace HB:=za ((by rw [hw];exact zl (HB.out) GB6.out:Below w.heap.size w w35));clear HO_7;clear hg hw hp_)));(try simp only [← hl3_2]);(go_roundg k4);(case measure=>have:=HK1.out;have:=HK2.out;have:=HJ16.out;have:=HK4.out;omega);case rel=>exact ⟨(y117),(wrap64 (x6_2 - 1)),(by first|rfl|(simp;done)|(simp [*];done)),H',⟨by have:=HK1.out;have:=HK2.out;have:=HJ16.out;have:=HK4.out;omega⟩,⟨by (try simp only [hl3_1]);(try simp only [hl3_2]);(with_reducible repeat (first|apply zH|apply zI|apply Kd.S_drew));exact HO_3.out⟩,⟨by repeat (first|(with_reducible first|exact HB.out|apply zc|apply zd|apply zb)|exact HB.out)⟩⟩
                   · rw [if_neg c32] at H;exact absurd H (by simp)
                  · rw [if_neg c31] at H;exact absurd H (by simp)
                ·
                 rw [if_neg c23] at H;have c23b0:decide (0 < x6_2)=false:=decide_eq_false c23;clear c23;by_cases c36:0≤x6_2
                 ·
                  rw [if_pos c36] at H;have c36b0:decide (0≤x6_2)=true:=decide_eq_true c36;clear c36;by_cases c37:x6_2 < (x3_2.length:Int)
                  · rw [if_pos c37] at H;have c37b0:decide (x6_2 < (x3_2.length:Int))=true:=decide_eq_true c37;clear c37;obtain ⟨y118,hy118⟩:∃ y_:List (List Int),y_=(x3_2.set (x6_2:Int).toNat x7_4):=⟨_,rfl⟩;(replace H:(spec_weAll.l1 k4 l0 y118 (rd l0 x18_1) (wrap64 (x6_2 - 1)) l0 (l0.length:Int) x18_1)=some r:=by first|(rw [hy118];with_reducible exact H)|(have H2_:=(Option.bind_some _ _).symm.trans H;rw [hy118];with_reducible exact H2_)|(have H2_:=(Option.bind_some _ _).symm.trans H;with_reducible exact H2_)|with_reducible exact H|(rw [hy118];exact H)|exact H);have Ny118:=za hy118;clear hy118;have H':=za H;clear H;have p38:0≤(x6_2:Int):=of_decide_eq_true ‹_›;have q38:(x6_2:Int) < ((x3_2.length:Int):Int):=of_decide_eq_true ‹_›;obtain ⟨_,ce38,hcl38,hM38,hcc38,hfr38,_,_⟩:=Kd.S_elem HO_3.out [] (x6_2:Int) p38 q38;obtain ⟨ve38_0,rfl,ge38_0⟩:=hM38;have hx38_0:=hcc38 0 _ rfl;have hf38_0:=hfr38 0;(try simp only [show ((Kd.slice 3 (Kd.int .i64))).sz=1 from rfl,Nat.mul_one,Nat.add_zero] at hx38_0);(try simp only [show ((Kd.slice 3 (Kd.int .i64))).sz=1 from rfl,Nat.mul_one,Nat.add_zero] at hf38_0);((try clear hM38);clear hcl38 hcc38 hfr38);replace p38:=eq_true p38;replace q38:=eq_true q38;have HX39:=za (show Kd.S (Kd.slice 3 (Kd.int .i64)) 24 wr w.heap.size (fun k_=>((fun _=>True)) k_∧¬ ((fun k_=>some k_=(u7:Value).ownBlock)) k_) (.slice (some ⟨go6,0,none⟩) x3_2.length co6) x3_2 from (by (with_reducible repeat (first|apply zH|apply zI|apply Kd.S_drew));exact Kd.S_mono HO_3.out (fun k_ hk=>⟨trivial,fun e_=>hk e_⟩)));obtain ⟨oki39,ce39,hcl39,hM39,hcc39,hfr39,hoki39,hH39⟩:=Kd.S_elem HX39.out [] (x6_2:Int) (of_decide_eq_true ‹_›) (by have h_:(x6_2:Int) < ((x3_2.length:Int):Int):=of_decide_eq_true ‹_›;first|exact h_|(have e_:=(Kd.S_reads' HO_3.out).1;omega)|simpa using h_);obtain ⟨ve39_0,rfl,ge39_0⟩:=hM39;have HP39:=Kd.S_seg hH39 (of_decide_eq_true ‹_›) (by have h_:(x6_2:Int) < ((x3_2.length:Int):Int):=of_decide_eq_true ‹_›;first|exact h_|(have e_:=(Kd.S_reads' HO_3.out).1;omega)|simpa using h_) (seg:=[u7]) (j:=0) (show 1≤1 from by decide) (x':=x7_4) (Kd.M_row (zs (Kd.R_tight rfl (zs (ok':=fun k_=>((fun _=>True)) k_∧k_ ≠ go6) (Kd.R_apart' (HO_7.out) (Kd.S_typed HO_3.out) (by decide)) (fun k_ hk=>⟨trivial,fun e_=>(hk.2) (by rw [e_];rfl)⟩))) (fun _ h_=>Or.inr (h_)))) (fun _ hk=>hk) (fun k_ hk_=>((zs (ok':=fun k_=>((fun _=>True)) k_∧k_ ≠ go6) (Kd.R_apart' (HO_7.out) (Kd.S_typed HO_3.out) (by decide)) (fun k_ hk=>⟨trivial,fun e_=>(hk.2) (by rw [e_];rfl)⟩))).1 k_ hk_.symm);have hx39_0:=hcc39 0 _ rfl;(try simp only [show ((Kd.slice 3 (Kd.int .i64))).sz=1 from rfl,Nat.mul_one,Nat.add_zero] at hx39_0);have hf39_0:=hfr39 0;(try simp only [show ((Kd.slice 3 (Kd.int .i64))).sz=1 from rfl,Nat.mul_one,Nat.add_zero] at hf39_0);((try clear hM39);clear hcl39 hcc39 hfr39 hoki39 hH39);(try simp only [show ((Kd.slice 3 (Kd.int .i64))).sz=1 from rfl,Nat.mul_one,Nat.add_zero] at HP39);(go_wp2_with (first|((with_reducible refine gate_store (t:=24) (p:=63) rfl ?_);refine store_event (t:=24) (p:=63) (v:=?vo_w40) (w1:=(wr.setCell ⟨go6,(x6_2:Int).toNat,none⟩ (u7))) ?hg ?ho ?hn ?hr ?_;(case ho=>rfl);(case hg=>rfl);(case hn=>rfl);(case hr=>(obtain ⟨Aq_,cq_,eq_⟩:=zy HO_7.out;subst eq_;first|(go_simp;done)|(go_simp;rfl)));intro w40 hw;have hg:wr.grownBy w40 (some go6):=(by rw [hw];exact HP39.2);have hp_:Kd.S (Kd.slice 3 (Kd.int .i64)) 24 w40 w.heap.size (fun _=>True) (.slice (some ⟨go6,0,none⟩) x3_2.length co6) y118:=(by rw [hw,Ny118.out];exact HP39.1);clear HP39;replace HO_3:=za (hp_);replace HB:=za ((by rw [hw];exact zl (HB.out) GB6.out:Below w.heap.size w w40));clear HO_7;clear hg hw hp_)));(try simp only [← hl3_2]);(go_roundg k4);(case measure=>have:=HK1.out;have:=HK2.out;have:=HJ16.out;have:=HK4.out;omega);case rel=>exact ⟨(y118),(wrap64 (x6_2 - 1)),(by first|rfl|(simp;done)|(simp [*];done)),H',⟨by have:=HK1.out;have:=HK2.out;have:=HJ16.out;have:=HK4.out;omega⟩,⟨by (try simp only [hl3_1]);(try simp only [hl3_2]);(with_reducible repeat (first|apply zH|apply zI|apply Kd.S_drew));exact HO_3.out⟩,⟨by repeat (first|(with_reducible first|exact HB.out|apply zc|apply zd|apply zb)|exact HB.out)⟩⟩
                  · rw [if_neg c37] at H;exact absurd H (by simp)
                 · rw [if_neg c36] at H;exact absurd H (by simp)
           · rw [if_neg c16] at H;have c16b0:decide (0≤x6_2)=false:=decide_eq_false c16;clear c16;have H':=za H;clear H;(go_wp2);(try simp only [← hl3_1,← hl3_2]);(go_roundg k2);(case measure=>have:=HK1.out;have:=HK2.out;omega);case rel=>exact ⟨(x3_2),(wrap64 (x18_1 + 1)),(by first|rfl|(simp;done)|(simp [*];done)),H',⟨by have:=HK1.out;have:=HK2.out;omega⟩,⟨by (try simp only [hl3_1]);(try simp only [hl3_2]);(with_reducible repeat (first|apply zH|apply zI|apply Kd.S_drew));exact HO_3.out⟩,⟨by repeat (first|(with_reducible first|exact HB.out|apply zc|apply zd|apply zb)|exact HB.out)⟩⟩
        · rw [if_neg c15] at H;exact absurd H (by simp)
       · rw [if_neg c14] at H;exact absurd H (by simp)
      · rw [if_neg c13] at H;have c13b0:decide (x18_1 < (l0.length:Int))=false:=decide_eq_false c13;clear c13;obtain rfl:=Option.some.inj H;(go_wp2);(go_ret);exact ⟨_,by first|rfl|(simp [errW_none,errW_some] <;> rfl)|(simp only [← hji2];first|rfl|(simp [errW_none,errW_some] <;> rfl))|(simp [*,errW_none,errW_some] <;> rfl),by (with_reducible repeat (first|apply zH|apply zI|apply Kd.S_drew));exact HO_3.out,by repeat (first|(with_reducible first|exact HB.out|apply zc|apply zd|apply zb)|exact HB.out)⟩
   · rw [if_neg c5] at H;exact absurd H (by simp)
  · rw [if_neg c4] at H;exact absurd H (by simp)
 · rw [if_neg c3] at H;exact absurd H (by simp)
end Go.Proofs.YtihnjbfjdkdhaaaGreat.Q
end
section
namespace Go.Proofs.YtihnjbfjdkdhaaaGreat.Q
open Go.RowKit Go.Proofs.YtihnjbfjdkdhaaaGreatW.PrintWords Go.Proofs.YtihnjbfjdkdhaaaGreatW.PrintLast Go.Proofs.YtihnjbfjdkdhaaaGreatW.PrintMore
attribute [local go_sem] max2_int min2_int max_two min_two max_three min_three max_four min_four   -- for this text's walks alone
set_option linter.unusedVariables false
set_option linter.unusedSimpArgs false
def spec_AllWeights.f (k:Nat) (l0:List Int):Option ((List (List Int)) × Bool):=(spec_feGood.f k l0).bind fun t101=>(if t101=true then ((spec_weAll.f k l0).bind fun t102=>(some (t102,true))) else (some (([]:List (List Int)),false)))
set_option maxHeartbeats 8000000 in
set_option maxRecDepth 100000 in
theorem spec_AllWeights.calls (k:Nat) (A0:Option Addr) (c0:Nat) (l0:List Int) (r1:List (List Int)) (r2:Bool) (w:World) (hr0:Kd.C (Kd.int .i64) w A0 l0.length l0) (hc0:l0.length≤c0) (h:spec_AllWeights.f k l0=some (r1,r2)) :
  Calls Tryz.prog 10 #[.slice A0 l0.length c0] w fun e w'=>∃ v0_:Value,e=.returned (.tuple #[v0_,.bool r2])∧Kd.S (Kd.slice 3 (Kd.int .i64)) 24 w' w.heap.size (fun _=>True) v0_ r1∧Below w.heap.size w w':=by
 have HR0:=za hr0;have HC0:=za hc0;clear hr0 hc0;have HB:=za (Below.refl w.heap.size w);have H:((spec_feGood.f k l0).bind fun t101=>(if t101=true then ((spec_weAll.f k l0).bind fun t102=>(some (t102,true))) else (some (([]:List (List Int)),false))))=some (r1,r2):=h;clear h;obtain ⟨t101,A2,H⟩:=bindAside H;(try dsimp only at H);by_cases c3:t101=true
 · subst c3;(have H1:((spec_weAll.f k l0).bind fun t102=>(some (t102,true)))=some (r1,r2):=by rw [if_pos rfl] at H;exact H);clear H;have H:=H1;clear H1;obtain ⟨t102,A4,H⟩:=bindAside H;(try dsimp only at H);simp only [Option.some.injEq,Prod.mk.injEq] at H;obtain ⟨rfl,rfl⟩:=H;(go_enter Tryz.func10,Tryz.ntmps10);(go_wp2_with (first|((with_reducible refine zo (f:=40) rfl ?_);refine zp (some 5) rfl rfl Tryz.func40 (by kernel_rfl) rfl #[.slice A0 l0.length c0] rfl (by first|rfl|simp only [z3_,z4_,z5_];try rfl) ?_;(with_reducible refine (spec_feGood.calls k _ _ l0 true _ ?side1 ?side2 A2.out).mono ?_);(case side1=>repeat (first|exact HR0.out|(with_reducible refine zh ?_ _)|(with_reducible refine zi ?_ _)|(with_reducible refine zj ?_)));(case side2=>exact HC0.out);rintro e w' ⟨rfl,⟨nd,rfl⟩⟩;refine ⟨_,rfl,?_⟩)|((with_reducible refine zo (f:=46) rfl ?_);refine zp (some 8) rfl rfl Tryz.func46 (by kernel_rfl) rfl #[.slice A0 l0.length c0] rfl (by first|rfl|simp only [z3_,z4_,z5_];try rfl) ?_;(with_reducible refine (spec_weAll.calls k _ _ l0 t102 _ ?side1 ?side2 A4.out).mono ?_);(case side1=>repeat (first|exact HR0.out|(with_reducible refine zh ?_ _)|(with_reducible refine zi ?_ _)|(with_reducible refine zj ?_)));(case side2=>exact HC0.out);rintro e w5 ⟨v103,rfl,ho0,hb⟩;refine ⟨_,rfl,?_⟩;have HO104:=za (Kd.S_lower ho0 (zq (by repeat (first|(with_reducible first|exact HB.out|apply zc|apply zd|apply zb)|exact HB.out))));replace HB:=za (zm (by repeat (first|(with_reducible first|exact HB.out|apply zc|apply zd|apply zb)|exact HB.out)) hb))));(go_ret2);exact ⟨_,by first|rfl|simp [*,errW_none,errW_some] <;> rfl,by (with_reducible repeat (first|apply zH|apply zI|apply Kd.S_drew));exact HO104.out,by repeat (first|(with_reducible first|exact HB.out|apply zc|apply zd|apply zb)|exact HB.out)⟩
 · replace c3:=Bool.eq_false_iff.mpr c3;subst c3;(have H1:(some (([]:List (List Int)),false))=some (r1,r2):=by rw [if_neg (show ¬ (false=true) by decide)] at H;exact H);clear H;have H:=H1;clear H1;simp only [Option.some.injEq,Prod.mk.injEq] at H;obtain ⟨rfl,rfl⟩:=H;(go_enter Tryz.func10,Tryz.ntmps10);(go_wp2_with (first|((with_reducible refine zo (f:=40) rfl ?_);refine zp (some 5) rfl rfl Tryz.func40 (by kernel_rfl) rfl #[.slice A0 l0.length c0] rfl (by first|rfl|simp only [z3_,z4_,z5_];try rfl) ?_;(with_reducible refine (spec_feGood.calls k _ _ l0 false _ ?side1 ?side2 A2.out).mono ?_);(case side1=>repeat (first|exact HR0.out|(with_reducible refine zh ?_ _)|(with_reducible refine zi ?_ _)|(with_reducible refine zj ?_)));(case side2=>exact HC0.out);rintro e w' ⟨rfl,⟨nd,rfl⟩⟩;refine ⟨_,rfl,?_⟩)));(go_ret2);exact ⟨_,by first|rfl|simp [*,errW_none,errW_some] <;> rfl,by first|exact Kd.S_nil _ _ _ _ _|exact Kd.N_nil _ _ _ _ _|exact Kd.V_nil _ _ _ _ _|exact Kd.Q_nil _ _ _ _ _|exact Kd.R_nil _ _ _ _ _,by repeat (first|(with_reducible first|exact HB.out|apply zc|apply zd|apply zb)|exact HB.out)⟩
end Go.Proofs.YtihnjbfjdkdhaaaGreat.Q
end
section
namespace Go.Proofs.YtihnjbfjdkdhaaaGreat.Q
open Go.RowKit Go.Proofs.YtihnjbfjdkdhaaaGreatW.PrintWords Go.Proofs.YtihnjbfjdkdhaaaGreatW.PrintLast Go.Proofs.YtihnjbfjdkdhaaaGreatW.PrintMore
attribute [local go_sem] max2_int min2_int max_two min_two max_three min_three max_four min_four   -- for this text's walks alone
set_option linter.unusedVariables false
set_option linter.unusedSimpArgs false
def laws_rSame.l0:Nat→List Int→List Int→Int→Int→Option (Bool)
|0,_,_,_,_=>none
|k + 1,x0,x1,x12,x13=>if x13 < x12 then (if 0≤x13 then (if x13 < (x0.length:Int) then (if x13 < (x1.length:Int) then (if (rd x0 x13)=(rd x1 x13) then (laws_rSame.l0 k x0 x1 x12 (wrap64 (x13 + 1))) else (some false)) else (none)) else (none)) else (none)) else (some true)
def laws_rSame.f (k:Nat) (l0:List Int) (l1:List Int):Option (Bool):=if (l0.length:Int)=(l1.length:Int) then (laws_rSame.l0 k l0 l1 (l0.length:Int) 0) else (some false)
set_option maxHeartbeats 8000000 in
set_option maxRecDepth 100000 in
theorem laws_rSame.calls (k:Nat) (A0:Option Addr) (c0:Nat) (l0:List Int) (A1:Option Addr) (c1:Nat) (l1:List Int) (r:Bool) (w:World) (hr0:Kd.C (Kd.int .i64) w A0 l0.length l0) (hc0:l0.length≤c0) (hr1:Kd.C (Kd.int .i64) w A1 l1.length l1) (hc1:l1.length≤c1) (h:laws_rSame.f k l0 l1=some r) :
  Calls Tryz.prog 17 #[.slice A0 l0.length c0,.slice A1 l1.length c1] w fun e w'=>e=.returned (.bool r)∧Drawn0 w w':=by
 have HR0:=za hr0;have HC0:=za hc0;clear hr0 hc0;have HR1:=za hr1;have HC1:=za hc1;clear hr1 hc1;have H:(if (l0.length:Int)=(l1.length:Int) then (laws_rSame.l0 k l0 l1 (l0.length:Int) 0) else (some false))=some r:=h;clear h;by_cases c3:(l0.length:Int)=(l1.length:Int)
 ·
  rw [if_pos c3] at H;have c3b0:((l0.length:Int) == (l1.length:Int))=true:=beq_iff_eq.mpr c3;have c3b1:((l0.length:Int) != (l1.length:Int))=false:=bne_eq_false_iff_eq.mpr c3;(have c3b2:(l0.length == l1.length)=true:=by first|simpa using c3|(simp at c3 ⊢;omega));clear c3;have H':=za H;clear H;(go_enter Tryz.func17,Tryz.ntmps17);(go_wp2);(repeat (go_quiet (fail);try go_wp2));(go_loopg [13] k (fun kq v13 w'=>∃ (x13_1:Int),v13=.int .i64 x13_1∧Aside0 (laws_rSame.l0 kq l0 l1 (l0.length:Int) x13_1=some r)∧Aside0 (kq≤k)∧Drawn0 w w'));case atStart=>exact ⟨(0),(by first|rfl|(simp;done)|(simp [*];done)),H',⟨Nat.le_refl _⟩,by repeat (first|exact Drawn0.refl _|apply Drawn0.step)⟩
  case round =>
   clear H';(try clear c1);(try clear p2);(try clear c3);(try clear c3b0);(try clear c3b1);(try clear c3b2);obtain ⟨x13_1,rfl,HA,HK1,⟨m1,rfl⟩⟩:=hrel
   cases gk with
  |zero=>exact absurd HA.out (by simp [laws_rSame.l0])
  |succ k1 =>
    have H:=HA.out;clear HA;simp only [laws_rSame.l0] at H;by_cases c4:x13_1 < (l0.length:Int)
    ·
     rw [if_pos c4] at H;have c4b0:decide (x13_1 < (l0.length:Int))=true:=decide_eq_true c4;clear c4;by_cases c5:0≤x13_1
     ·
      rw [if_pos c5] at H;have c5b0:decide (0≤x13_1)=true:=decide_eq_true c5;clear c5;by_cases c6:x13_1 < (l0.length:Int)
      ·
       rw [if_pos c6] at H;have c6b0:decide (x13_1 < (l0.length:Int))=true:=decide_eq_true c6;clear c6;by_cases c7:x13_1 < (l1.length:Int)
       ·
        rw [if_pos c7] at H;have c7b0:decide (x13_1 < (l1.length:Int))=true:=decide_eq_true c7;clear c7;by_cases c8:(rd l0 x13_1)=(rd l1 x13_1)
        · rw [if_pos c8] at H;have c8b0:((rd l0 x13_1) == (rd l1 x13_1))=true:=beq_iff_eq.mpr c8;have c8b1:((rd l0 x13_1) != (rd l1 x13_1))=false:=bne_eq_false_iff_eq.mpr c8;clear c8;have H':=za H;clear H;have p101:0≤(x13_1:Int):=of_decide_eq_true ‹_›;have q101:x13_1 < (l0.length:Int):=of_decide_eq_true ‹_›;obtain ⟨ad101,e101,hx101_0⟩:=zz HR0.out x13_1 p101 q101;cases e101;replace p101:=eq_true p101;replace q101:=eq_true q101;have p102:0≤(x13_1:Int):=of_decide_eq_true ‹_›;have q102:x13_1 < (l1.length:Int):=of_decide_eq_true ‹_›;obtain ⟨ad102,e102,hx102_0⟩:=zz HR1.out x13_1 p102 q102;cases e102;replace p102:=eq_true p102;replace q102:=eq_true q102;(go_wp2);(repeat (go_quiet (fail);try go_wp2));(go_roundg k1);(case measure=>have:=HK1.out;omega);case rel=>exact ⟨(wrap64 (x13_1 + 1)),(by first|rfl|(simp;done)|(simp [*];done)),H',⟨by have:=HK1.out;omega⟩,by repeat (first|exact Drawn0.refl _|apply Drawn0.step)⟩
        · rw [if_neg c8] at H;have c8b0:((rd l0 x13_1) == (rd l1 x13_1))=false:=beq_eq_false_iff_ne.mpr c8;have c8b1:((rd l0 x13_1) != (rd l1 x13_1))=true:=bne_iff_ne.mpr c8;obtain rfl:=Option.some.inj H;have p101:0≤(x13_1:Int):=of_decide_eq_true ‹_›;have q101:x13_1 < (l0.length:Int):=of_decide_eq_true ‹_›;obtain ⟨ad101,e101,hx101_0⟩:=zz HR0.out x13_1 p101 q101;cases e101;replace p101:=eq_true p101;replace q101:=eq_true q101;have p102:0≤(x13_1:Int):=of_decide_eq_true ‹_›;have q102:x13_1 < (l1.length:Int):=of_decide_eq_true ‹_›;obtain ⟨ad102,e102,hx102_0⟩:=zz HR1.out x13_1 p102 q102;cases e102;replace p102:=eq_true p102;replace q102:=eq_true q102;(go_wp2);(repeat (go_quiet (fail);try go_wp2));(go_ret);exact ⟨by first|rfl|(simp;done)|(simp [*];done),by repeat (first|exact Drawn0.refl _|apply Drawn0.step)⟩
       · rw [if_neg c7] at H;exact absurd H (by simp)
      · rw [if_neg c6] at H;exact absurd H (by simp)
     · rw [if_neg c5] at H;exact absurd H (by simp)
    · rw [if_neg c4] at H;have c4b0:decide (x13_1 < (l0.length:Int))=false:=decide_eq_false c4;clear c4;obtain rfl:=Option.some.inj H;(go_wp2);(repeat (go_quiet (fail);try go_wp2));(go_ret);exact ⟨by first|rfl|(simp;done)|(simp [*];done),by repeat (first|exact Drawn0.refl _|apply Drawn0.step)⟩
 · rw [if_neg c3] at H;have c3b0:((l0.length:Int) == (l1.length:Int))=false:=beq_eq_false_iff_ne.mpr c3;have c3b1:((l0.length:Int) != (l1.length:Int))=true:=bne_iff_ne.mpr c3;(have c3b2:(l0.length == l1.length)=false:=by first|simpa using c3|(simp at c3 ⊢;omega));obtain rfl:=Option.some.inj H;(go_enter Tryz.func17,Tryz.ntmps17);(go_wp2);(repeat (go_quiet (fail);try go_wp2));(go_ret);exact ⟨by first|rfl|(simp;done)|(simp [*];done),by repeat (first|exact Drawn0.refl _|apply Drawn0.step)⟩
end Go.Proofs.YtihnjbfjdkdhaaaGreat.Q
end
section
namespace Go.Proofs.YtihnjbfjdkdhaaaGreat.Q
open Go.RowKit Go.Proofs.YtihnjbfjdkdhaaaGreatW.PrintWords Go.Proofs.YtihnjbfjdkdhaaaGreatW.PrintLast Go.Proofs.YtihnjbfjdkdhaaaGreatW.PrintMore
attribute [local go_sem] max2_int min2_int max_two min_two max_three min_three max_four min_four   -- for this text's walks alone
set_option linter.unusedVariables false
set_option linter.unusedSimpArgs false
def laws_rSameRows.l0:Nat→List (List Int)→List (List Int)→Int→Int→Option (Bool)
|0,_,_,_,_=>none
|k + 1,x0,x1,x12,x13=>if x13 < x12 then (if 0≤x13 then (if x13 < (x0.length:Int) then (if x13 < (x1.length:Int) then ((laws_rSame.f k (rd_L2 x0 x13) (rd_L2 x1 x13)).bind fun t103=>(if t103=true then (laws_rSameRows.l0 k x0 x1 x12 (wrap64 (x13 + 1))) else (some false))) else (none)) else (none)) else (none)) else (some true)
def laws_rSameRows.f (k:Nat) (l0:List (List Int)) (l1:List (List Int)):Option (Bool):=if (l0.length:Int)=(l1.length:Int) then (laws_rSameRows.l0 k l0 l1 (l0.length:Int) 0) else (some false)
set_option maxHeartbeats 8000000 in
set_option maxRecDepth 100000 in
theorem laws_rSameRows.calls (k:Nat) (A0:Option Addr) (c0:Nat) (l0:List (List Int)) (A1:Option Addr) (c1:Nat) (l1:List (List Int)) (r:Bool) (w:World) (hr0:Kd.C (Kd.slice 3 (Kd.int .i64)) w A0 l0.length l0) (hc0:l0.length≤c0) (hr1:Kd.C (Kd.slice 3 (Kd.int .i64)) w A1 l1.length l1) (hc1:l1.length≤c1) (h:laws_rSameRows.f k l0 l1=some r) :
  Calls Tryz.prog 11 #[.slice A0 l0.length c0,.slice A1 l1.length c1] w fun e w'=>e=.returned (.bool r)∧Drawn0 w w':=by
 have HR0:=za hr0;have HC0:=za hc0;clear hr0 hc0;have HR1:=za hr1;have HC1:=za hc1;clear hr1 hc1;have H:(if (l0.length:Int)=(l1.length:Int) then (laws_rSameRows.l0 k l0 l1 (l0.length:Int) 0) else (some false))=some r:=h;clear h;by_cases c3:(l0.length:Int)=(l1.length:Int)
 ·
  rw [if_pos c3] at H;have c3b0:((l0.length:Int) == (l1.length:Int))=true:=beq_iff_eq.mpr c3;have c3b1:((l0.length:Int) != (l1.length:Int))=false:=bne_eq_false_iff_eq.mpr c3;(have c3b2:(l0.length == l1.length)=true:=by first|simpa using c3|(simp at c3 ⊢;omega));clear c3;have H':=za H;clear H;(go_enter Tryz.func11,Tryz.ntmps11);(go_wp2);(repeat (go_quiet (fail);try go_wp2));(go_loopg [13] k (fun kq v13 w'=>∃ (x13_1:Int),v13=.int .i64 x13_1∧Aside0 (laws_rSameRows.l0 kq l0 l1 (l0.length:Int) x13_1=some r)∧Aside0 (kq≤k)∧Drawn0 w w'));case atStart=>exact ⟨(0),(by first|rfl|(simp;done)|(simp [*];done)),H',⟨Nat.le_refl _⟩,by repeat (first|exact Drawn0.refl _|apply Drawn0.step)⟩
  case round =>
   clear H';(try clear c1);(try clear p2);(try clear c3);(try clear c3b0);(try clear c3b1);(try clear c3b2);obtain ⟨x13_1,rfl,HA,HK1,⟨m1,rfl⟩⟩:=hrel
   cases gk with
  |zero=>exact absurd HA.out (by simp [laws_rSameRows.l0])
  |succ k1 =>
    have H:=HA.out;clear HA;simp only [laws_rSameRows.l0] at H;by_cases c4:x13_1 < (l0.length:Int)
    ·
     rw [if_pos c4] at H;have c4b0:decide (x13_1 < (l0.length:Int))=true:=decide_eq_true c4;clear c4;by_cases c5:0≤x13_1
     ·
      rw [if_pos c5] at H;have c5b0:decide (0≤x13_1)=true:=decide_eq_true c5;clear c5;by_cases c6:x13_1 < (l0.length:Int)
      ·
       rw [if_pos c6] at H;have c6b0:decide (x13_1 < (l0.length:Int))=true:=decide_eq_true c6;clear c6;by_cases c7:x13_1 < (l1.length:Int)
       ·
        rw [if_pos c7] at H;have c7b0:decide (x13_1 < (l1.length:Int))=true:=decide_eq_true c7;clear c7;obtain ⟨t103,A8,H⟩:=bindAside H;(try dsimp only at H);by_cases c9:t103=true
        · subst c9;(have H1:(laws_rSameRows.l0 k1 l0 l1 (l0.length:Int) (wrap64 (x13_1 + 1)))=some r:=by rw [if_pos rfl] at H;exact H);clear H;have H:=H1;clear H1;have H':=za H;clear H;have p101:0≤(x13_1:Int):=of_decide_eq_true ‹_›;have q101:x13_1 < (l0.length:Int):=of_decide_eq_true ‹_›;obtain ⟨ad101,A101_0,c101_0,e101,hx101_0,hl101_0,hi101_0⟩:=at_L2 HR0.out x13_1 p101 q101;cases e101;have HR101_0:=za hi101_0;have HC101_0:=za hl101_0;clear hi101_0 hl101_0;replace p101:=eq_true p101;replace q101:=eq_true q101;have p102:0≤(x13_1:Int):=of_decide_eq_true ‹_›;have q102:x13_1 < (l1.length:Int):=of_decide_eq_true ‹_›;obtain ⟨ad102,A102_0,c102_0,e102,hx102_0,hl102_0,hi102_0⟩:=at_L2 HR1.out x13_1 p102 q102;cases e102;have HR102_0:=za hi102_0;have HC102_0:=za hl102_0;clear hi102_0 hl102_0;replace p102:=eq_true p102;replace q102:=eq_true q102;(go_wp2_with (first|(go_at_call 17;(with_reducible refine (laws_rSame.calls k1 _ _ (rd_L2 l0 x13_1) _ _ (rd_L2 l1 x13_1) true _ ?side1 ?side2 ?side3 ?side4 A8.out).mono ?_);(case side1=>repeat (first|exact HR101_0.out|(with_reducible refine zh ?_ _)|(with_reducible refine zi ?_ _)|(with_reducible refine zj ?_)));(case side2=>exact HC101_0.out);(case side3=>repeat (first|exact HR102_0.out|(with_reducible refine zh ?_ _)|(with_reducible refine zi ?_ _)|(with_reducible refine zj ?_)));(case side4=>exact HC102_0.out);rintro e w' ⟨rfl,⟨nd,rfl⟩⟩;(try first|exact ⟨rfl,_,World.drewN_drewN _ _ _⟩|exact ⟨rfl,_,Eq.trans (World.drewN_drewN _ _ _) (congrArg (World.drewN _) (Nat.add_assoc _ _ _))⟩))));(repeat (go_quiet (first|(go_at_call 17;(with_reducible refine (laws_rSame.calls k1 _ _ (rd_L2 l0 x13_1) _ _ (rd_L2 l1 x13_1) true _ ?side1 ?side2 ?side3 ?side4 A8.out).mono ?_);(case side1=>repeat (first|exact HR101_0.out|(with_reducible refine zh ?_ _)|(with_reducible refine zi ?_ _)|(with_reducible refine zj ?_)));(case side2=>exact HC101_0.out);(case side3=>repeat (first|exact HR102_0.out|(with_reducible refine zh ?_ _)|(with_reducible refine zi ?_ _)|(with_reducible refine zj ?_)));(case side4=>exact HC102_0.out);rintro e w' ⟨rfl,⟨nd,rfl⟩⟩;(try first|exact ⟨rfl,_,World.drewN_drewN _ _ _⟩|exact ⟨rfl,_,Eq.trans (World.drewN_drewN _ _ _) (congrArg (World.drewN _) (Nat.add_assoc _ _ _))⟩)));try go_wp2_with (first|(go_at_call 17;(with_reducible refine (laws_rSame.calls k1 _ _ (rd_L2 l0 x13_1) _ _ (rd_L2 l1 x13_1) true _ ?side1 ?side2 ?side3 ?side4 A8.out).mono ?_);(case side1=>repeat (first|exact HR101_0.out|(with_reducible refine zh ?_ _)|(with_reducible refine zi ?_ _)|(with_reducible refine zj ?_)));(case side2=>exact HC101_0.out);(case side3=>repeat (first|exact HR102_0.out|(with_reducible refine zh ?_ _)|(with_reducible refine zi ?_ _)|(with_reducible refine zj ?_)));(case side4=>exact HC102_0.out);rintro e w' ⟨rfl,⟨nd,rfl⟩⟩;(try first|exact ⟨rfl,_,World.drewN_drewN _ _ _⟩|exact ⟨rfl,_,Eq.trans (World.drewN_drewN _ _ _) (congrArg (World.drewN _) (Nat.add_assoc _ _ _))⟩)))));(go_roundg k1);(case measure=>have:=HK1.out;omega);case rel=>exact ⟨(wrap64 (x13_1 + 1)),(by first|rfl|(simp;done)|(simp [*];done)),H',⟨by have:=HK1.out;omega⟩,by repeat (first|exact Drawn0.refl _|apply Drawn0.step)⟩
        · replace c9:=Bool.eq_false_iff.mpr c9;subst c9;(have H1:(some false)=some r:=by rw [if_neg (show ¬ (false=true) by decide)] at H;exact H);clear H;have H:=H1;clear H1;obtain rfl:=Option.some.inj H;have p101:0≤(x13_1:Int):=of_decide_eq_true ‹_›;have q101:x13_1 < (l0.length:Int):=of_decide_eq_true ‹_›;obtain ⟨ad101,A101_0,c101_0,e101,hx101_0,hl101_0,hi101_0⟩:=at_L2 HR0.out x13_1 p101 q101;cases e101;have HR101_0:=za hi101_0;have HC101_0:=za hl101_0;clear hi101_0 hl101_0;replace p101:=eq_true p101;replace q101:=eq_true q101;have p102:0≤(x13_1:Int):=of_decide_eq_true ‹_›;have q102:x13_1 < (l1.length:Int):=of_decide_eq_true ‹_›;obtain ⟨ad102,A102_0,c102_0,e102,hx102_0,hl102_0,hi102_0⟩:=at_L2 HR1.out x13_1 p102 q102;cases e102;have HR102_0:=za hi102_0;have HC102_0:=za hl102_0;clear hi102_0 hl102_0;replace p102:=eq_true p102;replace q102:=eq_true q102;(go_wp2_with (first|(go_at_call 17;(with_reducible refine (laws_rSame.calls k1 _ _ (rd_L2 l0 x13_1) _ _ (rd_L2 l1 x13_1) false _ ?side1 ?side2 ?side3 ?side4 A8.out).mono ?_);(case side1=>repeat (first|exact HR101_0.out|(with_reducible refine zh ?_ _)|(with_reducible refine zi ?_ _)|(with_reducible refine zj ?_)));(case side2=>exact HC101_0.out);(case side3=>repeat (first|exact HR102_0.out|(with_reducible refine zh ?_ _)|(with_reducible refine zi ?_ _)|(with_reducible refine zj ?_)));(case side4=>exact HC102_0.out);rintro e w' ⟨rfl,⟨nd,rfl⟩⟩;(try first|exact ⟨rfl,_,World.drewN_drewN _ _ _⟩|exact ⟨rfl,_,Eq.trans (World.drewN_drewN _ _ _) (congrArg (World.drewN _) (Nat.add_assoc _ _ _))⟩))));(repeat (go_quiet (first|(go_at_call 17;(with_reducible refine (laws_rSame.calls k1 _ _ (rd_L2 l0 x13_1) _ _ (rd_L2 l1 x13_1) false _ ?side1 ?side2 ?side3 ?side4 A8.out).mono ?_);(case side1=>repeat (first|exact HR101_0.out|(with_reducible refine zh ?_ _)|(with_reducible refine zi ?_ _)|(with_reducible refine zj ?_)));(case side2=>exact HC101_0.out);(case side3=>repeat (first|exact HR102_0.out|(with_reducible refine zh ?_ _)|(with_reducible refine zi ?_ _)|(with_reducible refine zj ?_)));(case side4=>exact HC102_0.out);rintro e w' ⟨rfl,⟨nd,rfl⟩⟩;(try first|exact ⟨rfl,_,World.drewN_drewN _ _ _⟩|exact ⟨rfl,_,Eq.trans (World.drewN_drewN _ _ _) (congrArg (World.drewN _) (Nat.add_assoc _ _ _))⟩)));try go_wp2_with (first|(go_at_call 17;(with_reducible refine (laws_rSame.calls k1 _ _ (rd_L2 l0 x13_1) _ _ (rd_L2 l1 x13_1) false _ ?side1 ?side2 ?side3 ?side4 A8.out).mono ?_);(case side1=>repeat (first|exact HR101_0.out|(with_reducible refine zh ?_ _)|(with_reducible refine zi ?_ _)|(with_reducible refine zj ?_)));(case side2=>exact HC101_0.out);(case side3=>repeat (first|exact HR102_0.out|(with_reducible refine zh ?_ _)|(with_reducible refine zi ?_ _)|(with_reducible refine zj ?_)));(case side4=>exact HC102_0.out);rintro e w' ⟨rfl,⟨nd,rfl⟩⟩;(try first|exact ⟨rfl,_,World.drewN_drewN _ _ _⟩|exact ⟨rfl,_,Eq.trans (World.drewN_drewN _ _ _) (congrArg (World.drewN _) (Nat.add_assoc _ _ _))⟩)))));(go_ret);exact ⟨by first|rfl|(simp;done)|(simp [*];done),by repeat (first|exact Drawn0.refl _|apply Drawn0.step)⟩
       · rw [if_neg c7] at H;exact absurd H (by simp)
      · rw [if_neg c6] at H;exact absurd H (by simp)
     · rw [if_neg c5] at H;exact absurd H (by simp)
    · rw [if_neg c4] at H;have c4b0:decide (x13_1 < (l0.length:Int))=false:=decide_eq_false c4;clear c4;obtain rfl:=Option.some.inj H;(go_wp2);(repeat (go_quiet (fail);try go_wp2));(go_ret);exact ⟨by first|rfl|(simp;done)|(simp [*];done),by repeat (first|exact Drawn0.refl _|apply Drawn0.step)⟩
 · rw [if_neg c3] at H;have c3b0:((l0.length:Int) == (l1.length:Int))=false:=beq_eq_false_iff_ne.mpr c3;have c3b1:((l0.length:Int) != (l1.length:Int))=true:=bne_iff_ne.mpr c3;(have c3b2:(l0.length == l1.length)=false:=by first|simpa using c3|(simp at c3 ⊢;omega));obtain rfl:=Option.some.inj H;(go_enter Tryz.func11,Tryz.ntmps11);(go_wp2);(repeat (go_quiet (fail);try go_wp2));(go_ret);exact ⟨by first|rfl|(simp;done)|(simp [*];done),by repeat (first|exact Drawn0.refl _|apply Drawn0.step)⟩
end Go.Proofs.YtihnjbfjdkdhaaaGreat.Q
end
