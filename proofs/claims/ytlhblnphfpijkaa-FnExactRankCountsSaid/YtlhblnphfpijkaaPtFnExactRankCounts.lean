/- The law's last texts put together: what the program and the reference answer, and the pure statement. No conditions. -/
import Derived.Test.YtlhblnphfpijkaaL
import Derived.Test.YtlhblnphfpijkaaQslicesContainsintint
import Derived.Test.YtlhblnphfpijkaaQslicesIndexintint
import Derived.Test.YtlhblnphfpijkaaLenA
import Derived.Test.YtlhblnphfpijkaaQimplfree
import Derived.Test.YtlhblnphfpijkaaW1
import Derived.Test.YtlhblnphfpijkaaRookN
import Derived.Test.YtlhblnphfpijkaaWays
import Derived.Test.YtlhblnphfpijkaaWalkW
import Derived.Test.YtlhblnphfpijkaaQimplboardOf
import Derived.Test.YtlhblnphfpijkaaQ0
import Derived.Test.YtlhblnphfpijkaaQimplAreLengths
import Derived.Test.YtlhblnphfpijkaaQimplisQ
import Derived.Test.YtlhblnphfpijkaaQimplpower
import Derived.Test.YtlhblnphfpijkaaQimplsum
import Derived.Test.YtlhblnphfpijkaaQlawstoIntS
import Derived.Test.YtlhblnphfpijkaaQlawseqIntS
import Derived.Test.YtlhblnphfpijkaaQlawsmarkIntS
import Derived.Test.YtlhblnphfpijkaaQlawsheldIntS
import Derived.Test.YtlhblnphfpijkaaQspecRankCounts
import Derived.Test.YtlhblnphfpijkaaQspecwePower
import Derived.Test.YtlhblnphfpijkaaQspecweAll
section
namespace Go.Proofs.Ytlhblnphfpijkaa.PermK
set_option linter.unusedVariables false
open Go.RowKit Go.Proofs.Ytlhblnphfpijkaa.Q Go.Proofs.YtlhblnphfpijkaaW.PrintWords Go.Proofs.YtlhblnphfpijkaaW.PrintLast Go.Proofs.YtlhblnphfpijkaaW.PrintMore
open Go.Proofs.YtlhblnphfpijkaaL
theorem index_l0 {l : List Int} (x : Int) (hl : l.length ≤ 4611686018427387904) : ∀ (d i : Nat), i + d = l.length → ∃ r : Int, (decide (r ≥ 0) = decide (x ∈ l.drop i)) ∧ Ev (fun k => slices_Index_int_int.l0 k l x (l.length : Int) i) r
  | 0, i, hi => by
    refine ⟨-1, by rw [List.drop_eq_nil_of_le (by omega)]; rfl, Ev.step (f := fun _ => some (-1)) (fun k => ?_) (Ev.now _)⟩
    rw [slices_Index_int_int.l0, if_neg (by omega)]
  | d + 1, i, hi => by
    have h1 : wrap64 ((i : Int) + 1) = ((i + 1 : Nat) : Int) := by rw [w64 (by omega) (by omega)]; rfl
    have hi2 : i < l.length := by omega
    rw [List.drop_eq_getElem_cons hi2]
    by_cases e : x = l[i]
    · refine ⟨i, by rw [decide_eq_true (show x ∈ l[i] :: l.drop (i + 1) from List.mem_cons.2 (Or.inl e))]; simp, Ev.step (f := fun _ => some (i : Int)) (fun k => ?_) (Ev.now _)⟩
      rw [slices_Index_int_int.l0, if_pos (by omega), if_pos (by omega), if_pos (by omega), rd_lt _ _ hi2, if_pos e]
    · have : (x ∈ l[i] :: l.drop (i + 1)) ↔ x ∈ l.drop (i + 1) := by
        rw [List.mem_cons]; exact ⟨fun h => h.resolve_left e, Or.inr⟩
      rw [decide_eq_decide.mpr this]
      obtain ⟨r, hr, hev⟩ := index_l0 x hl d (i + 1) (by omega)
      refine ⟨r, hr, Ev.step (fun k => ?_) hev⟩
      rw [slices_Index_int_int.l0, if_pos (by omega), if_pos (by omega), if_pos (by omega), rd_lt _ _ hi2, if_neg e, h1]
theorem contains {l : List Int} (x : Int) (hl : l.length ≤ 4611686018427387904) : Ev (fun k => slices_Contains_int_int.f k l x) (decide (x ∈ l)) := by
  obtain ⟨r, hr, hev⟩ := index_l0 x hl l.length 0 (by omega)
  rw [List.drop_zero] at hr
  rw [← hr]
  unfold slices_Contains_int_int.f slices_Index_int_int.f
  exact Ev.bind (a := r) hev (Ev.now _)

end Go.Proofs.Ytlhblnphfpijkaa.PermK
end
section
namespace Go.Proofs.Ytlhblnphfpijkaa.FreeK
set_option linter.unusedVariables false
set_option linter.unusedSectionVars false
open Go.RowKit Go.Proofs.Ytlhblnphfpijkaa.Q Go.Proofs.YtlhblnphfpijkaaW.PrintWords Go.Proofs.YtlhblnphfpijkaaW.PrintLast Go.Proofs.YtlhblnphfpijkaaW.PrintMore
open Go.Proofs.YtlhblnphfpijkaaL Go.Proofs.Ytlhblnphfpijkaa.LawK Go.Proofs.Ytlhblnphfpijkaa.BoardK Go.Proofs.Ytlhblnphfpijkaa.PermK Go.Proofs.Ytlhblnphfpijkaa.LensK

/-- Does a rook take a cell: one that stands there or left of it, or in its column before? -/
def taken (p : List Int) (i : Nat) (c : Nat) : Bool := (decide (p.getD i 0 ≠ -1) && decide (p.getD i 0 ≤ c)) || decide ((c : Int) ∈ p.take i)
/-- How many cells of a row are free, from a column on, on top of some. -/
def rowFree (p : List Int) (i : Nat) : Nat → Nat → Int → Int
  | 0, _, n => n
  | d + 1, c, n => rowFree p i d (c + 1) (if taken p i c then n else n + 1)
def allFree (p : List Int) : List Int → Nat → Int → Int
  | [], _, n => n
  | m :: t, i, n => allFree p t (i + 1) (rowFree p i m.toNat 0 n)
theorem rowFree_bound (p : List Int) (i : Nat) : ∀ d c n, n ≤ rowFree p i d c n ∧ rowFree p i d c n ≤ n + d
  | 0, c, n => by simp [rowFree]
  | d + 1, c, n => by
    rw [rowFree]
    by_cases h : taken p i c = true
    · rw [if_pos h]; have := rowFree_bound p i d (c + 1) n; omega
    · rw [if_neg h]; have := rowFree_bound p i d (c + 1) (n + 1); omega
section
variable {l p : List Int} (hl6 : l.length ≤ 6) (hin : ∀ i (hi : i < l.length), 0 ≤ l[i] ∧ l[i] ≤ 6) (hp : p.length = l.length)
include hl6 hin hp
theorem impl_row {i m : Nat} (hi : i < l.length) (hm : m ≤ 6) {g : Int} : ∀ (d c : Nat) (n : Int), c + d = m → 0 ≤ n → n ≤ 6 * i + c →
    Ev (fun k => impl_free.l0 k p (rowFree p i d c n) l (l.length : Int) ((i + 1 : Nat) : Int)) g → Ev (fun k => impl_free.l1 k p n i l (l.length : Int) i m c) g
  | 0, c, n, hc, h0, hn, next => by
    have e1 : wrap64 ((i : Int) + 1) = ((i + 1 : Nat) : Int) := by rw [w64 (by omega) (by omega)]; rfl
    refine Ev.step (fun k => ?_) next
    rw [impl_free.l1, if_neg (by omega), e1]; rfl
  | d + 1, c, n, hc, h0, hn, next => by
    have e1 : wrap64 ((c : Int) + 1) = ((c + 1 : Nat) : Int) := by rw [w64 (by omega) (by omega)]; rfl
    have e2 : wrap64 (n + 1) = n + 1 := w64 (by omega) (by omega)
    rw [rowFree] at next
    have ihT := fun (h : taken p i c = true) => impl_row hi hm d (c + 1) n (by omega) h0 (by omega) (by rw [if_pos h] at next; exact next)
    have ihF := fun (h : ¬ taken p i c = true) => impl_row hi hm d (c + 1) (n + 1) (by omega) (by omega) (by omega) (by rw [if_neg h] at next; exact next)
    have hstep : ∀ k, impl_free.l1 (k + 1) p n i l (l.length : Int) i m c = _ := fun k => by rw [impl_free.l1, if_pos (by omega), if_pos (by omega), if_pos (by omega), rd_nat, e1, e2, Int.toNat_natCast]
    have hhas := contains (l := p.take i) (c : Int) (by simp; omega)
    by_cases h1 : p.getD i 0 = -1
    · refine Ev.step (fun k => by rw [hstep, if_pos h1, if_pos (by omega)]) (Ev.bind hhas ?_)
      by_cases h2 : (c : Int) ∈ p.take i
      · exact Ev.congr (fun k => by rw [if_pos (by simpa using h2)]) (ihT (by unfold taken; rw [decide_eq_true h2, Bool.or_true]))
      · exact Ev.congr (fun k => by rw [if_neg (by simpa using h2)]) (ihF (by unfold taken; rw [decide_eq_false (show ¬ p.getD i 0 ≠ -1 from fun h => h h1), decide_eq_false h2]; simp))
    · by_cases h3 : p.getD i 0 ≤ c
      · exact Ev.step (fun k => by rw [hstep, if_neg h1, if_pos h3]) (ihT (by unfold taken; rw [decide_eq_true h1, decide_eq_true h3]; rfl))
      · refine Ev.step (fun k => by rw [hstep, if_neg h1, if_neg h3, if_pos (by omega)]) (Ev.bind hhas ?_)
        by_cases h2 : (c : Int) ∈ p.take i
        · exact Ev.congr (fun k => by rw [if_pos (by simpa using h2)]) (ihT (by unfold taken; rw [decide_eq_true h2, Bool.or_true]))
        · exact Ev.congr (fun k => by rw [if_neg (by simpa using h2)]) (ihF (by unfold taken; rw [decide_eq_false h2, decide_eq_false h3]; simp))
theorem impl_rows : ∀ (d i : Nat) (n : Int), i + d = l.length → 0 ≤ n → n ≤ 6 * i → Ev (fun k => impl_free.l0 k p n l (l.length : Int) i) (allFree p (l.drop i) i n)
  | 0, i, n, hi, h0, hn => by
    refine Ev.step (f := fun _ => some n) (fun k => ?_) (evEq (Ev.now _) (by rw [List.drop_eq_nil_of_le (by omega)]; rfl))
    rw [impl_free.l0, if_neg (by omega)]
  | d + 1, i, n, hi, h0, hn => by
    have hi2 : i < l.length := by omega
    obtain ⟨m, hm⟩ : ∃ m : Nat, l[i] = m := ⟨l[i].toNat, by have := hin i hi2; omega⟩
    have hm6 : m ≤ 6 := by have := hin i hi2; omega
    rw [List.drop_eq_getElem_cons hi2, allFree, hm, Int.toNat_natCast]
    have hbd := rowFree_bound p i m 0 n
    refine Ev.step (fun k => ?_) (impl_row hl6 hin hp hi2 hm6 m 0 n (by omega) h0 (by omega) (impl_rows d (i + 1) _ (by omega) (by omega) (by omega)))
    rw [impl_free.l0, if_pos (by omega), if_pos (by omega), if_pos (by omega), rd_lt _ _ hi2, hm]; rfl
end

end Go.Proofs.Ytlhblnphfpijkaa.FreeK
end
section
namespace Go.Proofs.Ytlhblnphfpijkaa.BagK
set_option linter.unusedVariables false
open Go.RowKit Go.Proofs.YtlhblnphfpijkaaW.PrintWords Go.Proofs.YtlhblnphfpijkaaW.PrintLast Go.Proofs.YtlhblnphfpijkaaW.PrintMore
open Go.Proofs.YtlhblnphfpijkaaL Go.Proofs.Ytlhblnphfpijkaa.LawK Go.Proofs.Ytlhblnphfpijkaa.W1 Go.Proofs.Ytlhblnphfpijkaa.Walk Go.Proofs.Ytlhblnphfpijkaa.FreeK Go.Proofs.Ytlhblnphfpijkaa.LensK Go.Proofs.Ytlhblnphfpijkaa.BoardK

/-- A row's numbers are told by c, and its last number is not 0. -/
structure RepC (r : List Int) (c : Nat → Nat) : Prop where
  get : ∀ i, r.getD i 0 = (c i : Int)
  last : ∀ i, r.length = i + 1 → c i ≠ 0
theorem RepC.nil : RepC [] (fun _ => 0) := ⟨fun i => rfl, fun i h => by simp at h⟩
theorem RepC.congr {r : List Int} {c d : Nat → Nat} (h : RepC r c) (e : ∀ i, c i = d i) : RepC r d := ⟨fun i => by rw [h.get, e], fun i hi => by rw [← e]; exact h.last i hi⟩
theorem RepC.eq {r s : List Int} {c d : Nat → Nat} (h : RepC r c) (k : RepC s d) (e : ∀ i, c i = d i) : r = s := by
  have hl : r.length = s.length := by
    rcases Nat.lt_trichotomy r.length s.length with hlt | heq | hgt
    · exfalso
      obtain ⟨i, hi⟩ : ∃ i, s.length = i + 1 := ⟨s.length - 1, by omega⟩
      have h1 := k.last i hi
      have h2 := h.get i
      rw [gD_ge r 0 (by omega)] at h2
      have := e i
      omega
    · exact heq
    · exfalso
      obtain ⟨i, hi⟩ : ∃ i, r.length = i + 1 := ⟨r.length - 1, by omega⟩
      have h1 := h.last i hi
      have h2 := k.get i
      rw [gD_ge s 0 (by omega)] at h2
      have := e i
      omega
  refine List.ext_getElem hl (fun i h1 h2 => ?_)
  have a := h.get i
  have b := k.get i
  rw [gD_lt r 0 h1] at a
  rw [gD_lt s 0 h2] at b
  rw [a, b, e i]

theorem pad_length (row : List Int) (e : Nat) : (pad row e).length = max row.length (e + 1) := by
  unfold pad; rw [List.length_append, List.length_replicate]; omega
theorem app0_getD (row : List Int) (n i : Nat) : (row ++ List.replicate n (0 : Int)).getD i 0 = row.getD i 0 := by
  by_cases h : i < row.length
  · rw [gD_lt _ _ (by rw [List.length_append]; omega), gD_lt _ _ h, List.getElem_append_left h]
  · rw [gD_ge row 0 (by omega)]
    by_cases h2 : i < (row ++ List.replicate n (0 : Int)).length
    · rw [gD_lt _ _ h2, List.getElem_append_right (by omega), List.getElem_replicate]
    · exact gD_ge _ _ (by omega)
theorem pad_getD (row : List Int) (e i : Nat) : (pad row e).getD i 0 = row.getD i 0 := app0_getD _ _ _
/-- Some more at a place. -/
def addAt (row : List Int) (p : Nat) (n : Int) : List Int := (pad row p).set p (wrap64 (rd (pad row p) (p : Int) + n))
theorem bump_eq (row : List Int) (e : Nat) : bump row e = addAt row e 1 := rfl
theorem addAt_length (row : List Int) (p : Nat) (n : Int) : (addAt row p n).length = max row.length (p + 1) := by
  unfold addAt; rw [List.length_set, pad_length]
theorem set_getD (l : List Int) (p i : Nat) (x : Int) (hp : p < l.length) : (l.set p x).getD i 0 = if i = p then x else l.getD i 0 := by
  rw [List.getD_eq_getElem?_getD, List.getElem?_set, List.getD_eq_getElem?_getD]
  by_cases h : p = i
  · subst h; simp [hp]
  · rw [if_neg h, if_neg (fun e => h e.symm)]
theorem addAt_rep {row : List Int} {c : Nat → Nat} {p n : Nat} (h : RepC row c) (hn : 0 < n) (hb : c p + n ≤ 4611686018427387904) : RepC (addAt row p (n : Int)) (fun i => if i = p then c i + n else c i) := by
  have hp : p < (pad row p).length := by rw [pad_length]; omega
  refine ⟨fun i => ?_, fun i hi => ?_⟩
  · unfold addAt
    rw [set_getD _ _ _ _ hp, rd_nat, pad_getD, pad_getD, h.get, h.get]
    by_cases e : i = p
    · rw [if_pos e, if_pos e, e, w64 (by omega) (by omega)]; simp
    · rw [if_neg e, if_neg e]
  · rw [addAt_length] at hi
    by_cases e : i = p
    · rw [if_pos e]; omega
    · rw [if_neg e]; exact h.last i (by omega)

/-- What one more row of length m makes of a placement with so many rooks and free cells. -/
def step (m : Nat) (x : Nat × Nat) : List (Nat × Nat) := (x.1, x.2 + (m - x.1)) :: (List.range (m - x.1)).map fun i => (x.1 + 1, x.2 + i)
def cnt (F : List (Nat × Nat)) (k e : Nat) : Nat := F.count (k, e)
def sumTo : Nat → (Nat → Nat) → Nat
  | 0, _ => 0
  | n + 1, f => sumTo n f + f n
theorem sumTo_add (f g : Nat → Nat) : ∀ n, sumTo n (fun b => f b + g b) = sumTo n f + sumTo n g
  | 0 => rfl
  | n + 1 => by rw [sumTo, sumTo, sumTo, sumTo_add f g n]; omega
theorem sumTo_congr {f g : Nat → Nat} (n : Nat) (h : ∀ b, b < n → f b = g b) : sumTo n f = sumTo n g := by
  induction n with
  | zero => rfl
  | succ n ih => rw [sumTo, sumTo, ih (fun b hb => h b (by omega)), h n (by omega)]
theorem sumTo_zero : ∀ n, sumTo n (fun _ => 0) = 0
  | 0 => rfl
  | n + 1 => by rw [sumTo, sumTo_zero n]
theorem sumTo_le {f : Nat → Nat} {B : Nat} (h : ∀ b, f b ≤ B) : ∀ n, sumTo n f ≤ n * B
  | 0 => by simp [sumTo]
  | n + 1 => by rw [sumTo, Nat.succ_mul]; have := sumTo_le h n; have := h n; omega
theorem sumTo_one (e e0 : Nat) : ∀ n, sumTo n (fun b => if b ≤ e ∧ e - b = e0 then 1 else 0) = if e0 ≤ e ∧ e - e0 < n then 1 else 0
  | 0 => by rw [sumTo, if_neg (by omega)]
  | n + 1 => by
    rw [sumTo, sumTo_one e e0 n]
    by_cases h1 : e0 ≤ e ∧ e - e0 < n
    · rw [if_pos h1, if_neg (by omega), if_pos (by omega)]
    · rw [if_neg h1]
      by_cases h2 : n ≤ e ∧ e - n = e0
      · rw [if_pos h2, if_pos (by omega)]
      · rw [if_neg h2, if_neg (by omega)]
theorem cnt_cons (x : Nat × Nat) (F : List (Nat × Nat)) (k e : Nat) : cnt (x :: F) k e = cnt F k e + if k = x.1 ∧ e = x.2 then 1 else 0 := by
  unfold cnt
  rw [List.count_cons]
  congr 1
  by_cases h : k = x.1 ∧ e = x.2
  · rw [if_pos h, if_pos (by rw [beq_iff_eq]; exact Prod.ext h.1.symm h.2.symm)]
  · rw [if_neg h, if_neg (by rw [beq_iff_eq]; rintro rfl; exact h ⟨rfl, rfl⟩)]
theorem cnt_nil (k e : Nat) : cnt [] k e = 0 := rfl
theorem cnt_append (F G : List (Nat × Nat)) (k e : Nat) : cnt (F ++ G) k e = cnt F k e + cnt G k e := List.count_append
theorem cnt_range (j e0 k e : Nat) : ∀ n, cnt ((List.range n).map fun i => (j, e0 + i)) k e = if k = j ∧ e0 ≤ e ∧ e - e0 < n then 1 else 0
  | 0 => by rw [if_neg (by omega)]; rfl
  | n + 1 => by
    rw [List.range_succ, List.map_append, cnt_append, cnt_range j e0 k e n, List.map_cons, List.map_nil, cnt_cons, cnt_nil, Nat.zero_add]
    simp only []
    by_cases h1 : k = j ∧ e0 ≤ e ∧ e - e0 < n
    · rw [if_pos h1, if_neg (by omega), if_pos (by omega)]
    · rw [if_neg h1]
      by_cases h2 : k = j ∧ e = e0 + n
      · rw [if_pos h2, if_pos (by omega)]
      · rw [if_neg h2, if_neg (by omega)]
/-- What stands in the table behind one more row. -/
def nextC (F : List (Nat × Nat)) (m k e : Nat) : Nat := (if k ≤ m ∧ m - k ≤ e then cnt F k (e - (m - k)) else 0) + (if k = 0 then 0 else sumTo (m + 1 - k) (fun b => if b ≤ e then cnt F (k - 1) (e - b) else 0))
theorem cnt_step (m k e : Nat) : ∀ F : List (Nat × Nat), (∀ x ∈ F, x.1 ≤ m) → cnt (F.flatMap (step m)) k e = nextC F m k e
  | [], _ => by
    unfold nextC
    simp only [List.flatMap_nil, cnt_nil, ite_self, sumTo_zero]
  | x :: F, h => by
    have hx := h x (List.mem_cons_self)
    rw [List.flatMap_cons, cnt_append, cnt_step m k e F (fun y hy => h y (List.mem_cons_of_mem _ hy)), step, cnt_cons, cnt_range]
    simp only []
    have e1 : nextC (x :: F) m k e = nextC F m k e + ((if k ≤ m ∧ m - k ≤ e then (if k = x.1 ∧ e - (m - k) = x.2 then 1 else 0) else 0) + (if k = 0 then 0 else sumTo (m + 1 - k) (fun b => if b ≤ e then (if k - 1 = x.1 ∧ e - b = x.2 then 1 else 0) else 0))) := by
      unfold nextC
      have e2 : (fun b => if b ≤ e then cnt (x :: F) (k - 1) (e - b) else 0) = fun b => (if b ≤ e then cnt F (k - 1) (e - b) else 0) + (if b ≤ e then (if k - 1 = x.1 ∧ e - b = x.2 then 1 else 0) else 0) := by
        funext b
        by_cases hb : b ≤ e
        · rw [if_pos hb, if_pos hb, if_pos hb, cnt_cons]
        · rw [if_neg hb, if_neg hb, if_neg hb]
      rw [e2, sumTo_add, cnt_cons]
      by_cases h1 : k ≤ m ∧ m - k ≤ e
      · rw [if_pos h1, if_pos h1, if_pos h1]
        by_cases h2 : k = 0
        · rw [if_pos h2, if_pos h2, if_pos h2]; omega
        · rw [if_neg h2, if_neg h2, if_neg h2]; omega
      · rw [if_neg h1, if_neg h1, if_neg h1]
        by_cases h2 : k = 0
        · rw [if_pos h2, if_pos h2, if_pos h2]
        · rw [if_neg h2, if_neg h2, if_neg h2]; omega
    rw [e1, Nat.add_comm]
    congr 1
    rw [Nat.add_comm]
    congr 1
    · by_cases h1 : k = x.1 ∧ e = x.2 + (m - x.1)
      · rw [if_pos h1, if_pos (by omega), if_pos (by omega)]
      · rw [if_neg h1]
        by_cases h2 : k ≤ m ∧ m - k ≤ e
        · rw [if_pos h2, if_neg (by omega)]
        · rw [if_neg h2]
    · by_cases h0 : k = 0
      · rw [if_pos h0, if_neg (by omega)]
      · rw [if_neg h0]
        by_cases h1 : k - 1 = x.1
        · rw [sumTo_congr (g := fun b => if b ≤ e ∧ e - b = x.2 then 1 else 0) _ (fun b _ => by
            by_cases hb : b ≤ e
            · rw [if_pos hb]
              by_cases h2 : e - b = x.2
              · rw [if_pos ⟨h1, h2⟩, if_pos ⟨hb, h2⟩]
              · rw [if_neg (by omega), if_neg (by omega)]
            · rw [if_neg hb, if_neg (by omega)]), sumTo_one]
          by_cases h3 : x.2 ≤ e ∧ e - x.2 < m + 1 - k
          · rw [if_pos h3, if_pos (by omega)]
          · rw [if_neg h3, if_neg (by omega)]
        · rw [sumTo_congr (g := fun _ => 0) _ (fun b _ => by
            by_cases hb : b ≤ e
            · rw [if_pos hb, if_neg (by omega)]
            · rw [if_neg hb]), sumTo_zero, if_neg (by omega)]

/-- All placements of the first rows, by rooks and free cells. -/
def Fk (l : List Int) : Nat → List (Nat × Nat)
  | 0 => [(0, 0)]
  | r + 1 => (Fk l r).flatMap (step (l.getD r 0).toNat)
def Gk (l : List Int) : Nat → Nat → Nat × Nat → List (Nat × Nat)
  | 0, _, x => [x]
  | d + 1, r, x => (step (l.getD r 0).toNat x).flatMap (Gk l d (r + 1))
theorem flat_self {α : Type} : ∀ F : List α, F.flatMap (fun x => [x]) = F
  | [] => rfl
  | x :: F => by rw [List.flatMap_cons, flat_self F]; rfl
theorem F_G (l : List Int) : ∀ d r, (Fk l r).flatMap (Gk l d r) = Fk l (r + d)
  | 0, r => flat_self _
  | d + 1, r => by
    have e : Gk l (d + 1) r = fun x => (step (l.getD r 0).toNat x).flatMap (Gk l d (r + 1)) := rfl
    rw [e, ← List.flatMap_assoc, show r + (d + 1) = r + 1 + d by omega, ← F_G l d (r + 1)]
    rfl
theorem step_len {m : Nat} (hm : m ≤ 6) (x : Nat × Nat) : (step m x).length ≤ 7 := by
  unfold step; rw [List.length_cons, List.length_map, List.length_range]; omega
theorem flat_len {α β : Type} {f : α → List β} {B : Nat} : ∀ F : List α, (∀ x ∈ F, (f x).length ≤ B) → (F.flatMap f).length ≤ F.length * B
  | [], _ => by simp
  | x :: F, h => by
    rw [List.flatMap_cons, List.length_append, List.length_cons, Nat.succ_mul]
    have h1 := h x List.mem_cons_self
    have h2 := flat_len F (fun y hy => h y (List.mem_cons_of_mem _ hy))
    omega
theorem Fk_len {l : List Int} (hm : ∀ r, (l.getD r 0).toNat ≤ 6) : ∀ r, (Fk l r).length ≤ 7 ^ r
  | 0 => by simp [Fk]
  | r + 1 => by
    rw [Fk, Nat.pow_succ]
    exact Nat.le_trans (flat_len _ (fun x _ => step_len (hm r) x)) (Nat.mul_le_mul_right _ (Fk_len hm r))
theorem Fk_rooks {l : List Int} : ∀ r x, x ∈ Fk l r → x.1 ≤ r ∧ (∀ m : Nat, (∀ i, i < r → (l.getD i 0).toNat ≤ m) → x.1 ≤ m)
  | 0, x, h => by rw [Fk, List.mem_singleton] at h; subst h; exact ⟨Nat.le_refl _, fun m _ => Nat.zero_le _⟩
  | r + 1, x, h => by
    rw [Fk, List.mem_flatMap] at h
    obtain ⟨y, hy, hx⟩ := h
    obtain ⟨q1, q2⟩ := Fk_rooks r y hy
    rw [step, List.mem_cons, List.mem_map] at hx
    rcases hx with rfl | ⟨i, hi, rfl⟩
    · exact ⟨by simp only []; omega, fun m hm => q2 m (fun i hi => hm i (by omega))⟩
    · rw [List.mem_range] at hi
      exact ⟨by simp only []; omega, fun m hm => by have := hm r (by omega); simp only []; omega⟩

/-- How many columns below x are not taken. -/
def fr (t : Nat) : Nat → Nat
  | 0 => 0
  | x + 1 => fr t x + if t.testBit x then 0 else 1
theorem fr_mono (t : Nat) : ∀ d x, fr t x ≤ fr t (x + d)
  | 0, x => Nat.le_refl _
  | d + 1, x => by
    have h := fr_mono t d x
    have e : fr t (x + d + 1) = fr t (x + d) + if t.testBit (x + d) then 0 else 1 := rfl
    rw [show x + (d + 1) = x + d + 1 by omega, e]
    omega
theorem rowFree_fr {q : List Int} {r t X m : Nat} (ht : ∀ c, c < m → taken q r c = (decide (X ≤ c) || t.testBit c)) : ∀ (d c : Nat) (n : Int), c + d = m → rowFree q r d c n = n + ((fr t (min m X) : Int) - fr t (min c X))
  | 0, c, n, h => by rw [rowFree, show c = m by omega]; omega
  | d + 1, c, n, h => by
    rw [rowFree, rowFree_fr ht d (c + 1) _ (by omega), ht c (by omega)]
    by_cases h1 : X ≤ c
    · rw [decide_eq_true h1, Bool.true_or, if_pos rfl, show min (c + 1) X = min c X by omega]
    · rw [decide_eq_false h1, Bool.false_or, show min (c + 1) X = c + 1 by omega, show min c X = c by omega, fr]
      by_cases h2 : t.testBit c = true
      · rw [if_pos h2, if_pos h2, Nat.add_zero]
      · rw [if_neg h2, if_neg h2]; omega
theorem fr_or {t c : Nat} (hc : t.testBit c = false) : ∀ x, c < x → fr (t ||| 2 ^ c) x + 1 = fr t x
  | 0, h => by omega
  | x + 1, h => by
    have low : ∀ y, y ≤ c → fr (t ||| 2 ^ c) y = fr t y := by
      intro y
      induction y with
      | zero => intro _; rfl
      | succ y ih =>
        intro hy
        rw [fr, fr, ih (by omega), Nat.testBit_or, Nat.testBit_two_pow, decide_eq_false (show ¬ c = y by omega), Bool.or_false]
    by_cases e : c = x
    · subst e
      rw [fr, fr, low c (Nat.le_refl _), Nat.testBit_or, Nat.testBit_two_pow_self, Bool.or_true, if_pos rfl, hc]
      simp
    · have ih := fr_or hc x (by omega)
      rw [fr, fr, Nat.testBit_or, Nat.testBit_two_pow, decide_eq_false (show ¬ c = x by omega), Bool.or_false]
      omega
theorem ways_pre (rows : List Int) (C : Nat) : ∀ (d r t : Nat) (pre : List Int), ∀ q ∈ waysFrom rows C d r t pre, ∃ s, q = pre ++ s ∧ s.length = d
  | 0, r, t, pre, q, hq => by rw [waysFrom, List.mem_singleton] at hq; exact ⟨[], by simp [hq], rfl⟩
  | d + 1, r, t, pre, q, hq => by
    rw [waysFrom, List.mem_flatMap] at hq
    obtain ⟨c, hc, hq⟩ := hq
    unfold colWays at hq
    split at hq
    · obtain ⟨s, h1, h2⟩ := ways_pre rows C d (r + 1) _ _ q hq
      exact ⟨c :: s, by rw [h1]; simp, by simp [h2]⟩
    · split at hq
      · obtain ⟨s, h1, h2⟩ := ways_pre rows C d (r + 1) _ _ q hq
        exact ⟨c :: s, by rw [h1]; simp, by simp [h2]⟩
      · cases hq
theorem cell_rows {l : List Int} {r c : Nat} (hr : r < l.length) (h0 : 0 ≤ l.getD r 0) : cell (rowsOf l) r c = decide (c < (l.getD r 0).toNat) := by
  unfold cell rowsOf
  rw [gD_lt _ _ (by simpa using hr), List.getElem_map, gD_lt _ _ hr]
  have e : ((2 : Int) ^ l[r].toNat - 1).toNat = 2 ^ l[r].toNat - 1 := by
    have : 0 < 2 ^ l[r].toNat := Nat.two_pow_pos _
    have e2 : ((2 ^ l[r].toNat : Nat) : Int) = 2 ^ l[r].toNat := by simp
    omega
  rw [e, Nat.testBit_two_pow_sub_one]
/-- A placement's rooks, and its free cells from a row on, on top of some. -/
def keyFrom (l : List Int) (r : Nat) (n : Int) (q : List Int) : Nat × Nat := (rooksN q, (allFree q (l.drop r) r n).toNat)
theorem rooksN_snoc (pre : List Int) (x : Int) : rooksN (pre ++ [x]) = rooksN pre + if x = -1 then 0 else 1 := by
  unfold rooksN
  rw [List.countP_append, List.countP_singleton]
  by_cases h : x = -1 <;> simp [h]
theorem keyFrom_next {l : List Int} {r t X m C d t2 : Nat} {n x : Int} {pre : List Int} (hr : r < l.length) (hp : pre.length = r) (hm : (l.getD r 0).toNat = m)
    (ht : ∀ c : Nat, t.testBit c = decide ((c : Int) ∈ pre)) (hX : ∀ c : Nat, c < m → (decide (x ≠ -1) && decide (x ≤ c)) = decide (X ≤ c)) {q : List Int} (hq : q ∈ waysFrom (rowsOf l) C d (r + 1) t2 (pre ++ [x])) :
    keyFrom l r n q = keyFrom l (r + 1) (n + fr t (min m X)) q := by
  obtain ⟨s, rfl, hs⟩ := ways_pre _ _ _ _ _ _ q hq
  unfold keyFrom
  rw [List.drop_eq_getElem_cons hr, allFree]
  have e1 : (pre ++ [x] ++ s).getD r 0 = x := by
    rw [List.append_assoc, gD_lt _ _ (by simp; omega), List.getElem_append_right (by omega)]; simp [hp]
  have e2 : (pre ++ [x] ++ s).take r = pre := by rw [List.append_assoc, List.take_left' hp]
  have e3 : l[r].toNat = m := by rw [← gD_lt l 0 hr]; exact hm
  have e4 := rowFree_fr (q := pre ++ [x] ++ s) (r := r) (t := t) (X := X) (m := m) (fun c hc => by
    unfold taken
    rw [e1, e2, ht c, hX c hc]) m 0 n (by omega)
  rw [e3, e4, Nat.zero_min]
  rw [show fr t 0 = 0 from rfl]
  congr 3
theorem ways_key {l : List Int} (hlen : ∀ i, i < l.length → 0 ≤ l.getD i 0 ∧ l.getD i 0 ≤ l.length) (hrise : ∀ i, i + 1 < l.length → l.getD i 0 ≤ l.getD (i + 1) 0) :
    ∀ (d r t : Nat) (pre : List Int) (n : Nat), r + d = l.length → pre.length = r → (∀ c : Nat, t.testBit c = decide ((c : Int) ∈ pre)) → (∀ c : Nat, t.testBit c = true → r < l.length → (c : Int) < l.getD r 0) →
      (∀ x : Nat, (∀ c : Nat, t.testBit c = true → c < x) → fr t x + rooksN pre = x) →
      (waysFrom (rowsOf l) l.length d r t pre).map (keyFrom l r n) = Gk l d r (rooksN pre, n)
  | 0, r, t, pre, n, hr, hp, ht, hlt, hfr => by
    rw [waysFrom, Gk, List.map_singleton, keyFrom, List.drop_eq_nil_of_le (by omega)]
    rfl
  | d + 1, r, t, pre, n, hr, hp, ht, hlt, hfr => by
    have hr2 : r < l.length := by omega
    obtain ⟨b1, b2⟩ := hlen r hr2
    obtain ⟨m, hm⟩ : ∃ m, m = (l.getD r 0).toNat := ⟨_, rfl⟩
    have hfm : fr t m + rooksN pre = m := hfr m (fun c hc => by have := hlt c hc hr2; omega)
    have hnxt : ∀ c : Nat, (c : Int) < l.getD r 0 → r + 1 < l.length → (c : Int) < l.getD (r + 1) 0 := fun c hc h => by have := hrise r h; omega
    have hit : ∀ x, x ≤ l.length → (iota 0 x).flatMap (fun c => (colWays (rowsOf l) r t pre (waysFrom (rowsOf l) l.length d (r + 1)) c).map (keyFrom l r n)) = (List.range (fr t (min m x))).flatMap (fun i => Gk l d (r + 1) (rooksN pre + 1, n + i)) := by
      intro x
      induction x with
      | zero => intro _; rw [Nat.min_zero]; rfl
      | succ x ih =>
        intro hx
        rw [iota_snoc, List.flatMap_append, ih (by omega), List.flatMap_cons, List.flatMap_nil, List.append_nil, Int.zero_add]
        have hcell := cell_rows (l := l) (r := r) (c := x) hr2 b1
        unfold colWays
        rw [if_neg (by omega), Int.toNat_natCast, hcell, ← hm]
        by_cases h1 : x < m
        · rw [decide_eq_true h1, Bool.true_and, show min m (x + 1) = x + 1 by omega, show min m x = x by omega, fr]
          by_cases h2 : t.testBit x = true
          · rw [h2, if_neg (by simp), if_pos rfl, Nat.add_zero]; simp
          · have h2f : t.testBit x = false := by simpa using h2
            rw [h2f, if_pos (by simp), if_neg (by simp), List.range_succ, List.flatMap_append, List.flatMap_cons, List.flatMap_nil, List.append_nil]
            congr 1
            have hnm : ¬ (x : Int) ∈ pre := by have := ht x; rw [h2f] at this; simpa using this.symm
            have e5 := List.map_congr_left (f := keyFrom l r n) (g := keyFrom l (r + 1) ((n + fr t x : Nat) : Int)) (l := waysFrom (rowsOf l) l.length d (r + 1) (t ||| 2 ^ x) (pre ++ [(x : Int)])) (fun q hq => by
              have := keyFrom_next (n := n) (X := x) hr2 hp hm.symm ht (fun c hc => by
                rw [decide_eq_true (show (x : Int) ≠ -1 by omega), Bool.true_and]
                exact decide_eq_decide.2 (by omega)) hq
              rw [this, show min m x = x by omega]
              simp)
            rw [e5]
            have ih2 := ways_key hlen hrise d (r + 1) (t ||| 2 ^ x) (pre ++ [(x : Int)]) (n + fr t x) (by omega) (by simp; omega)
              (fun c => by
                rw [Nat.testBit_or, ht c, Nat.testBit_two_pow, ← Bool.decide_or]
                apply decide_eq_decide.2
                rw [List.mem_append, List.mem_singleton]
                constructor
                · rintro (h | h)
                  · exact .inl h
                  · exact .inr (by omega)
                · rintro (h | h)
                  · exact .inl h
                  · exact .inr (by omega))
              (fun c hc h => by
                rw [Nat.testBit_or, Nat.testBit_two_pow, Bool.or_eq_true] at hc
                rcases hc with hc | hc
                · exact hnxt c (hlt c hc hr2) h
                · have : x = c := of_decide_eq_true hc
                  exact hnxt c (by omega) h)
              (fun y hy => by
                rw [rooksN_snoc, if_neg (by omega)]
                have q1 := hy x (by rw [Nat.testBit_or, Nat.testBit_two_pow_self, Bool.or_true])
                have q2 := fr_or h2f y q1
                have q3 := hfr y (fun c hc => hy c (by rw [Nat.testBit_or, hc, Bool.true_or]))
                omega)
            rw [ih2, rooksN_snoc, if_neg (by omega)]
        · rw [decide_eq_false h1, Bool.false_and, if_neg (by simp), show min m (x + 1) = min m x by omega]; simp
    have e0 : iota (-1) (l.length + 1) = (-1) :: iota 0 l.length := rfl
    rw [waysFrom, List.map_flatMap, e0, List.flatMap_cons, hit l.length (Nat.le_refl _), Gk, ← hm, step, List.flatMap_cons, List.flatMap_map]
    simp only []
    have hmn : m ≤ l.length := by omega
    rw [Nat.min_eq_left hmn, show m - rooksN pre = fr t m by omega]
    congr 1
    have e5 := List.map_congr_left (f := keyFrom l r n) (g := keyFrom l (r + 1) ((n + fr t m : Nat) : Int)) (l := waysFrom (rowsOf l) l.length d (r + 1) t (pre ++ [(-1 : Int)])) (fun q hq => by
      have := keyFrom_next (n := n) (X := m) hr2 hp hm.symm ht (fun c hc => by
        rw [decide_eq_false (show ¬ (-1 : Int) ≠ -1 by simp), Bool.false_and]
        exact (decide_eq_false (by omega)).symm) hq
      rw [this, Nat.min_self]
      simp)
    unfold colWays
    rw [if_pos (by omega), e5, ways_key hlen hrise d (r + 1) t (pre ++ [(-1 : Int)]) (n + fr t m) (by omega) (by simp; omega)
      (fun c => by
        rw [ht c]
        apply decide_eq_decide.2
        rw [List.mem_append, List.mem_singleton]
        constructor
        · exact .inl
        · rintro (h | h)
          · exact h
          · omega)
      (fun c hc h => hnxt c (hlt c hc hr2) h)
      (fun y hy => by rw [rooksN_snoc, if_pos rfl]; exact hfr y hy)]
    rw [rooksN_snoc, if_pos rfl]
    rfl
theorem ways_keys {l : List Int} (h : lenB l = true) : (waysFrom (rowsOf l) l.length l.length 0 0 []).map (keyFrom l 0 0) = Fk l l.length := by
  obtain ⟨h1, h2, h3⟩ := len_of h
  have hr : riseFrom l 1 = true := by unfold lenB at h; simp only [Bool.and_eq_true] at h; exact h.2
  have e := ways_key (l := l) (fun i hi => by rw [gD_lt _ _ hi]; exact h3 i hi) (fun i hi => of_decide_eq_true hr i (by omega) (by omega)) l.length 0 0 [] 0 (by omega) rfl (fun c => by simp) (fun c hc => by simp at hc) (fun x hx => by
    have : ∀ y, fr 0 y = y := by
      intro y
      induction y with
      | zero => rfl
      | succ y ih => rw [fr, ih]; simp
    rw [this]; rfl)
  have e2 := F_G l l.length 0
  rw [Nat.zero_add] at e2
  rw [← e2, Fk, List.flatMap_cons, List.flatMap_nil, List.append_nil]
  exact e

/-- The table's rows are told by the placements seen. -/
structure RepT (n : Nat) (out : List (List Int)) (F : List (Nat × Nat)) : Prop where
  len : out.length = n + 1
  rep : ∀ k, k ≤ n → RepC (out.getD k []) (cnt F k)
theorem RepT.eq {n : Nat} {a b : List (List Int)} {F : List (Nat × Nat)} (h : RepT n a F) (k : RepT n b F) : a = b := by
  refine List.ext_getElem (by rw [h.len, k.len]) (fun i h1 h2 => ?_)
  have hi : i ≤ n := by have := h.len; omega
  have := (h.rep i hi).eq (k.rep i hi) (fun _ => rfl)
  rwa [gD_lt _ _ h1, gD_lt _ _ h2] at this
theorem RepT.start (n : Nat) : RepT n (List.replicate (n + 1) []) [] := by
  refine ⟨by simp, fun k hk => ?_⟩
  rw [gD_lt _ _ (by simp; omega), List.getElem_replicate]
  exact RepC.nil
/-- One more placement. -/
def tab (l : List Int) (out : List (List Int)) (p : List Int) : List (List Int) := out.set (rooksN p) (bump (out.getD (rooksN p) []) (allFree p l 0 0).toNat)
theorem RepT.tab {n : Nat} {l : List Int} {out : List (List Int)} {F : List (Nat × Nat)} {p : List Int} (h : RepT n out F) (hp : rooksN p ≤ n) (hF : F.length ≤ 1000000) : RepT n (tab l out p) (F ++ [keyFrom l 0 0 p]) := by
  refine ⟨by unfold BagK.tab; rw [List.length_set]; exact h.len, fun k hk => ?_⟩
  have hkl : rooksN p < out.length := by rw [h.len]; omega
  have hc : ∀ k e, cnt F k e ≤ 1000000 := fun k e => Nat.le_trans (List.count_le_length) hF
  unfold BagK.tab
  rw [List.getD_eq_getElem?_getD, List.getElem?_set]
  by_cases e : rooksN p = k
  · rw [if_pos e, if_pos hkl, Option.getD_some, bump_eq]
    have := addAt_rep (p := (allFree p l 0 0).toNat) (n := 1) (h.rep (rooksN p) (by omega)) (by omega) (by have := hc (rooksN p) (allFree p l 0 0).toNat; omega)
    refine RepC.congr this (fun i => ?_)
    rw [cnt_append, cnt_cons, cnt_nil, Nat.zero_add, e, keyFrom, List.drop_zero]
    simp only []
    by_cases hi : i = (allFree p l 0 0).toNat
    · rw [if_pos hi, if_pos ⟨e.symm, hi⟩]
    · rw [if_neg hi, if_neg (fun h => hi h.2)]; rfl
  · rw [if_neg e, ← List.getD_eq_getElem?_getD]
    refine RepC.congr (h.rep k hk) (fun i => ?_)
    rw [cnt_append, cnt_cons, cnt_nil, Nat.zero_add, keyFrom]
    simp only []
    rw [if_neg (fun h => e h.1.symm), Nat.add_zero]
theorem RepT.fold {n : Nat} {l : List Int} : ∀ (V : List (List Int)) {out : List (List Int)} {F : List (Nat × Nat)}, RepT n out F → (∀ p ∈ V, rooksN p ≤ n) → F.length + V.length ≤ 1000000 → RepT n (V.foldl (BagK.tab l) out) (F ++ V.map (keyFrom l 0 0))
  | [], out, F, h, _, _ => by simpa using h
  | p :: V, out, F, h, hp, hF => by
    rw [List.length_cons] at hF
    have := RepT.fold (l := l) V (h.tab (l := l) (hp p List.mem_cons_self) (by omega)) (fun q hq => hp q (List.mem_cons_of_mem _ hq)) (by rw [List.length_append, List.length_singleton]; omega)
    rw [List.foldl_cons, List.map_cons]
    rwa [List.append_assoc, List.singleton_append] at this
/-- The weights by the walk. -/
def wtab (l : List Int) : List (List Int) := (waysFrom (rowsOf l) l.length l.length 0 0 []).foldl (BagK.tab l) (List.replicate (l.length + 1) [])
theorem rooksN_le (p : List Int) : rooksN p ≤ p.length := List.countP_le_length
theorem ways_len6 {l : List Int} (h : lenB l = true) : (waysFrom (rowsOf l) l.length l.length 0 0 []).length ≤ 117649 := by
  obtain ⟨h1, h2, h3⟩ := len_of h
  have a := ways_len (rowsOf l) l.length l.length 0 0 []
  have b : ∀ R : Fin 7, (R.val + 1) ^ R.val ≤ 117649 := by decide
  have c := b ⟨l.length, by omega⟩
  simp only [] at c
  omega
theorem wtab_rep {l : List Int} (h : lenB l = true) : RepT l.length (wtab l) (Fk l l.length) := by
  have hl := ways_len6 h
  have := RepT.fold (n := l.length) (l := l) (waysFrom (rowsOf l) l.length l.length 0 0 []) (RepT.start l.length) (fun p hp => by
    obtain ⟨s, h1, h2⟩ := ways_pre _ _ _ _ _ _ p hp
    have := rooksN_le p
    rw [h1, List.nil_append] at this
    rw [h1, List.nil_append]
    omega) (by simp; omega)
  rw [ways_keys h, List.nil_append] at this
  exact this

end Go.Proofs.Ytlhblnphfpijkaa.BagK
end
section
namespace Go.Proofs.Ytlhblnphfpijkaa.Q
set_option linter.unusedVariables false
open Go.RowKit Go.Proofs.YtlhblnphfpijkaaW.PrintWords Go.Proofs.YtlhblnphfpijkaaW.PrintLast Go.Proofs.YtlhblnphfpijkaaW.PrintMore
open Go.Proofs.YtlhblnphfpijkaaL Go.Proofs.Ytlhblnphfpijkaa.LawK Go.Proofs.Ytlhblnphfpijkaa.BoardK Go.Proofs.Ytlhblnphfpijkaa.Walk Go.Proofs.Ytlhblnphfpijkaa.LensK Go.Proofs.Ytlhblnphfpijkaa.FreeK Go.Proofs.Ytlhblnphfpijkaa.BagK
def impl_weights.f (l0 : List Int) : Option (List (List Int)) := if lenB l0 = true then some (wtab l0) else none
/-- The blocks that the table may have. -/
def OkW (n : Nat) (S : Nat → Prop) (gl go ab i : Nat) : Prop := n ≤ i ∧ ¬ S i ∧ i ≠ gl ∧ i ≠ go ∧ i ≠ ab
/-- What holds while the placements are told. -/
structure WInv (gl go g c1 ab cb : Nat) (l : List Int) (A0 : Option Addr) (c0 : Nat) (w0 W : World) (S : Nat → Prop) (vis : List (List Int)) (w : World) : Prop where
  cl : w.heap[gl]? = some (.cells #[.slice A0 l.length c0] 22 (0, 0))
  o : w.heap[go]? = some (.cells #[.slice (some ⟨g, 0, none⟩) (l.length + 1) c1] 23 (0, 0))
  b : Kd.R (Kd.int .i64) 3 w 0 (fun i => i = ab) (.slice (some ⟨ab, 0, none⟩) l.length cb) (rowsOf l)
  r : Kd.S (Kd.slice 3 (Kd.int .i64)) 22 w w0.heap.size (OkW w0.heap.size S gl go ab) (.slice (some ⟨g, 0, none⟩) (l.length + 1) c1) (vis.foldl (tab l) (List.replicate (l.length + 1) []))
  B : Below w0.heap.size w0 w
  s : ∀ i, S i → W.heap.size ≤ i
theorem allFree_bd (p : List Int) : ∀ (l : List Int) (i : Nat) (n : Int), (∀ x ∈ l, x ≤ 6) → n ≤ allFree p l i n ∧ allFree p l i n ≤ n + 6 * l.length
  | [], i, n, _ => by simp [allFree]
  | m :: t, i, n, h => by
    have h1 := rowFree_bound p i m.toNat 0 n
    have h2 := allFree_bd p t (i + 1) (rowFree p i m.toNat 0 n) (fun x hx => h x (List.mem_cons_of_mem _ hx))
    have h3 := h m List.mem_cons_self
    rw [allFree, List.length_cons]
    omega
theorem two_ev {α β : Type} {f : Nat → Option α} {g : Nat → Option β} {a : α} {b : β} (h : Ev f a) (k : Ev g b) : ∃ n, f n = some a ∧ g n = some b := by
  obtain ⟨K, h⟩ := h
  obtain ⟨K', k⟩ := k
  exact ⟨max K K', h _ (by omega), k _ (by omega)⟩
theorem rowsOf_bits {l : List Int} (h : lenB l = true) : ∀ i (hi : i < (rowsOf l).length), 0 ≤ (rowsOf l)[i] ∧ (rowsOf l)[i] < 2 ^ l.length := by
  obtain ⟨h1, h2, h3⟩ := len_of h
  intro i hi
  have hi2 : i < l.length := by simpa [rowsOf] using hi
  have h4 := h3 i hi2
  have e : (rowsOf l)[i] = 2 ^ l[i].toNat - 1 := by simp [rowsOf]
  have h5 : 2 ^ l[i].toNat ≤ 2 ^ l.length := Nat.pow_le_pow_right (by decide) (by omega)
  have h6 : 0 < 2 ^ l[i].toNat := Nat.two_pow_pos _
  have h7 : ((2 ^ l[i].toNat : Nat) : Int) = 2 ^ l[i].toNat := by simp
  have h8 : ((2 ^ l.length : Nat) : Int) = 2 ^ l.length := by simp
  rw [e]
  omega
set_option maxHeartbeats 8000000 in
set_option maxRecDepth 100000 in
theorem impl_weights.calls (A0 : Option Addr) (c0 : Nat) (l0 : List Int) (r : List (List Int)) (w : World) (hr0 : Kd.C (Kd.int .i64) w A0 l0.length l0) (hc0 : l0.length ≤ c0) (h : impl_weights.f l0 = some r) :
    Calls Try.prog 82 #[.slice A0 l0.length c0] w fun e w' => ∃ v0_ : Value, e = .returned (v0_) ∧ Kd.S (Kd.slice 3 (Kd.int .i64)) 22 w' w.heap.size (fun _ => True) v0_ r ∧ Below w.heap.size w w' := by
  by_cases hs : lenB l0 = true
  rotate_left
  · rw [impl_weights.f, if_neg hs] at h; cases h
  rw [impl_weights.f, if_pos hs] at h
  have h := Option.some.inj h
  obtain ⟨h1, h6, h3⟩ := len_of hs
  have hx6 : ∀ x ∈ l0, x ≤ 6 := fun x hx => by obtain ⟨i, hi, rfl⟩ := List.mem_iff_getElem.1 hx; have := h3 i hi; omega
  have rl : (rowsOf l0).length = l0.length := by simp [rowsOf]
  obtain ⟨kb, hkb⟩ := (impl_board hs).rounds
  have CB := Lib.hid (fun (W : World) (hb : Below w.heap.size w W) => by
    have := impl_boardOf.calls kb A0 c0 l0 _ _ _ W (Kd.C_below hr0 hb) hc0 hkb
    exact this)
  have KEY : ∀ (W : World) (gl go g c1 ab cb : Nat), Below w.heap.size w W → w.heap.size ≤ gl → w.heap.size ≤ go → gl < W.heap.size → go < W.heap.size → ab < W.heap.size → gl ≠ go → gl ≠ ab → go ≠ ab → l0.length ≤ cb → 
      WInv gl go g c1 ab cb l0 A0 c0 w W (fun _ => False) [] W →
      Calls Try.prog 112 #[.agg #[.int .i64 (l0.length : Int), .int .i64 (l0.length : Int), .slice (some ⟨ab, 0, none⟩) l0.length cb], .func (.func 113) #[] #[.pointer (some ⟨gl, 0, none⟩), .pointer (some ⟨go, 0, none⟩)]] W fun e w' => e = .returned (.tuple #[]) ∧
        ∃ v, w'.heap[go]? = some (.cells #[v] 23 (0, 0)) ∧ Kd.S (Kd.slice 3 (Kd.int .i64)) 22 w' w.heap.size (fun _ => True) v r ∧ Below w.heap.size w w' := by
    intro W gl go g c1 ab cb hBW bl bo ll lo lb nlo nla noa hcb hst
    have key := WalkW.walk_calls (WInv gl go g c1 ab cb l0 A0 c0 w W)
      (by
        intro S vis w1 w2 hi hs1
        have kp : ∀ g, g < W.heap.size → ∀ {o}, w1.heap[g]? = some o → w2.heap[g]? = some o := fun g hg o ho => (hs1.kept.2 g (blk_lt ho) (fun h => by have := hi.s g h; omega)).trans ho
        exact ⟨kp gl ll hi.cl, kp go lo hi.o, Kd.R_step hi.b (fun i hi' hlt => by subst hi'; exact hs1.kept.2 _ hlt (fun h => by have := hi.s _ h; omega)), Kd.S_step hi.r (fun i hi' hlt => hs1.kept.2 i hlt hi'.2.1), Still.below hi.B hs1 (fun i h => Nat.le_trans hBW.size (hi.s i h)), hi.s⟩)
      l0.length l0.length l0.length l0.length rfl rfl (rowsOf l0) (some ⟨ab, 0, none⟩) cb (by rw [rl]; exact hcb) (.pointer (some ⟨gl, 0, none⟩)) (.pointer (some ⟨go, 0, none⟩))
      (fun S vis w1 hi => by have := (Kd.R_reads' hi.b).2.2; exact this)
      rl h1 h6 h6 (rowsOf_bits hs) W
      (by
        intro S w1 hS hB1
        exact ⟨blk_below hst.cl hB1, blk_below hst.o hB1, Kd.R_below hst.b hB1, Kd.S_below (Kd.S_mono (Kd.S_bound hst.r) (fun i hi' => ⟨hi'.1.1, fun h => by have := hS i h; have := hi'.2.2.1; omega, hi'.1.2.2⟩)) hB1, hBW.trans (hB1.mono hBW.size), hS⟩)
      (by
        intro S vis ps w1 a cp hS hSlt hps hmem hSa hC hcp hi
        obtain ⟨b, hb2⟩ := hmem
        have hwl := ways_len6 hs
        rw [hb2, List.length_append, List.length_cons] at hwl
        have hvp : ∀ p ∈ vis, rooksN p ≤ l0.length := fun p hp => by
          obtain ⟨s, e1, e2⟩ := ways_pre (rowsOf l0) l0.length l0.length 0 0 [] p (by rw [hb2]; exact List.mem_append_left _ hp)
          have := rooksN_le p
          rw [e1, List.nil_append] at this ⊢
          omega
        have hT := RepT.fold (n := l0.length) (l := l0) vis (RepT.start l0.length) hvp (by simp; omega)
        rw [List.nil_append] at hT
        have hrk := rooksN_le ps
        have hfb := allFree_bd ps l0 0 0 hx6
        obtain ⟨eI, heI⟩ : ∃ eI : Nat, allFree ps l0 0 0 = eI := ⟨(allFree ps l0 0 0).toNat, by omega⟩
        have hev1 : Ev (fun k => impl_rooks.f k ps) (rooksN ps : Int) := by
          have h := rooks_l0 (l := ps) (by omega) ps.length 0 0 (by omega) (by omega)
          rw [List.drop_zero, Nat.zero_add] at h
          exact h
        have hev2 : Ev (fun k => impl_free.f k l0 ps) (eI : Int) := by
          have h := impl_rows (l := l0) (p := ps) h6 (fun i hi => by have := h3 i hi; omega) hps l0.length 0 0 (by omega) (by omega) (by omega)
          rw [List.drop_zero, heI] at h
          exact h
        obtain ⟨kk, hk1, hk2⟩ := two_ev hev1 hev2
        have hir := hi.r
        have hio := hi.o
        obtain ⟨out, hout⟩ : ∃ out, out = vis.foldl (tab l0) (List.replicate (l0.length + 1) []) := ⟨_, rfl⟩
        rw [← hout] at hT hir
        have hlen := hT.len
        have hkl : rooksN ps < out.length := by omega
        have hrow : out[rooksN ps]? = some (out.getD (rooksN ps) []) := by
          rw [List.getD_eq_getElem?_getD, List.getElem?_eq_getElem hkl]; rfl
        have hrep := hT.rep (rooksN ps) (by omega)
        have hshort : (out.getD (rooksN ps) []).length ≤ 1000 := by
          rcases Nat.eq_zero_or_pos (out.getD (rooksN ps) []).length with q | q
          · omega
          · have hne := hrep.last ((out.getD (rooksN ps) []).length - 1) (by omega)
            have hin := List.count_pos_iff.1 (Nat.pos_of_ne_zero hne)
            obtain ⟨p, hp, hpe⟩ := List.mem_map.1 hin
            have hpb := allFree_bd p l0 0 0 hx6
            unfold keyFrom at hpe
            rw [List.drop_zero] at hpe
            have := congrArg Prod.snd hpe
            simp only [] at this
            omega
        have hlo : l0.length + 1 = out.length := hlen.symm
        rw [hlo] at hio hir
        have hww : w.heap.size ≤ w1.heap.size := hi.B.size
        refine (W1.w1_calls (rooksN ps) eI l0.length cp a gl go w.heap.size kk g c1 l0 ps out A0 c0 _ (OkW w.heap.size S gl go ab) w1 hps hcp hc0 hC (Kd.C_below hr0 hi.B) hi.cl hio (fun k h => h.2.2.2.1) hww (fun k hk' => ⟨Nat.le_trans hww hk', fun h => by have := hSlt k h; omega, fun h => by have := blk_lt hi.cl; omega, fun h => by have := blk_lt hi.o; omega, fun h => by obtain ⟨cells, hc⟩ := Kd.R_typed hi.b ab rfl; have := blk_lt hc; omega⟩) hir hkl (by omega) hrow hshort (by omega) hk1 hk2).mono ?_
        rintro e w2 ⟨rfl, hS2, hK, hB2⟩
        refine ⟨rfl, ⟨blk_kept hi.cl hK (fun h => h.2.2.1 rfl), blk_kept hi.o hK (fun h => h.2.2.2.1 rfl), Kd.R_step hi.b (fun i hi' hlt => by subst hi'; exact hK.2 _ hlt (fun h => h.2.2.2.2 rfl)), ?_, hi.B.trans hB2, hi.s⟩, fun i hSi hlt => hK.2 i hlt (fun h => h.2.1 hSi)⟩
        rw [List.foldl_append, List.foldl_cons, List.foldl_nil, ← hout]
        rw [← hlo] at hS2
        unfold tab
        rw [heI]
        exact hS2)
    rw [rl] at key
    refine key.mono ?_
    rintro e w' ⟨rfl, S, hS, hi⟩
    exact ⟨rfl, _, hi.o, by rw [← h]; exact Kd.S_mono hi.r (fun _ _ => trivial), hi.B⟩
  have KX := Lib.hid KEY
  have HL := Aside0.mk (And.intro h1 (And.intro h6 rl))
  obtain ⟨ji, hji⟩ : ∃ j_ : Int, (wrap64 ((l0.length : Int) + 1)) = j_ := ⟨_, rfl⟩
  have hjiw : (IntKind.i64.wrap ((l0.length : Int) + 1)) = ji := (i64_w _).trans hji
  have hj2 : ji = ((l0.length + 1 : Nat) : Int) := by rw [← hji, w64 (by omega) (by omega)]; rfl
  have HJ := Aside0.mk hj2
  have hj0 : decide (0 ≤ ji) = true := decide_eq_true (by omega)
  clear KEY h hs h1 h6 h3 hx6 rl hkb hr0 hc0 hj2 hji
  have hu79 := Try.underlying79
  go_enter Try.func82, Try.ntmps82
  go_wp2_with (first
    | ((with_reducible refine gate_dst (N := 1) rfl ?_); refine box_event ?hg (N := 1) ?hd (cs := #[.slice A0 l0.length c0]) (t := 22) ?hr ?_; (case hd => rfl); (case hg => rfl); (case hr => first | (go_simp; done) | (go_simp; rfl)); intro gl hg w1 hbox hb; have G1 := Aside0.mk hg; have K1 := Aside0.mk hbox; have B1 := Aside0.mk hb; clear hg hbox hb; have z1 : w1.cell? ⟨gl, 0, none⟩ = some (.slice A0 l0.length c0) := (blk_cell K1.out 0).trans rfl)
    | ((with_reducible refine gate_dst (N := 7) rfl ?_); refine Kd.S_make (Kd.slice 3 (Kd.int .i64)) _ 22 rfl (N := 7) rfl 23 _ _ rfl ji rfl rfl Try.underlying23 (.slice none 0 0) 24 info22 rfl (by decide) (by omega) [] (ok := fun _ => True) (okp := fun _ => True) ⟨_, rfl, Kd.R_nil _ _ _ _ _⟩ (fun _ hk => hk) trivial (by have := HJ.out; omega) (by have := HJ.out; have := HL.out; omega) (Below.refl _ _) (Nat.le_refl _) ?_; intro v2 w2 ho hb hg_ hnew_; clear hg_ hnew_; rw [HJ.out, Int.toNat_natCast] at ho; obtain ⟨g, c1, ev2, hg1, hg2, cells2, hc2⟩ := Kd.S_form ho (by rw [List.length_replicate]; omega); rw [List.length_replicate] at ev2; subst ev2; have G2 := Aside0.mk (And.intro hg1 hg2); have O2 := Aside0.mk ho; have K2 := Aside0.mk (blk_below K1.out hb); have B2 := Aside0.mk hb; clear hg1 hg2 hc2 ho hb)
    | ((with_reducible refine gate_dst (N := 3) rfl ?_); refine box_event ?hg (N := 3) ?hd (cs := #[.slice none 0 0]) (t := 23) ?hr ?_; (case hd => rfl); (case hg => rfl); (case hr => first | (go_simp; done) | (go_simp; rfl)); intro go hg w3 hbox hb; have G3 := Aside0.mk hg; have K3 := Aside0.mk hbox; have B3 := Aside0.mk hb; clear hg hbox hb; have y1 : w3.cell? ⟨go, 0, none⟩ = some (.slice none 0 0) := (blk_cell K3.out 0).trans rfl; have f1 : w3.frozen? ⟨go, 0, none⟩ = false := blk_frozen K3.out 0; have nlo := Aside0.mk (show gl ≠ go from Nat.ne_of_lt (by rw [G3.out]; exact blk_lt K2.out)); have z5 : (w3.setCell ⟨go, 0, none⟩ (.slice (some ⟨g, 0, none⟩) (l0.length + 1) c1)).cell? ⟨gl, 0, none⟩ = some (.slice A0 l0.length c0) := (blk_cell (blk_far (blk_below K2.out B3.out) nlo.out _) 0).trans rfl)
    | (go_at_call 111; refine (CB.out _ ?sb).mono ?_; (case sb => (have o1 := blk_lt K1.out; have o2 := G1.out; have o3 := G3.out; have o4 := blk_lt K2.out; exact Below.setCell ((B1.out.trans (B2.out.mono (by omega))).trans (B3.out.mono (by omega))) (by (try simp only []); omega) _)); rintro e w4 ⟨v4, rfl, ho, hb⟩; obtain ⟨ab, cb, hv4, hab, hab2, cells4, hc4⟩ := Kd.R_form ho (by rw [HL.out.2.2]; exact HL.out.1); rw [HL.out.2.2] at hv4; subst hv4; have G4 := Aside0.mk (And.intro hab hab2); have O4 := Aside0.mk ho; have B4 := Aside0.mk hb; have K4 := Aside0.mk (blk_below (blk_far (blk_below K2.out B3.out) nlo.out _) hb); have K4b := Aside0.mk (blk_below (blk_put K3.out 0 _ rfl) hb); clear hab hab2 hc4 ho hb)
    | (go_at_call 112; (refine (KX.out _ gl go g c1 ab cb ?sB ?s1 ?s2 ?s3 ?s4 ?s5 ?s6 ?s7 ?s8 ?s9 ?sw).mono ?_); (all_goals have o1 := G1.out); (all_goals have o2 := blk_lt K1.out); (all_goals have o3 := G2.out); (all_goals have o4 := G3.out); (all_goals have o5 := G4.out); (all_goals have o6 := blk_lt K2.out); (all_goals have o7 := blk_lt K3.out); (all_goals have o8 : ∀ v, (w3.setCell ⟨go, 0, none⟩ v).heap.size = w3.heap.size := (fun v => by simp [World.setCell])); (all_goals rw [o8] at o5); (all_goals have o9 := blk_lt K4.out); (all_goals have o10 := blk_lt K4b.out); (all_goals have bb : Below w.heap.size w w4 := ((Below.setCell ((B1.out.trans (B2.out.mono (by omega))).trans (B3.out.mono (by omega))) (by (try simp only []); omega) _).trans (B4.out.mono (by rw [o8]; omega)))); (case sB => exact bb); (case s1 => omega); (case s2 => omega); (case s3 => omega); (case s4 => omega); (case s5 => omega); (case s6 => exact nlo.out); (case s7 => omega); (case s8 => omega); (case s9 => exact (Kd.R_reads' O4.out).2.1); (case sw => exact ⟨K4.out, K4b.out, Kd.R_mono (Kd.R_lower (Kd.R_tight rfl O4.out) (Nat.zero_le _)) (fun i hi => (by simpa [Value.ownBlock] using hi : i = ab)), Kd.S_below (Kd.S_far (p := ⟨go, 0, none⟩) (Kd.S_mono (Kd.S_below (Kd.S_lower (Kd.S_bound O2.out) (by omega)) B3.out) (ok' := OkW w.heap.size (fun _ => False) gl go ab) (fun i hi => (by have q1 := hi.2.1; have q2 := hi.2.2.1; exact ⟨by omega, fun h => h, by omega, by omega, by omega⟩))) (fun k hk => hk.2.2.2.1) _) B4.out, bb, fun i hi => hi.elim⟩); clear o1 o2 o3 o4 o5 o6 o7 o8 o9 o10 bb; rintro e w7 ⟨rfl, v7, hf1, hf2, hf3⟩; have F2 := Aside0.mk hf2; have F3 := Aside0.mk hf3; have y7 : w7.cell? ⟨go, 0, none⟩ = some v7 := (blk_cell hf1 0).trans rfl; clear hf1 hf2 hf3))
  go_ret
  exact ⟨_, rfl, F2.out, F3.out⟩
end Go.Proofs.Ytlhblnphfpijkaa.Q
end
section
namespace Go.Proofs.Ytlhblnphfpijkaa.Q
open Go.RowKit Go.Proofs.YtlhblnphfpijkaaW.PrintWords Go.Proofs.YtlhblnphfpijkaaW.PrintLast Go.Proofs.YtlhblnphfpijkaaW.PrintMore
attribute [local go_sem] max2_int min2_int max_two min_two max_three min_three max_four min_four   -- for this text's walks alone
set_option linter.unusedVariables false
set_option linter.unusedSimpArgs false

/-! ### impl_RankCounts: function 44 -/
mutual
def impl_RankCounts.j0 : Nat → List Int → Int → Bool → Option (List Int × Bool)
  | 0, _, _, _ => none
  | k + 1, x0, x1, x24 => if x24 = true then (some (([] : List Int), false)) else ((impl_weights.f x0).bind fun t107 => (impl_RankCounts.l0 k x0 x1 (([] : List Int)) t107 (t107.length : Int) 0))
def impl_RankCounts.l0 : Nat → List Int → Int → List Int → List (List Int) → Int → Int → Option (List Int × Bool)
  | 0, _, _, _, _, _, _ => none
  | k + 1, x0, x1, x6, x27, x28, x29 => if x29 < x28 then (if 0 ≤ x29 then (if x29 < (x27.length : Int) then (impl_RankCounts.l1 k x0 x1 x6 x29 0 x27 x28 x29 (rd_L1 x27 x29) ((rd_L1 x27 x29).length : Int) 0) else (none)) else (none)) else (some (x6, true))
def impl_RankCounts.l1 : Nat → List Int → Int → List Int → Int → Int → List (List Int) → Int → Int → List Int → Int → Int → Option (List Int × Bool)
  | 0, _, _, _, _, _, _, _, _, _, _, _ => none
  | k + 1, x0, x1, x6, x7, x9, x27, x28, x29, x34, x35, x36 => if x36 < x35 then (if 0 ≤ x36 then (if x36 < (x34.length : Int) then (if (rd x34 x36) > 0 then ((impl_sum.f k x0).bind fun t116 => ((impl_power.f k x1 (wrap64 ((wrap64 (t116 - x7)) - x36))).bind fun t117 => (impl_RankCounts.l1 k x0 x1 x6 x7 (wrap64 (x9 + (wrap64 ((rd x34 x36) * t117)))) x27 x28 x29 x34 x35 (wrap64 (x36 + 1))))) else (impl_RankCounts.l1 k x0 x1 x6 x7 x9 x27 x28 x29 x34 x35 (wrap64 (x36 + 1)))) else (none)) else (none)) else ((impl_power.f k (wrap64 (x1 - 1)) x7).bind fun t111 => (if x6.length < 17592186044416 then (impl_RankCounts.l0 k x0 x1 (x6 ++ [wrap64 (x9 * t111)]) x27 x28 (wrap64 (x29 + 1))) else (none)))
end
def impl_RankCounts.f (k : Nat) (l0 : List Int) (a1 : Int) : Option (List Int × Bool) := (impl_AreLengths.f k l0).bind fun t101 => (if t101 = true then ((impl_isQ.f a1).bind fun t102 => (if t102 = true then ((impl_sum.f k l0).bind fun t103 => (impl_RankCounts.j0 k l0 a1 (decide (t103 > 20)))) else (impl_RankCounts.j0 k l0 a1 true))) else (impl_RankCounts.j0 k l0 a1 true))
theorem impl_RankCounts.mono_l : ∀ k, (∀ y0 y1 y2, LeO (impl_RankCounts.j0 k y0 y1 y2) (impl_RankCounts.j0 (k + 1) y0 y1 y2)) ∧ (∀ y0 y1 y2 y3 y4 y5, LeO (impl_RankCounts.l0 k y0 y1 y2 y3 y4 y5) (impl_RankCounts.l0 (k + 1) y0 y1 y2 y3 y4 y5)) ∧ (∀ y0 y1 y2 y3 y4 y5 y6 y7 y8 y9 y10, LeO (impl_RankCounts.l1 k y0 y1 y2 y3 y4 y5 y6 y7 y8 y9 y10) (impl_RankCounts.l1 (k + 1) y0 y1 y2 y3 y4 y5 y6 y7 y8 y9 y10))
  | 0 => ⟨fun _ _ _ r h => by simp [impl_RankCounts.j0] at h, fun _ _ _ _ _ _ r h => by simp [impl_RankCounts.l0] at h, fun _ _ _ _ _ _ _ _ _ _ _ r h => by simp [impl_RankCounts.l1] at h⟩
  | k + 1 => by
    obtain ⟨ih0, ih1, ih2⟩ := impl_RankCounts.mono_l k
    refine ⟨?_, ?_, ?_⟩
    · intro y0 y1 y2
      unfold impl_RankCounts.j0
      repeat' first
      | (with_reducible exact ih0 _ _ _)
      | (with_reducible exact ih1 _ _ _ _ _ _)
      | (with_reducible exact ih2 _ _ _ _ _ _ _ _ _ _ _)
      | (with_reducible exact impl_AreLengths.mono _ _)
      | (with_reducible exact impl_power.mono _ _ _)
      | (with_reducible exact impl_sum.mono _ _)
      | (with_reducible exact LeO.refl _)
      | (with_reducible exact LeO.none _)
      | (with_reducible refine LeO.ite ?_ ?_)
      | (with_reducible refine LeO.bind ?_ (fun _ => ?_))
      | exact ih0 _ _ _
      | exact ih1 _ _ _ _ _ _
      | exact ih2 _ _ _ _ _ _ _ _ _ _ _
      | exact impl_AreLengths.mono _ _
      | exact impl_power.mono _ _ _
      | exact impl_sum.mono _ _
      | exact LeO.none _
      | refine LeO.ite ?_ ?_
      | refine LeO.bind ?_ (fun _ => ?_)
    · intro y0 y1 y2 y3 y4 y5
      unfold impl_RankCounts.l0
      repeat' first
      | (with_reducible exact ih0 _ _ _)
      | (with_reducible exact ih1 _ _ _ _ _ _)
      | (with_reducible exact ih2 _ _ _ _ _ _ _ _ _ _ _)
      | (with_reducible exact impl_AreLengths.mono _ _)
      | (with_reducible exact impl_power.mono _ _ _)
      | (with_reducible exact impl_sum.mono _ _)
      | (with_reducible exact LeO.refl _)
      | (with_reducible exact LeO.none _)
      | (with_reducible refine LeO.ite ?_ ?_)
      | (with_reducible refine LeO.bind ?_ (fun _ => ?_))
      | exact ih0 _ _ _
      | exact ih1 _ _ _ _ _ _
      | exact ih2 _ _ _ _ _ _ _ _ _ _ _
      | exact impl_AreLengths.mono _ _
      | exact impl_power.mono _ _ _
      | exact impl_sum.mono _ _
      | exact LeO.none _
      | refine LeO.ite ?_ ?_
      | refine LeO.bind ?_ (fun _ => ?_)
    · intro y0 y1 y2 y3 y4 y5 y6 y7 y8 y9 y10
      unfold impl_RankCounts.l1
      repeat' first
      | (with_reducible exact ih0 _ _ _)
      | (with_reducible exact ih1 _ _ _ _ _ _)
      | (with_reducible exact ih2 _ _ _ _ _ _ _ _ _ _ _)
      | (with_reducible exact impl_AreLengths.mono _ _)
      | (with_reducible exact impl_power.mono _ _ _)
      | (with_reducible exact impl_sum.mono _ _)
      | (with_reducible exact LeO.refl _)
      | (with_reducible exact LeO.none _)
      | (with_reducible refine LeO.ite ?_ ?_)
      | (with_reducible refine LeO.bind ?_ (fun _ => ?_))
      | exact ih0 _ _ _
      | exact ih1 _ _ _ _ _ _
      | exact ih2 _ _ _ _ _ _ _ _ _ _ _
      | exact impl_AreLengths.mono _ _
      | exact impl_power.mono _ _ _
      | exact impl_sum.mono _ _
      | exact LeO.none _
      | refine LeO.ite ?_ ?_
      | refine LeO.bind ?_ (fun _ => ?_)
theorem impl_RankCounts.mono : ∀ a0 a1 k, LeO (impl_RankCounts.f k a0 a1) (impl_RankCounts.f (k + 1) a0 a1) := by
  intro a0 a1 k
  obtain ⟨ih0, ih1, ih2⟩ := impl_RankCounts.mono_l k
  unfold impl_RankCounts.f
  repeat' first
      | (with_reducible exact ih0 _ _ _)
      | (with_reducible exact ih1 _ _ _ _ _ _)
      | (with_reducible exact ih2 _ _ _ _ _ _ _ _ _ _ _)
      | (with_reducible exact impl_AreLengths.mono _ _)
      | (with_reducible exact impl_power.mono _ _ _)
      | (with_reducible exact impl_sum.mono _ _)
      | (with_reducible exact LeO.refl _)
      | (with_reducible exact LeO.none _)
      | (with_reducible refine LeO.ite ?_ ?_)
      | (with_reducible refine LeO.bind ?_ (fun _ => ?_))
      | exact ih0 _ _ _
      | exact ih1 _ _ _ _ _ _
      | exact ih2 _ _ _ _ _ _ _ _ _ _ _
      | exact impl_AreLengths.mono _ _
      | exact impl_power.mono _ _ _
      | exact impl_sum.mono _ _
      | exact LeO.none _
      | refine LeO.ite ?_ ?_
      | refine LeO.bind ?_ (fun _ => ?_)
set_option maxHeartbeats 8000000 in
set_option maxRecDepth 100000 in
theorem impl_RankCounts.calls (k : Nat) (A0 : Option Addr) (c0 : Nat) (l0 : List Int) (a1 : Int) (r1 : List Int) (r2 : Bool) (w : World) (hr0 : Kd.C (Kd.int .i64) w A0 l0.length l0) (hc0 : l0.length ≤ c0) (h : impl_RankCounts.f k l0 a1 = some (r1, r2)) :
    Calls Try.prog 44 #[.slice A0 l0.length c0, .int .i64 a1] w fun e w' => ∃ v0_ : Value, e = .returned (.tuple #[v0_, .bool r2]) ∧ Kd.R (Kd.int .i64) 3 w' w.heap.size (fun _ => True) v0_ r1 ∧ Below w.heap.size w w' := by
  have HR0 := Aside0.mk hr0
  have HC0 := Aside0.mk hc0
  clear hr0 hc0
  have HB := Aside0.mk (Below.refl w.heap.size w)
  have H : ((impl_AreLengths.f k l0).bind fun t101 => (if t101 = true then ((impl_isQ.f a1).bind fun t102 => (if t102 = true then ((impl_sum.f k l0).bind fun t103 => (impl_RankCounts.j0 k l0 a1 (decide (t103 > 20)))) else (impl_RankCounts.j0 k l0 a1 true))) else (impl_RankCounts.j0 k l0 a1 true))) = some (r1, r2) := h
  clear h
  have HC3 := Aside0.mk H
  clear H
  go_enter Try.func44, Try.ntmps44
  go_upto_region 1 with (fail)
  go_cut [24] (fun v24 wc => ∃ (kq : Nat) (x24_2 : Bool), v24 = .bool x24_2 ∧ Aside0 (impl_RankCounts.j0 kq l0 a1 x24_2 = some (r1, r2)) ∧ Aside0 (kq ≤ k) ∧ Aside0 (Below w.heap.size w wc))
  case first =>
    have H := HC3.out
    clear HC3
    replace H := Option.bind_eq_some_iff.mp H
    obtain ⟨t101, A40, H⟩ := H
    replace H : (if t101 = true then ((impl_isQ.f a1).bind fun t102 => (if t102 = true then ((impl_sum.f k l0).bind fun t103 => (impl_RankCounts.j0 k l0 a1 (decide (t103 > 20)))) else (impl_RankCounts.j0 k l0 a1 true))) else (impl_RankCounts.j0 k l0 a1 true)) = some (r1, r2) := H
    have A4 := Aside0.mk A40
    clear A40
    by_cases c5 : t101 = true
    · subst c5
      have H1 : ((impl_isQ.f a1).bind fun t102 => (if t102 = true then ((impl_sum.f k l0).bind fun t103 => (impl_RankCounts.j0 k l0 a1 (decide (t103 > 20)))) else (impl_RankCounts.j0 k l0 a1 true))) = some (r1, r2) := by rw [if_pos rfl] at H; exact H
      clear H
      have H := H1
      clear H1
      replace H := Option.bind_eq_some_iff.mp H
      obtain ⟨t102, A60, H⟩ := H
      replace H : (if t102 = true then ((impl_sum.f k l0).bind fun t103 => (impl_RankCounts.j0 k l0 a1 (decide (t103 > 20)))) else (impl_RankCounts.j0 k l0 a1 true)) = some (r1, r2) := H
      have A6 := Aside0.mk A60
      clear A60
      by_cases c7 : t102 = true
      · subst c7
        have H1 : ((impl_sum.f k l0).bind fun t103 => (impl_RankCounts.j0 k l0 a1 (decide (t103 > 20)))) = some (r1, r2) := by rw [if_pos rfl] at H; exact H
        clear H
        have H := H1
        clear H1
        replace H := Option.bind_eq_some_iff.mp H
        obtain ⟨t103, A80, H⟩ := H
        replace H : (impl_RankCounts.j0 k l0 a1 (decide (t103 > 20))) = some (r1, r2) := H
        have A8 := Aside0.mk A80
        clear A80
        have H' := Aside0.mk H
        clear H
        go_wp2_with (first | ((with_reducible refine gate_callee (f := 65) rfl ?_); refine goesL_ (some 13) rfl rfl Try.func65 (by kernel_rfl) rfl #[.slice A0 l0.length c0] rfl (by (try simp only [List.map_toArray, List.map_cons, List.map_nil]); first | done | rfl | (simp only [List.length_drop, List.length_take]; rfl)) ?_; (with_reducible refine (impl_AreLengths.calls k _ _ l0 true _ ?side1 ?side2 A4.out).mono ?_); (case side1 => repeat (first | exact (Kd.C_below HR0.out HB.out) | (with_reducible refine Kd.C_alloc ?_ _) | (with_reducible refine Kd.C_drewN ?_ _) | (with_reducible refine Kd.C_drew ?_))); (case side2 => exact HC0.out); rintro e w' ⟨rfl, ⟨nd, rfl⟩⟩; refine ⟨_, rfl, ?_⟩) | (go_at_call 66; (with_reducible refine (impl_isQ.calls a1 true _ A6.out).mono ?_); rintro e w' ⟨rfl, ⟨nd, rfl⟩⟩) | (go_at_call 89; (with_reducible refine (impl_sum.calls k _ _ l0 t103 _ ?side1 ?side2 A8.out).mono ?_); (case side1 => repeat (first | exact (Kd.C_below HR0.out (by repeat (first | (with_reducible first | exact HB.out | apply below_alloc | apply pw_below_drewN | apply below_drew1) | exact HB.out))) | (with_reducible refine Kd.C_alloc ?_ _) | (with_reducible refine Kd.C_drewN ?_ _) | (with_reducible refine Kd.C_drew ?_))); (case side2 => exact HC0.out); rintro e w' ⟨rfl, ⟨nd, rfl⟩⟩))
        go_meet
        case rel => exact ⟨_, (decide (t103 > 20)), (by first | rfl | (simp; done) | (simp [*]; done)), H', ⟨by first | omega | exact Nat.le_refl _⟩, ⟨by repeat (first | (with_reducible first | exact HB.out | apply below_alloc | apply pw_below_drewN | apply below_drew1) | exact HB.out)⟩⟩
      · replace c7 := Bool.eq_false_iff.mpr c7
        subst c7
        have H1 : (impl_RankCounts.j0 k l0 a1 true) = some (r1, r2) := by rw [if_neg (show ¬ (false = true) by decide)] at H; exact H
        clear H
        have H := H1
        clear H1
        have H' := Aside0.mk H
        clear H
        go_wp2_with (first | ((with_reducible refine gate_callee (f := 65) rfl ?_); refine goesL_ (some 13) rfl rfl Try.func65 (by kernel_rfl) rfl #[.slice A0 l0.length c0] rfl (by (try simp only [List.map_toArray, List.map_cons, List.map_nil]); first | done | rfl | (simp only [List.length_drop, List.length_take]; rfl)) ?_; (with_reducible refine (impl_AreLengths.calls k _ _ l0 true _ ?side1 ?side2 A4.out).mono ?_); (case side1 => repeat (first | exact (Kd.C_below HR0.out HB.out) | (with_reducible refine Kd.C_alloc ?_ _) | (with_reducible refine Kd.C_drewN ?_ _) | (with_reducible refine Kd.C_drew ?_))); (case side2 => exact HC0.out); rintro e w' ⟨rfl, ⟨nd, rfl⟩⟩; refine ⟨_, rfl, ?_⟩) | (go_at_call 66; (with_reducible refine (impl_isQ.calls a1 false _ A6.out).mono ?_); rintro e w' ⟨rfl, ⟨nd, rfl⟩⟩))
        go_meet
        case rel => exact ⟨_, (true), (by first | rfl | (simp; done) | (simp [*]; done)), H', ⟨by first | omega | exact Nat.le_refl _⟩, ⟨by repeat (first | (with_reducible first | exact HB.out | apply below_alloc | apply pw_below_drewN | apply below_drew1) | exact HB.out)⟩⟩
    · replace c5 := Bool.eq_false_iff.mpr c5
      subst c5
      have H1 : (impl_RankCounts.j0 k l0 a1 true) = some (r1, r2) := by rw [if_neg (show ¬ (false = true) by decide)] at H; exact H
      clear H
      have H := H1
      clear H1
      have H' := Aside0.mk H
      clear H
      go_wp2_with (first | ((with_reducible refine gate_callee (f := 65) rfl ?_); refine goesL_ (some 13) rfl rfl Try.func65 (by kernel_rfl) rfl #[.slice A0 l0.length c0] rfl (by (try simp only [List.map_toArray, List.map_cons, List.map_nil]); first | done | rfl | (simp only [List.length_drop, List.length_take]; rfl)) ?_; (with_reducible refine (impl_AreLengths.calls k _ _ l0 false _ ?side1 ?side2 A4.out).mono ?_); (case side1 => repeat (first | exact (Kd.C_below HR0.out HB.out) | (with_reducible refine Kd.C_alloc ?_ _) | (with_reducible refine Kd.C_drewN ?_ _) | (with_reducible refine Kd.C_drew ?_))); (case side2 => exact HC0.out); rintro e w' ⟨rfl, ⟨nd, rfl⟩⟩; refine ⟨_, rfl, ?_⟩))
      go_meet
      case rel => exact ⟨_, (true), (by first | rfl | (simp; done) | (simp [*]; done)), H', ⟨by first | omega | exact Nat.le_refl _⟩, ⟨by repeat (first | (with_reducible first | exact HB.out | apply below_alloc | apply pw_below_drewN | apply below_drew1) | exact HB.out)⟩⟩
  case rest =>
    clear HC3
    try clear p2
    try clear c4
    try clear c5
    try clear c6
    try clear c7
    obtain ⟨kq, x24_2, rfl, HA, HJ2, HB⟩ := hcut
    cases kq with
    | zero => exact absurd HA.out (by simp [impl_RankCounts.j0])
    | succ kj2 =>
      have H := HA.out
      clear HA
      simp only [impl_RankCounts.j0] at H
      by_cases c9 : x24_2 = true
      · subst c9
        have H1 : (some (([] : List Int), false)) = some (r1, r2) := by rw [if_pos rfl] at H; exact H
        clear H
        have H := H1
        clear H1
        simp only [Option.some.injEq, Prod.mk.injEq] at H
        obtain ⟨rfl, rfl⟩ := H
        go_wp2
        go_ret2
        exact ⟨_, by first | rfl | (simp [errW_none, errW_some] <;> rfl) | (simp [*, errW_none, errW_some] <;> rfl), by first | exact Kd.R_nil _ _ _ _ _ | exact Kd.N_nil _ _ _ _ _ | exact Kd.V_nil _ _ _ _ _ | exact Kd.Q_nil _ _ _ _ _ | exact Kd.S_nil _ _ _ _ _, by repeat (first | (with_reducible first | exact HB.out | apply below_alloc | apply pw_below_drewN | apply below_drew1) | exact HB.out)⟩
      · replace c9 := Bool.eq_false_iff.mpr c9
        subst c9
        have H1 : ((impl_weights.f l0).bind fun t107 => (impl_RankCounts.l0 kj2 l0 a1 (([] : List Int)) t107 (t107.length : Int) 0)) = some (r1, r2) := by rw [if_neg (show ¬ (false = true) by decide)] at H; exact H
        clear H
        have H := H1
        clear H1
        obtain ⟨y104, hy104⟩ : ∃ y_ : List Int, y_ = (([] : List Int)) := ⟨_, rfl⟩
        replace H : ((impl_weights.f l0).bind fun t107 => (impl_RankCounts.l0 kj2 l0 a1 y104 t107 (t107.length : Int) 0)) = some (r1, r2) := by first | (rw [hy104]; with_reducible exact H) | (have H2_ := (Option.bind_some _ _).symm.trans H; rw [hy104]; with_reducible exact H2_) | (have H2_ := (Option.bind_some _ _).symm.trans H; with_reducible exact H2_) | with_reducible exact H | (rw [hy104]; exact H) | exact H
        have Ny104 := Aside0.mk hy104
        clear hy104
        replace H := Option.bind_eq_some_iff.mp H
        obtain ⟨t107, A100, H⟩ := H
        replace H : (impl_RankCounts.l0 kj2 l0 a1 y104 t107 (t107.length : Int) 0) = some (r1, r2) := H
        have A10 := Aside0.mk A100
        clear A100
        have H' := Aside0.mk H
        clear H
        go_wp2_with (first | ((with_reducible refine gate_dst (N := 25) rfl ?_); refine Kd.R_lit (Kd.int .i64) _ 3 ?hg (N := 25) ?hd (xs := ([] : List Int)) (inner := []) (ok := fun _ => True) (okp := fun _ => True) ?hr ?hp (fun _ hk => hk) trivial (Below.refl _ _) (Nat.le_refl _) (by simp) ?_; (case hd => rfl); (case hg => rfl); (case hr => first | (go_simp; done) | (go_simp; rfl)); (case hp => exact (Reps.none _ _)); intro v105 w11 ho12 hb hg_ hnew_; clear hg_ hnew_; (first | rw [← Ny104.out] at ho12 | (simp only [Int.reduceToNat] at ho12; rw [← Ny104.out] at ho12)); have n0_ := Aside0.mk (Kd.R_lower ho12 (below_size (by repeat (first | (with_reducible first | exact HB.out | apply below_alloc | apply pw_below_drewN | apply below_drew1) | exact HB.out)))); have n1_ := Aside0.mk (below_step (by repeat (first | (with_reducible first | exact HB.out | apply below_alloc | apply pw_below_drewN | apply below_drew1) | exact HB.out)) hb); clear HB; have HO106 := n0_; have HB := n1_; clear n0_ n1_; clear hb ho12) | ((with_reducible refine gate_callee (f := 82) rfl ?_); refine goesL_ (some 27) rfl rfl Try.func82 (by kernel_rfl) rfl #[.slice A0 l0.length c0] rfl (by (try simp only [List.map_toArray, List.map_cons, List.map_nil]); first | done | rfl | (simp only [List.length_drop, List.length_take]; rfl)) ?_; (with_reducible refine (impl_weights.calls _ _ l0 t107 _ ?side1 ?side2 A10.out).mono ?_); (case side1 => repeat (first | exact (Kd.C_below HR0.out HB.out) | (with_reducible refine Kd.C_alloc ?_ _) | (with_reducible refine Kd.C_drewN ?_ _) | (with_reducible refine Kd.C_drew ?_))); (case side2 => exact HC0.out); rintro e w13 ⟨v108, rfl, ho0, hb⟩; refine ⟨_, rfl, ?_⟩; have n0_ := Aside0.mk (Kd.R_below (by (with_reducible repeat (first | apply Kd.R_alloc | apply Kd.R_drewN | apply Kd.R_drew)); exact HO106.out) hb); have n1_ := Aside0.mk (Kd.S_lower (Kd.S_new' ho0 (Kd.R_lt (by (with_reducible repeat (first | apply Kd.R_alloc | apply Kd.R_drewN | apply Kd.R_drew)); exact HO106.out))) (below_size (by repeat (first | (with_reducible first | exact HB.out | apply below_alloc | apply pw_below_drewN | apply below_drew1) | exact HB.out)))); have n2_ := Aside0.mk (below_step (by repeat (first | (with_reducible first | exact HB.out | apply below_alloc | apply pw_below_drewN | apply below_drew1) | exact HB.out)) hb); clear HO106; clear HB; have HO106 := n0_; have HO109 := n1_; have HB := n2_; clear n0_ n1_ n2_; (try clear hb); (try clear hb2); (try clear hk); (try clear hi); (try clear ho0); obtain ⟨Ao14, co14, eo14⟩ := Kd.S_slice HO109.out; subst eo14))
        go_loopg [6, 29] kj2 (fun kq v6 v29 w' => ∃ (x6_2 : List Int) (x29_2 : Int), v29 = .int .i64 x29_2 ∧ Aside0 (impl_RankCounts.l0 kq l0 a1 x6_2 t107 (t107.length : Int) x29_2 = some (r1, r2)) ∧ Aside0 (kq ≤ kj2) ∧ Aside0 (Kd.R (Kd.int .i64) 3 w' w.heap.size (fun _ => True) v6 x6_2) ∧ Aside0 (Kd.S (Kd.slice 3 (Kd.int .i64)) 22 w' w.heap.size (fun k_ => some k_ ≠ (v6 : Value).ownBlock) (.slice Ao14 t107.length co14) t107) ∧ Aside0 (Below w.heap.size w w'))
        case atStart => exact ⟨(y104), (0), (by first | rfl | (simp; done) | (simp [*]; done)), H', ⟨Nat.le_refl _⟩, ⟨by (with_reducible repeat (first | apply Kd.R_alloc | apply Kd.R_drewN | apply Kd.R_drew)); exact HO106.out⟩, ⟨by (with_reducible repeat (first | apply Kd.S_alloc | apply Kd.S_drewN | apply Kd.S_drew)); exact Kd.S_mono HO109.out (fun _ hk => hk.2)⟩, ⟨by repeat (first | (with_reducible first | exact HB.out | apply below_alloc | apply pw_below_drewN | apply below_drew1) | exact HB.out)⟩⟩
        case round =>
          clear H'
          try clear p2
          try clear c4
          try clear c5
          try clear c6
          try clear c7
          try clear c8
          try clear c9
          try clear p2
          obtain ⟨x6_2, x29_2, rfl, HA, HK2, HO_6, HO_27, HB⟩ := hrel
          cases gk with
          | zero => exact absurd HA.out (by simp [impl_RankCounts.l0])
          | succ k2 =>
            have H := HA.out
            clear HA
            simp only [impl_RankCounts.l0] at H
            by_cases c15 : x29_2 < (t107.length : Int)
            · rw [if_pos c15] at H
              have c15b0 : decide (x29_2 < (t107.length : Int)) = true := decide_eq_true c15
              clear c15
              by_cases c16 : 0 ≤ x29_2
              · rw [if_pos c16] at H
                have c16b0 : decide (0 ≤ x29_2) = true := decide_eq_true c16
                clear c16
                by_cases c17 : x29_2 < (t107.length : Int)
                · rw [if_pos c17] at H
                  have c17b0 : decide (x29_2 < (t107.length : Int)) = true := decide_eq_true c17
                  clear c17
                  have H' := Aside0.mk H
                  clear H
                  have p110 : 0 ≤ (x29_2 : Int) := of_decide_eq_true (by first | (with_reducible assumption) | assumption)
                  have q110 : x29_2 < (t107.length : Int) := of_decide_eq_true (by first | (with_reducible assumption) | assumption)
                  obtain ⟨ad110, A110_0, c110_0, e110, hx110_0, hl110_0, hi110_0⟩ := at_L1 (Kd.S_reads' HO_27.out).2.2 x29_2 p110 q110
                  cases e110
                  obtain ⟨ce110, hce110, hMe110, hcc110⟩ := Kd.S_get HO_27.out [] x29_2 p110 (by first | exact q110 | exact of_decide_eq_true (by first | (with_reducible assumption) | assumption) | (have e_ := (Kd.S_reads' HO_27.out).1; omega))
                  obtain ⟨ve110_0, rfl, ge110_0⟩ := hMe110
                  have hv110_0 := hcc110 0 _ rfl
                  rw [Nat.add_zero, show ((Kd.slice 3 (Kd.int .i64))).sz = 1 from rfl, Nat.mul_one] at hv110_0
                  replace hv110_0 := Option.some.inj (hv110_0.symm.trans hx110_0)
                  rw [hv110_0] at ge110_0
                  have HL110_0 := Aside0.mk (show Kd.R (Kd.int .i64) 3 _ _ _ _ (rd_L1 t107 x29_2) from ge110_0)
                  clear hv110_0 ge110_0
                  clear hcc110 hce110
                  have HR110_0 := Aside0.mk hi110_0
                  have HC110_0 := Aside0.mk hl110_0
                  clear hi110_0 hl110_0
                  replace p110 := eq_true p110
                  replace q110 := eq_true q110
                  go_wp2
                  go_loopg [9, 36] k2 (fun kq v9 v36 w' => ∃ (x9_3 : Int) (x36_3 : Int), v9 = .int .i64 x9_3 ∧ v36 = .int .i64 x36_3 ∧ Aside0 (impl_RankCounts.l1 kq l0 a1 x6_2 x29_2 x9_3 t107 (t107.length : Int) x29_2 (rd_L1 t107 x29_2) ((rd_L1 t107 x29_2).length : Int) x36_3 = some (r1, r2)) ∧ Aside0 (kq ≤ k2) ∧ Aside0 (Kd.R (Kd.int .i64) 3 w' w.heap.size (fun _ => True) u6 x6_2) ∧ Aside0 (Kd.S (Kd.slice 3 (Kd.int .i64)) 22 w' w.heap.size (fun k_ => some k_ ≠ (u6 : Value).ownBlock) (.slice (some ad110) t107.length co14) t107) ∧ Aside0 (Kd.C (Kd.int .i64) w' A110_0 (rd_L1 t107 x29_2).length (rd_L1 t107 x29_2)) ∧ Aside0 (Below w.heap.size w w'))
                  case atStart => exact ⟨(0), (0), (by first | rfl | (simp; done) | (simp [*]; done)), (by first | rfl | (simp; done) | (simp [*]; done)), H', ⟨Nat.le_refl _⟩, ⟨by (with_reducible repeat (first | apply Kd.R_alloc | apply Kd.R_drewN | apply Kd.R_drew)); exact HO_6.out⟩, ⟨by (with_reducible repeat (first | apply Kd.S_alloc | apply Kd.S_drewN | apply Kd.S_drew)); exact HO_27.out⟩, ⟨by repeat (first | (with_reducible exact HR110_0.out) | (with_reducible refine Kd.C_alloc ?_ _) | (with_reducible refine Kd.C_drewN ?_ _) | (with_reducible refine Kd.C_drew ?_) | exact HR110_0.out)⟩, ⟨by repeat (first | (with_reducible first | exact HB.out | apply below_alloc | apply pw_below_drewN | apply below_drew1) | exact HB.out)⟩⟩
                  case round =>
                    clear H'
                    try clear c1
                    try clear p1
                    try clear q1
                    try clear hx1
                    try clear p2
                    try clear c4
                    try clear c5
                    try clear c6
                    try clear c7
                    try clear c8
                    try clear c9
                    try clear c11
                    try clear p11
                    try clear q11
                    try clear hx11
                    try clear c15
                    try clear c15b0
                    try clear c16
                    try clear c16b0
                    try clear c17
                    try clear c17b0
                    try clear hx110_0
                    try clear p110
                    try clear p2
                    try clear q110
                    obtain ⟨x9_3, x36_3, rfl, rfl, HA, HK3, HO_6, HO_27, HR110_0, HB⟩ := hrel
                    cases gk with
                    | zero => exact absurd HA.out (by simp [impl_RankCounts.l1])
                    | succ k3 =>
                      have H := HA.out
                      clear HA
                      simp only [impl_RankCounts.l1] at H
                      by_cases c18 : x36_3 < ((rd_L1 t107 x29_2).length : Int)
                      · rw [if_pos c18] at H
                        have c18b0 : decide (x36_3 < ((rd_L1 t107 x29_2).length : Int)) = true := decide_eq_true c18
                        clear c18
                        by_cases c19 : 0 ≤ x36_3
                        · rw [if_pos c19] at H
                          have c19b0 : decide (0 ≤ x36_3) = true := decide_eq_true c19
                          clear c19
                          by_cases c20 : x36_3 < ((rd_L1 t107 x29_2).length : Int)
                          · rw [if_pos c20] at H
                            have c20b0 : decide (x36_3 < ((rd_L1 t107 x29_2).length : Int)) = true := decide_eq_true c20
                            clear c20
                            by_cases c21 : (rd (rd_L1 t107 x29_2) x36_3) > 0
                            · rw [if_pos c21] at H
                              have c21b0 : decide (0 < (rd (rd_L1 t107 x29_2) x36_3)) = true := decide_eq_true c21
                              clear c21
                              replace H := Option.bind_eq_some_iff.mp H
                              obtain ⟨t116, A220, H⟩ := H
                              replace H : ((impl_power.f k3 a1 (wrap64 ((wrap64 (t116 - x29_2)) - x36_3))).bind fun t117 => (impl_RankCounts.l1 k3 l0 a1 x6_2 x29_2 (wrap64 (x9_3 + (wrap64 ((rd (rd_L1 t107 x29_2) x36_3) * t117)))) t107 (t107.length : Int) x29_2 (rd_L1 t107 x29_2) ((rd_L1 t107 x29_2).length : Int) (wrap64 (x36_3 + 1)))) = some (r1, r2) := H
                              have A22 := Aside0.mk A220
                              clear A220
                              replace H := Option.bind_eq_some_iff.mp H
                              obtain ⟨t117, A230, H⟩ := H
                              replace H : (impl_RankCounts.l1 k3 l0 a1 x6_2 x29_2 (wrap64 (x9_3 + (wrap64 ((rd (rd_L1 t107 x29_2) x36_3) * t117)))) t107 (t107.length : Int) x29_2 (rd_L1 t107 x29_2) ((rd_L1 t107 x29_2).length : Int) (wrap64 (x36_3 + 1))) = some (r1, r2) := H
                              have A23 := Aside0.mk A230
                              clear A230
                              have H' := Aside0.mk H
                              clear H
                              have p115 : 0 ≤ (x36_3 : Int) := of_decide_eq_true (by first | (with_reducible assumption) | assumption)
                              have q115 : x36_3 < ((rd_L1 t107 x29_2).length : Int) := of_decide_eq_true (by first | (with_reducible assumption) | assumption)
                              obtain ⟨ad115, e115, hx115_0⟩ := Kd.at_int HR110_0.out x36_3 p115 q115
                              cases e115
                              (try replace hx115_0 := (HB.out.cell (World.block_lt_of_cell? w _ hx115_0)).trans hx115_0)
                              replace p115 := eq_true p115
                              replace q115 := eq_true q115
                              go_wp2_with (first | ((with_reducible refine gate_callee (f := 89) rfl ?_); refine goesL_ (some 47) rfl rfl Try.func89 (by kernel_rfl) rfl #[.slice A0 l0.length c0] rfl (by (try simp only [List.map_toArray, List.map_cons, List.map_nil]); first | done | rfl | (simp only [List.length_drop, List.length_take]; rfl)) ?_; (with_reducible refine (impl_sum.calls k3 _ _ l0 t116 _ ?side1 ?side2 A22.out).mono ?_); (case side1 => repeat (first | exact (Kd.C_below HR0.out HB.out) | (with_reducible refine Kd.C_alloc ?_ _) | (with_reducible refine Kd.C_drewN ?_ _) | (with_reducible refine Kd.C_drew ?_))); (case side2 => exact HC0.out); rintro e w' ⟨rfl, ⟨nd, rfl⟩⟩; refine ⟨_, rfl, ?_⟩) | ((with_reducible refine gate_callee (f := 90) rfl ?_); refine goesL_ (some 52) rfl rfl Try.func90 (by kernel_rfl) rfl #[.int .i64 a1, .int .i64 (wrap64 ((wrap64 (t116 - x29_2)) - x36_3))] rfl (by (try simp only [List.map_toArray, List.map_cons, List.map_nil]); first | done | rfl | (simp only [List.length_drop, List.length_take]; rfl)) ?_; (with_reducible refine (impl_power.calls k3 a1 (wrap64 ((wrap64 (t116 - x29_2)) - x36_3)) t117 _ A23.out).mono ?_); rintro e w' ⟨rfl, ⟨nd, rfl⟩⟩; refine ⟨_, rfl, ?_⟩))
                              go_roundg k3
                              case measure => have := HJ2.out; have := HK2.out; have := HK3.out; omega
                              case rel => exact ⟨(wrap64 (x9_3 + (wrap64 ((rd (rd_L1 t107 x29_2) x36_3) * t117)))), (wrap64 (x36_3 + 1)), (by first | rfl | (simp; done) | (simp [*]; done)), (by first | rfl | (simp; done) | (simp [*]; done)), H', ⟨by have := HJ2.out; have := HK2.out; have := HK3.out; omega⟩, ⟨by (with_reducible repeat (first | apply Kd.R_alloc | apply Kd.R_drewN | apply Kd.R_drew)); exact HO_6.out⟩, ⟨by (with_reducible repeat (first | apply Kd.S_alloc | apply Kd.S_drewN | apply Kd.S_drew)); exact HO_27.out⟩, ⟨by repeat (first | (with_reducible exact HR110_0.out) | (with_reducible refine Kd.C_alloc ?_ _) | (with_reducible refine Kd.C_drewN ?_ _) | (with_reducible refine Kd.C_drew ?_) | exact HR110_0.out)⟩, ⟨by repeat (first | (with_reducible first | exact HB.out | apply below_alloc | apply pw_below_drewN | apply below_drew1) | exact HB.out)⟩⟩
                            · rw [if_neg c21] at H
                              have c21b0 : decide (0 < (rd (rd_L1 t107 x29_2) x36_3)) = false := decide_eq_false c21
                              clear c21
                              have H' := Aside0.mk H
                              clear H
                              have p115 : 0 ≤ (x36_3 : Int) := of_decide_eq_true (by first | (with_reducible assumption) | assumption)
                              have q115 : x36_3 < ((rd_L1 t107 x29_2).length : Int) := of_decide_eq_true (by first | (with_reducible assumption) | assumption)
                              obtain ⟨ad115, e115, hx115_0⟩ := Kd.at_int HR110_0.out x36_3 p115 q115
                              cases e115
                              (try replace hx115_0 := (HB.out.cell (World.block_lt_of_cell? w _ hx115_0)).trans hx115_0)
                              replace p115 := eq_true p115
                              replace q115 := eq_true q115
                              go_wp2
                              go_roundg k3
                              case measure => have := HJ2.out; have := HK2.out; have := HK3.out; omega
                              case rel => exact ⟨(x9_3), (wrap64 (x36_3 + 1)), (by first | rfl | (simp; done) | (simp [*]; done)), (by first | rfl | (simp; done) | (simp [*]; done)), H', ⟨by have := HJ2.out; have := HK2.out; have := HK3.out; omega⟩, ⟨by (with_reducible repeat (first | apply Kd.R_alloc | apply Kd.R_drewN | apply Kd.R_drew)); exact HO_6.out⟩, ⟨by (with_reducible repeat (first | apply Kd.S_alloc | apply Kd.S_drewN | apply Kd.S_drew)); exact HO_27.out⟩, ⟨by repeat (first | (with_reducible exact HR110_0.out) | (with_reducible refine Kd.C_alloc ?_ _) | (with_reducible refine Kd.C_drewN ?_ _) | (with_reducible refine Kd.C_drew ?_) | exact HR110_0.out)⟩, ⟨by repeat (first | (with_reducible first | exact HB.out | apply below_alloc | apply pw_below_drewN | apply below_drew1) | exact HB.out)⟩⟩
                          · rw [if_neg c20] at H
                            exact absurd H (by simp)
                        · rw [if_neg c19] at H
                          exact absurd H (by simp)
                      · rw [if_neg c18] at H
                        have c18b0 : decide (x36_3 < ((rd_L1 t107 x29_2).length : Int)) = false := decide_eq_false c18
                        clear c18
                        replace H := Option.bind_eq_some_iff.mp H
                        obtain ⟨t111, A240, H⟩ := H
                        replace H : (if x6_2.length < 17592186044416 then (impl_RankCounts.l0 k3 l0 a1 (x6_2 ++ [wrap64 (x9_3 * t111)]) t107 (t107.length : Int) (wrap64 (x29_2 + 1))) else (none)) = some (r1, r2) := H
                        have A24 := Aside0.mk A240
                        clear A240
                        by_cases c25 : x6_2.length < 17592186044416
                        · rw [if_pos c25] at H
                          have LMc25 := Aside0.mk c25
                          clear c25
                          obtain ⟨y112, hy112⟩ : ∃ y_ : List Int, y_ = (x6_2 ++ [wrap64 (x9_3 * t111)]) := ⟨_, rfl⟩
                          replace H : (impl_RankCounts.l0 k3 l0 a1 y112 t107 (t107.length : Int) (wrap64 (x29_2 + 1))) = some (r1, r2) := by first | (rw [hy112]; with_reducible exact H) | (have H2_ := (Option.bind_some _ _).symm.trans H; rw [hy112]; with_reducible exact H2_) | (have H2_ := (Option.bind_some _ _).symm.trans H; with_reducible exact H2_) | with_reducible exact H | (rw [hy112]; exact H) | exact H
                          have Ny112 := Aside0.mk hy112
                          clear hy112
                          have H' := Aside0.mk H
                          clear H
                          go_wp2_with (first | ((with_reducible refine gate_callee (f := 90) rfl ?_); refine goesL_ (some 61) rfl rfl Try.func90 (by kernel_rfl) rfl #[.int .i64 (wrap64 (a1 - 1)), .int .i64 x29_2] rfl (by (try simp only [List.map_toArray, List.map_cons, List.map_nil]); first | done | rfl | (simp only [List.length_drop, List.length_take]; rfl)) ?_; (with_reducible refine (impl_power.calls k3 (wrap64 (a1 - 1)) x29_2 t111 _ A24.out).mono ?_); rintro e w' ⟨rfl, ⟨nd, rfl⟩⟩; refine ⟨_, rfl, ?_⟩) | ((with_reducible refine gate_builtin (b := .append) (xs := #[.tmp 56, .tmp 63]) rfl ?_); at_builtin; refine Kd.R_append (Kd.int .i64) (w0 := w) w.heap.size rfl (.tmp 56) (.tmp 63) 22 3 (.int .i64 0) 8 rfl Try.underlying22 info3 rfl (by decide) (by omega) u6 x6_2 (wrap64 (x9_3 * t111)) [.int .i64 (wrap64 (x9_3 * t111))] (fun _ => True) (fun _ => False) rfl rfl ?aP (fun _ hk => hk.elim) ?aF ?aO ?aB ?aS ?aL ?_; (case aP => exact rfl); (case aB => exact (by repeat (first | (with_reducible first | exact HB.out | apply below_alloc | apply pw_below_drewN | apply below_drew1) | exact HB.out))); (case aF => exact (fun _ _ => trivial)); (case aO => exact (by (with_reducible repeat (first | apply Kd.R_alloc | apply Kd.R_drewN | apply Kd.R_drew)); exact HO_6.out)); (case aS => exact (below_size (by repeat (first | (with_reducible first | exact HB.out | apply below_alloc | apply pw_below_drewN | apply below_drew1) | exact HB.out)))); (case aL => have := LMc25.out; omega); intro v113 w26 ho hb hg hat; rw [← Ny112.out] at ho; have n0_ := Aside0.mk (Kd.S_after (ok := (fun _ => True)) (by (with_reducible repeat (first | apply Kd.S_alloc | apply Kd.S_drewN | apply Kd.S_drew)); exact Kd.S_mono HO_27.out (fun _ hk => ⟨trivial, hk⟩)) hg hat); have n1_ := Aside0.mk (hb); have n2_ := Aside0.mk (ho); clear HO_27; clear HB; clear HO_6; have HO_27 := n0_; have HB := n1_; have HO114 := n2_; clear n0_ n1_ n2_; clear ho hb hg hat))
                          go_roundg k3
                          case measure => have := HJ2.out; have := HK2.out; have := HK3.out; omega
                          case rel => exact ⟨(y112), (wrap64 (x29_2 + 1)), (by first | rfl | (simp; done) | (simp [*]; done)), H', ⟨by have := HJ2.out; have := HK2.out; have := HK3.out; omega⟩, ⟨by (with_reducible repeat (first | apply Kd.R_alloc | apply Kd.R_drewN | apply Kd.R_drew)); exact HO114.out⟩, ⟨by (with_reducible repeat (first | apply Kd.S_alloc | apply Kd.S_drewN | apply Kd.S_drew)); exact Kd.S_mono HO_27.out (fun _ hk => hk.2)⟩, ⟨by repeat (first | (with_reducible first | exact HB.out | apply below_alloc | apply pw_below_drewN | apply below_drew1) | exact HB.out)⟩⟩
                        · rw [if_neg c25] at H
                          exact absurd H (by simp)
                · rw [if_neg c17] at H
                  exact absurd H (by simp)
              · rw [if_neg c16] at H
                exact absurd H (by simp)
            · rw [if_neg c15] at H
              have c15b0 : decide (x29_2 < (t107.length : Int)) = false := decide_eq_false c15
              clear c15
              simp only [Option.some.injEq, Prod.mk.injEq] at H
              obtain ⟨rfl, rfl⟩ := H
              go_wp2
              go_ret2
              exact ⟨_, by first | rfl | (simp [errW_none, errW_some] <;> rfl) | (simp [*, errW_none, errW_some] <;> rfl), by (with_reducible repeat (first | apply Kd.R_alloc | apply Kd.R_drewN | apply Kd.R_drew)); exact HO_6.out, by repeat (first | (with_reducible first | exact HB.out | apply below_alloc | apply pw_below_drewN | apply below_drew1) | exact HB.out)⟩

end Go.Proofs.Ytlhblnphfpijkaa.Q
end
section
namespace Go.Proofs.Ytlhblnphfpijkaa.Q
open Go.RowKit Go.Proofs.YtlhblnphfpijkaaW.PrintWords Go.Proofs.YtlhblnphfpijkaaW.PrintLast Go.Proofs.YtlhblnphfpijkaaW.PrintMore
attribute [local go_sem] max2_int min2_int max_two min_two max_three min_three max_four min_four   -- for this text's walks alone
set_option linter.unusedVariables false
set_option linter.unusedSimpArgs false

/-! ### laws_FnExactRankCounts: function 12 -/
mutual
def laws_FnExactRankCounts.j0 : Nat → List Int → Int → List Int → Bool → List Int → List Int → Bool → Bool → Option (Bool)
  | 0, _, _, _, _, _, _, _, _ => none
  | k + 1, x0, x1, x5, x6, x7, x8, x9, x41 => if x41 = true then (some false) else ((laws_toIntS.f k x0).bind fun t116 => ((laws_eqIntS.f k x7 t116).bind fun t119 => (if t119 = true then ((laws_markIntS.f k x7 1).bind fun bt120 => (if bt120.1 < 0 then (laws_FnExactRankCounts.j1 k x0 x1 x5 x6 x8 true) else ((laws_eqIntS.f k x8 x5).bind fun t122 => (if t122 = true then (laws_FnExactRankCounts.j1 k x0 x1 x5 x6 x8 (x9 != x6)) else (laws_FnExactRankCounts.j1 k x0 x1 x5 x6 x8 true))))) else (some false))))
def laws_FnExactRankCounts.j1 : Nat → List Int → Int → List Int → Bool → List Int → Bool → Option (Bool)
  | 0, _, _, _, _, _, _ => none
  | k + 1, x0, x1, x5, x6, x8, x62 => if x62 = true then (some false) else ((laws_markIntS.f k x8 1).bind fun bt123 => ((laws_heldIntS.f k bt123.2 1).bind fun t125 => (if t125 < 0 then (some false) else (if t125 = bt123.1 then ((laws_toIntS.f k x0).bind fun t126 => ((impl_RankCounts.f k t126 x1).bind fun bt129 => ((laws_eqIntS.f k bt129.1 x5).bind fun t133 => (if t133 = true then (laws_FnExactRankCounts.j2 k bt123.2 bt123.1 (bt129.2 != x6)) else (laws_FnExactRankCounts.j2 k bt123.2 bt123.1 true))))) else (some false)))))
def laws_FnExactRankCounts.j2 : Nat → List Int → Int → Bool → Option (Bool)
  | 0, _, _, _ => none
  | k + 1, x8, x11, x89 => if x89 = true then (some false) else ((laws_heldIntS.f k x8 1).bind fun t134 => (if t134 < 0 then (some false) else (if t134 = x11 then (some true) else (some false))))
end
def laws_FnExactRankCounts.f (k : Nat) (l0 : List Int) (a1 : Int) : Option (Bool) := if (l0.length : Int) > 1048576 then (some true) else ((laws_toIntS.f k l0).bind fun t101 => ((spec_RankCounts.f k t101 a1).bind fun bt104 => ((laws_toIntS.f k l0).bind fun t108 => ((impl_RankCounts.f k t108 a1).bind fun bt111 => ((laws_eqIntS.f k bt111.1 bt104.1).bind fun t115 => (if t115 = true then (laws_FnExactRankCounts.j0 k l0 a1 bt104.1 bt104.2 t108 bt111.1 bt111.2 (bt111.2 != bt104.2)) else (laws_FnExactRankCounts.j0 k l0 a1 bt104.1 bt104.2 t108 bt111.1 bt111.2 true)))))))
theorem laws_FnExactRankCounts.mono_l : ∀ k, (∀ y0 y1 y2 y3 y4 y5 y6 y7, LeO (laws_FnExactRankCounts.j0 k y0 y1 y2 y3 y4 y5 y6 y7) (laws_FnExactRankCounts.j0 (k + 1) y0 y1 y2 y3 y4 y5 y6 y7)) ∧ (∀ y0 y1 y2 y3 y4 y5, LeO (laws_FnExactRankCounts.j1 k y0 y1 y2 y3 y4 y5) (laws_FnExactRankCounts.j1 (k + 1) y0 y1 y2 y3 y4 y5)) ∧ (∀ y0 y1 y2, LeO (laws_FnExactRankCounts.j2 k y0 y1 y2) (laws_FnExactRankCounts.j2 (k + 1) y0 y1 y2))
  | 0 => ⟨fun _ _ _ _ _ _ _ _ r h => by simp [laws_FnExactRankCounts.j0] at h, fun _ _ _ _ _ _ r h => by simp [laws_FnExactRankCounts.j1] at h, fun _ _ _ r h => by simp [laws_FnExactRankCounts.j2] at h⟩
  | k + 1 => by
    obtain ⟨ih0, ih1, ih2⟩ := laws_FnExactRankCounts.mono_l k
    refine ⟨?_, ?_, ?_⟩
    · intro y0 y1 y2 y3 y4 y5 y6 y7
      unfold laws_FnExactRankCounts.j0
      repeat' first
      | (with_reducible exact ih0 _ _ _ _ _ _ _ _)
      | (with_reducible exact ih1 _ _ _ _ _ _)
      | (with_reducible exact ih2 _ _ _)
      | (with_reducible exact impl_RankCounts.mono _ _ _)
      | (with_reducible exact laws_eqIntS.mono _ _ _)
      | (with_reducible exact laws_heldIntS.mono _ _ _)
      | (with_reducible exact laws_markIntS.mono _ _ _)
      | (with_reducible exact laws_toIntS.mono _ _)
      | (with_reducible exact spec_RankCounts.mono _ _ _)
      | (with_reducible exact LeO.refl _)
      | (with_reducible exact LeO.none _)
      | (with_reducible refine LeO.ite ?_ ?_)
      | (with_reducible refine LeO.bind ?_ (fun _ => ?_))
      | exact ih0 _ _ _ _ _ _ _ _
      | exact ih1 _ _ _ _ _ _
      | exact ih2 _ _ _
      | exact impl_RankCounts.mono _ _ _
      | exact laws_eqIntS.mono _ _ _
      | exact laws_heldIntS.mono _ _ _
      | exact laws_markIntS.mono _ _ _
      | exact laws_toIntS.mono _ _
      | exact spec_RankCounts.mono _ _ _
      | exact LeO.none _
      | refine LeO.ite ?_ ?_
      | refine LeO.bind ?_ (fun _ => ?_)
    · intro y0 y1 y2 y3 y4 y5
      unfold laws_FnExactRankCounts.j1
      repeat' first
      | (with_reducible exact ih0 _ _ _ _ _ _ _ _)
      | (with_reducible exact ih1 _ _ _ _ _ _)
      | (with_reducible exact ih2 _ _ _)
      | (with_reducible exact impl_RankCounts.mono _ _ _)
      | (with_reducible exact laws_eqIntS.mono _ _ _)
      | (with_reducible exact laws_heldIntS.mono _ _ _)
      | (with_reducible exact laws_markIntS.mono _ _ _)
      | (with_reducible exact laws_toIntS.mono _ _)
      | (with_reducible exact spec_RankCounts.mono _ _ _)
      | (with_reducible exact LeO.refl _)
      | (with_reducible exact LeO.none _)
      | (with_reducible refine LeO.ite ?_ ?_)
      | (with_reducible refine LeO.bind ?_ (fun _ => ?_))
      | exact ih0 _ _ _ _ _ _ _ _
      | exact ih1 _ _ _ _ _ _
      | exact ih2 _ _ _
      | exact impl_RankCounts.mono _ _ _
      | exact laws_eqIntS.mono _ _ _
      | exact laws_heldIntS.mono _ _ _
      | exact laws_markIntS.mono _ _ _
      | exact laws_toIntS.mono _ _
      | exact spec_RankCounts.mono _ _ _
      | exact LeO.none _
      | refine LeO.ite ?_ ?_
      | refine LeO.bind ?_ (fun _ => ?_)
    · intro y0 y1 y2
      unfold laws_FnExactRankCounts.j2
      repeat' first
      | (with_reducible exact ih0 _ _ _ _ _ _ _ _)
      | (with_reducible exact ih1 _ _ _ _ _ _)
      | (with_reducible exact ih2 _ _ _)
      | (with_reducible exact impl_RankCounts.mono _ _ _)
      | (with_reducible exact laws_eqIntS.mono _ _ _)
      | (with_reducible exact laws_heldIntS.mono _ _ _)
      | (with_reducible exact laws_markIntS.mono _ _ _)
      | (with_reducible exact laws_toIntS.mono _ _)
      | (with_reducible exact spec_RankCounts.mono _ _ _)
      | (with_reducible exact LeO.refl _)
      | (with_reducible exact LeO.none _)
      | (with_reducible refine LeO.ite ?_ ?_)
      | (with_reducible refine LeO.bind ?_ (fun _ => ?_))
      | exact ih0 _ _ _ _ _ _ _ _
      | exact ih1 _ _ _ _ _ _
      | exact ih2 _ _ _
      | exact impl_RankCounts.mono _ _ _
      | exact laws_eqIntS.mono _ _ _
      | exact laws_heldIntS.mono _ _ _
      | exact laws_markIntS.mono _ _ _
      | exact laws_toIntS.mono _ _
      | exact spec_RankCounts.mono _ _ _
      | exact LeO.none _
      | refine LeO.ite ?_ ?_
      | refine LeO.bind ?_ (fun _ => ?_)
theorem laws_FnExactRankCounts.mono : ∀ a0 a1 k, LeO (laws_FnExactRankCounts.f k a0 a1) (laws_FnExactRankCounts.f (k + 1) a0 a1) := by
  intro a0 a1 k
  obtain ⟨ih0, ih1, ih2⟩ := laws_FnExactRankCounts.mono_l k
  unfold laws_FnExactRankCounts.f
  repeat' first
      | (with_reducible exact ih0 _ _ _ _ _ _ _ _)
      | (with_reducible exact ih1 _ _ _ _ _ _)
      | (with_reducible exact ih2 _ _ _)
      | (with_reducible exact impl_RankCounts.mono _ _ _)
      | (with_reducible exact laws_eqIntS.mono _ _ _)
      | (with_reducible exact laws_heldIntS.mono _ _ _)
      | (with_reducible exact laws_markIntS.mono _ _ _)
      | (with_reducible exact laws_toIntS.mono _ _)
      | (with_reducible exact spec_RankCounts.mono _ _ _)
      | (with_reducible exact LeO.refl _)
      | (with_reducible exact LeO.none _)
      | (with_reducible refine LeO.ite ?_ ?_)
      | (with_reducible refine LeO.bind ?_ (fun _ => ?_))
      | exact ih0 _ _ _ _ _ _ _ _
      | exact ih1 _ _ _ _ _ _
      | exact ih2 _ _ _
      | exact impl_RankCounts.mono _ _ _
      | exact laws_eqIntS.mono _ _ _
      | exact laws_heldIntS.mono _ _ _
      | exact laws_markIntS.mono _ _ _
      | exact laws_toIntS.mono _ _
      | exact spec_RankCounts.mono _ _ _
      | exact LeO.none _
      | refine LeO.ite ?_ ?_
      | refine LeO.bind ?_ (fun _ => ?_)
set_option maxHeartbeats 8000000 in
set_option maxRecDepth 100000 in
theorem laws_FnExactRankCounts.calls (k : Nat) (A0 : Option Addr) (c0 : Nat) (l0 : List Int) (a1 : Int) (r : Bool) (w : World) (hr0 : Kd.C (Kd.int .i64) w A0 l0.length l0) (hc0 : l0.length ≤ c0) (h : laws_FnExactRankCounts.f k l0 a1 = some r) :
    Calls Try.prog 12 #[.slice A0 l0.length c0, .int .i64 a1] w fun e w' => e = .returned (.bool r) ∧ Below w.heap.size w w' := by
  have HR0 := Aside0.mk hr0
  have HC0 := Aside0.mk hc0
  clear hr0 hc0
  have HB := Aside0.mk (Below.refl w.heap.size w)
  have H : (if (l0.length : Int) > 1048576 then (some true) else ((laws_toIntS.f k l0).bind fun t101 => ((spec_RankCounts.f k t101 a1).bind fun bt104 => ((laws_toIntS.f k l0).bind fun t108 => ((impl_RankCounts.f k t108 a1).bind fun bt111 => ((laws_eqIntS.f k bt111.1 bt104.1).bind fun t115 => (if t115 = true then (laws_FnExactRankCounts.j0 k l0 a1 bt104.1 bt104.2 t108 bt111.1 bt111.2 (bt111.2 != bt104.2)) else (laws_FnExactRankCounts.j0 k l0 a1 bt104.1 bt104.2 t108 bt111.1 bt111.2 true)))))))) = some r := h
  clear h
  by_cases c3 : (l0.length : Int) > 1048576
  · rw [if_pos c3] at H
    have c3b0 : decide (1048576 < (l0.length : Int)) = true := decide_eq_true c3
    have c3b1 : decide (1048576 < l0.length) = true := decide_eq_true (by omega)
    clear c3
    obtain rfl := Option.some.inj H
    go_enter Try.func12, Try.ntmps12
    go_wp2
    go_ret
    exact ⟨by first | rfl | (simp [errW_none, errW_some] <;> rfl) | (simp [*, errW_none, errW_some] <;> rfl), by repeat (first | (with_reducible first | exact HB.out | apply below_alloc | apply pw_below_drewN | apply below_drew1) | exact HB.out)⟩
  · rw [if_neg c3] at H
    have c3b0 : decide (1048576 < (l0.length : Int)) = false := decide_eq_false c3
    have c3b1 : decide (1048576 < l0.length) = false := decide_eq_false (by omega)
    clear c3
    replace H := Option.bind_eq_some_iff.mp H
    obtain ⟨t101, A40, H⟩ := H
    replace H : ((spec_RankCounts.f k t101 a1).bind fun bt104 => ((laws_toIntS.f k l0).bind fun t108 => ((impl_RankCounts.f k t108 a1).bind fun bt111 => ((laws_eqIntS.f k bt111.1 bt104.1).bind fun t115 => (if t115 = true then (laws_FnExactRankCounts.j0 k l0 a1 bt104.1 bt104.2 t108 bt111.1 bt111.2 (bt111.2 != bt104.2)) else (laws_FnExactRankCounts.j0 k l0 a1 bt104.1 bt104.2 t108 bt111.1 bt111.2 true)))))) = some r := H
    have A4 := Aside0.mk A40
    clear A40
    replace H := Option.bind_eq_some_iff.mp H
    obtain ⟨⟨t104, t105⟩, A50, H⟩ := H
    replace H : ((laws_toIntS.f k l0).bind fun t108 => ((impl_RankCounts.f k t108 a1).bind fun bt111 => ((laws_eqIntS.f k bt111.1 t104).bind fun t115 => (if t115 = true then (laws_FnExactRankCounts.j0 k l0 a1 t104 t105 t108 bt111.1 bt111.2 (bt111.2 != t105)) else (laws_FnExactRankCounts.j0 k l0 a1 t104 t105 t108 bt111.1 bt111.2 true))))) = some r := H
    have A5 := Aside0.mk A50
    clear A50
    replace H := Option.bind_eq_some_iff.mp H
    obtain ⟨t108, A60, H⟩ := H
    replace H : ((impl_RankCounts.f k t108 a1).bind fun bt111 => ((laws_eqIntS.f k bt111.1 t104).bind fun t115 => (if t115 = true then (laws_FnExactRankCounts.j0 k l0 a1 t104 t105 t108 bt111.1 bt111.2 (bt111.2 != t105)) else (laws_FnExactRankCounts.j0 k l0 a1 t104 t105 t108 bt111.1 bt111.2 true)))) = some r := H
    have A6 := Aside0.mk A60
    clear A60
    replace H := Option.bind_eq_some_iff.mp H
    obtain ⟨⟨t111, t112⟩, A70, H⟩ := H
    replace H : ((laws_eqIntS.f k t111 t104).bind fun t115 => (if t115 = true then (laws_FnExactRankCounts.j0 k l0 a1 t104 t105 t108 t111 t112 (t112 != t105)) else (laws_FnExactRankCounts.j0 k l0 a1 t104 t105 t108 t111 t112 true))) = some r := H
    have A7 := Aside0.mk A70
    clear A70
    have HC8 := Aside0.mk H
    clear H
    go_enter Try.func12, Try.ntmps12
    go_upto_region 6 with (first | ((with_reducible refine gate_callee (f := 18) rfl ?_); refine goesL_ (some 20) rfl rfl Try.func18 (by kernel_rfl) rfl #[.slice A0 l0.length c0] rfl (by (try simp only [List.map_toArray, List.map_cons, List.map_nil]); first | done | rfl | (simp only [List.length_drop, List.length_take]; rfl)) ?_; (with_reducible refine (laws_toIntS.calls k _ _ l0 t101 _ ?side1 ?side2 A4.out).mono ?_); (case side1 => repeat (first | exact HR0.out | (with_reducible refine Kd.C_alloc ?_ _) | (with_reducible refine Kd.C_drewN ?_ _) | (with_reducible refine Kd.C_drew ?_))); (case side2 => exact HC0.out); rintro e w9 ⟨v102, rfl, ho0, hb⟩; refine ⟨_, rfl, ?_⟩; have n0_ := Aside0.mk (Kd.R_lower ho0 (below_size (by repeat (first | (with_reducible first | exact HB.out | apply below_alloc | apply pw_below_drewN | apply below_drew1) | exact HB.out)))); have n1_ := Aside0.mk (below_step (by repeat (first | (with_reducible first | exact HB.out | apply below_alloc | apply pw_below_drewN | apply below_drew1) | exact HB.out)) hb); clear HB; have HO103 := n0_; have HB := n1_; clear n0_ n1_; (try clear hb); (try clear hb2); (try clear hk); (try clear hi); (try clear ho0); obtain ⟨Ao10, co10, eo10⟩ := Kd.R_slice HO103.out; subst eo10) | ((with_reducible refine gate_callee (f := 43) rfl ?_); refine goesL_ (some 22) rfl rfl Try.func43 (by kernel_rfl) rfl #[.slice Ao10 t101.length co10, .int .i64 a1] rfl (by (try simp only [List.map_toArray, List.map_cons, List.map_nil]); first | done | rfl | (simp only [List.length_drop, List.length_take]; rfl)) ?_; (with_reducible refine (spec_RankCounts.calls k _ _ t101 a1 t104 t105 _ ?side1 ?side2 A5.out).mono ?_); (case side1 => repeat (first | exact (Kd.R_reads' HO103.out).2.2 | (with_reducible refine Kd.C_alloc ?_ _) | (with_reducible refine Kd.C_drewN ?_ _) | (with_reducible refine Kd.C_drew ?_))); (case side2 => exact (Kd.R_reads' HO103.out).2.1); rintro e w11 ⟨v106, rfl, ho0, hb⟩; refine ⟨_, rfl, ?_⟩; have n0_ := Aside0.mk (Kd.R_elder' (by (with_reducible repeat (first | apply Kd.R_alloc | apply Kd.R_drewN | apply Kd.R_drew)); exact HO103.out) (Kd.R_base ho0) hb); have n1_ := Aside0.mk (Kd.R_lower (Kd.R_new' ho0 (Kd.R_lt (by (with_reducible repeat (first | apply Kd.R_alloc | apply Kd.R_drewN | apply Kd.R_drew)); exact HO103.out))) (below_size (by repeat (first | (with_reducible first | exact HB.out | apply below_alloc | apply pw_below_drewN | apply below_drew1) | exact HB.out)))); have n2_ := Aside0.mk (below_step (by repeat (first | (with_reducible first | exact HB.out | apply below_alloc | apply pw_below_drewN | apply below_drew1) | exact HB.out)) hb); clear HO103; clear HB; have HO103 := n0_; have HO107 := n1_; have HB := n2_; clear n0_ n1_ n2_; (try clear hb); (try clear hb2); (try clear hk); (try clear hi); (try clear ho0)) | ((with_reducible refine gate_callee (f := 18) rfl ?_); refine goesL_ (some 26) rfl rfl Try.func18 (by kernel_rfl) rfl #[.slice A0 l0.length c0] rfl (by (try simp only [List.map_toArray, List.map_cons, List.map_nil]); first | done | rfl | (simp only [List.length_drop, List.length_take]; rfl)) ?_; (with_reducible refine (laws_toIntS.calls k _ _ l0 t108 _ ?side1 ?side2 A6.out).mono ?_); (case side1 => repeat (first | exact (Kd.C_below HR0.out HB.out) | (with_reducible refine Kd.C_alloc ?_ _) | (with_reducible refine Kd.C_drewN ?_ _) | (with_reducible refine Kd.C_drew ?_))); (case side2 => exact HC0.out); rintro e w12 ⟨v109, rfl, ho0, hb⟩; refine ⟨_, rfl, ?_⟩; have n0_ := Aside0.mk (Kd.R_elder' (by (with_reducible repeat (first | apply Kd.R_alloc | apply Kd.R_drewN | apply Kd.R_drew)); exact HO103.out) (Kd.R_base ho0) hb); have n1_ := Aside0.mk (Kd.R_elder' (by (with_reducible repeat (first | apply Kd.R_alloc | apply Kd.R_drewN | apply Kd.R_drew)); exact HO107.out) (Kd.R_base ho0) hb); have n2_ := Aside0.mk (Kd.R_lower (Kd.R_new' (Kd.R_new' ho0 (Kd.R_lt (by (with_reducible repeat (first | apply Kd.R_alloc | apply Kd.R_drewN | apply Kd.R_drew)); exact HO103.out))) (Kd.R_lt (by (with_reducible repeat (first | apply Kd.R_alloc | apply Kd.R_drewN | apply Kd.R_drew)); exact HO107.out))) (below_size (by repeat (first | (with_reducible first | exact HB.out | apply below_alloc | apply pw_below_drewN | apply below_drew1) | exact HB.out)))); have n3_ := Aside0.mk (below_step (by repeat (first | (with_reducible first | exact HB.out | apply below_alloc | apply pw_below_drewN | apply below_drew1) | exact HB.out)) hb); clear HO103; clear HO107; clear HB; have HO103 := n0_; have HO107 := n1_; have HO110 := n2_; have HB := n3_; clear n0_ n1_ n2_ n3_; (try clear hb); (try clear hb2); (try clear hk); (try clear hi); (try clear ho0); obtain ⟨Ao13, co13, eo13⟩ := Kd.R_slice HO110.out; subst eo13) | ((with_reducible refine gate_callee (f := 44) rfl ?_); refine goesL_ (some 30) rfl rfl Try.func44 (by kernel_rfl) rfl #[.slice Ao13 t108.length co13, .int .i64 a1] rfl (by (try simp only [List.map_toArray, List.map_cons, List.map_nil]); first | done | rfl | (simp only [List.length_drop, List.length_take]; rfl)) ?_; (with_reducible refine (impl_RankCounts.calls k _ _ t108 a1 t111 t112 _ ?side1 ?side2 A7.out).mono ?_); (case side1 => repeat (first | exact (Kd.R_reads' HO110.out).2.2 | (with_reducible refine Kd.C_alloc ?_ _) | (with_reducible refine Kd.C_drewN ?_ _) | (with_reducible refine Kd.C_drew ?_))); (case side2 => exact (Kd.R_reads' HO110.out).2.1); rintro e w14 ⟨v113, rfl, ho0, hb⟩; refine ⟨_, rfl, ?_⟩; have n0_ := Aside0.mk (Kd.R_elder' (by (with_reducible repeat (first | apply Kd.R_alloc | apply Kd.R_drewN | apply Kd.R_drew)); exact HO103.out) (Kd.R_base ho0) hb); have n1_ := Aside0.mk (Kd.R_elder' (by (with_reducible repeat (first | apply Kd.R_alloc | apply Kd.R_drewN | apply Kd.R_drew)); exact HO107.out) (Kd.R_base ho0) hb); have n2_ := Aside0.mk (Kd.R_elder' (by (with_reducible repeat (first | apply Kd.R_alloc | apply Kd.R_drewN | apply Kd.R_drew)); exact HO110.out) (Kd.R_base ho0) hb); have n3_ := Aside0.mk (Kd.R_lower (Kd.R_new' (Kd.R_new' (Kd.R_new' ho0 (Kd.R_lt (by (with_reducible repeat (first | apply Kd.R_alloc | apply Kd.R_drewN | apply Kd.R_drew)); exact HO103.out))) (Kd.R_lt (by (with_reducible repeat (first | apply Kd.R_alloc | apply Kd.R_drewN | apply Kd.R_drew)); exact HO107.out))) (Kd.R_lt (by (with_reducible repeat (first | apply Kd.R_alloc | apply Kd.R_drewN | apply Kd.R_drew)); exact HO110.out))) (below_size (by repeat (first | (with_reducible first | exact HB.out | apply below_alloc | apply pw_below_drewN | apply below_drew1) | exact HB.out)))); have n4_ := Aside0.mk (below_step (by repeat (first | (with_reducible first | exact HB.out | apply below_alloc | apply pw_below_drewN | apply below_drew1) | exact HB.out)) hb); clear HO103; clear HO107; clear HO110; clear HB; have HO103 := n0_; have HO107 := n1_; have HO110 := n2_; have HO114 := n3_; have HB := n4_; clear n0_ n1_ n2_ n3_ n4_; (try clear hb); (try clear hb2); (try clear hk); (try clear hi); (try clear ho0)))
    (try simp only [Act.put, List.setIfInBounds_toArray, List.set_cons_zero, List.set_cons_succ])
    go_cut [41] (fun v41 wc => ∃ (kq : Nat) (x41_7 : Bool), v41 = .bool x41_7 ∧ Aside0 (laws_FnExactRankCounts.j0 kq l0 a1 t104 t105 t108 t111 t112 x41_7 = some r) ∧ Aside0 (kq ≤ k) ∧ Aside0 (Kd.R (Kd.int .i64) 3 wc w.heap.size (fun k_ => some k_ ≠ ((.slice Ao13 t108.length co13) : Value).ownBlock ∧ some k_ ≠ (v113 : Value).ownBlock) v106 t104) ∧ Aside0 (Kd.R (Kd.int .i64) 3 wc w.heap.size (fun k_ => some k_ ≠ (v106 : Value).ownBlock ∧ some k_ ≠ (v113 : Value).ownBlock) (.slice Ao13 t108.length co13) t108) ∧ Aside0 (Kd.R (Kd.int .i64) 3 wc w.heap.size (fun k_ => some k_ ≠ (v106 : Value).ownBlock ∧ some k_ ≠ ((.slice Ao13 t108.length co13) : Value).ownBlock) v113 t111) ∧ Aside0 (Below w.heap.size w wc))
    case first =>
      have H := HC8.out
      clear HC8
      replace H := Option.bind_eq_some_iff.mp H
      obtain ⟨t115, A150, H⟩ := H
      replace H : (if t115 = true then (laws_FnExactRankCounts.j0 k l0 a1 t104 t105 t108 t111 t112 (t112 != t105)) else (laws_FnExactRankCounts.j0 k l0 a1 t104 t105 t108 t111 t112 true)) = some r := H
      have A15 := Aside0.mk A150
      clear A150
      by_cases c16 : t115 = true
      · subst c16
        have H1 : (laws_FnExactRankCounts.j0 k l0 a1 t104 t105 t108 t111 t112 (t112 != t105)) = some r := by rw [if_pos rfl] at H; exact H
        clear H
        have H := H1
        clear H1
        have H' := Aside0.mk H
        clear H
        obtain ⟨Ao17, co17, eo17⟩ := Kd.R_slice HO114.out
        subst eo17
        obtain ⟨Ao18, co18, eo18⟩ := Kd.R_slice HO107.out
        subst eo18
        go_wp2_with (first | ((with_reducible refine gate_callee (f := 21) rfl ?_); refine goesL_ (some 35) rfl rfl Try.func21 (by kernel_rfl) rfl #[.slice Ao17 t111.length co17, .slice Ao18 t104.length co18] rfl (by (try simp only [List.map_toArray, List.map_cons, List.map_nil]); first | done | rfl | (simp only [List.length_drop, List.length_take]; rfl)) ?_; (with_reducible refine (laws_eqIntS.calls k _ _ t111 _ _ t104 true _ ?side1 ?side2 ?side3 ?side4 A15.out).mono ?_); (case side1 => repeat (first | exact (Kd.R_reads' HO114.out).2.2 | (with_reducible refine Kd.C_alloc ?_ _) | (with_reducible refine Kd.C_drewN ?_ _) | (with_reducible refine Kd.C_drew ?_))); (case side2 => exact (Kd.R_reads' HO114.out).2.1); (case side3 => repeat (first | exact (Kd.R_reads' HO107.out).2.2 | (with_reducible refine Kd.C_alloc ?_ _) | (with_reducible refine Kd.C_drewN ?_ _) | (with_reducible refine Kd.C_drew ?_))); (case side4 => exact (Kd.R_reads' HO107.out).2.1); rintro e w' ⟨rfl, ⟨nd, rfl⟩⟩; refine ⟨_, rfl, ?_⟩))
        go_meet
        case rel => exact ⟨_, ((t112 != t105)), (by first | rfl | (simp; done) | (simp [*]; done)), H', ⟨by first | omega | exact Nat.le_refl _⟩, ⟨by (with_reducible repeat (first | apply Kd.R_alloc | apply Kd.R_drewN | apply Kd.R_drew)); exact Kd.R_mono HO107.out (fun _ hk => ⟨hk.1.2, hk.2⟩)⟩, ⟨by (with_reducible repeat (first | apply Kd.R_alloc | apply Kd.R_drewN | apply Kd.R_drew)); exact Kd.R_mono HO110.out (fun _ hk => ⟨hk.1.2, hk.2⟩)⟩, ⟨by (with_reducible repeat (first | apply Kd.R_alloc | apply Kd.R_drewN | apply Kd.R_drew)); exact Kd.R_mono HO114.out (fun _ hk => ⟨hk.1.2, hk.2⟩)⟩, ⟨by repeat (first | (with_reducible first | exact HB.out | apply below_alloc | apply pw_below_drewN | apply below_drew1) | exact HB.out)⟩⟩
      · replace c16 := Bool.eq_false_iff.mpr c16
        subst c16
        have H1 : (laws_FnExactRankCounts.j0 k l0 a1 t104 t105 t108 t111 t112 true) = some r := by rw [if_neg (show ¬ (false = true) by decide)] at H; exact H
        clear H
        have H := H1
        clear H1
        have H' := Aside0.mk H
        clear H
        obtain ⟨Ao19, co19, eo19⟩ := Kd.R_slice HO114.out
        subst eo19
        obtain ⟨Ao20, co20, eo20⟩ := Kd.R_slice HO107.out
        subst eo20
        go_wp2_with (first | ((with_reducible refine gate_callee (f := 21) rfl ?_); refine goesL_ (some 35) rfl rfl Try.func21 (by kernel_rfl) rfl #[.slice Ao19 t111.length co19, .slice Ao20 t104.length co20] rfl (by (try simp only [List.map_toArray, List.map_cons, List.map_nil]); first | done | rfl | (simp only [List.length_drop, List.length_take]; rfl)) ?_; (with_reducible refine (laws_eqIntS.calls k _ _ t111 _ _ t104 false _ ?side1 ?side2 ?side3 ?side4 A15.out).mono ?_); (case side1 => repeat (first | exact (Kd.R_reads' HO114.out).2.2 | (with_reducible refine Kd.C_alloc ?_ _) | (with_reducible refine Kd.C_drewN ?_ _) | (with_reducible refine Kd.C_drew ?_))); (case side2 => exact (Kd.R_reads' HO114.out).2.1); (case side3 => repeat (first | exact (Kd.R_reads' HO107.out).2.2 | (with_reducible refine Kd.C_alloc ?_ _) | (with_reducible refine Kd.C_drewN ?_ _) | (with_reducible refine Kd.C_drew ?_))); (case side4 => exact (Kd.R_reads' HO107.out).2.1); rintro e w' ⟨rfl, ⟨nd, rfl⟩⟩; refine ⟨_, rfl, ?_⟩))
        go_meet
        case rel => exact ⟨_, (true), (by first | rfl | (simp; done) | (simp [*]; done)), H', ⟨by first | omega | exact Nat.le_refl _⟩, ⟨by (with_reducible repeat (first | apply Kd.R_alloc | apply Kd.R_drewN | apply Kd.R_drew)); exact Kd.R_mono HO107.out (fun _ hk => ⟨hk.1.2, hk.2⟩)⟩, ⟨by (with_reducible repeat (first | apply Kd.R_alloc | apply Kd.R_drewN | apply Kd.R_drew)); exact Kd.R_mono HO110.out (fun _ hk => ⟨hk.1.2, hk.2⟩)⟩, ⟨by (with_reducible repeat (first | apply Kd.R_alloc | apply Kd.R_drewN | apply Kd.R_drew)); exact Kd.R_mono HO114.out (fun _ hk => ⟨hk.1.2, hk.2⟩)⟩, ⟨by repeat (first | (with_reducible first | exact HB.out | apply below_alloc | apply pw_below_drewN | apply below_drew1) | exact HB.out)⟩⟩
    case rest =>
      clear HC8
      try clear c1
      try clear c2
      try clear p2
      try clear c3
      try clear c3b0
      try clear c3b1
      try clear c4
      try clear c12
      try clear c16
      try clear c18
      obtain ⟨kq, x41_7, rfl, HA, HJ7, HO_5, HO_7, HO_8, HB⟩ := hcut
      cases kq with
      | zero => exact absurd HA.out (by simp [laws_FnExactRankCounts.j0])
      | succ kj7 =>
        have H := HA.out
        clear HA
        simp only [laws_FnExactRankCounts.j0] at H
        by_cases c21 : x41_7 = true
        · subst c21
          have H1 : (some false) = some r := by rw [if_pos rfl] at H; exact H
          clear H
          have H := H1
          clear H1
          obtain rfl := Option.some.inj H
          go_wp2
          go_ret
          exact ⟨by first | rfl | (simp [errW_none, errW_some] <;> rfl) | (simp [*, errW_none, errW_some] <;> rfl), by repeat (first | (with_reducible first | exact HB.out | apply below_alloc | apply pw_below_drewN | apply below_drew1) | exact HB.out)⟩
        · replace c21 := Bool.eq_false_iff.mpr c21
          subst c21
          have H1 : ((laws_toIntS.f kj7 l0).bind fun t116 => ((laws_eqIntS.f kj7 t108 t116).bind fun t119 => (if t119 = true then ((laws_markIntS.f kj7 t108 1).bind fun bt120 => (if bt120.1 < 0 then (laws_FnExactRankCounts.j1 kj7 l0 a1 t104 t105 t111 true) else ((laws_eqIntS.f kj7 t111 t104).bind fun t122 => (if t122 = true then (laws_FnExactRankCounts.j1 kj7 l0 a1 t104 t105 t111 (t112 != t105)) else (laws_FnExactRankCounts.j1 kj7 l0 a1 t104 t105 t111 true))))) else (some false)))) = some r := by rw [if_neg (show ¬ (false = true) by decide)] at H; exact H
          clear H
          have H := H1
          clear H1
          replace H := Option.bind_eq_some_iff.mp H
          obtain ⟨t116, A220, H⟩ := H
          replace H : ((laws_eqIntS.f kj7 t108 t116).bind fun t119 => (if t119 = true then ((laws_markIntS.f kj7 t108 1).bind fun bt120 => (if bt120.1 < 0 then (laws_FnExactRankCounts.j1 kj7 l0 a1 t104 t105 t111 true) else ((laws_eqIntS.f kj7 t111 t104).bind fun t122 => (if t122 = true then (laws_FnExactRankCounts.j1 kj7 l0 a1 t104 t105 t111 (t112 != t105)) else (laws_FnExactRankCounts.j1 kj7 l0 a1 t104 t105 t111 true))))) else (some false))) = some r := H
          have A22 := Aside0.mk A220
          clear A220
          replace H := Option.bind_eq_some_iff.mp H
          obtain ⟨t119, A230, H⟩ := H
          replace H : (if t119 = true then ((laws_markIntS.f kj7 t108 1).bind fun bt120 => (if bt120.1 < 0 then (laws_FnExactRankCounts.j1 kj7 l0 a1 t104 t105 t111 true) else ((laws_eqIntS.f kj7 t111 t104).bind fun t122 => (if t122 = true then (laws_FnExactRankCounts.j1 kj7 l0 a1 t104 t105 t111 (t112 != t105)) else (laws_FnExactRankCounts.j1 kj7 l0 a1 t104 t105 t111 true))))) else (some false)) = some r := H
          have A23 := Aside0.mk A230
          clear A230
          by_cases c24 : t119 = true
          · subst c24
            have H1 : ((laws_markIntS.f kj7 t108 1).bind fun bt120 => (if bt120.1 < 0 then (laws_FnExactRankCounts.j1 kj7 l0 a1 t104 t105 t111 true) else ((laws_eqIntS.f kj7 t111 t104).bind fun t122 => (if t122 = true then (laws_FnExactRankCounts.j1 kj7 l0 a1 t104 t105 t111 (t112 != t105)) else (laws_FnExactRankCounts.j1 kj7 l0 a1 t104 t105 t111 true))))) = some r := by rw [if_pos rfl] at H; exact H
            clear H
            have H := H1
            clear H1
            replace H := Option.bind_eq_some_iff.mp H
            obtain ⟨⟨t120, t121⟩, A250, H⟩ := H
            replace H : (if t120 < 0 then (laws_FnExactRankCounts.j1 kj7 l0 a1 t104 t105 t111 true) else ((laws_eqIntS.f kj7 t111 t104).bind fun t122 => (if t122 = true then (laws_FnExactRankCounts.j1 kj7 l0 a1 t104 t105 t111 (t112 != t105)) else (laws_FnExactRankCounts.j1 kj7 l0 a1 t104 t105 t111 true)))) = some r := H
            have A25 := Aside0.mk A250
            clear A250
            have HC26 := Aside0.mk H
            clear H
            go_upto_region 12 with (first | ((with_reducible refine gate_callee (f := 18) rfl ?_); refine goesL_ (some 44) rfl rfl Try.func18 (by kernel_rfl) rfl #[.slice A0 l0.length c0] rfl (by (try simp only [List.map_toArray, List.map_cons, List.map_nil]); first | done | rfl | (simp only [List.length_drop, List.length_take]; rfl)) ?_; (with_reducible refine (laws_toIntS.calls kj7 _ _ l0 t116 _ ?side1 ?side2 A22.out).mono ?_); (case side1 => repeat (first | exact (Kd.C_below HR0.out HB.out) | (with_reducible refine Kd.C_alloc ?_ _) | (with_reducible refine Kd.C_drewN ?_ _) | (with_reducible refine Kd.C_drew ?_))); (case side2 => exact HC0.out); rintro e w27 ⟨v117, rfl, ho0, hb⟩; refine ⟨_, rfl, ?_⟩; have n0_ := Aside0.mk (Kd.R_elder' (by (with_reducible repeat (first | apply Kd.R_alloc | apply Kd.R_drewN | apply Kd.R_drew)); exact HO_5.out) (Kd.R_base ho0) hb); have n1_ := Aside0.mk (Kd.R_elder' (by (with_reducible repeat (first | apply Kd.R_alloc | apply Kd.R_drewN | apply Kd.R_drew)); exact HO_7.out) (Kd.R_base ho0) hb); have n2_ := Aside0.mk (Kd.R_elder' (by (with_reducible repeat (first | apply Kd.R_alloc | apply Kd.R_drewN | apply Kd.R_drew)); exact HO_8.out) (Kd.R_base ho0) hb); have n3_ := Aside0.mk (Kd.R_lower (Kd.R_new' (Kd.R_new' (Kd.R_new' ho0 (Kd.R_lt (by (with_reducible repeat (first | apply Kd.R_alloc | apply Kd.R_drewN | apply Kd.R_drew)); exact HO_5.out))) (Kd.R_lt (by (with_reducible repeat (first | apply Kd.R_alloc | apply Kd.R_drewN | apply Kd.R_drew)); exact HO_7.out))) (Kd.R_lt (by (with_reducible repeat (first | apply Kd.R_alloc | apply Kd.R_drewN | apply Kd.R_drew)); exact HO_8.out))) (below_size (by repeat (first | (with_reducible first | exact HB.out | apply below_alloc | apply pw_below_drewN | apply below_drew1) | exact HB.out)))); have n4_ := Aside0.mk (below_step (by repeat (first | (with_reducible first | exact HB.out | apply below_alloc | apply pw_below_drewN | apply below_drew1) | exact HB.out)) hb); clear HO_5; clear HO_7; clear HO_8; clear HB; have HO_5 := n0_; have HO_7 := n1_; have HO_8 := n2_; have HO118 := n3_; have HB := n4_; clear n0_ n1_ n2_ n3_ n4_; (try clear hb); (try clear hb2); (try clear hk); (try clear hi); (try clear ho0); obtain ⟨Ao28, co28, eo28⟩ := Kd.R_slice HO118.out; subst eo28) | ((with_reducible refine gate_callee (f := 21) rfl ?_); refine goesL_ (some 45) rfl rfl Try.func21 (by kernel_rfl) rfl #[.slice Ao13 t108.length co13, .slice Ao28 t116.length co28] rfl (by (try simp only [List.map_toArray, List.map_cons, List.map_nil]); first | done | rfl | (simp only [List.length_drop, List.length_take]; rfl)) ?_; (with_reducible refine (laws_eqIntS.calls kj7 _ _ t108 _ _ t116 true _ ?side1 ?side2 ?side3 ?side4 A23.out).mono ?_); (case side1 => repeat (first | exact (Kd.R_reads' HO_7.out).2.2 | (with_reducible refine Kd.C_alloc ?_ _) | (with_reducible refine Kd.C_drewN ?_ _) | (with_reducible refine Kd.C_drew ?_))); (case side2 => exact (Kd.R_reads' HO_7.out).2.1); (case side3 => repeat (first | exact (Kd.R_reads' HO118.out).2.2 | (with_reducible refine Kd.C_alloc ?_ _) | (with_reducible refine Kd.C_drewN ?_ _) | (with_reducible refine Kd.C_drew ?_))); (case side4 => exact (Kd.R_reads' HO118.out).2.1); rintro e w' ⟨rfl, ⟨nd, rfl⟩⟩; refine ⟨_, rfl, ?_⟩) | ((with_reducible refine gate_callee (f := 25) rfl ?_); refine goesL_ (some 49) rfl rfl Try.func25 (by kernel_rfl) rfl #[.slice Ao13 t108.length co13, .int .i64 1] rfl (by (try simp only [List.map_toArray, List.map_cons, List.map_nil]); first | done | rfl | (simp only [List.length_drop, List.length_take]; rfl)) ?_; (with_reducible refine (laws_markIntS.calls kj7 (fun k_ => some k_ = (.slice Ao13 t108.length co13 : Value).ownBlock) (.slice Ao13 t108.length co13) t108 1 t120 t121 w _ ?side1 ?side2 A25.out).mono ?_); (case side1 => repeat (first | (with_reducible first | exact HB.out | apply below_alloc | apply pw_below_drewN | apply below_drew1) | exact HB.out)); (case side2 => exact Kd.R_tight rfl HO_7.out); rintro e w29 ⟨rfl, hy0, hb, hkp⟩; refine ⟨_, rfl, ?_⟩; have n0_ := Aside0.mk (Kd.R_mono (ok' := fun k_ => some k_ ≠ (.slice Ao13 t108.length co13 : Value).ownBlock ∧ some k_ ≠ (v113 : Value).ownBlock ∧ some k_ ≠ (.slice Ao28 t116.length co28 : Value).ownBlock) (Kd.R_keptB (HO_5.out) hkp (fun k_ hk_ hs_ => (hk_.1.1) hs_)) (fun k_ hk_ => ⟨hk_.1.1.1, hk_.1.1.2, hk_.1.2⟩)); have n1_ := Aside0.mk (Kd.R_reok rfl hy0 (fun k_ e_ => HO_7.out.1 k_ e_)); have n2_ := Aside0.mk (Kd.R_mono (ok' := fun k_ => some k_ ≠ (v106 : Value).ownBlock ∧ some k_ ≠ (.slice Ao13 t108.length co13 : Value).ownBlock ∧ some k_ ≠ (.slice Ao28 t116.length co28 : Value).ownBlock) (Kd.R_keptB (HO_8.out) hkp (fun k_ hk_ hs_ => (hk_.1.2) hs_)) (fun k_ hk_ => ⟨hk_.1.1.1, hk_.1.1.2, hk_.1.2⟩)); have n3_ := Aside0.mk (Kd.R_mono (ok' := fun k_ => some k_ ≠ (v106 : Value).ownBlock ∧ some k_ ≠ (.slice Ao13 t108.length co13 : Value).ownBlock ∧ some k_ ≠ (v113 : Value).ownBlock) (Kd.R_keptB (HO118.out) hkp (fun k_ hk_ hs_ => (hk_.1.2) hs_)) (fun k_ hk_ => ⟨hk_.1.1.1.2, hk_.1.1.2, hk_.1.2⟩)); have n4_ := Aside0.mk (hb); clear HO_5; clear HO_7; clear HO_8; clear HO118; clear HB; have HO_5 := n0_; have HO_7 := n1_; have HO_8 := n2_; have HO118 := n3_; have HB := n4_; clear n0_ n1_ n2_ n3_ n4_; (try clear hb); (try clear hkp); (try clear hy0)))
            (try simp only [Act.put, List.setIfInBounds_toArray, List.set_cons_zero, List.set_cons_succ])
            go_cut [62] (fun v62 wc => ∃ (kq : Nat) (x62_25 : Bool), v62 = .bool x62_25 ∧ Aside0 (laws_FnExactRankCounts.j1 kq l0 a1 t104 t105 t111 x62_25 = some r) ∧ Aside0 (kq ≤ kj7) ∧ Aside0 (Kd.R (Kd.int .i64) 3 wc w.heap.size (fun k_ => some k_ ≠ (v113 : Value).ownBlock) v106 t104) ∧ Aside0 (Kd.R (Kd.int .i64) 3 wc w.heap.size (fun k_ => some k_ ≠ (v106 : Value).ownBlock) v113 t111) ∧ Aside0 (Below w.heap.size w wc))
            case first =>
              have H := HC26.out
              clear HC26
              by_cases c30 : t120 < 0
              · rw [if_pos c30] at H
                have c30b0 : decide (t120 < 0) = true := decide_eq_true c30
                clear c30
                (first | rw [c30b0] | (simp only [i64_w, i32_w]; rw [c30b0]) | skip)
                have H' := Aside0.mk H
                clear H
                go_wp2
                go_meet
                case rel => exact ⟨_, (true), (by first | rfl | (simp; done) | (simp [*]; done)), H', ⟨by have := HJ7.out; first | omega | exact Nat.le_refl _⟩, ⟨by (with_reducible repeat (first | apply Kd.R_alloc | apply Kd.R_drewN | apply Kd.R_drew)); exact Kd.R_mono HO_5.out (fun _ hk => hk.2.1)⟩, ⟨by (with_reducible repeat (first | apply Kd.R_alloc | apply Kd.R_drewN | apply Kd.R_drew)); exact Kd.R_mono HO_8.out (fun _ hk => hk.1)⟩, ⟨by repeat (first | (with_reducible first | exact HB.out | apply below_alloc | apply pw_below_drewN | apply below_drew1) | exact HB.out)⟩⟩
              · rw [if_neg c30] at H
                have c30b0 : decide (t120 < 0) = false := decide_eq_false c30
                clear c30
                (first | rw [c30b0] | (simp only [i64_w, i32_w]; rw [c30b0]) | skip)
                replace H := Option.bind_eq_some_iff.mp H
                obtain ⟨t122, A310, H⟩ := H
                replace H : (if t122 = true then (laws_FnExactRankCounts.j1 kj7 l0 a1 t104 t105 t111 (t112 != t105)) else (laws_FnExactRankCounts.j1 kj7 l0 a1 t104 t105 t111 true)) = some r := H
                have A31 := Aside0.mk A310
                clear A310
                by_cases c32 : t122 = true
                · subst c32
                  have H1 : (laws_FnExactRankCounts.j1 kj7 l0 a1 t104 t105 t111 (t112 != t105)) = some r := by rw [if_pos rfl] at H; exact H
                  clear H
                  have H := H1
                  clear H1
                  have H' := Aside0.mk H
                  clear H
                  obtain ⟨Ao33, co33, eo33⟩ := Kd.R_slice HO_8.out
                  subst eo33
                  obtain ⟨Ao34, co34, eo34⟩ := Kd.R_slice HO_5.out
                  subst eo34
                  go_wp2_with (first | (go_at_call 21; (with_reducible refine (laws_eqIntS.calls kj7 _ _ t111 _ _ t104 true _ ?side1 ?side2 ?side3 ?side4 A31.out).mono ?_); (case side1 => repeat (first | exact (Kd.R_reads' HO_8.out).2.2 | (with_reducible refine Kd.C_alloc ?_ _) | (with_reducible refine Kd.C_drewN ?_ _) | (with_reducible refine Kd.C_drew ?_))); (case side2 => exact (Kd.R_reads' HO_8.out).2.1); (case side3 => repeat (first | exact (Kd.R_reads' HO_5.out).2.2 | (with_reducible refine Kd.C_alloc ?_ _) | (with_reducible refine Kd.C_drewN ?_ _) | (with_reducible refine Kd.C_drew ?_))); (case side4 => exact (Kd.R_reads' HO_5.out).2.1); rintro e w' ⟨rfl, ⟨nd, rfl⟩⟩))
                  go_meet
                  case rel => exact ⟨_, ((t112 != t105)), (by first | rfl | (simp; done) | (simp [*]; done)), H', ⟨by have := HJ7.out; first | omega | exact Nat.le_refl _⟩, ⟨by (with_reducible repeat (first | apply Kd.R_alloc | apply Kd.R_drewN | apply Kd.R_drew)); exact Kd.R_mono HO_5.out (fun _ hk => hk.2.1)⟩, ⟨by (with_reducible repeat (first | apply Kd.R_alloc | apply Kd.R_drewN | apply Kd.R_drew)); exact Kd.R_mono HO_8.out (fun _ hk => hk.1)⟩, ⟨by repeat (first | (with_reducible first | exact HB.out | apply below_alloc | apply pw_below_drewN | apply below_drew1) | exact HB.out)⟩⟩
                · replace c32 := Bool.eq_false_iff.mpr c32
                  subst c32
                  have H1 : (laws_FnExactRankCounts.j1 kj7 l0 a1 t104 t105 t111 true) = some r := by rw [if_neg (show ¬ (false = true) by decide)] at H; exact H
                  clear H
                  have H := H1
                  clear H1
                  have H' := Aside0.mk H
                  clear H
                  obtain ⟨Ao35, co35, eo35⟩ := Kd.R_slice HO_8.out
                  subst eo35
                  obtain ⟨Ao36, co36, eo36⟩ := Kd.R_slice HO_5.out
                  subst eo36
                  go_wp2_with (first | (go_at_call 21; (with_reducible refine (laws_eqIntS.calls kj7 _ _ t111 _ _ t104 false _ ?side1 ?side2 ?side3 ?side4 A31.out).mono ?_); (case side1 => repeat (first | exact (Kd.R_reads' HO_8.out).2.2 | (with_reducible refine Kd.C_alloc ?_ _) | (with_reducible refine Kd.C_drewN ?_ _) | (with_reducible refine Kd.C_drew ?_))); (case side2 => exact (Kd.R_reads' HO_8.out).2.1); (case side3 => repeat (first | exact (Kd.R_reads' HO_5.out).2.2 | (with_reducible refine Kd.C_alloc ?_ _) | (with_reducible refine Kd.C_drewN ?_ _) | (with_reducible refine Kd.C_drew ?_))); (case side4 => exact (Kd.R_reads' HO_5.out).2.1); rintro e w' ⟨rfl, ⟨nd, rfl⟩⟩))
                  go_meet
                  case rel => exact ⟨_, (true), (by first | rfl | (simp; done) | (simp [*]; done)), H', ⟨by have := HJ7.out; first | omega | exact Nat.le_refl _⟩, ⟨by (with_reducible repeat (first | apply Kd.R_alloc | apply Kd.R_drewN | apply Kd.R_drew)); exact Kd.R_mono HO_5.out (fun _ hk => hk.2.1)⟩, ⟨by (with_reducible repeat (first | apply Kd.R_alloc | apply Kd.R_drewN | apply Kd.R_drew)); exact Kd.R_mono HO_8.out (fun _ hk => hk.1)⟩, ⟨by repeat (first | (with_reducible first | exact HB.out | apply below_alloc | apply pw_below_drewN | apply below_drew1) | exact HB.out)⟩⟩
            case rest =>
              clear HC26
              try clear c1
              try clear c2
              try clear p2
              try clear c3
              try clear c3b0
              try clear c3b1
              try clear c4
              try clear c12
              try clear c16
              try clear c18
              try clear c21
              try clear c24
              try clear c25
              try clear c30
              try clear c30b0
              try clear c32
              try clear p2
              obtain ⟨kq, x62_25, rfl, HA, HJ25, HO_5, HO_8, HB⟩ := hcut
              cases kq with
              | zero => exact absurd HA.out (by simp [laws_FnExactRankCounts.j1])
              | succ kj25 =>
                have H := HA.out
                clear HA
                simp only [laws_FnExactRankCounts.j1] at H
                by_cases c37 : x62_25 = true
                · subst c37
                  have H1 : (some false) = some r := by rw [if_pos rfl] at H; exact H
                  clear H
                  have H := H1
                  clear H1
                  obtain rfl := Option.some.inj H
                  go_wp2
                  go_ret
                  exact ⟨by first | rfl | (simp [errW_none, errW_some] <;> rfl) | (simp [*, errW_none, errW_some] <;> rfl), by repeat (first | (with_reducible first | exact HB.out | apply below_alloc | apply pw_below_drewN | apply below_drew1) | exact HB.out)⟩
                · replace c37 := Bool.eq_false_iff.mpr c37
                  subst c37
                  have H1 : ((laws_markIntS.f kj25 t111 1).bind fun bt123 => ((laws_heldIntS.f kj25 bt123.2 1).bind fun t125 => (if t125 < 0 then (some false) else (if t125 = bt123.1 then ((laws_toIntS.f kj25 l0).bind fun t126 => ((impl_RankCounts.f kj25 t126 a1).bind fun bt129 => ((laws_eqIntS.f kj25 bt129.1 t104).bind fun t133 => (if t133 = true then (laws_FnExactRankCounts.j2 kj25 bt123.2 bt123.1 (bt129.2 != t105)) else (laws_FnExactRankCounts.j2 kj25 bt123.2 bt123.1 true))))) else (some false))))) = some r := by rw [if_neg (show ¬ (false = true) by decide)] at H; exact H
                  clear H
                  have H := H1
                  clear H1
                  replace H := Option.bind_eq_some_iff.mp H
                  obtain ⟨⟨t123, t124⟩, A380, H⟩ := H
                  replace H : ((laws_heldIntS.f kj25 t124 1).bind fun t125 => (if t125 < 0 then (some false) else (if t125 = t123 then ((laws_toIntS.f kj25 l0).bind fun t126 => ((impl_RankCounts.f kj25 t126 a1).bind fun bt129 => ((laws_eqIntS.f kj25 bt129.1 t104).bind fun t133 => (if t133 = true then (laws_FnExactRankCounts.j2 kj25 t124 t123 (bt129.2 != t105)) else (laws_FnExactRankCounts.j2 kj25 t124 t123 true))))) else (some false)))) = some r := H
                  have A38 := Aside0.mk A380
                  clear A380
                  replace H := Option.bind_eq_some_iff.mp H
                  obtain ⟨t125, A390, H⟩ := H
                  replace H : (if t125 < 0 then (some false) else (if t125 = t123 then ((laws_toIntS.f kj25 l0).bind fun t126 => ((impl_RankCounts.f kj25 t126 a1).bind fun bt129 => ((laws_eqIntS.f kj25 bt129.1 t104).bind fun t133 => (if t133 = true then (laws_FnExactRankCounts.j2 kj25 t124 t123 (bt129.2 != t105)) else (laws_FnExactRankCounts.j2 kj25 t124 t123 true))))) else (some false))) = some r := H
                  have A39 := Aside0.mk A390
                  clear A390
                  by_cases c40 : t125 < 0
                  · rw [if_pos c40] at H
                    have c40b0 : decide (t125 < 0) = true := decide_eq_true c40
                    clear c40
                    obtain rfl := Option.some.inj H
                    obtain ⟨Ao41, co41, eo41⟩ := Kd.R_slice HO_8.out
                    subst eo41
                    go_wp2_with (first | ((with_reducible refine gate_callee (f := 25) rfl ?_); refine goesL_ (some 65) rfl rfl Try.func25 (by kernel_rfl) rfl #[.slice Ao41 t111.length co41, .int .i64 1] rfl (by (try simp only [List.map_toArray, List.map_cons, List.map_nil]); first | done | rfl | (simp only [List.length_drop, List.length_take]; rfl)) ?_; (with_reducible refine (laws_markIntS.calls kj25 (fun k_ => some k_ = (.slice Ao41 t111.length co41 : Value).ownBlock) (.slice Ao41 t111.length co41) t111 1 t123 t124 w _ ?side1 ?side2 A38.out).mono ?_); (case side1 => repeat (first | (with_reducible first | exact HB.out | apply below_alloc | apply pw_below_drewN | apply below_drew1) | exact HB.out)); (case side2 => exact Kd.R_tight rfl HO_8.out); rintro e w42 ⟨rfl, hy0, hb, hkp⟩; refine ⟨_, rfl, ?_⟩; have n0_ := Aside0.mk (Kd.R_mono (ok' := fun k_ => some k_ ≠ (.slice Ao41 t111.length co41 : Value).ownBlock) (Kd.R_keptB (HO_5.out) hkp (fun k_ hk_ hs_ => (hk_) hs_)) (fun k_ hk_ => hk_.1)); have n1_ := Aside0.mk (Kd.R_reok rfl hy0 (fun k_ e_ => HO_8.out.1 k_ e_)); have n2_ := Aside0.mk (hb); clear HO_5; clear HO_8; clear HB; have HO_5 := n0_; have HO_8 := n1_; have HB := n2_; clear n0_ n1_ n2_; (try clear hb); (try clear hkp); (try clear hy0)) | ((with_reducible refine gate_callee (f := 32) rfl ?_); refine goesL_ (some 68) rfl rfl Try.func32 (by kernel_rfl) rfl #[.slice Ao41 t124.length co41, .int .i64 1] rfl (by (try simp only [List.map_toArray, List.map_cons, List.map_nil]); first | done | (rw [show t124.length = t111.length from (Kd.R_reads' HO_8.out).1.symm] <;> rfl) | rfl | (simp only [List.length_drop, List.length_take]; rfl)) ?_; (with_reducible refine (laws_heldIntS.calls kj25 _ _ t124 1 t125 _ ?side1 ?side2 A39.out).mono ?_); (case side1 => repeat (first | exact (Kd.R_reads' HO_8.out).2.2 | (with_reducible refine Kd.C_alloc ?_ _) | (with_reducible refine Kd.C_drewN ?_ _) | (with_reducible refine Kd.C_drew ?_))); (case side2 => rw [show t124.length = t111.length from (Kd.R_reads' HO_8.out).1.symm]; exact (Kd.R_reads' HO_8.out).2.1); rintro e w' ⟨rfl, ⟨nd, rfl⟩⟩; refine ⟨_, rfl, ?_⟩))
                    go_ret
                    exact ⟨by first | rfl | (simp [errW_none, errW_some] <;> rfl) | (simp [*, errW_none, errW_some] <;> rfl), by repeat (first | (with_reducible first | exact HB.out | apply below_alloc | apply pw_below_drewN | apply below_drew1) | exact HB.out)⟩
                  · rw [if_neg c40] at H
                    have c40b0 : decide (t125 < 0) = false := decide_eq_false c40
                    clear c40
                    by_cases c43 : t125 = t123
                    · rw [if_pos c43] at H
                      have c43b0 : (t125 == t123) = true := beq_iff_eq.mpr c43
                      have c43b1 : (t125 != t123) = false := bne_eq_false_iff_eq.mpr c43
                      clear c43
                      replace H := Option.bind_eq_some_iff.mp H
                      obtain ⟨t126, A440, H⟩ := H
                      replace H : ((impl_RankCounts.f kj25 t126 a1).bind fun bt129 => ((laws_eqIntS.f kj25 bt129.1 t104).bind fun t133 => (if t133 = true then (laws_FnExactRankCounts.j2 kj25 t124 t123 (bt129.2 != t105)) else (laws_FnExactRankCounts.j2 kj25 t124 t123 true)))) = some r := H
                      have A44 := Aside0.mk A440
                      clear A440
                      replace H := Option.bind_eq_some_iff.mp H
                      obtain ⟨⟨t129, t130⟩, A450, H⟩ := H
                      replace H : ((laws_eqIntS.f kj25 t129 t104).bind fun t133 => (if t133 = true then (laws_FnExactRankCounts.j2 kj25 t124 t123 (t130 != t105)) else (laws_FnExactRankCounts.j2 kj25 t124 t123 true))) = some r := H
                      have A45 := Aside0.mk A450
                      clear A450
                      have HC46 := Aside0.mk H
                      clear H
                      obtain ⟨Ao47, co47, eo47⟩ := Kd.R_slice HO_8.out
                      subst eo47
                      go_upto_region 23 with (first | ((with_reducible refine gate_callee (f := 25) rfl ?_); refine goesL_ (some 65) rfl rfl Try.func25 (by kernel_rfl) rfl #[.slice Ao47 t111.length co47, .int .i64 1] rfl (by (try simp only [List.map_toArray, List.map_cons, List.map_nil]); first | done | rfl | (simp only [List.length_drop, List.length_take]; rfl)) ?_; (with_reducible refine (laws_markIntS.calls kj25 (fun k_ => some k_ = (.slice Ao47 t111.length co47 : Value).ownBlock) (.slice Ao47 t111.length co47) t111 1 t123 t124 w _ ?side1 ?side2 A38.out).mono ?_); (case side1 => repeat (first | (with_reducible first | exact HB.out | apply below_alloc | apply pw_below_drewN | apply below_drew1) | exact HB.out)); (case side2 => exact Kd.R_tight rfl HO_8.out); rintro e w48 ⟨rfl, hy0, hb, hkp⟩; refine ⟨_, rfl, ?_⟩; have n0_ := Aside0.mk (Kd.R_mono (ok' := fun k_ => some k_ ≠ (.slice Ao47 t111.length co47 : Value).ownBlock) (Kd.R_keptB (HO_5.out) hkp (fun k_ hk_ hs_ => (hk_) hs_)) (fun k_ hk_ => hk_.1)); have n1_ := Aside0.mk (Kd.R_reok rfl hy0 (fun k_ e_ => HO_8.out.1 k_ e_)); have n2_ := Aside0.mk (hb); clear HO_5; clear HO_8; clear HB; have HO_5 := n0_; have HO_8 := n1_; have HB := n2_; clear n0_ n1_ n2_; (try clear hb); (try clear hkp); (try clear hy0)) | ((with_reducible refine gate_callee (f := 32) rfl ?_); refine goesL_ (some 68) rfl rfl Try.func32 (by kernel_rfl) rfl #[.slice Ao47 t124.length co47, .int .i64 1] rfl (by (try simp only [List.map_toArray, List.map_cons, List.map_nil]); first | done | (rw [show t124.length = t111.length from (Kd.R_reads' HO_8.out).1.symm] <;> rfl) | rfl | (simp only [List.length_drop, List.length_take]; rfl)) ?_; (with_reducible refine (laws_heldIntS.calls kj25 _ _ t124 1 t125 _ ?side1 ?side2 A39.out).mono ?_); (case side1 => repeat (first | exact (Kd.R_reads' HO_8.out).2.2 | (with_reducible refine Kd.C_alloc ?_ _) | (with_reducible refine Kd.C_drewN ?_ _) | (with_reducible refine Kd.C_drew ?_))); (case side2 => rw [show t124.length = t111.length from (Kd.R_reads' HO_8.out).1.symm]; exact (Kd.R_reads' HO_8.out).2.1); rintro e w' ⟨rfl, ⟨nd, rfl⟩⟩; refine ⟨_, rfl, ?_⟩) | ((with_reducible refine gate_callee (f := 18) rfl ?_); refine goesL_ (some 76) rfl rfl Try.func18 (by kernel_rfl) rfl #[.slice A0 l0.length c0] rfl (by (try simp only [List.map_toArray, List.map_cons, List.map_nil]); first | done | rfl | (simp only [List.length_drop, List.length_take]; rfl)) ?_; (with_reducible refine (laws_toIntS.calls kj25 _ _ l0 t126 _ ?side1 ?side2 A44.out).mono ?_); (case side1 => repeat (first | exact (Kd.C_below HR0.out (by repeat (first | (with_reducible first | exact HB.out | apply below_alloc | apply pw_below_drewN | apply below_drew1) | exact HB.out))) | (with_reducible refine Kd.C_alloc ?_ _) | (with_reducible refine Kd.C_drewN ?_ _) | (with_reducible refine Kd.C_drew ?_))); (case side2 => exact HC0.out); rintro e w49 ⟨v127, rfl, ho0, hb⟩; refine ⟨_, rfl, ?_⟩; have n0_ := Aside0.mk (Kd.R_elder' (by (with_reducible repeat (first | apply Kd.R_alloc | apply Kd.R_drewN | apply Kd.R_drew)); exact HO_5.out) (Kd.R_base ho0) hb); have n1_ := Aside0.mk (Kd.R_elder' (by (with_reducible repeat (first | apply Kd.R_alloc | apply Kd.R_drewN | apply Kd.R_drew)); exact HO_8.out) (Kd.R_base ho0) hb); have n2_ := Aside0.mk (Kd.R_lower (Kd.R_new' (Kd.R_new' ho0 (Kd.R_lt (by (with_reducible repeat (first | apply Kd.R_alloc | apply Kd.R_drewN | apply Kd.R_drew)); exact HO_5.out))) (Kd.R_lt (by (with_reducible repeat (first | apply Kd.R_alloc | apply Kd.R_drewN | apply Kd.R_drew)); exact HO_8.out))) (below_size (by repeat (first | (with_reducible first | exact HB.out | apply below_alloc | apply pw_below_drewN | apply below_drew1) | exact HB.out)))); have n3_ := Aside0.mk (below_step (by repeat (first | (with_reducible first | exact HB.out | apply below_alloc | apply pw_below_drewN | apply below_drew1) | exact HB.out)) hb); clear HO_5; clear HO_8; clear HB; have HO_5 := n0_; have HO_8 := n1_; have HO128 := n2_; have HB := n3_; clear n0_ n1_ n2_ n3_; (try clear hb); (try clear hb2); (try clear hk); (try clear hi); (try clear ho0); obtain ⟨Ao50, co50, eo50⟩ := Kd.R_slice HO128.out; subst eo50) | ((with_reducible refine gate_callee (f := 44) rfl ?_); refine goesL_ (some 78) rfl rfl Try.func44 (by kernel_rfl) rfl #[.slice Ao50 t126.length co50, .int .i64 a1] rfl (by (try simp only [List.map_toArray, List.map_cons, List.map_nil]); first | done | rfl | (simp only [List.length_drop, List.length_take]; rfl)) ?_; (with_reducible refine (impl_RankCounts.calls kj25 _ _ t126 a1 t129 t130 _ ?side1 ?side2 A45.out).mono ?_); (case side1 => repeat (first | exact (Kd.R_reads' HO128.out).2.2 | (with_reducible refine Kd.C_alloc ?_ _) | (with_reducible refine Kd.C_drewN ?_ _) | (with_reducible refine Kd.C_drew ?_))); (case side2 => exact (Kd.R_reads' HO128.out).2.1); rintro e w51 ⟨v131, rfl, ho0, hb⟩; refine ⟨_, rfl, ?_⟩; have n0_ := Aside0.mk (Kd.R_elder' (by (with_reducible repeat (first | apply Kd.R_alloc | apply Kd.R_drewN | apply Kd.R_drew)); exact HO_5.out) (Kd.R_base ho0) hb); have n1_ := Aside0.mk (Kd.R_elder' (by (with_reducible repeat (first | apply Kd.R_alloc | apply Kd.R_drewN | apply Kd.R_drew)); exact HO_8.out) (Kd.R_base ho0) hb); have n2_ := Aside0.mk (Kd.R_elder' (by (with_reducible repeat (first | apply Kd.R_alloc | apply Kd.R_drewN | apply Kd.R_drew)); exact HO128.out) (Kd.R_base ho0) hb); have n3_ := Aside0.mk (Kd.R_lower (Kd.R_new' (Kd.R_new' (Kd.R_new' ho0 (Kd.R_lt (by (with_reducible repeat (first | apply Kd.R_alloc | apply Kd.R_drewN | apply Kd.R_drew)); exact HO_5.out))) (Kd.R_lt (by (with_reducible repeat (first | apply Kd.R_alloc | apply Kd.R_drewN | apply Kd.R_drew)); exact HO_8.out))) (Kd.R_lt (by (with_reducible repeat (first | apply Kd.R_alloc | apply Kd.R_drewN | apply Kd.R_drew)); exact HO128.out))) (below_size (by repeat (first | (with_reducible first | exact HB.out | apply below_alloc | apply pw_below_drewN | apply below_drew1) | exact HB.out)))); have n4_ := Aside0.mk (below_step (by repeat (first | (with_reducible first | exact HB.out | apply below_alloc | apply pw_below_drewN | apply below_drew1) | exact HB.out)) hb); clear HO_5; clear HO_8; clear HO128; clear HB; have HO_5 := n0_; have HO_8 := n1_; have HO128 := n2_; have HO132 := n3_; have HB := n4_; clear n0_ n1_ n2_ n3_ n4_; (try clear hb); (try clear hb2); (try clear hk); (try clear hi); (try clear ho0)))
                      (try simp only [Act.put, List.setIfInBounds_toArray, List.set_cons_zero, List.set_cons_succ])
                      go_cut [89] (fun v89 wc => ∃ (kq : Nat) (x89_45 : Bool), v89 = .bool x89_45 ∧ Aside0 (laws_FnExactRankCounts.j2 kq t124 t123 x89_45 = some r) ∧ Aside0 (kq ≤ kj25) ∧ Aside0 (Kd.R (Kd.int .i64) 3 wc w.heap.size (fun _ => True) (.slice Ao47 t111.length co47) t124) ∧ Aside0 (Below w.heap.size w wc))
                      case first =>
                        have H := HC46.out
                        clear HC46
                        replace H := Option.bind_eq_some_iff.mp H
                        obtain ⟨t133, A520, H⟩ := H
                        replace H : (if t133 = true then (laws_FnExactRankCounts.j2 kj25 t124 t123 (t130 != t105)) else (laws_FnExactRankCounts.j2 kj25 t124 t123 true)) = some r := H
                        have A52 := Aside0.mk A520
                        clear A520
                        by_cases c53 : t133 = true
                        · subst c53
                          have H1 : (laws_FnExactRankCounts.j2 kj25 t124 t123 (t130 != t105)) = some r := by rw [if_pos rfl] at H; exact H
                          clear H
                          have H := H1
                          clear H1
                          have H' := Aside0.mk H
                          clear H
                          obtain ⟨Ao54, co54, eo54⟩ := Kd.R_slice HO132.out
                          subst eo54
                          obtain ⟨Ao55, co55, eo55⟩ := Kd.R_slice HO_5.out
                          subst eo55
                          go_wp2_with (first | ((with_reducible refine gate_callee (f := 21) rfl ?_); refine goesL_ (some 83) rfl rfl Try.func21 (by kernel_rfl) rfl #[.slice Ao54 t129.length co54, .slice Ao55 t104.length co55] rfl (by (try simp only [List.map_toArray, List.map_cons, List.map_nil]); first | done | rfl | (simp only [List.length_drop, List.length_take]; rfl)) ?_; (with_reducible refine (laws_eqIntS.calls kj25 _ _ t129 _ _ t104 true _ ?side1 ?side2 ?side3 ?side4 A52.out).mono ?_); (case side1 => repeat (first | exact (Kd.R_reads' HO132.out).2.2 | (with_reducible refine Kd.C_alloc ?_ _) | (with_reducible refine Kd.C_drewN ?_ _) | (with_reducible refine Kd.C_drew ?_))); (case side2 => exact (Kd.R_reads' HO132.out).2.1); (case side3 => repeat (first | exact (Kd.R_reads' HO_5.out).2.2 | (with_reducible refine Kd.C_alloc ?_ _) | (with_reducible refine Kd.C_drewN ?_ _) | (with_reducible refine Kd.C_drew ?_))); (case side4 => exact (Kd.R_reads' HO_5.out).2.1); rintro e w' ⟨rfl, ⟨nd, rfl⟩⟩; refine ⟨_, rfl, ?_⟩))
                          go_meet
                          case rel => exact ⟨_, ((t130 != t105)), (by first | rfl | (simp; done) | (simp [*]; done)), H', ⟨by have := HJ7.out; have := HJ25.out; first | omega | exact Nat.le_refl _⟩, ⟨by (with_reducible repeat (first | apply Kd.R_alloc | apply Kd.R_drewN | apply Kd.R_drew)); exact Kd.R_mono HO_8.out (fun _ hk => trivial)⟩, ⟨by repeat (first | (with_reducible first | exact HB.out | apply below_alloc | apply pw_below_drewN | apply below_drew1) | exact HB.out)⟩⟩
                        · replace c53 := Bool.eq_false_iff.mpr c53
                          subst c53
                          have H1 : (laws_FnExactRankCounts.j2 kj25 t124 t123 true) = some r := by rw [if_neg (show ¬ (false = true) by decide)] at H; exact H
                          clear H
                          have H := H1
                          clear H1
                          have H' := Aside0.mk H
                          clear H
                          obtain ⟨Ao56, co56, eo56⟩ := Kd.R_slice HO132.out
                          subst eo56
                          obtain ⟨Ao57, co57, eo57⟩ := Kd.R_slice HO_5.out
                          subst eo57
                          go_wp2_with (first | ((with_reducible refine gate_callee (f := 21) rfl ?_); refine goesL_ (some 83) rfl rfl Try.func21 (by kernel_rfl) rfl #[.slice Ao56 t129.length co56, .slice Ao57 t104.length co57] rfl (by (try simp only [List.map_toArray, List.map_cons, List.map_nil]); first | done | rfl | (simp only [List.length_drop, List.length_take]; rfl)) ?_; (with_reducible refine (laws_eqIntS.calls kj25 _ _ t129 _ _ t104 false _ ?side1 ?side2 ?side3 ?side4 A52.out).mono ?_); (case side1 => repeat (first | exact (Kd.R_reads' HO132.out).2.2 | (with_reducible refine Kd.C_alloc ?_ _) | (with_reducible refine Kd.C_drewN ?_ _) | (with_reducible refine Kd.C_drew ?_))); (case side2 => exact (Kd.R_reads' HO132.out).2.1); (case side3 => repeat (first | exact (Kd.R_reads' HO_5.out).2.2 | (with_reducible refine Kd.C_alloc ?_ _) | (with_reducible refine Kd.C_drewN ?_ _) | (with_reducible refine Kd.C_drew ?_))); (case side4 => exact (Kd.R_reads' HO_5.out).2.1); rintro e w' ⟨rfl, ⟨nd, rfl⟩⟩; refine ⟨_, rfl, ?_⟩))
                          go_meet
                          case rel => exact ⟨_, (true), (by first | rfl | (simp; done) | (simp [*]; done)), H', ⟨by have := HJ7.out; have := HJ25.out; first | omega | exact Nat.le_refl _⟩, ⟨by (with_reducible repeat (first | apply Kd.R_alloc | apply Kd.R_drewN | apply Kd.R_drew)); exact Kd.R_mono HO_8.out (fun _ hk => trivial)⟩, ⟨by repeat (first | (with_reducible first | exact HB.out | apply below_alloc | apply pw_below_drewN | apply below_drew1) | exact HB.out)⟩⟩
                      case rest =>
                        clear HC46
                        try clear c1
                        try clear c2
                        try clear p2
                        try clear c3
                        try clear c3b0
                        try clear c3b1
                        try clear c4
                        try clear c5
                        try clear c12
                        try clear c16
                        try clear c18
                        try clear c21
                        try clear c24
                        try clear c25
                        try clear c30
                        try clear c30b0
                        try clear c32
                        try clear c37
                        try clear c40
                        try clear c40b0
                        try clear c43
                        try clear c43b0
                        try clear c43b1
                        try clear c44
                        try clear c53
                        try clear p2
                        obtain ⟨kq, x89_45, rfl, HA, HJ45, HO_8, HB⟩ := hcut
                        have hl8_45 := (Kd.R_reads' HO_8.out).1
                        rw [hl8_45] at HO_8
                        (try simp only [hl8_45])
                        cases kq with
                        | zero => exact absurd HA.out (by simp [laws_FnExactRankCounts.j2])
                        | succ kj45 =>
                          have H := HA.out
                          clear HA
                          simp only [laws_FnExactRankCounts.j2] at H
                          by_cases c58 : x89_45 = true
                          · subst c58
                            have H1 : (some false) = some r := by rw [if_pos rfl] at H; exact H
                            clear H
                            have H := H1
                            clear H1
                            obtain rfl := Option.some.inj H
                            go_wp2
                            go_ret
                            exact ⟨by first | rfl | (simp [errW_none, errW_some] <;> rfl) | (simp [*, errW_none, errW_some] <;> rfl), by repeat (first | (with_reducible first | exact HB.out | apply below_alloc | apply pw_below_drewN | apply below_drew1) | exact HB.out)⟩
                          · replace c58 := Bool.eq_false_iff.mpr c58
                            subst c58
                            have H1 : ((laws_heldIntS.f kj45 t124 1).bind fun t134 => (if t134 < 0 then (some false) else (if t134 = t123 then (some true) else (some false)))) = some r := by rw [if_neg (show ¬ (false = true) by decide)] at H; exact H
                            clear H
                            have H := H1
                            clear H1
                            replace H := Option.bind_eq_some_iff.mp H
                            obtain ⟨t134, A590, H⟩ := H
                            replace H : (if t134 < 0 then (some false) else (if t134 = t123 then (some true) else (some false))) = some r := H
                            have A59 := Aside0.mk A590
                            clear A590
                            by_cases c60 : t134 < 0
                            · rw [if_pos c60] at H
                              have c60b0 : decide (t134 < 0) = true := decide_eq_true c60
                              clear c60
                              obtain rfl := Option.some.inj H
                              go_wp2_with (first | ((with_reducible refine gate_callee (f := 32) rfl ?_); refine goesL_ (some 92) rfl rfl Try.func32 (by kernel_rfl) rfl #[.slice Ao47 t124.length co47, .int .i64 1] rfl (by (try simp only [List.map_toArray, List.map_cons, List.map_nil]); first | done | rfl | (simp only [List.length_drop, List.length_take]; rfl)) ?_; (with_reducible refine (laws_heldIntS.calls kj45 _ _ t124 1 t134 _ ?side1 ?side2 A59.out).mono ?_); (case side1 => repeat (first | exact (Kd.R_reads' HO_8.out).2.2 | (with_reducible refine Kd.C_alloc ?_ _) | (with_reducible refine Kd.C_drewN ?_ _) | (with_reducible refine Kd.C_drew ?_))); (case side2 => exact (Kd.R_reads' HO_8.out).2.1); rintro e w' ⟨rfl, ⟨nd, rfl⟩⟩; refine ⟨_, rfl, ?_⟩))
                              go_ret
                              exact ⟨by first | rfl | (simp [errW_none, errW_some] <;> rfl) | (simp [*, errW_none, errW_some] <;> rfl), by repeat (first | (with_reducible first | exact HB.out | apply below_alloc | apply pw_below_drewN | apply below_drew1) | exact HB.out)⟩
                            · rw [if_neg c60] at H
                              have c60b0 : decide (t134 < 0) = false := decide_eq_false c60
                              clear c60
                              by_cases c61 : t134 = t123
                              · rw [if_pos c61] at H
                                have c61b0 : (t134 == t123) = true := beq_iff_eq.mpr c61
                                have c61b1 : (t134 != t123) = false := bne_eq_false_iff_eq.mpr c61
                                clear c61
                                obtain rfl := Option.some.inj H
                                go_wp2_with (first | ((with_reducible refine gate_callee (f := 32) rfl ?_); refine goesL_ (some 92) rfl rfl Try.func32 (by kernel_rfl) rfl #[.slice Ao47 t124.length co47, .int .i64 1] rfl (by (try simp only [List.map_toArray, List.map_cons, List.map_nil]); first | done | rfl | (simp only [List.length_drop, List.length_take]; rfl)) ?_; (with_reducible refine (laws_heldIntS.calls kj45 _ _ t124 1 t134 _ ?side1 ?side2 A59.out).mono ?_); (case side1 => repeat (first | exact (Kd.R_reads' HO_8.out).2.2 | (with_reducible refine Kd.C_alloc ?_ _) | (with_reducible refine Kd.C_drewN ?_ _) | (with_reducible refine Kd.C_drew ?_))); (case side2 => exact (Kd.R_reads' HO_8.out).2.1); rintro e w' ⟨rfl, ⟨nd, rfl⟩⟩; refine ⟨_, rfl, ?_⟩))
                                go_ret
                                exact ⟨by first | rfl | (simp [errW_none, errW_some] <;> rfl) | (simp [*, errW_none, errW_some] <;> rfl), by repeat (first | (with_reducible first | exact HB.out | apply below_alloc | apply pw_below_drewN | apply below_drew1) | exact HB.out)⟩
                              · rw [if_neg c61] at H
                                have c61b0 : (t134 == t123) = false := beq_eq_false_iff_ne.mpr c61
                                have c61b1 : (t134 != t123) = true := bne_iff_ne.mpr c61
                                obtain rfl := Option.some.inj H
                                go_wp2_with (first | ((with_reducible refine gate_callee (f := 32) rfl ?_); refine goesL_ (some 92) rfl rfl Try.func32 (by kernel_rfl) rfl #[.slice Ao47 t124.length co47, .int .i64 1] rfl (by (try simp only [List.map_toArray, List.map_cons, List.map_nil]); first | done | rfl | (simp only [List.length_drop, List.length_take]; rfl)) ?_; (with_reducible refine (laws_heldIntS.calls kj45 _ _ t124 1 t134 _ ?side1 ?side2 A59.out).mono ?_); (case side1 => repeat (first | exact (Kd.R_reads' HO_8.out).2.2 | (with_reducible refine Kd.C_alloc ?_ _) | (with_reducible refine Kd.C_drewN ?_ _) | (with_reducible refine Kd.C_drew ?_))); (case side2 => exact (Kd.R_reads' HO_8.out).2.1); rintro e w' ⟨rfl, ⟨nd, rfl⟩⟩; refine ⟨_, rfl, ?_⟩))
                                go_ret
                                exact ⟨by first | rfl | (simp [errW_none, errW_some] <;> rfl) | (simp [*, errW_none, errW_some] <;> rfl), by repeat (first | (with_reducible first | exact HB.out | apply below_alloc | apply pw_below_drewN | apply below_drew1) | exact HB.out)⟩
                    · rw [if_neg c43] at H
                      have c43b0 : (t125 == t123) = false := beq_eq_false_iff_ne.mpr c43
                      have c43b1 : (t125 != t123) = true := bne_iff_ne.mpr c43
                      obtain rfl := Option.some.inj H
                      obtain ⟨Ao62, co62, eo62⟩ := Kd.R_slice HO_8.out
                      subst eo62
                      go_wp2_with (first | ((with_reducible refine gate_callee (f := 25) rfl ?_); refine goesL_ (some 65) rfl rfl Try.func25 (by kernel_rfl) rfl #[.slice Ao62 t111.length co62, .int .i64 1] rfl (by (try simp only [List.map_toArray, List.map_cons, List.map_nil]); first | done | rfl | (simp only [List.length_drop, List.length_take]; rfl)) ?_; (with_reducible refine (laws_markIntS.calls kj25 (fun k_ => some k_ = (.slice Ao62 t111.length co62 : Value).ownBlock) (.slice Ao62 t111.length co62) t111 1 t123 t124 w _ ?side1 ?side2 A38.out).mono ?_); (case side1 => repeat (first | (with_reducible first | exact HB.out | apply below_alloc | apply pw_below_drewN | apply below_drew1) | exact HB.out)); (case side2 => exact Kd.R_tight rfl HO_8.out); rintro e w63 ⟨rfl, hy0, hb, hkp⟩; refine ⟨_, rfl, ?_⟩; have n0_ := Aside0.mk (Kd.R_mono (ok' := fun k_ => some k_ ≠ (.slice Ao62 t111.length co62 : Value).ownBlock) (Kd.R_keptB (HO_5.out) hkp (fun k_ hk_ hs_ => (hk_) hs_)) (fun k_ hk_ => hk_.1)); have n1_ := Aside0.mk (Kd.R_reok rfl hy0 (fun k_ e_ => HO_8.out.1 k_ e_)); have n2_ := Aside0.mk (hb); clear HO_5; clear HO_8; clear HB; have HO_5 := n0_; have HO_8 := n1_; have HB := n2_; clear n0_ n1_ n2_; (try clear hb); (try clear hkp); (try clear hy0)) | ((with_reducible refine gate_callee (f := 32) rfl ?_); refine goesL_ (some 68) rfl rfl Try.func32 (by kernel_rfl) rfl #[.slice Ao62 t124.length co62, .int .i64 1] rfl (by (try simp only [List.map_toArray, List.map_cons, List.map_nil]); first | done | (rw [show t124.length = t111.length from (Kd.R_reads' HO_8.out).1.symm] <;> rfl) | rfl | (simp only [List.length_drop, List.length_take]; rfl)) ?_; (with_reducible refine (laws_heldIntS.calls kj25 _ _ t124 1 t125 _ ?side1 ?side2 A39.out).mono ?_); (case side1 => repeat (first | exact (Kd.R_reads' HO_8.out).2.2 | (with_reducible refine Kd.C_alloc ?_ _) | (with_reducible refine Kd.C_drewN ?_ _) | (with_reducible refine Kd.C_drew ?_))); (case side2 => rw [show t124.length = t111.length from (Kd.R_reads' HO_8.out).1.symm]; exact (Kd.R_reads' HO_8.out).2.1); rintro e w' ⟨rfl, ⟨nd, rfl⟩⟩; refine ⟨_, rfl, ?_⟩))
                      go_ret
                      exact ⟨by first | rfl | (simp [errW_none, errW_some] <;> rfl) | (simp [*, errW_none, errW_some] <;> rfl), by repeat (first | (with_reducible first | exact HB.out | apply below_alloc | apply pw_below_drewN | apply below_drew1) | exact HB.out)⟩
          · replace c24 := Bool.eq_false_iff.mpr c24
            subst c24
            have H1 : (some false) = some r := by rw [if_neg (show ¬ (false = true) by decide)] at H; exact H
            clear H
            have H := H1
            clear H1
            obtain rfl := Option.some.inj H
            go_wp2_with (first | ((with_reducible refine gate_callee (f := 18) rfl ?_); refine goesL_ (some 44) rfl rfl Try.func18 (by kernel_rfl) rfl #[.slice A0 l0.length c0] rfl (by (try simp only [List.map_toArray, List.map_cons, List.map_nil]); first | done | rfl | (simp only [List.length_drop, List.length_take]; rfl)) ?_; (with_reducible refine (laws_toIntS.calls kj7 _ _ l0 t116 _ ?side1 ?side2 A22.out).mono ?_); (case side1 => repeat (first | exact (Kd.C_below HR0.out HB.out) | (with_reducible refine Kd.C_alloc ?_ _) | (with_reducible refine Kd.C_drewN ?_ _) | (with_reducible refine Kd.C_drew ?_))); (case side2 => exact HC0.out); rintro e w64 ⟨v117, rfl, ho0, hb⟩; refine ⟨_, rfl, ?_⟩; have n0_ := Aside0.mk (Kd.R_elder' (by (with_reducible repeat (first | apply Kd.R_alloc | apply Kd.R_drewN | apply Kd.R_drew)); exact HO_5.out) (Kd.R_base ho0) hb); have n1_ := Aside0.mk (Kd.R_elder' (by (with_reducible repeat (first | apply Kd.R_alloc | apply Kd.R_drewN | apply Kd.R_drew)); exact HO_7.out) (Kd.R_base ho0) hb); have n2_ := Aside0.mk (Kd.R_elder' (by (with_reducible repeat (first | apply Kd.R_alloc | apply Kd.R_drewN | apply Kd.R_drew)); exact HO_8.out) (Kd.R_base ho0) hb); have n3_ := Aside0.mk (Kd.R_lower (Kd.R_new' (Kd.R_new' (Kd.R_new' ho0 (Kd.R_lt (by (with_reducible repeat (first | apply Kd.R_alloc | apply Kd.R_drewN | apply Kd.R_drew)); exact HO_5.out))) (Kd.R_lt (by (with_reducible repeat (first | apply Kd.R_alloc | apply Kd.R_drewN | apply Kd.R_drew)); exact HO_7.out))) (Kd.R_lt (by (with_reducible repeat (first | apply Kd.R_alloc | apply Kd.R_drewN | apply Kd.R_drew)); exact HO_8.out))) (below_size (by repeat (first | (with_reducible first | exact HB.out | apply below_alloc | apply pw_below_drewN | apply below_drew1) | exact HB.out)))); have n4_ := Aside0.mk (below_step (by repeat (first | (with_reducible first | exact HB.out | apply below_alloc | apply pw_below_drewN | apply below_drew1) | exact HB.out)) hb); clear HO_5; clear HO_7; clear HO_8; clear HB; have HO_5 := n0_; have HO_7 := n1_; have HO_8 := n2_; have HO118 := n3_; have HB := n4_; clear n0_ n1_ n2_ n3_ n4_; (try clear hb); (try clear hb2); (try clear hk); (try clear hi); (try clear ho0); obtain ⟨Ao65, co65, eo65⟩ := Kd.R_slice HO118.out; subst eo65) | ((with_reducible refine gate_callee (f := 21) rfl ?_); refine goesL_ (some 45) rfl rfl Try.func21 (by kernel_rfl) rfl #[.slice Ao13 t108.length co13, .slice Ao65 t116.length co65] rfl (by (try simp only [List.map_toArray, List.map_cons, List.map_nil]); first | done | rfl | (simp only [List.length_drop, List.length_take]; rfl)) ?_; (with_reducible refine (laws_eqIntS.calls kj7 _ _ t108 _ _ t116 false _ ?side1 ?side2 ?side3 ?side4 A23.out).mono ?_); (case side1 => repeat (first | exact (Kd.R_reads' HO_7.out).2.2 | (with_reducible refine Kd.C_alloc ?_ _) | (with_reducible refine Kd.C_drewN ?_ _) | (with_reducible refine Kd.C_drew ?_))); (case side2 => exact (Kd.R_reads' HO_7.out).2.1); (case side3 => repeat (first | exact (Kd.R_reads' HO118.out).2.2 | (with_reducible refine Kd.C_alloc ?_ _) | (with_reducible refine Kd.C_drewN ?_ _) | (with_reducible refine Kd.C_drew ?_))); (case side4 => exact (Kd.R_reads' HO118.out).2.1); rintro e w' ⟨rfl, ⟨nd, rfl⟩⟩; refine ⟨_, rfl, ?_⟩))
            go_ret
            exact ⟨by first | rfl | (simp [errW_none, errW_some] <;> rfl) | (simp [*, errW_none, errW_some] <;> rfl), by repeat (first | (with_reducible first | exact HB.out | apply below_alloc | apply pw_below_drewN | apply below_drew1) | exact HB.out)⟩

/-- THE ONE PURE STATEMENT of laws_FnExactRankCounts: yours. -/
def laws_FnExactRankCounts.Pure : Prop := ∀ (l0 : List Int) (a1 : Int), l0.length ≤ maxLen → l0.length * 8 ≤ 140737488351232 → (∀ x ∈ l0, (Lit.int .i64 x).wf = true) → (Lit.int .i64 a1).wf = true → ∃ k, laws_FnExactRankCounts.f k l0 a1 = some true
theorem laws_FnExactRankCounts.walk (P : laws_FnExactRankCounts.Pure) (a0 : Option Addr) (len0 cap0 : Nat) (z0 : List Int) (a1 : Int) (w : World) (w0 : (a0 = none ∧ len0 = 0 ∧ cap0 = 0 ∧ z0 = []) ∨ ∃ x, a0 = some x ∧ len0 ≤ cap0 ∧ cap0 ≤ maxLen ∧ z0.length = cap0 ∧ (∀ i, i < z0.length → w.cell? (x.add i) = some (.int .i64 (z0.getD i 0))) ∧ ∀ n ∈ z0, (Lit.int .i64 n).wf = true) (y0 : len0 * 8 ≤ 140737488351232) (w1 : (Lit.int .i64 a1).wf = true) :
    Calls Try.prog 12 #[.slice a0 len0 cap0, .int .i64 a1] w fun e w' => e = .returned (.bool true) ∧ Below w.heap.size w w' := by
  obtain ⟨l0, rfl, hr0, hm0, hw0, hc0⟩ := ReadsInt.ofRowC w0
  obtain ⟨k, h⟩ := P l0 a1 hm0 y0 hw0 w1
  refine (laws_FnExactRankCounts.calls k _ _ l0 a1 true w (Kd.C_of_reads (d := (0 : Int)) (h1 := fun _ => rfl) hr0) hc0 h).mono ?_
  rintro e w' ⟨rfl, hd⟩
  exact ⟨rfl, hd⟩

end Go.Proofs.Ytlhblnphfpijkaa.Q
end
section
namespace Go.Proofs.Ytlhblnphfpijkaa.WValK
set_option linter.unusedVariables false
open Go.RowKit Go.Proofs.Ytlhblnphfpijkaa.Q Go.Proofs.YtlhblnphfpijkaaW.PrintWords Go.Proofs.YtlhblnphfpijkaaW.PrintLast Go.Proofs.YtlhblnphfpijkaaW.PrintMore
open Go.Proofs.YtlhblnphfpijkaaL
theorem evEq1 {α : Type} {g : Nat → Option α} {a b : α} (h : Ev g a) (e : a = b) : Ev g b := e ▸ h
def wpow (q : Int) : Nat → Int
  | 0 => 1
  | n + 1 => wrap64 (wpow q n * q)
theorem impl_pow (q : Int) {n : Int} (hn : n ≤ 1000) : Ev (fun k => impl_power.f k q n) (wpow q n.toNat) := by
  have key : ∀ (d j : Nat), j + d = n.toNat → Ev (fun k => impl_power.l0 k q (wpow q j) n j) (wpow q n.toNat) := by
    intro d
    induction d with
    | zero => intro j hj; exact Ev.step (f := fun _ => some (wpow q j)) (fun k => by rw [impl_power.l0, if_neg (by omega)]) (evEq1 (Ev.now _) (by rw [show j = n.toNat by omega]))
    | succ d ih =>
      intro j hj
      have w1 : wrap64 ((j : Int) + 1) = ((j + 1 : Nat) : Int) := by rw [w64 (by omega) (by omega)]; rfl
      refine Ev.step (fun k => ?_) (ih (j + 1) (by omega))
      rw [impl_power.l0, if_pos (by omega), w1, wpow]
  exact key n.toNat 0 (by omega)
theorem spec_pow (q : Int) {n : Int} (h0 : -9000000000 ≤ n) (hn : n ≤ 1000) : Ev (fun k => spec_wePower.f k q n) (wpow q n.toNat) := by
  have key : ∀ (d j : Nat) (m : Int), m.toNat = d → m ≤ 1000 → -9000000000 ≤ m → j + d = n.toNat → Ev (fun k => spec_wePower.l0 k q m (wpow q j)) (wpow q n.toNat) := by
    intro d
    induction d with
    | zero => intro j m hm h1 h2 hj; exact Ev.step (f := fun _ => some (wpow q j)) (fun k => by rw [spec_wePower.l0, if_neg (by omega)]) (evEq1 (Ev.now _) (by rw [show j = n.toNat by omega]))
    | succ d ih =>
      intro j m hm h1 h2 hj
      have w1 : wrap64 (m - 1) = m - 1 := w64 (by omega) (by omega)
      refine Ev.step (fun k => ?_) (ih (j + 1) (m - 1) (by omega) (by omega) (by omega) (by omega))
      rw [spec_wePower.l0, if_pos (by omega), w1, wpow]
  exact key n.toNat 0 n rfl hn h0 (by omega)
end Go.Proofs.Ytlhblnphfpijkaa.WValK
end
section
namespace Go.Proofs.Ytlhblnphfpijkaa.WeAllK
set_option linter.unusedVariables false
set_option linter.unusedSectionVars false
open Go.RowKit Go.Proofs.Ytlhblnphfpijkaa.Q Go.Proofs.YtlhblnphfpijkaaW.PrintWords Go.Proofs.YtlhblnphfpijkaaW.PrintLast Go.Proofs.YtlhblnphfpijkaaW.PrintMore
open Go.Proofs.YtlhblnphfpijkaaL Go.Proofs.Ytlhblnphfpijkaa.LawK Go.Proofs.Ytlhblnphfpijkaa.W1 Go.Proofs.Ytlhblnphfpijkaa.BagK Go.Proofs.Ytlhblnphfpijkaa.LensK Go.Proofs.Ytlhblnphfpijkaa.BoardK

theorem rd1_nat (T : List (List Int)) (i : Nat) : rd_L1 T (i : Int) = T.getD i [] := by unfold rd_L1; rw [Int.toNat_natCast]
theorem own_f {l : List Int} (h : l.length ≤ 1000000) : spec_l1Own.f l = some l := by
  unfold spec_l1Own.f
  rw [Option.bind_some, if_pos (by rw [List.length_nil]; omega), List.nil_append]
theorem pad_snoc {row : List Int} {p : Nat} (h : row.length ≤ p) : pad (row ++ [0]) p = pad row p := by
  unfold pad
  rw [List.append_assoc, List.length_append, List.length_singleton, show p + 1 - row.length = (p + 1 - (row.length + 1)) + 1 by omega, List.replicate_succ]
  rfl
theorem pad_long {row : List Int} {p : Nat} (h : p < row.length) : pad row p = row := by
  unfold pad
  rw [show p + 1 - row.length = 0 by omega, List.replicate_zero, List.append_nil]
theorem add_l1 {b : List Int} {by_ e n : Nat} (hp : by_ + e ≤ 1000000) {g : List Int} : ∀ (d : Nat) (row : List Int), d = e + by_ + 1 - row.length →
    Ev (fun k => spec_weAdd.l0 k by_ (addAt row (e + by_) n) b (b.length : Int) ((e + 1 : Nat) : Int)) g → Ev (fun k => spec_weAdd.l1 k by_ row e n b (b.length : Int) e) g
  | 0, row, hd, next => by
    have w1 : wrap64 ((e : Int) + by_) = ((e + by_ : Nat) : Int) := by rw [w64 (by omega) (by omega)]; rfl
    have w2 : wrap64 ((e : Int) + 1) = ((e + 1 : Nat) : Int) := by rw [w64 (by omega) (by omega)]; rfl
    refine Ev.step (fun k => ?_) next
    rw [spec_weAdd.l1, w1, if_neg (by omega), if_pos (by omega), if_pos (by omega), w2, Int.toNat_natCast]
    unfold addAt
    rw [pad_long (by omega)]
  | d + 1, row, hd, next => by
    have w1 : wrap64 ((e : Int) + by_) = ((e + by_ : Nat) : Int) := by rw [w64 (by omega) (by omega)]; rfl
    refine Ev.step (fun k => ?_) (add_l1 hp d (row ++ [0]) (by rw [List.length_append, List.length_singleton]; omega) (by unfold addAt at next ⊢; rw [pad_snoc (by omega)]; exact next))
    rw [spec_weAdd.l1, w1, if_pos (by omega), if_pos (by omega)]
/-- A row's numbers behind the first e of another one were added, moved. -/
def plus (c d : Nat → Nat) (by_ e i : Nat) : Nat := c i + if by_ ≤ i ∧ i - by_ < e then d (i - by_) else 0
theorem add_l0 {b : List Int} {c d : Nat → Nat} {by_ : Nat} (hb : RepC b d) (hbl : b.length ≤ 1000) (hby : by_ ≤ 1000) (hc : ∀ i, c i ≤ 1000000000) (hd : ∀ i, d i ≤ 1000000000) :
    ∀ (r e : Nat) (row : List Int), e + r = b.length → RepC row (plus c d by_ e) → ∃ out, Ev (fun k => spec_weAdd.l0 k by_ row b (b.length : Int) e) out ∧ RepC out (plus c d by_ b.length)
  | 0, e, row, he, hr => by
    refine ⟨row, ?_, by rw [show b.length = e by omega]; exact hr⟩
    refine Ev.step (f := fun _ => some row) (fun k => ?_) (Ev.now _)
    rw [spec_weAdd.l0, if_neg (by omega)]
  | r + 1, e, row, he, hr => by
    have he2 : e < b.length := by omega
    have w2 : wrap64 ((e : Int) + 1) = ((e + 1 : Nat) : Int) := by rw [w64 (by omega) (by omega)]; rfl
    have hg := hb.get e
    have hrd : rd b (e : Int) = (d e : Int) := by rw [rd_nat, hg]
    by_cases h0 : d e = 0
    · obtain ⟨out, h1, h2⟩ := add_l0 hb hbl hby hc hd r (e + 1) row (by omega) (hr.congr (fun i => by
        unfold plus
        congr 1
        by_cases q : by_ ≤ i ∧ i - by_ < e
        · rw [if_pos q, if_pos (by omega)]
        · rw [if_neg q]
          by_cases q2 : by_ ≤ i ∧ i - by_ < e + 1
          · rw [if_pos q2, show i - by_ = e by omega, h0]
          · rw [if_neg q2]))
      refine ⟨out, Ev.step (fun k => ?_) h1, h2⟩
      rw [spec_weAdd.l0, if_pos (by omega), if_pos (by omega), if_pos (by omega), hrd, if_pos (by omega), w2]
    · have hpc : plus c d by_ e (e + by_) = c (e + by_) := by unfold plus; rw [if_neg (by omega), Nat.add_zero]
      have hA := addAt_rep (p := e + by_) (n := d e) hr (by omega) (by rw [hpc]; have := hc (e + by_); have := hd e; omega)
      obtain ⟨out, h1, h2⟩ := add_l0 hb hbl hby hc hd r (e + 1) (addAt row (e + by_) (d e)) (by omega) (hA.congr (fun i => by
        unfold plus
        by_cases q : i = e + by_
        · subst q
          rw [if_pos rfl, if_neg (by omega), if_pos (by omega), show e + by_ - by_ = e by omega]
          rfl
        · rw [if_neg q]
          congr 1
          by_cases q2 : by_ ≤ i ∧ i - by_ < e
          · rw [if_pos q2, if_pos (by omega)]
          · rw [if_neg q2, if_neg (by omega)]))
      refine ⟨out, Ev.step (fun k => ?_) (add_l1 (by_ := by_) (e := e) (n := d e) (b := b) (by omega) (e + by_ + 1 - row.length) row rfl h1), h2⟩
      rw [spec_weAdd.l0, if_pos (by omega), if_pos (by omega), if_pos (by omega), hrd, if_neg (by omega)]
theorem weAdd {a b : List Int} {c d : Nat → Nat} {by_ : Nat} (ha : RepC a c) (hb : RepC b d) (hal : a.length ≤ 1000) (hbl : b.length ≤ 1000) (hby : by_ ≤ 1000) (hc : ∀ i, c i ≤ 1000000000) (hd : ∀ i, d i ≤ 1000000000) :
    ∃ out, Ev (fun k => spec_weAdd.f k a b by_) out ∧ RepC out (fun i => c i + if by_ ≤ i then d (i - by_) else 0) := by
  obtain ⟨out, h1, h2⟩ := add_l0 (c := c) hb hbl hby hc hd b.length 0 a (by omega) (ha.congr (fun i => by unfold plus; rw [if_neg (by omega), Nat.add_zero]))
  refine ⟨out, ?_, h2.congr (fun i => ?_)⟩
  · unfold spec_weAdd.f
    refine Ev.congr (fun k => by rw [own_f (by omega), Option.bind_some]; rfl) h1
  · unfold plus
    congr 1
    by_cases q : by_ ≤ i
    · rw [if_pos q]
      by_cases q2 : i - by_ < b.length
      · rw [if_pos ⟨q, q2⟩]
      · rw [if_neg (by omega)]
        have := hb.get (i - by_)
        rw [gD_ge _ _ (by omega)] at this
        omega
    · rw [if_neg q, if_neg (by omega)]
theorem RepC.short {r : List Int} {c : Nat → Nat} (h : RepC r c) (hs : ∀ i, c i ≠ 0 → i < 64) : r.length ≤ 64 := by
  rcases Nat.eq_zero_or_pos r.length with h0 | h0
  · omega
  · have := hs (r.length - 1) (h.last (r.length - 1) (by omega)); omega

/-- The table while a row is worked off: those above k are new. -/
structure Mid (n m : Nat) (F : List (Nat × Nat)) (T : List (List Int)) (k : Nat) : Prop where
  len : T.length = n + 1
  new : ∀ j, k ≤ j → j ≤ n → RepC (T.getD j []) (nextC F m j)
  old : ∀ j, j < k → j ≤ n → RepC (T.getD j []) (cnt F j)
theorem set_getD1 (T : List (List Int)) (p i : Nat) (x : List Int) (hp : p < T.length) : (T.set p x).getD i [] = if i = p then x else T.getD i [] := by
  rw [List.getD_eq_getElem?_getD, List.getElem?_set, List.getD_eq_getElem?_getD]
  by_cases h : p = i
  · subst h; simp [hp]
  · rw [if_neg h, if_neg (fun e => h e.symm)]
section
variable {l : List Int} {F : List (Nat × Nat)} {n m r : Nat} (hn : n ≤ 6) (hm : m ≤ 6) (hF : F.length ≤ 1000000) (hFe : ∀ x ∈ F, x.2 < 40)
include hn hm hF hFe
theorem cnt_le (k e : Nat) : cnt F k e ≤ 1000000 := Nat.le_trans List.count_le_length hF
theorem cnt_far (k e : Nat) (h : cnt F k e ≠ 0) : e < 40 := by
  have : (k, e) ∈ F := List.count_pos_iff.1 (Nat.pos_of_ne_zero h)
  exact hFe _ this
/-- What one more row gives a table's row, behind some places. -/
def part (F : List (Nat × Nat)) (m k b i : Nat) : Nat := (if k ≤ m ∧ m - k ≤ i then cnt F k (i - (m - k)) else 0) + (if k = 0 then 0 else sumTo b (fun b => if b ≤ i then cnt F (k - 1) (i - b) else 0))
theorem sum_far {k i : Nat} : ∀ b, sumTo b (fun b => if b ≤ i then cnt F k (i - b) else 0) ≠ 0 → i < 40 + b
  | 0, h => absurd rfl h
  | b + 1, h => by
    rw [sumTo] at h
    by_cases h1 : sumTo b (fun b => if b ≤ i then cnt F k (i - b) else 0) = 0
    · rw [h1, Nat.zero_add] at h
      by_cases h2 : b ≤ i
      · rw [if_pos h2] at h
        have := cnt_far hn hm hF hFe k (i - b) h
        omega
      · omega
    · have := sum_far b h1; omega
theorem part_far {k b i : Nat} (hb : b ≤ 7) (h : part F m k b i ≠ 0) : i < 64 := by
  unfold part at h
  by_cases h1 : (if k ≤ m ∧ m - k ≤ i then cnt F k (i - (m - k)) else 0) = 0
  · rw [h1, Nat.zero_add] at h
    by_cases h2 : k = 0
    · rw [if_pos h2] at h; exact absurd rfl h
    · rw [if_neg h2] at h
      have := sum_far hn hm hF hFe b h
      omega
  · by_cases h3 : k ≤ m ∧ m - k ≤ i
    · rw [if_pos h3] at h1
      have := cnt_far hn hm hF hFe _ _ h1
      omega
    · rw [if_neg h3] at h1; exact absurd rfl h1
theorem part_le {k b i : Nat} (hb : b ≤ 7) : part F m k b i ≤ 8000000 := by
  unfold part
  have h1 : (if k ≤ m ∧ m - k ≤ i then cnt F k (i - (m - k)) else 0) ≤ 1000000 := by
    split
    · exact cnt_le hn hm hF hFe _ _
    · omega
  have h2 : (if k = 0 then 0 else sumTo b (fun b => if b ≤ i then cnt F (k - 1) (i - b) else 0)) ≤ 7000000 := by
    split
    · omega
    · have := sumTo_le (f := fun b => if b ≤ i then cnt F (k - 1) (i - b) else 0) (B := 1000000) (fun b => by
        split
        · exact cnt_le hn hm hF hFe _ _
        · omega) b
      have h3 : b * 1000000 ≤ 7 * 1000000 := Nat.mul_le_mul_right _ hb
      omega
  omega
theorem old_short {T : List (List Int)} {k j : Nat} (h : Mid n m F T k) (hj : j < k) (hjn : j ≤ n) : (T.getD j []).length ≤ 64 :=
  RepC.short (h.old j hj hjn) (fun i hi => by have := cnt_far hn hm hF hFe j i hi; omega)
theorem all_l2 (hl : l.length = n) {g : List (List Int)} {T : List (List Int)} {k : Nat} (hk : k ≤ n) (hT : Mid n m F T (k + 1))
    (next : ∀ T', Mid n m F T' k → Ev (fun q => spec_weAll.l1 q l T' m ((k : Int) - 1) l (l.length : Int) r) g) :
    ∀ (d b : Nat) (row : List Int), b + d = m + 1 - k → RepC row (part F m k b) → Ev (fun q => spec_weAll.l2 q l T m k row b l (l.length : Int) r) g
  | 0, b, row, hb, hr => by
    have w1 : wrap64 ((m : Int) - k) = (m : Int) - k := w64 (by omega) (by omega)
    have w2 : wrap64 ((m : Int) - k + 1) = (m : Int) - k + 1 := w64 (by omega) (by omega)
    have w3 : wrap64 ((k : Int) - 1) = (k : Int) - 1 := w64 (by omega) (by omega)
    have hM : Mid n m F (T.set k row) k := by
      refine ⟨by rw [List.length_set]; exact hT.len, fun j h1 h2 => ?_, fun j h1 h2 => ?_⟩
      · rw [set_getD1 _ _ _ _ (by rw [hT.len]; omega)]
        by_cases e : j = k
        · rw [if_pos e]
          refine hr.congr (fun i => ?_)
          rw [e]
          unfold part nextC
          by_cases hk0 : k = 0
          · rw [if_pos hk0, if_pos hk0]
          · rw [if_neg hk0, if_neg hk0, show b = m + 1 - k by omega]
        · rw [if_neg e]; exact hT.new j (by omega) h2
      · rw [set_getD1 _ _ _ _ (by rw [hT.len]; omega), if_neg (by omega)]
        exact hT.old j (by omega) h2
    refine Ev.step (fun q => ?_) (next _ hM)
    rw [spec_weAll.l2, w1, w2, w3]
    by_cases hk0 : (k : Int) > 0
    · rw [if_pos hk0, if_neg (by omega), if_pos (by omega), if_pos (by rw [hT.len]; omega), Int.toNat_natCast]
    · rw [if_neg hk0, if_pos (by omega), if_pos (by rw [hT.len]; omega), Int.toNat_natCast]
  | d + 1, b, row, hb, hr => by
    have hb7 : b ≤ 7 := by clear hT next hr; omega
    have hbm : (b : Int) < (m : Int) - k + 1 := by clear hT next hr; omega
    have w1 : wrap64 ((m : Int) - k) = (m : Int) - k := w64 (by omega) (by omega)
    have w2 : wrap64 ((m : Int) - k + 1) = (m : Int) - k + 1 := w64 (by omega) (by omega)
    have w4 : wrap64 ((b : Int) + 1) = ((b + 1 : Nat) : Int) := by rw [w64 (by omega) (by omega)]; rfl
    by_cases hk0 : k = 0
    · have hM : Mid n m F (T.set k row) k := by
        refine ⟨by rw [List.length_set]; exact hT.len, fun j h1 h2 => ?_, fun j h1 h2 => by omega⟩
        rw [set_getD1 _ _ _ _ (by rw [hT.len]; omega)]
        by_cases e : j = k
        · rw [if_pos e]
          refine hr.congr (fun i => ?_)
          rw [e]
          unfold part nextC
          rw [if_pos hk0, if_pos hk0]
        · rw [if_neg e]; exact hT.new j (by omega) h2
      have w3 : wrap64 ((k : Int) - 1) = (k : Int) - 1 := w64 (by omega) (by omega)
      refine Ev.step (fun q => ?_) (next _ hM)
      rw [spec_weAll.l2, w3, if_neg (by omega), if_pos (by omega), if_pos (by rw [hT.len]; omega), Int.toNat_natCast]
    · have w3 : wrap64 ((k : Int) - 1) = ((k - 1 : Nat) : Int) := by rw [w64 (by omega) (by omega)]; omega
      have hold := hT.old (k - 1) (by omega) (by omega)
      have hs := old_short hn hm hF hFe hT (show k - 1 < k + 1 by omega) (by omega)
      obtain ⟨out, h1, h2⟩ := weAdd (by_ := b) hr hold (Nat.le_trans (RepC.short hr (fun i hi => part_far hn hm hF hFe hb7 hi)) (by decide)) (Nat.le_trans hs (by decide)) (Nat.le_trans hb7 (by decide)) (fun i => Nat.le_trans (part_le hn hm hF hFe (k := k) (b := b) (i := i) hb7) (by decide)) (fun i => Nat.le_trans (cnt_le hn hm hF hFe (k - 1) i) (by decide))
      have ih := all_l2 hl hk hT next d (b + 1) out (by omega) (h2.congr (fun i => by
        unfold part
        rw [if_neg hk0, if_neg hk0, sumTo, Nat.add_assoc]))
      refine Ev.step (fun q => by rw [spec_weAll.l2, w1, w2, w3, if_pos (by omega), if_pos hbm, if_pos (by omega), if_pos (by rw [hT.len]; omega), rd1_nat, w4]) ?_
      refine Ev.bind h1 ?_
      exact ih
theorem all_l1 (hl : l.length = n) {g : List (List Int)} (next : ∀ T', Mid n m F T' 0 → Ev (fun q => spec_weAll.l0 q l T' l (l.length : Int) (wrap64 ((r : Int) + 1))) g) :
    ∀ (k : Nat) (T : List (List Int)), k ≤ n + 1 → Mid n m F T k → Ev (fun q => spec_weAll.l1 q l T m ((k : Int) - 1) l (l.length : Int) r) g
  | 0, T, hk, hT => by
    refine Ev.step (fun q => ?_) (next T hT)
    rw [spec_weAll.l1, if_neg (by omega)]
  | k + 1, T, hk, hT => by
    have ih := fun T' h' => all_l1 hl next k T' (by omega) h'
    have e0 : ((k + 1 : Nat) : Int) - 1 = k := by omega
    rw [e0]
    have w1 : ∀ h : k ≤ m, wrap64 ((m : Int) - k) = ((m - k : Nat) : Int) := fun h => by rw [w64 (by omega) (by omega)]; omega
    by_cases hkm : k ≤ m
    · have hold := hT.old k (by omega) (by omega)
      have hs := old_short hn hm hF hFe hT (show k < k + 1 by omega) (by omega)
      obtain ⟨out, h1, h2⟩ := weAdd (a := []) (by_ := m - k) RepC.nil hold (by simp) (by omega) (by omega) (fun i => by omega) (fun i => by have := cnt_le hn hm hF hFe k i; omega)
      have h3 := all_l2 hn hm hF hFe hl (r := r) (by omega) hT ih (m + 1 - k) 0 out (by omega) (h2.congr (fun i => by
        unfold part
        rw [Nat.zero_add]
        by_cases q : m - k ≤ i
        · rw [if_pos q, if_pos ⟨hkm, q⟩]; by_cases hk0 : k = 0 <;> simp [hk0, sumTo]
        · rw [if_neg q, if_neg (by omega)]; by_cases hk0 : k = 0 <;> simp [hk0, sumTo]))
      refine Ev.step (fun q => by rw [spec_weAll.l1, if_pos (by omega), if_pos (by omega), if_pos (by omega), if_pos (by rw [hT.len]; omega), rd1_nat, w1 hkm]) ?_
      refine Ev.bind h1 ?_
      exact Ev.step (fun q => by rw [spec_weAll.j2]; rfl) h3
    · have h3 := all_l2 hn hm hF hFe hl (r := r) (by omega) hT ih 0 0 [] (by omega) (RepC.nil.congr (fun i => by
        unfold part
        rw [if_neg (by omega)]
        by_cases hk0 : k = 0 <;> simp [hk0, sumTo]))
      refine Ev.step (fun q => by rw [spec_weAll.l1, if_pos (by omega), if_neg (by omega)]) ?_
      exact Ev.step (fun q => by rw [spec_weAll.j2]; rfl) h3
end
theorem Fk_free {l : List Int} (hm : ∀ r, (l.getD r 0).toNat ≤ 6) : ∀ r x, x ∈ Fk l r → x.2 ≤ 6 * r
  | 0, x, h => by rw [Fk, List.mem_singleton] at h; subst h; exact Nat.le_refl _
  | r + 1, x, h => by
    rw [Fk, List.mem_flatMap] at h
    obtain ⟨y, hy, hx⟩ := h
    have q := Fk_free hm r y hy
    have q2 := hm r
    rw [BagK.step, List.mem_cons, List.mem_map] at hx
    rcases hx with rfl | ⟨i, hi, rfl⟩
    · simp only []; omega
    · rw [List.mem_range] at hi
      simp only []; omega
theorem weAll {l : List Int} (h : lenB l = true) : Ev (fun k => spec_weAll.f k l) (wtab l) := by
  obtain ⟨h1, h2, h3⟩ := len_of h
  have hr : riseFrom l 1 = true := by unfold lenB at h; simp only [Bool.and_eq_true] at h; exact h.2
  have hgd : ∀ i, 0 ≤ l.getD i 0 ∧ l.getD i 0 ≤ l.length := by
    intro i
    by_cases hi : i < l.length
    · rw [gD_lt _ _ hi]; exact h3 i hi
    · rw [gD_ge _ _ (by omega)]; omega
  have hm6 : ∀ i, (l.getD i 0).toNat ≤ 6 := fun i => by have := hgd i; omega
  have hlen : ∀ r, r ≤ l.length → (Fk l r).length ≤ 1000000 := by
    intro r hr
    have a := Fk_len hm6 r
    have b : 7 ^ r ≤ 7 ^ 6 := Nat.pow_le_pow_right (by omega) (by omega)
    omega
  have key : ∀ (d r : Nat) (T : List (List Int)), r + d = l.length → RepT l.length T (Fk l r) → Ev (fun q => spec_weAll.l0 q l T l (l.length : Int) r) (wtab l) := by
    intro d
    induction d with
    | zero =>
      intro r T hrd hT
      refine Ev.step (f := fun _ => some T) (fun k => by rw [spec_weAll.l0, if_neg (by omega)]) (evEq (Ev.now _) ?_)
      rw [show r = l.length by omega] at hT
      exact hT.eq (wtab_rep h)
    | succ d ih =>
      intro r T hrd hT
      have hr2 : r < l.length := by omega
      have w2 : wrap64 ((r : Int) + 1) = ((r + 1 : Nat) : Int) := by rw [w64 (by omega) (by omega)]; rfl
      obtain ⟨m, hm⟩ : ∃ m, m = (l.getD r 0).toNat := ⟨_, rfl⟩
      have hmi : rd l (r : Int) = (m : Int) := by rw [rd_nat, hm]; have := hgd r; omega
      have hm62 := hm6 r
      have hle : ∀ x ∈ Fk l r, x.1 ≤ m := by
        intro x hx
        refine (Fk_rooks r x hx).2 m (fun i hi => ?_)
        have := rise_le hr (r - i) i (by omega)
        rw [show i + (r - i) = r by omega] at this
        omega
      have hfe : ∀ x ∈ Fk l r, x.2 < 40 := fun x hx => by have := Fk_free hm6 r x hx; omega
      have e0 : ((l.length + 1 : Nat) : Int) - 1 = (l.length : Int) := by omega
      have := all_l1 (l := l) (r := r) (m := m) (n := l.length) h2 (by omega) (hlen r (by omega)) hfe rfl (fun T' hT' => by
        rw [w2]
        refine ih (r + 1) T' (by omega) ⟨hT'.len, fun k hk => (hT'.new k (by omega) hk).congr (fun i => ?_)⟩
        rw [Fk, ← hm, cnt_step m k i _ hle]) (l.length + 1) T (Nat.le_refl _) ⟨hT.len, fun j h1 h2 => by omega, fun j h1 h2 => hT.rep j h2⟩
      rw [e0] at this
      refine Ev.step (fun q => ?_) this
      rw [spec_weAll.l0, if_pos (by omega), if_pos (by omega), if_pos (by omega), hmi]
  have e1 : wrap64 ((l.length : Int) + 1) = ((l.length + 1 : Nat) : Int) := by rw [w64 (by omega) (by omega)]; rfl
  unfold spec_weAll.f
  refine Ev.congr (fun k => by rw [e1, if_pos (by omega), Int.toNat_natCast, if_pos (by omega), Option.bind_some, if_pos (by rw [List.length_replicate]; omega)]) ?_
  refine key l.length 0 _ (by omega) ⟨by rw [List.length_set, List.length_replicate], fun k hk => ?_⟩
  rw [show ((0 : Int)).toNat = 0 from rfl, set_getD1 _ _ _ _ (by rw [List.length_replicate]; omega)]
  by_cases e : k = 0
  · rw [if_pos e]
    refine ⟨fun i => ?_, fun i hi => ?_⟩
    · rw [Fk, cnt_cons, cnt_nil, Nat.zero_add]
      simp only []
      by_cases hi : i = 0
      · rw [if_pos ⟨e, hi⟩, hi]; rfl
      · rw [if_neg (by omega), gD_ge _ _ (by simp; omega)]; rfl
    · have hi0 : i = 0 := by simpa using hi.symm
      rw [Fk, cnt_cons, cnt_nil, e, hi0]; simp
  · rw [if_neg e, gD_lt _ _ (by rw [List.length_replicate]; omega), List.getElem_replicate]
    refine RepC.nil.congr (fun i => ?_)
    rw [Fk, cnt_cons, cnt_nil]
    simp only []
    rw [if_neg (by omega)]
end Go.Proofs.Ytlhblnphfpijkaa.WeAllK
end
section
namespace Go.Proofs.Ytlhblnphfpijkaa.WValK
set_option linter.unusedVariables false
open Go.RowKit Go.Proofs.Ytlhblnphfpijkaa.Q Go.Proofs.YtlhblnphfpijkaaW.PrintWords Go.Proofs.YtlhblnphfpijkaaW.PrintLast Go.Proofs.YtlhblnphfpijkaaW.PrintMore
open Go.Proofs.YtlhblnphfpijkaaL Go.Proofs.Ytlhblnphfpijkaa.LawK Go.Proofs.Ytlhblnphfpijkaa.BagK Go.Proofs.Ytlhblnphfpijkaa.LensK Go.Proofs.Ytlhblnphfpijkaa.BoardK Go.Proofs.Ytlhblnphfpijkaa.WeAllK
theorem withinR (a b c : Int) : impl_within.f a b c = some (inR b c a) := by
  unfold impl_within.f inR
  by_cases h : b ≤ a
  · rw [if_pos h]; simp [h]
  · rw [if_neg h]; congr 1; exact (decide_eq_false (by omega)).symm
theorem wtab_len {l : List Int} (h : lenB l = true) : (wtab l).length = l.length + 1 := (wtab_rep h).len
theorem wtab_row {l : List Int} (h : lenB l = true) (k : Nat) : ((wtab l).getD k []).length ≤ 64 := by
  obtain ⟨h1, h2, h3⟩ := len_of h
  by_cases hk : k ≤ l.length
  · refine RepC.short ((wtab_rep h).rep k hk) (fun i hi => ?_)
    have hm6 : ∀ i, (l.getD i 0).toNat ≤ 6 := by
      intro i
      by_cases hi : i < l.length
      · rw [gD_lt _ _ hi]; have := h3 i hi; omega
      · rw [gD_ge _ _ (by omega)]; exact Nat.zero_le _
    have := Fk_free hm6 l.length (k, i) (List.count_pos_iff.1 (Nat.pos_of_ne_zero hi))
    simp only [] at this
    omega
  · rw [gD_ge _ _ (by rw [wtab_len h]; omega)]; exact Nat.zero_le _
end Go.Proofs.Ytlhblnphfpijkaa.WValK
end
section
namespace Go.Proofs.Ytlhblnphfpijkaa.Pure
set_option linter.unusedVariables false
open Go.RowKit Go.Proofs.Ytlhblnphfpijkaa.Q Go.Proofs.YtlhblnphfpijkaaW.PrintWords Go.Proofs.YtlhblnphfpijkaaW.PrintLast Go.Proofs.YtlhblnphfpijkaaW.PrintMore
open Go.Proofs.YtlhblnphfpijkaaL Go.Proofs.Ytlhblnphfpijkaa.LawK Go.Proofs.Ytlhblnphfpijkaa.BoardK Go.Proofs.Ytlhblnphfpijkaa.LensK Go.Proofs.Ytlhblnphfpijkaa.BagK Go.Proofs.Ytlhblnphfpijkaa.WeAllK Go.Proofs.Ytlhblnphfpijkaa.WValK
namespace RCK
def sm : List Int → Int
  | [] => 0
  | x :: t => x + sm t
theorem sm_bd : ∀ (l : List Int), (∀ x ∈ l, 0 ≤ x ∧ x ≤ 6) → 0 ≤ sm l ∧ sm l ≤ 6 * l.length
  | [], _ => by simp [sm]
  | x :: t, h => by
    have h1 := sm_bd t (fun y hy => h y (List.mem_cons_of_mem _ hy))
    have h2 := h x List.mem_cons_self
    simp only [sm, List.length_cons]
    omega
theorem sum_l0 {l : List Int} (h6 : l.length ≤ 6) (hx : ∀ x ∈ l, 0 ≤ x ∧ x ≤ 6) : ∀ (d i : Nat) (a : Int), i + d = l.length → 0 ≤ a ∧ a ≤ 6 * i → Ev (fun k => impl_sum.l0 k a l (l.length : Int) i) (a + sm (l.drop i))
  | 0, i, a, hi, ha => by
    rw [List.drop_eq_nil_of_le (by omega), sm, Int.add_zero]
    exact Ev.step (f := fun _ => some a) (fun k => by rw [impl_sum.l0, if_neg (by omega)]) (Ev.now _)
  | d + 1, i, a, hi, ha => by
    have hi2 : i < l.length := by omega
    have hb := hx l[i] (List.getElem_mem hi2)
    have w1 := Aside0.mk (show wrap64 ((i : Int) + 1) = ((i + 1 : Nat) : Int) from by rw [w64 (by omega) (by omega)]; rfl)
    have w2 := Aside0.mk (show wrap64 (a + l[i]) = a + l[i] from w64 (by omega) (by omega))
    have ih := sum_l0 h6 hx d (i + 1) (a + l[i]) (by omega) (by omega)
    rw [List.drop_eq_getElem_cons hi2, sm]
    exact Ev.step (fun k => by rw [impl_sum.l0, if_pos (by omega), if_pos (by omega), if_pos (by omega), rd_lt _ _ hi2, w2.out, w1.out]) (evEq ih (by omega))
theorem cells_l0 {l : List Int} (h6 : l.length ≤ 6) (hx : ∀ x ∈ l, 0 ≤ x ∧ x ≤ 6) : ∀ (d i : Nat) (a : Int), i + d = l.length → 0 ≤ a ∧ a ≤ 6 * i → Ev (fun k => spec_weCells.l0 k a l (l.length : Int) i) (a + sm (l.drop i))
  | 0, i, a, hi, ha => by
    rw [List.drop_eq_nil_of_le (by omega), sm, Int.add_zero]
    exact Ev.step (f := fun _ => some a) (fun k => by rw [spec_weCells.l0, if_neg (by omega)]) (Ev.now _)
  | d + 1, i, a, hi, ha => by
    have hi2 : i < l.length := by omega
    have hb := hx l[i] (List.getElem_mem hi2)
    have w1 := Aside0.mk (show wrap64 ((i : Int) + 1) = ((i + 1 : Nat) : Int) from by rw [w64 (by omega) (by omega)]; rfl)
    have w2 := Aside0.mk (show wrap64 (a + l[i]) = a + l[i] from w64 (by omega) (by omega))
    have ih := cells_l0 h6 hx d (i + 1) (a + l[i]) (by omega) (by omega)
    rw [List.drop_eq_getElem_cons hi2, sm]
    exact Ev.step (fun k => by rw [spec_weCells.l0, if_pos (by omega), if_pos (by omega), if_pos (by omega), rd_lt _ _ hi2, w2.out, w1.out]) (evEq ih (by omega))
theorem sum_f {l : List Int} (h6 : l.length ≤ 6) (hx : ∀ x ∈ l, 0 ≤ x ∧ x ≤ 6) : Ev (fun k => impl_sum.f k l) (sm l) := by
  have := sum_l0 h6 hx l.length 0 0 (by omega) (by omega)
  rw [List.drop_zero, Int.zero_add] at this
  exact this
theorem cells_f {l : List Int} (h6 : l.length ≤ 6) (hx : ∀ x ∈ l, 0 ≤ x ∧ x ≤ 6) : Ev (fun k => spec_weCells.f k l) (sm l) := by
  have := cells_l0 h6 hx l.length 0 0 (by omega) (by omega)
  rw [List.drop_zero, Int.zero_add] at this
  exact this
/-- One rank's count. -/
def cs (q S : Int) (k : Nat) (row : List Int) : Nat → Nat → Int → Int
  | 0, _, a => a
  | d + 1, e, a => cs q S k row d (e + 1) (if row.getD e 0 > 0 then wrap64 (a + wrap64 (row.getD e 0 * wpow q (S - k - e).toNat)) else a)
def counts (q S : Int) (T : List (List Int)) : Nat → Nat → List Int → List Int
  | 0, _, o => o
  | d + 1, k, o => counts q S T d (k + 1) (o ++ [wrap64 (cs q S k (T.getD k []) (T.getD k []).length 0 0 * wpow (wrap64 (q - 1)) k)])
theorem counts_len (q S : Int) (T : List (List Int)) : ∀ d k o, (counts q S T d k o).length = o.length + d
  | 0, k, o => rfl
  | d + 1, k, o => by rw [counts, counts_len, List.length_append, List.length_singleton]; omega
section
variable {l : List Int} {T : List (List Int)} {q : Int} (hl6 : l.length ≤ 6) (hx : ∀ x ∈ l, 0 ≤ x ∧ x ≤ 6) (hT : T.length = l.length + 1) (hr : ∀ k, (T.getD k []).length ≤ 64)
include hl6 hx hT hr
theorem impl_c : ∀ (d k : Nat) (o : List Int), k + d = l.length + 1 → o.length = k → Ev (fun n => impl_RankCounts.l0 n l q o T (T.length : Int) k) (counts q (sm l) T d k o, true)
  | 0, k, o, h, ho => Ev.step (f := fun _ => some (o, true)) (fun n => by rw [impl_RankCounts.l0, if_neg (by omega)]) (Ev.now _)
  | d + 1, k, o, h, ho => by
    have w1 := Aside0.mk (show wrap64 ((k : Int) + 1) = ((k + 1 : Nat) : Int) from by rw [w64 (by omega) (by omega)]; rfl)
    have hs := sm_bd l hx
    rw [counts]
    refine Ev.step (fun n => by rw [impl_RankCounts.l0, if_pos (by omega), if_pos (by omega), if_pos (by omega), rd1_nat]) ?_
    obtain ⟨row, hrow⟩ : ∃ row, row = T.getD k [] := ⟨_, rfl⟩
    have hrl := hr k
    rw [← hrow] at hrl ⊢
    have key : ∀ (f e : Nat) (a : Int), e + f = row.length → Ev (fun n => impl_RankCounts.l1 n l q o k a T (T.length : Int) k row (row.length : Int) e) (counts q (sm l) T d (k + 1) (o ++ [wrap64 (cs q (sm l) k row f e a * wpow (wrap64 (q - 1)) k)]), true) := by
      intro f
      induction f with
      | zero =>
        intro e a he
        refine Ev.step (fun n => by rw [impl_RankCounts.l1, if_neg (by omega)]) ?_
        refine Ev.bind (impl_pow (wrap64 (q - 1)) (n := (k : Int)) (by omega)) ?_
        rw [Int.toNat_natCast]
        refine Ev.congr (fun n => by rw [if_pos (by omega), w1.out]) ?_
        exact impl_c d (k + 1) _ (by omega) (by rw [List.length_append, List.length_singleton, ho])
      | succ f ih =>
        intro e a he
        have w3 := Aside0.mk (show wrap64 ((e : Int) + 1) = ((e + 1 : Nat) : Int) from by rw [w64 (by omega) (by omega)]; rfl)
        have w4 := Aside0.mk (show wrap64 (wrap64 (sm l - k) - e) = sm l - k - e from by rw [w64 (n := sm l - k) (by omega) (by omega), w64 (by omega) (by omega)])
        rw [cs]
        by_cases hw : row.getD e 0 > 0
        · rw [if_pos hw]
          refine Ev.step (fun n => by rw [impl_RankCounts.l1, if_pos (by omega), if_pos (by omega), if_pos (by omega), rd_nat, if_pos hw, w3.out]) ?_
          refine Ev.bind (sum_f hl6 hx) ?_
          refine Ev.congr (fun n => by rw [w4.out]) ?_
          refine Ev.bind (impl_pow q (n := sm l - k - e) (by omega)) ?_
          exact ih (e + 1) _ (by omega)
        · rw [if_neg hw]
          refine Ev.step (fun n => ?_) (ih (e + 1) a (by omega))
          rw [impl_RankCounts.l1, if_pos (by omega), if_pos (by omega), if_pos (by omega), rd_nat, if_neg hw, w3.out]
    exact key row.length 0 0 (by omega)
theorem spec_c : ∀ (d k : Nat) (o : List Int), k + d = l.length + 1 → o.length = k → Ev (fun n => spec_RankCounts.l0 n q o (sm l) T (T.length : Int) k) (counts q (sm l) T d k o, true)
  | 0, k, o, h, ho => Ev.step (f := fun _ => some (o, true)) (fun n => by rw [spec_RankCounts.l0, if_neg (by omega)]) (Ev.now _)
  | d + 1, k, o, h, ho => by
    have w1 := Aside0.mk (show wrap64 ((k : Int) + 1) = ((k + 1 : Nat) : Int) from by rw [w64 (by omega) (by omega)]; rfl)
    have hs := sm_bd l hx
    rw [counts]
    refine Ev.step (fun n => by rw [spec_RankCounts.l0, if_pos (by omega), if_pos (by omega), if_pos (by omega), rd1_nat]) ?_
    obtain ⟨row, hrow⟩ : ∃ row, row = T.getD k [] := ⟨_, rfl⟩
    have hrl := hr k
    rw [← hrow] at hrl ⊢
    have key : ∀ (f e : Nat) (a : Int), e + f = row.length → Ev (fun n => spec_RankCounts.l1 n q o (sm l) k a T (T.length : Int) k row (row.length : Int) e) (counts q (sm l) T d (k + 1) (o ++ [wrap64 (cs q (sm l) k row f e a * wpow (wrap64 (q - 1)) k)]), true) := by
      intro f
      induction f with
      | zero =>
        intro e a he
        refine Ev.step (fun n => by rw [spec_RankCounts.l1, if_neg (by omega)]) ?_
        refine Ev.bind (spec_pow (wrap64 (q - 1)) (n := (k : Int)) (by omega) (by omega)) ?_
        rw [Int.toNat_natCast]
        refine Ev.congr (fun n => by rw [if_pos (by omega), w1.out, Int.mul_comm]) ?_
        exact spec_c d (k + 1) _ (by omega) (by rw [List.length_append, List.length_singleton, ho])
      | succ f ih =>
        intro e a he
        have w3 := Aside0.mk (show wrap64 ((e : Int) + 1) = ((e + 1 : Nat) : Int) from by rw [w64 (by omega) (by omega)]; rfl)
        have w4 := Aside0.mk (show wrap64 (wrap64 (sm l - k) - e) = sm l - k - e from by rw [w64 (n := sm l - k) (by omega) (by omega), w64 (by omega) (by omega)])
        rw [cs]
        by_cases hw : row.getD e 0 > 0
        · rw [if_pos hw]
          refine Ev.step (fun n => by rw [spec_RankCounts.l1, if_pos (by omega), if_pos (by omega), if_pos (by omega), rd_nat, if_pos hw, w3.out, w4.out]) ?_
          refine Ev.bind (spec_pow q (n := sm l - k - e) (by omega) (by omega)) ?_
          exact ih (e + 1) _ (by omega)
        · rw [if_neg hw]
          refine Ev.step (fun n => ?_) (ih (e + 1) a (by omega))
          rw [spec_RankCounts.l1, if_pos (by omega), if_pos (by omega), if_pos (by omega), rd_nat, if_neg hw, w3.out]
    exact key row.length 0 0 (by omega)
end
def ans (l : List Int) (q : Int) : List Int × Bool := if lenB l = true then (if inR 2 3 q = true then (if sm l > 20 then ([], false) else (counts q (sm l) (wtab l) (l.length + 1) 0 [], true)) else ([], false)) else ([], false)
theorem ans_len (l : List Int) (q : Int) (hl : l.length ≤ 1048576) : (ans l q).1.length ≤ 2000000 := by
  unfold ans
  repeat' split
  all_goals first | (exact Nat.zero_le _) | (simp only []; rw [counts_len]; simp; omega)
theorem in6 {l : List Int} (h : lenB l = true) : ∀ x ∈ l, 0 ≤ x ∧ x ≤ 6 := by
  obtain ⟨h1, h2, h3⟩ := len_of h
  intro x hx
  obtain ⟨i, hi, rfl⟩ := List.mem_iff_getElem.1 hx
  have := h3 i hi
  omega
theorem impl_a {l : List Int} (q : Int) (hl : l.length ≤ 1048576) : Ev (fun k => impl_RankCounts.f k l q) (ans l q) := by
  unfold impl_RankCounts.f ans
  refine Ev.bind (impl_good hl) ?_
  have stop : ∀ n : Nat, impl_RankCounts.j0 (n + 1) l q true = some ([], false) := fun n => by rw [impl_RankCounts.j0, if_pos rfl]
  by_cases h : lenB l = true
  · rw [if_pos h]
    refine Ev.congr (fun k => by rw [if_pos h, impl_isQ.f, withinR, Option.bind_some, Option.bind_some]) ?_
    by_cases h2 : inR 2 3 q = true
    · rw [if_pos h2]
      have h6 := (len_of h).2.1
      refine Ev.congr (fun k => by rw [if_pos h2]) (Ev.bind (sum_f h6 (in6 h)) ?_)
      by_cases h3 : sm l > 20
      · rw [if_pos h3]
        exact Ev.step (fun n => by rw [decide_eq_true h3, stop]) (Ev.now _)
      · rw [if_neg h3]
        refine Ev.step (fun n => by rw [decide_eq_false h3, impl_RankCounts.j0, if_neg (by simp), impl_weights.f, if_pos h, Option.bind_some]) ?_
        exact impl_c h6 (in6 h) (wtab_len h) (wtab_row h) (l.length + 1) 0 [] (by omega) rfl
    · rw [if_neg h2]
      exact Ev.congr (fun k => by rw [if_neg h2]) (Ev.step (fun n => by rw [stop]) (Ev.now _))
  · rw [if_neg h]
    exact Ev.congr (fun k => by rw [if_neg h]) (Ev.step (fun n => by rw [stop]) (Ev.now _))
theorem spec_a {l : List Int} (q : Int) (hl : l.length ≤ 1048576) : Ev (fun k => spec_RankCounts.f k l q) (ans l q) := by
  unfold spec_RankCounts.f ans
  refine Ev.bind (spec_good hl) ?_
  have stop : ∀ n : Nat, spec_RankCounts.j0 (n + 1) l q true = some ([], false) := fun n => by rw [spec_RankCounts.j0, if_pos rfl]
  by_cases h : lenB l = true
  · rw [if_pos h]
    refine Ev.congr (fun k => by rw [if_pos h, spec_weBase.f, l1In_f, Option.bind_some, Option.bind_some]) ?_
    by_cases h2 : inR 2 3 q = true
    · rw [if_pos h2]
      have h6 := (len_of h).2.1
      refine Ev.congr (fun k => by rw [if_pos h2]) (Ev.bind (cells_f h6 (in6 h)) ?_)
      by_cases h3 : sm l > 20
      · rw [if_pos h3]
        exact Ev.step (fun n => by rw [decide_eq_true h3, stop]) (Ev.now _)
      · rw [if_neg h3]
        refine Ev.step (fun n => by rw [decide_eq_false h3, spec_RankCounts.j0, if_neg (by simp)]) ?_
        refine Ev.bind (cells_f h6 (in6 h)) (Ev.bind (weAll h) ?_)
        exact spec_c h6 (in6 h) (wtab_len h) (wtab_row h) (l.length + 1) 0 [] (by omega) rfl
    · rw [if_neg h2]
      exact Ev.congr (fun k => by rw [if_neg h2]) (Ev.step (fun n => by rw [stop]) (Ev.now _))
  · rw [if_neg h]
    exact Ev.congr (fun k => by rw [if_neg h]) (Ev.step (fun n => by rw [stop]) (Ev.now _))
end RCK
open RCK
theorem FnExactRankCounts : laws_FnExactRankCounts.Pure := by
  intro l a1 _ _ _ _
  unfold laws_FnExactRankCounts.f
  refine ends ?_
  by_cases hlb : l.length ≤ 1048576
  · have hn := ans_len l a1 hlb
    have tl := toIntS hlb
    refine Ev.congr (fun k => by rw [if_neg (by omega)]) ?_
    refine Ev.bind tl (Ev.bind (spec_a a1 hlb) (Ev.bind tl (Ev.bind (impl_a a1 hlb) ?_)))
    refine Ev.bind (eqIntS (by (try simp only []); omega)) ?_
    refine Ev.congr (fun k => by rw [if_pos (by simp)]) ?_
    refine Ev.step (fun k => by rw [laws_FnExactRankCounts.j0, if_neg (by simp)]) ?_
    refine Ev.bind tl (Ev.bind (eqIntS (by omega)) ?_)
    refine Ev.congr (fun k => by rw [if_pos (by simp)]) ?_
    refine Ev.bind (markIntS l (by omega) (by omega)) ?_
    refine Ev.congr (fun k => by rw [if_neg (by (try simp only []); omega)]) ?_
    refine Ev.bind (eqIntS (by (try simp only []); omega)) ?_
    refine Ev.congr (fun k => by rw [if_pos (by simp)]) ?_
    refine Ev.step (fun k => by rw [laws_FnExactRankCounts.j1, if_neg (by simp)]) ?_
    refine Ev.bind (markIntS _ (by omega) (by (try simp only []); omega)) ?_
    refine Ev.bind (heldIntS _ (by omega) (by (try simp only []); omega)) ?_
    refine Ev.congr (fun k => by rw [if_neg (by omega), if_pos rfl]) ?_
    refine Ev.bind tl (Ev.bind (impl_a a1 hlb) ?_)
    refine Ev.bind (eqIntS (by (try simp only []); omega)) ?_
    refine Ev.congr (fun k => by rw [if_pos (by simp)]) ?_
    refine Ev.step (fun k => by rw [laws_FnExactRankCounts.j2, if_neg (by simp)]) ?_
    refine Ev.bind (heldIntS _ (by omega) (by (try simp only []); omega)) ?_
    exact Ev.congr (fun k => by rw [if_neg (by omega), if_pos rfl]) (Ev.now _)
  · exact Ev.congr (fun k => by rw [if_pos (by omega)]) (Ev.now _)
end Go.Proofs.Ytlhblnphfpijkaa.Pure
end
