/- The heights of a board: what the reference's and the program's count of each column's cells answers on a valid board; and of its rows. No conditions. -/
import Derived.Test.YtiocgomkminmoaaBoard
import Derived.Test.YtiocgomkminmoaaQimplBoardheights
import Derived.Test.YtiocgomkminmoaaQspecfiHeights
import Derived.Test.YtiocgomkminmoaaQimplRowCounts
namespace Go.Proofs.Ytiocgomkminmoaa.HeightsK
set_option linter.unusedVariables false
open Go.RowKit Go.Proofs.Ytiocgomkminmoaa.Q Go.Proofs.YtiocgomkminmoaaW.PrintWords Go.Proofs.YtiocgomkminmoaaW.PrintLast Go.Proofs.YtiocgomkminmoaaW.PrintMore
open Go.Proofs.YtiocgomkminmoaaL Go.Proofs.Ytiocgomkminmoaa.LawK Go.Proofs.Ytiocgomkminmoaa.BoardK

theorem evEq {α : Type} {g : Nat → Option α} {a b : α} (h : Ev g a) (e : a = b) : Ev g b := e ▸ h
/-- How many of the low six bits are set. -/
def ones6 (m : Nat) : Nat := (List.range 6).countP m.testBit
set_option maxRecDepth 20000 in
theorem ones_f {m : Nat} (h : m < 64) : bits_OnesCount.f (IntKind.u64.wrap (m : Int)) = some (ones6 m : Int) := by
  have : ∀ x : Fin 64, bits_OnesCount.f (IntKind.u64.wrap ((x : Nat) : Int)) = some (ones6 x : Int) := by decide +kernel
  exact this ⟨m, h⟩
theorem countP_range6 {R : Nat} (hR : R ≤ 6) (p : Nat → Bool) : (List.range 6).countP (fun i => decide (i < R) && p i) = (List.range R).countP p := by
  have e : List.range 6 = List.range R ++ (List.range (6 - R)).map (R + ·) := by
    rw [← List.range_add]; congr 1; omega
  rw [e, List.countP_append]
  have h1 : List.countP (fun i => decide (i < R) && p i) ((List.range (6 - R)).map (R + ·)) = 0 := by
    rw [List.countP_eq_zero]; intro a ha; simp at ha; obtain ⟨b, _, rfl⟩ := ha; simp; omega
  rw [h1, Nat.add_zero]
  apply List.countP_congr
  intro a ha
  simp [List.mem_range.1 ha]
/-- The cells of a column above a row, as bits. -/
def colM (l : List Int) (c : Nat) : Nat → Nat
  | 0 => 0
  | r + 1 => if cell l r c then colM l c r ||| 2 ^ r else colM l c r
theorem colM_bit (l : List Int) (c : Nat) : ∀ r i, (colM l c r).testBit i = (decide (i < r) && cell l i c)
  | 0, i => by simp [colM]
  | r + 1, i => by
    rw [colM]
    by_cases h : cell l r c = true
    · rw [if_pos h, Nat.testBit_or, colM_bit l c r i, Nat.testBit_two_pow]
      by_cases e : r = i
      · subst e; simp [h]
      · by_cases h2 : i < r
        · simp [e, h2, Nat.lt_succ_of_lt h2]
        · have : ¬ i < r + 1 := by omega
          simp [e, h2, this]
    · rw [if_neg h, colM_bit l c r i]
      by_cases e : r = i
      · subst e; simp [h]
      · by_cases h2 : i < r
        · simp [h2, Nat.lt_succ_of_lt h2]
        · have : ¬ i < r + 1 := by omega
          simp [h2, this]
theorem colM_lt (l : List Int) (c r : Nat) : colM l c r < 2 ^ r := by
  apply Nat.lt_pow_two_of_testBit
  intro i hi
  rw [colM_bit]; simp; intro h; omega
/-- How many cells a column has. -/
def height (l : List Int) (R c : Nat) : Nat := (List.range R).countP (fun i => cell l i c)
theorem ones_colM (l : List Int) (c : Nat) {R : Nat} (hR : R ≤ 6) : ones6 (colM l c R) = height l R c := by
  unfold ones6 height
  rw [← countP_range6 hR (fun i => cell l i c)]
  congr 1; funext i; rw [colM_bit]
def heights (l : List Int) (R C : Nat) : List Int := (List.range C).map fun c => (height l R c : Int)
theorem heights_length (l : List Int) (R C : Nat) : (heights l R C).length = C := by simp [heights]
theorem height_le (l : List Int) (R c : Nat) : height l R c ≤ R := by
  unfold height; have := List.countP_le_length (p := fun i => cell l i c) (l := List.range R); simpa using this
/-- What the turned board holds while row r is read up to column j. -/
def turnedF (l : List Int) (C r j : Nat) : List Int := (List.range C).map fun c => (colM l c (if c < j then r + 1 else r) : Int)
theorem turnedF_end (l : List Int) (C r : Nat) : turnedF l C r C = turnedF l C (r + 1) 0 := by
  unfold turnedF
  apply List.map_congr_left
  intro c hc
  rw [if_pos (List.mem_range.1 hc), if_neg (by omega)]
theorem turnedF_skip (l : List Int) (C r j : Nat) (hc : cell l r j ≠ true) : turnedF l C r j = turnedF l C r (j + 1) := by
  unfold turnedF
  apply List.map_congr_left
  intro c _
  by_cases h1 : c < j
  · rw [if_pos h1, if_pos (by omega)]
  · rw [if_neg h1]
    by_cases h2 : c = j
    · subst h2; rw [if_pos (by omega), colM, if_neg hc]
    · rw [if_neg (by omega)]
theorem turnedF_set (l : List Int) (C r j : Nat) (hj : j < C) (hc : cell l r j = true) : (turnedF l C r j).set j ((colM l j r ||| 2 ^ r : Nat) : Int) = turnedF l C r (j + 1) := by
  unfold turnedF
  apply List.ext_getElem
  · simp
  · intro i h1 h2
    simp only [List.getElem_set, List.getElem_map, List.getElem_range]
    by_cases e : j = i
    · subst e; rw [if_pos rfl, if_pos (by omega), colM, if_pos hc]
    · rw [if_neg e]
      by_cases h3 : i < j
      · rw [if_pos h3, if_pos (by omega)]
      · rw [if_neg h3, if_neg (by omega)]
theorem turnedF_get (l : List Int) (C r j : Nat) (hj : j < C) : rd (turnedF l C r j) (j : Int) = (colM l j r : Int) := by
  rw [rd_lt _ _ (by simp [turnedF]; exact hj)]
  simp [turnedF]
theorem turnedF_length (l : List Int) (C r j : Nat) : (turnedF l C r j).length = C := by simp [turnedF]

theorem turned_l1 {l : List Int} {R C : Nat} (hl : l.length = R) (hR : R ≤ 6) (hC : C ≤ 6) (hb : ∀ i (hi : i < l.length), 0 ≤ l[i] ∧ l[i] < 2 ^ C) {r : Nat} (hr : r < R) (a1 a2 : Int) {g : Int × Int × List Int}
    (next : Ev (fun k => impl_Board_turned.l0 k R ((r : Int) + 1) R C l a1 a2 (turnedF l C (r + 1) 0)) g) : ∀ (d j : Nat), j + d = C →
    Ev (fun k => impl_Board_turned.l1 k r R r C j R C l a1 a2 (turnedF l C r j)) g
  | 0, j, hj => by
    refine Ev.step (fun k => ?_) next
    have : j = C := by omega
    subst this
    rw [impl_Board_turned.l1, if_neg (by omega), w64 (by omega) (by omega), turnedF_end]
  | d + 1, j, hj => by
    have ih := turned_l1 hl hR hC hb hr a1 a2 next d (j + 1) (by omega)
    have h1 : wrap64 ((j : Int) + 1) = ((j + 1 : Nat) : Int) := by rw [w64 (by omega) (by omega)]; rfl
    have h64 := two_pow_six hC
    have hf := has_f (R : Int) (C : Int) (i := r) (j := j) (l := l) (by omega) (hb r (by omega)).1 (by have := (hb r (by omega)).2; omega) (by omega)
    refine Ev.step (fun k => ?_) ih
    rw [impl_Board_turned.l1, if_pos (by omega), hf, Option.bind_some]
    by_cases hc : cell l r j = true
    · have hlt := colM_lt l j r
      have h2r : 2 ^ r ≤ 2 ^ 6 := Nat.pow_le_pow_right (by decide) (by omega)
      rw [if_pos hc, if_pos (by omega), if_pos (by rw [turnedF_length]; omega), if_pos (by omega), turnedF_get _ _ _ _ (by omega), shl_one r (by omega), or_nat _ _ (by omega) (by omega), Int.toNat_natCast, turnedF_set _ _ _ _ (by omega) hc, h1]
    · rw [if_neg hc, h1, turnedF_skip _ _ _ _ hc]
theorem turned_l0 {l : List Int} {R C : Nat} (hl : l.length = R) (hR : R ≤ 6) (hC : C ≤ 6) (hb : ∀ i (hi : i < l.length), 0 ≤ l[i] ∧ l[i] < 2 ^ C) (a1 a2 : Int) : ∀ (d r : Nat), r + d = R →
    Ev (fun k => impl_Board_turned.l0 k R r R C l a1 a2 (turnedF l C r 0)) (a1, a2, turnedF l C R 0)
  | 0, r, hr => by
    have : r = R := by omega
    subst this
    refine Ev.step (f := fun _ => some (a1, a2, turnedF l C r 0)) (fun k => ?_) (Ev.now _)
    rw [impl_Board_turned.l0, if_neg (by omega)]
  | d + 1, r, hr => by
    have ih := turned_l0 hl hR hC hb a1 a2 d (r + 1) (by omega)
    refine Ev.step (fun k => ?_) (turned_l1 hl hR hC hb (r := r) (by omega) a1 a2 (Ev.congr (fun k => by push_cast; rfl) ih) C 0 (by omega))
    rw [impl_Board_turned.l0, if_pos (by omega)]; rfl
theorem turned {l : List Int} {R C : Nat} (hl : l.length = R) (hR : R ≤ 6) (hC : C ≤ 6) (hb : ∀ i (hi : i < l.length), 0 ≤ l[i] ∧ l[i] < 2 ^ C) :
    Ev (fun k => impl_Board_turned.f k R C l) ((C : Int), (R : Int), turnedF l C R 0) := by
  unfold impl_Board_turned.f impl_newBoard.f
  refine Ev.congr (fun k => ?_) (turned_l0 hl hR hC hb (C : Int) (R : Int) R 0 (by omega))
  rw [if_pos (by omega), if_pos (by omega), Option.bind_some, Int.toNat_natCast]
  congr 1
  apply List.ext_getElem
  · simp [turnedF]
  · intro i h1 h2; simp [turnedF, colM]
theorem rowCounts_l0 {l : List Int} (hb : ∀ i (hi : i < l.length), 0 ≤ l[i] ∧ l[i] < 64) (hl : l.length ≤ 4611686018427) : ∀ (d i : Nat) (x : List Int), i + d = l.length → x.length = i →
    Ev (fun k => impl_RowCounts.l0 k x l (l.length : Int) i) (x ++ (l.drop i).map (fun m => (ones6 m.toNat : Int)), true)
  | 0, i, x, hi, hx => by
    refine Ev.step (f := fun _ => some (x, true)) (fun k => ?_) (evEq (Ev.now _) (by rw [List.drop_eq_nil_of_le (by omega)]; simp))
    rw [impl_RowCounts.l0, if_neg (by omega)]
  | d + 1, i, x, hi, hx => by
    have hi2 : i < l.length := by omega
    have h1 : wrap64 ((i : Int) + 1) = ((i + 1 : Nat) : Int) := by rw [w64 (by omega) (by omega)]; rfl
    obtain ⟨m, hm⟩ : ∃ m : Nat, l[i] = m := ⟨l[i].toNat, by have := hb i hi2; omega⟩
    have ih := rowCounts_l0 hb hl d (i + 1) (x ++ [(ones6 m : Int)]) (by omega) (by simp; omega)
    refine evEq (Ev.step (fun k => ?_) ih) ?_
    · rw [impl_RowCounts.l0, if_pos (by omega), if_pos (by omega), if_pos (by omega), rd_lt _ _ hi2, hm, ones_f (by have := hb i hi2; omega), Option.bind_some, if_pos (by omega), h1]
    · rw [List.drop_eq_getElem_cons hi2, List.map_cons, hm, Int.toNat_natCast, List.append_assoc]; rfl
theorem rowCounts {r c : Int} {l : List Int} (h : isBoardB r c l = true) : Ev (fun k => impl_RowCounts.f k r c l) (l.map (fun m => (ones6 m.toNat : Int)), true) := by
  obtain ⟨R, C, rfl, rfl, hl, h1, h2, h3, h4, hb⟩ := board_of h
  have h64 := two_pow_six h4
  unfold impl_RowCounts.f impl_IsBoard.f
  refine Ev.congr (fun k => by rw [Option.bind_some, if_pos h]; rfl) (evEq (rowCounts_l0 (fun i hi => ⟨(hb i hi).1, by have := (hb i hi).2; omega⟩) (by omega) l.length 0 [] (by omega) rfl) (by simp))
theorem impl_heights {R C : Nat} {l : List Int} (h : isBoardB R C l = true) : Ev (fun k => impl_Board_heights.f k R C l) (heights l R C) := by
  obtain ⟨R', C', e1, e2, hl, h1, h2, h3, h4, hb⟩ := board_of h
  obtain rfl : R = R' := by omega
  obtain rfl : C = C' := by omega
  unfold impl_Board_heights.f
  refine Ev.bind (turned hl h2 h4 hb) ?_
  have hT : isBoardB C R (turnedF l C R 0) = true := by
    unfold isBoardB
    rw [turnedF_length, decide_eq_true (by omega), Bool.true_and, List.all_eq_true]
    intro x hx
    unfold turnedF at hx
    obtain ⟨c, hc, rfl⟩ := List.mem_map.1 hx
    have := colM_lt l c R
    have e : ((2 ^ R : Nat) : Int) = 2 ^ (R : Int).toNat := by simp
    rw [if_neg (by omega)]
    unfold rowIn
    rw [decide_eq_true_eq, ← e]
    omega
  refine Ev.bind (rowCounts hT) (evEq (Ev.now _) ?_)
  unfold heights turnedF
  rw [List.map_map]
  apply List.map_congr_left
  intro c _
  simp only [Function.comp]
  rw [if_neg (by omega), Int.toNat_natCast, ones_colM l c h2]
theorem spec_l1 {l : List Int} {R C : Nat} (hl : l.length = R) (hR : R ≤ 6) (hC : C ≤ 6) (hb : ∀ i (hi : i < l.length), 0 ≤ l[i] ∧ l[i] < 2 ^ C) {c : Nat} (hc : c < C) (x : List Int) (hx : x.length = c) {g : List Int}
    (next : Ev (fun k => spec_fiHeights.l0 k (x ++ [(height l R c : Int)]) ((c : Int) + 1) R C l) g) : ∀ (d r n : Nat), r + d = R → n = (List.range r).countP (fun i => cell l i c) →
    Ev (fun k => spec_fiHeights.l1 k x c n r R C l) g
  | 0, r, n, hr, hn => by
    obtain rfl : r = R := by omega
    subst hn
    refine Ev.step (fun k => ?_) next
    rw [spec_fiHeights.l1, if_neg (by omega), if_pos (by omega), w64 (by omega) (by omega)]; rfl
  | d + 1, r, n, hr, hn => by
    have hn6 : n ≤ r := by rw [hn]; have := List.countP_le_length (p := fun i => cell l i c) (l := List.range r); simpa using this
    have h1 : wrap64 ((r : Int) + 1) = ((r + 1 : Nat) : Int) := by rw [w64 (by omega) (by omega)]; rfl
    have h2 : wrap64 ((n : Int) + 1) = ((n + 1 : Nat) : Int) := by rw [w64 (by omega) (by omega)]; rfl
    have h64 := two_pow_six hC
    have hf := boHas_f (R : Int) (C : Int) (i := r) (j := c) (l := l) (by omega) (hb r (by omega)).1 (by have := (hb r (by omega)).2; omega) (by omega)
    by_cases hcell : cell l r c = true
    · have ih := spec_l1 hl hR hC hb hc x hx next d (r + 1) (n + 1) (by omega) (by rw [List.range_succ, List.countP_append, ← hn]; simp [hcell])
      refine Ev.step (fun k => ?_) ih
      rw [spec_fiHeights.l1, if_pos (by omega), hf, Option.bind_some, if_pos hcell, h1, h2]
    · have ih := spec_l1 hl hR hC hb hc x hx next d (r + 1) n (by omega) (by rw [List.range_succ, List.countP_append, ← hn]; simp [hcell])
      refine Ev.step (fun k => ?_) ih
      rw [spec_fiHeights.l1, if_pos (by omega), hf, Option.bind_some, if_neg hcell, h1]
theorem spec_l0 {l : List Int} {R C : Nat} (hl : l.length = R) (hR : R ≤ 6) (hC : C ≤ 6) (hb : ∀ i (hi : i < l.length), 0 ≤ l[i] ∧ l[i] < 2 ^ C) : ∀ (d c : Nat), c + d = C →
    Ev (fun k => spec_fiHeights.l0 k (heights l R c) c R C l) (heights l R C)
  | 0, c, hc => by
    obtain rfl : c = C := by omega
    refine Ev.step (f := fun _ => some (heights l R c)) (fun k => ?_) (Ev.now _)
    rw [spec_fiHeights.l0, if_neg (by omega)]
  | d + 1, c, hc => by
    have ih := spec_l0 hl hR hC hb d (c + 1) (by omega)
    have e : heights l R (c + 1) = heights l R c ++ [(height l R c : Int)] := by simp [heights, List.range_succ]
    rw [e] at ih
    refine Ev.step (fun k => ?_) (spec_l1 hl hR hC hb (c := c) (by omega) (heights l R c) (heights_length _ _ _) (Ev.congr (fun k => by push_cast; rfl) ih) R 0 0 (by omega) rfl)
    rw [spec_fiHeights.l0, if_pos (by omega)]; rfl
theorem spec_heights {R C : Nat} {l : List Int} (h : isBoardB R C l = true) : Ev (fun k => spec_fiHeights.f k R C l) (heights l R C) := by
  obtain ⟨R', C', e1, e2, hl, h1, h2, h3, h4, hb⟩ := board_of h
  obtain rfl : R = R' := by omega
  obtain rfl : C = C' := by omega
  unfold spec_fiHeights.f
  exact Ev.congr (fun k => by rfl) (spec_l0 hl h2 h4 hb C 0 (by omega))

end Go.Proofs.Ytiocgomkminmoaa.HeightsK
