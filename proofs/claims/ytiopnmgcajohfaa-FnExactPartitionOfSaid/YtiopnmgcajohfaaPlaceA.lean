/- Placements of rooks: what the program's and the reference's questions on them answer. No conditions but a valid board. -/
import Derived.Test.YtiopnmgcajohfaaBoard
import Derived.Test.YtiopnmgcajohfaaHas
import Derived.Test.YtiopnmgcajohfaaQimplBoardisPlacement
import Derived.Test.YtiopnmgcajohfaaQspeclcGood
namespace Go.Proofs.Ytiopnmgcajohfaa.PlaceK
set_option linter.unusedVariables false
open Go.RowKit Go.Proofs.Ytiopnmgcajohfaa.Q Go.Proofs.YtiopnmgcajohfaaW.PrintWords Go.Proofs.YtiopnmgcajohfaaW.PrintLast Go.Proofs.YtiopnmgcajohfaaW.PrintMore
open Go.Proofs.YtiopnmgcajohfaaL Go.Proofs.Ytiopnmgcajohfaa.LawK Go.Proofs.Ytiopnmgcajohfaa.BoardK Go.Proofs.Ytiopnmgcajohfaa.PermK

theorem evEq {α : Type} {g : Nat → Option α} {a b : α} (h : Ev g a) (e : a = b) : Ev g b := e ▸ h
theorem withinR (a b c : Int) : impl_within.f a b c = some (inR b c a) := by
  unfold impl_within.f inR
  by_cases h : b ≤ a
  · rw [if_pos h]; simp [h]
  · rw [if_neg h]; congr 1; exact (decide_eq_false (by omega)).symm
theorem place_f {R C : Nat} (l : List Int) (hR : R ≤ 6) (hC : C ≤ 6) (r c : Int) : impl_Board_place.f R C l r c = some (inR 0 ((R : Int) - 1) r && inR 0 ((C : Int) - 1) c) := by
  unfold impl_Board_place.f
  rw [withinR, Option.bind_some, w64 (by omega) (by omega), w64 (by omega) (by omega), withinR]
  cases inR 0 ((R : Int) - 1) r <;> rfl
/-- The numbers stand in their rows and columns: -1, or a cell whose column no number before has. -/
def placeI (l : List Int) (C : Nat) : List Int → Nat → List Int → Bool
  | [], _, _ => true
  | x :: t, i, pre => (decide (x = -1) || (inR 0 ((C : Int) - 1) x && (cell l i x.toNat && !decide (x ∈ pre)))) && placeI l C t (i + 1) (pre ++ [x])
def placeB (l : List Int) (C : Nat) (p : List Int) : Bool := decide (p.length = l.length) && placeI l C p 0 []
theorem isPlacement_l0 {l p : List Int} {R C : Nat} (hlR : l.length = R) (hR : R ≤ 6) (hC : C ≤ 6) (hb : ∀ i (hi : i < l.length), 0 ≤ l[i] ∧ l[i] < 64) (hp : p.length = R) : ∀ (d i : Nat), i + d = p.length →
    Ev (fun k => impl_Board_isPlacement.l0 k p p (p.length : Int) i R C l) (placeI l C (p.drop i) i (p.take i))
  | 0, i, hi => by
    refine Ev.step (f := fun _ => some true) (fun k => ?_) (evEq (Ev.now _) (by rw [List.drop_eq_nil_of_le (by omega)]; rfl))
    rw [impl_Board_isPlacement.l0, if_neg (by omega)]
  | d + 1, i, hi => by
    have w1 : wrap64 ((i : Int) + 1) = ((i + 1 : Nat) : Int) := by rw [w64 (by omega) (by omega)]; rfl
    have hi2 : i < p.length := by omega
    have ih := isPlacement_l0 hlR hR hC hb hp d (i + 1) (by omega)
    rw [List.drop_eq_getElem_cons hi2, placeI]
    rw [List.take_add_one, List.getElem?_eq_getElem hi2, Option.toList_some] at ih
    by_cases c1 : p[i] = -1
    · rw [decide_eq_true c1, Bool.true_or, Bool.true_and]
      refine Ev.step (fun k => ?_) ih
      rw [impl_Board_isPlacement.l0, if_pos (by omega), if_pos (by omega), if_pos (by omega), rd_lt _ _ hi2, if_pos c1, w1]
    · rw [decide_eq_false c1, Bool.false_or]
      by_cases c2 : inR 0 ((C : Int) - 1) p[i] = true
      · have c2' : 0 ≤ p[i] ∧ p[i] ≤ (C : Int) - 1 := of_decide_eq_true c2
        obtain ⟨y, hy⟩ : ∃ y : Nat, p[i] = y := ⟨p[i].toNat, by omega⟩
        have c3 : inR 0 ((R : Int) - 1) (i : Int) = true := decide_eq_true (by omega)
        rw [c2, Bool.true_and]
        refine Ev.step (f := fun k => if cell l i y = true then (if (i : Int) ≤ (p.length : Int) then (slices_Contains_int_int.f k (p.take i) p[i]).bind fun t => if t = true then some false else impl_Board_isPlacement.l0 k p p (p.length : Int) ((i + 1 : Nat) : Int) R C l else none) else some false) (fun k => ?_) ?_
        · rw [impl_Board_isPlacement.l0, if_pos (by omega), if_pos (by omega), if_pos (by omega), rd_lt _ _ hi2, if_neg c1, place_f l hR hC, Option.bind_some, if_pos (by rw [c3, c2]; rfl), hy, has_f (R : Int) (C : Int) (show i < l.length by omega) (hb i (by omega)).1 (hb i (by omega)).2 (by omega), Option.bind_some, Int.toNat_natCast, w1]
        · rw [hy, Int.toNat_natCast]
          rw [hy] at ih
          by_cases c4 : cell l i y = true
          · refine Ev.congr (fun k => by rw [if_pos c4, if_pos (by omega)]) ?_
            rw [c4, Bool.true_and]
            refine Ev.bind (contains _ (by rw [List.length_take]; omega)) ?_
            by_cases c5 : (y : Int) ∈ p.take i
            · rw [decide_eq_true c5]
              exact Ev.congr (fun k => if_pos rfl) (Ev.now _)
            · rw [decide_eq_false c5, Bool.not_false, Bool.true_and]
              exact Ev.congr (fun k => if_neg (by simp)) ih
          · rw [show cell l i y = false by simpa using c4, Bool.false_and, Bool.false_and]
            exact Ev.congr (fun k => if_neg (by simp)) (Ev.now _)
      · rw [show inR 0 ((C : Int) - 1) p[i] = false by simpa using c2, Bool.false_and, Bool.false_and]
        refine Ev.step (f := fun _ => some false) (fun k => ?_) (Ev.now _)
        rw [impl_Board_isPlacement.l0, if_pos (by omega), if_pos (by omega), if_pos (by omega), rd_lt _ _ hi2, if_neg c1, place_f l hR hC, Option.bind_some, if_neg (by rw [show inR 0 ((C : Int) - 1) p[i] = false by simpa using c2, Bool.and_false]; simp)]
theorem isPlacement {l : List Int} {R C : Nat} (hlR : l.length = R) (hR : R ≤ 6) (hC : C ≤ 6) (hb : ∀ i (hi : i < l.length), 0 ≤ l[i] ∧ l[i] < 64) (p : List Int) : Ev (fun k => impl_Board_isPlacement.f k R C l p) (placeB l C p) := by
  unfold impl_Board_isPlacement.f placeB
  by_cases h : p.length = R
  · refine Ev.congr (fun k => if_pos (by omega)) ?_
    rw [decide_eq_true (by omega), Bool.true_and]
    have := isPlacement_l0 hlR hR hC hb h p.length 0 (by omega)
    rw [List.drop_zero, List.take_zero] at this
    exact this
  · rw [decide_eq_false (by omega), Bool.false_and]
    exact Ev.congr (fun k => if_neg (by omega)) (Ev.now _)
/-- As the reference asks it: bounds first. -/
def placeS (l : List Int) : List Int → Nat → List Int → Bool
  | [], _, _ => true
  | x :: t, i, pre => (decide (x < 0) || (cell l i x.toNat && !decide (x ∈ pre))) && placeS l t (i + 1) (pre ++ [x])
theorem placeS_placeI (l : List Int) (C : Nat) : ∀ (t : List Int) (i : Nat) (pre : List Int), (t.all (inR (-1) ((C : Int) - 1)) && placeS l t i pre) = placeI l C t i pre
  | [], _, _ => rfl
  | x :: t, i, pre => by
    have ih := placeS_placeI l C t (i + 1) (pre ++ [x])
    rw [List.all_cons, placeS, placeI, ← ih]
    by_cases h1 : x = -1
    · rw [decide_eq_true h1, decide_eq_true (show x < 0 by omega)]
      by_cases h2 : (C : Int) - 1 < -1
      · omega
      · rw [show inR (-1) ((C : Int) - 1) x = true from decide_eq_true (by omega)]; simp
    · rw [decide_eq_false h1, Bool.false_or]
      by_cases h2 : 0 ≤ x ∧ x ≤ (C : Int) - 1
      · rw [show inR 0 ((C : Int) - 1) x = true from decide_eq_true h2, show inR (-1) ((C : Int) - 1) x = true from decide_eq_true (by omega), decide_eq_false (show ¬ x < 0 by omega), Bool.false_or, Bool.true_and, Bool.true_and]
        cases t.all (inR (-1) ((C : Int) - 1)) <;> cases (cell l i x.toNat && !decide (x ∈ pre)) <;> rfl
      · rw [show inR 0 ((C : Int) - 1) x = false from decide_eq_false h2, show inR (-1) ((C : Int) - 1) x = false from decide_eq_false (by omega)]; rfl
theorem lcGood_l0 {l p : List Int} {R C : Nat} (hlR : l.length = R) (hR : R ≤ 6) (hb : ∀ i (hi : i < l.length), 0 ≤ l[i] ∧ l[i] < 64) (hp : p.length = R) (hall : ∀ x ∈ p, x ≤ 64) : ∀ (d i : Nat), i + d = p.length →
    Ev (fun k => spec_lcGood.l0 k p p (p.length : Int) i R C l) (placeS l (p.drop i) i (p.take i))
  | 0, i, hi => by
    refine Ev.step (f := fun _ => some true) (fun k => ?_) (evEq (Ev.now _) (by rw [List.drop_eq_nil_of_le (by omega)]; rfl))
    rw [spec_lcGood.l0, if_neg (by omega)]
  | d + 1, i, hi => by
    have w1 : wrap64 ((i : Int) + 1) = ((i + 1 : Nat) : Int) := by rw [w64 (by omega) (by omega)]; rfl
    have hi2 : i < p.length := by omega
    have ih := lcGood_l0 (C := C) hlR hR hb hp hall d (i + 1) (by omega)
    have hx := hall p[i] (List.getElem_mem hi2)
    rw [List.drop_eq_getElem_cons hi2, placeS]
    rw [List.take_add_one, List.getElem?_eq_getElem hi2, Option.toList_some] at ih
    by_cases c1 : p[i] < 0
    · rw [decide_eq_true c1, Bool.true_or, Bool.true_and]
      refine Ev.step (fun k => ?_) ih
      rw [spec_lcGood.l0, if_pos (by omega), if_pos (by omega), if_pos (by omega), rd_lt _ _ hi2, if_neg (by omega), w1]
    · rw [decide_eq_false c1, Bool.false_or]
      obtain ⟨y, hy⟩ : ∃ y : Nat, p[i] = y := ⟨p[i].toNat, by omega⟩
      refine Ev.step (f := fun k => if cell l i y = true then (if (i : Int) ≤ (p.length : Int) then (spec_l1Has.f k (p.take i) p[i]).bind fun t => if t = true then some false else spec_lcGood.l0 k p p (p.length : Int) ((i + 1 : Nat) : Int) R C l else none) else some false) (fun k => ?_) ?_
      · rw [spec_lcGood.l0, if_pos (by omega), if_pos (by omega), if_pos (by omega), rd_lt _ _ hi2, if_pos (by omega), hy, boHas_f (R : Int) (C : Int) (show i < l.length by omega) (hb i (by omega)).1 (hb i (by omega)).2 (by omega), Option.bind_some, Int.toNat_natCast, w1]
      · rw [hy, Int.toNat_natCast]
        rw [hy] at ih
        by_cases c4 : cell l i y = true
        · refine Ev.congr (fun k => by rw [if_pos c4, if_pos (by omega)]) ?_
          rw [c4, Bool.true_and]
          refine Ev.bind (l1Has _ (by rw [List.length_take]; omega)) ?_
          by_cases c5 : (y : Int) ∈ p.take i
          · rw [decide_eq_true c5]
            exact Ev.congr (fun k => if_pos rfl) (Ev.now _)
          · rw [decide_eq_false c5, Bool.not_false, Bool.true_and]
            exact Ev.congr (fun k => if_neg (by simp)) ih
        · rw [show cell l i y = false by simpa using c4, Bool.false_and, Bool.false_and]
          exact Ev.congr (fun k => if_neg (by simp)) (Ev.now _)
theorem lcGood {l : List Int} {R C : Nat} (hlR : l.length = R) (hR : R ≤ 6) (hC : C ≤ 6) (hb : ∀ i (hi : i < l.length), 0 ≤ l[i] ∧ l[i] < 64) (p : List Int) : Ev (fun k => spec_lcGood.f k R C l p) (placeB l C p) := by
  unfold spec_lcGood.f placeB
  by_cases h : p.length = R
  · refine Ev.congr (fun k => if_pos (by omega)) ?_
    rw [decide_eq_true (by omega), Bool.true_and, w64 (by omega) (by omega)]
    refine Ev.bind (l1All _ _ (by omega)) ?_
    rw [← placeS_placeI]
    by_cases c : p.all (inR (-1) ((C : Int) - 1)) = true
    · rw [c, Bool.true_and]
      have := lcGood_l0 (C := C) hlR hR hb h (fun x hx => by have := List.all_eq_true.1 c x hx; have := of_decide_eq_true this; omega) p.length 0 (by omega)
      rw [List.drop_zero, List.take_zero] at this
      exact Ev.step (fun k => by rw [spec_lcGood.j0, if_neg (by simp)]; rfl) this
    · rw [show p.all (inR (-1) ((C : Int) - 1)) = false by simpa using c, Bool.false_and]
      exact Ev.step (f := fun _ => some false) (fun k => by rw [spec_lcGood.j0, if_pos (by rfl)]) (Ev.now _)
  · rw [decide_eq_false (by omega), Bool.false_and]
    refine Ev.congr (fun k => if_neg (by omega)) ?_
    exact Ev.step (f := fun _ => some false) (fun k => by rw [spec_lcGood.j0, if_pos rfl]) (Ev.now _)
theorem placeI_ge {l : List Int} {C : Nat} : ∀ (t : List Int) (i : Nat) (pre : List Int), placeI l C t i pre = true → ∀ x ∈ t, -1 ≤ x ∧ x < C
  | x :: t, i, pre, h, y, hy => by
    rw [placeI, Bool.and_eq_true, Bool.or_eq_true] at h
    rcases List.mem_cons.1 hy with rfl | hy
    · rcases h.1 with h1 | h1
      · have := of_decide_eq_true h1; omega
      · rw [Bool.and_eq_true] at h1
        have := of_decide_eq_true h1.1; omega
    · exact placeI_ge t _ _ h.2 y hy
theorem placeB_ge {l : List Int} {C : Nat} {p : List Int} (h : placeB l C p = true) : p.length = l.length ∧ ∀ x ∈ p, -1 ≤ x ∧ x < C := by
  unfold placeB at h
  rw [Bool.and_eq_true, decide_eq_true_eq] at h
  exact ⟨h.1, placeI_ge p 0 [] h.2⟩
end Go.Proofs.Ytiopnmgcajohfaa.PlaceK
