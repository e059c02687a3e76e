/- The list of all cells of a board, as the reference makes it. No conditions but a valid board. -/
import Derived.Test.YtgnmcfoenmfhcaaBoard
import Derived.Test.YtgnmcfoenmfhcaaQspecboCells
namespace Go.Proofs.Ytgnmcfoenmfhcaa.CellsK
set_option linter.unusedVariables false
open Go.RowKit Go.Proofs.Ytgnmcfoenmfhcaa.Q Go.Proofs.YtgnmcfoenmfhcaaW.PrintWords Go.Proofs.YtgnmcfoenmfhcaaW.PrintLast Go.Proofs.YtgnmcfoenmfhcaaW.PrintMore
open Go.Proofs.YtgnmcfoenmfhcaaL Go.Proofs.Ytgnmcfoenmfhcaa.LawK Go.Proofs.Ytgnmcfoenmfhcaa.BoardK

theorem evEq {α : Type} {g : Nat → Option α} {a b : α} (h : Ev g a) (e : a = b) : Ev g b := e ▸ h
/-- The cells of a row from a column on. -/
def rowCells (l : List Int) (r : Nat) (c d : Nat) : List (List Int) := ((List.range' c d).filter (fun c => cell l r c)).map (fun c => [(r : Int), ((c : Nat) : Int)])
/-- All cells, row by row. -/
def cellsFrom (l : List Int) (C : Nat) (r d : Nat) : List (List Int) := (List.range' r d).flatMap (fun r => rowCells l r 0 C)
theorem rowCells_len (l : List Int) (r c d : Nat) : (rowCells l r c d).length ≤ d := by
  unfold rowCells
  rw [List.length_map]
  have := List.length_filter_le (fun c => cell l r c) (List.range' c d)
  rw [List.length_range'] at this
  exact this
section
variable {l : List Int} {R C : Nat} (hlR : l.length = R) (hR : R ≤ 6) (hC : C ≤ 6) (hb : ∀ i (hi : i < l.length), 0 ≤ l[i] ∧ l[i] < 64)
include hlR hR hC hb
theorem boCells_l1 (r : Nat) (hr : r < R) {X : List (List Int)} : ∀ (d c : Nat) (acc : List (List Int)), c + d = C → acc.length ≤ 1000 - d →
    Ev (fun k => spec_boCells.l0 k (acc ++ rowCells l r c d) ((r + 1 : Nat) : Int) R C l) X → Ev (fun k => spec_boCells.l1 k acc r c R C l) X
  | 0, c, acc, hc, ha, h => by
    have w1 : wrap64 ((r : Int) + 1) = ((r + 1 : Nat) : Int) := by rw [w64 (by omega) (by omega)]; rfl
    have e : acc ++ rowCells l r c 0 = acc := by unfold rowCells; simp
    rw [e] at h
    exact Ev.step (fun k => by rw [spec_boCells.l1, if_neg (by omega), w1]) h
  | d + 1, c, acc, hc, ha, h => by
    have w1 : wrap64 ((c : Int) + 1) = ((c + 1 : Nat) : Int) := by rw [w64 (by omega) (by omega)]; rfl
    have hrl : r < l.length := by omega
    by_cases hx : cell l r c = true
    · have e : rowCells l r c (d + 1) = [(r : Int), (c : Int)] :: rowCells l r (c + 1) d := by
        unfold rowCells; rw [List.range'_succ, List.filter_cons, if_pos hx, List.map_cons]
      rw [e, show acc ++ ([(r : Int), (c : Int)] :: rowCells l r (c + 1) d) = (acc ++ [[(r : Int), (c : Int)]]) ++ rowCells l r (c + 1) d by simp] at h
      refine Ev.step (fun k => ?_) (boCells_l1 r hr d (c + 1) _ (by omega) (by rw [List.length_append, List.length_singleton]; omega) h)
      rw [spec_boCells.l1, if_pos (by omega), boHas_f (R : Int) (C : Int) hrl (hb r hrl).1 (hb r hrl).2 (by omega), Option.bind_some, if_pos hx, if_pos (by omega), w1]
    · have e : rowCells l r c (d + 1) = rowCells l r (c + 1) d := by
        unfold rowCells; rw [List.range'_succ, List.filter_cons, if_neg hx]
      rw [e] at h
      refine Ev.step (fun k => ?_) (boCells_l1 r hr d (c + 1) _ (by omega) (by omega) h)
      rw [spec_boCells.l1, if_pos (by omega), boHas_f (R : Int) (C : Int) hrl (hb r hrl).1 (hb r hrl).2 (by omega), Option.bind_some, if_neg hx, w1]
theorem boCells_l0 : ∀ (d r : Nat) (acc : List (List Int)), r + d = R → acc.length ≤ 6 * r → Ev (fun k => spec_boCells.l0 k acc r R C l) (acc ++ cellsFrom l C r d)
  | 0, r, acc, hr, ha => by
    refine Ev.step (f := fun _ => some acc) (fun k => ?_) (evEq (Ev.now _) (by unfold cellsFrom; simp))
    rw [spec_boCells.l0, if_neg (by omega)]
  | d + 1, r, acc, hr, ha => by
    refine Ev.step (f := fun k => spec_boCells.l1 k acc r 0 R C l) (fun k => by rw [spec_boCells.l0, if_pos (by omega)]) ?_
    have hlen := rowCells_len l r 0 C
    have ih := boCells_l0 d (r + 1) (acc ++ rowCells l r 0 C) (by omega) (by rw [List.length_append]; omega)
    refine boCells_l1 hlR hR hC hb r (by omega) C 0 acc (by omega) (by omega) (evEq ih ?_)
    unfold cellsFrom
    rw [List.range'_succ, List.flatMap_cons, List.append_assoc]
theorem boCells : Ev (fun k => spec_boCells.f k R C l) (cellsFrom l C 0 R) := by
  unfold spec_boCells.f
  exact boCells_l0 hlR hR hC hb R 0 [] (by omega) (by simp)
end
theorem mem_cells {l : List Int} {C R : Nat} {x : List Int} : x ∈ cellsFrom l C 0 R ↔ ∃ r c : Nat, r < R ∧ c < C ∧ cell l r c = true ∧ x = [(r : Int), (c : Int)] := by
  unfold cellsFrom rowCells
  rw [List.mem_flatMap]
  constructor
  · rintro ⟨r, hr, hx⟩
    obtain ⟨c, hc, rfl⟩ := List.mem_map.1 hx
    obtain ⟨hc1, hc2⟩ := List.mem_filter.1 hc
    exact ⟨r, c, by have := List.mem_range'_1.1 hr; omega, by have := List.mem_range'_1.1 hc1; omega, hc2, rfl⟩
  · rintro ⟨r, c, hr, hc, h, rfl⟩
    exact ⟨r, List.mem_range'_1.2 ⟨by omega, by omega⟩, List.mem_map.2 ⟨c, List.mem_filter.2 ⟨List.mem_range'_1.2 ⟨by omega, by omega⟩, h⟩, rfl⟩⟩
theorem cells_len (l : List Int) (C R : Nat) (hC : C ≤ 6) (hR : R ≤ 6) : (cellsFrom l C 0 R).length ≤ 36 := by
  unfold cellsFrom
  have : ∀ (d r : Nat), ((List.range' r d).flatMap (fun r => rowCells l r 0 C)).length ≤ 6 * d := by
    intro d
    induction d with
    | zero => intro r; simp
    | succ d ih =>
      intro r
      rw [List.range'_succ, List.flatMap_cons, List.length_append]
      have h1 := rowCells_len l r 0 C
      have h2 := ih (r + 1)
      omega
  have := this R 0
  omega
end Go.Proofs.Ytgnmcfoenmfhcaa.CellsK
