/- The program's IsCover returns what the reference's returns, for all arguments. No conditions. -/
import Derived.Test.YtgnmcfoenmfhcaaQlawsFnExactIsCover
import Derived.Test.YtgnmcfoenmfhcaaLines
import Derived.Test.YtgnmcfoenmfhcaaCells
namespace Go.Proofs.Ytgnmcfoenmfhcaa.Pure
set_option linter.unusedVariables false
open Go.RowKit Go.Proofs.Ytgnmcfoenmfhcaa.Q Go.Proofs.YtgnmcfoenmfhcaaW.PrintWords Go.Proofs.YtgnmcfoenmfhcaaW.PrintLast Go.Proofs.YtgnmcfoenmfhcaaW.PrintMore
open Go.Proofs.YtgnmcfoenmfhcaaL Go.Proofs.Ytgnmcfoenmfhcaa.LawK Go.Proofs.Ytgnmcfoenmfhcaa.BoardK Go.Proofs.Ytgnmcfoenmfhcaa.LinesK Go.Proofs.Ytgnmcfoenmfhcaa.PermK Go.Proofs.Ytgnmcfoenmfhcaa.CellsK

namespace CoverK
/-- Is each cell in one of the rows or columns? -/
def coverB (l rows cols : List Int) (R C : Nat) : Bool := (cellsFrom l C 0 R).all (fun x => decide (rd x 0 ∈ rows) || decide (rd x 1 ∈ cols))
def ans (r c : Int) (l rows cols : List Int) : Bool × Bool := if (isBoardB r c l && (risesB r 0 rows && risesB c 0 cols)) = true then (coverB l rows cols r.toNat c.toNat, true) else (false, false)
set_option maxRecDepth 20000 in
theorem andNot_all : ∀ a b : Fin 64, Go.bits .andNot .i64 (a.val : Int) (b.val : Int) = ((a.val &&& (63 ^^^ b.val) : Nat) : Int) := by decide +kernel
theorem andNot {a b : Nat} (ha : a < 64) (hb : b < 64) : Go.bits .andNot .i64 (a : Int) (b : Int) = ((a &&& (63 ^^^ b) : Nat) : Int) := andNot_all ⟨a, ha⟩ ⟨b, hb⟩
theorem andNot_bit (a b c : Nat) (ha : a < 64) : (a &&& (63 ^^^ b)).testBit c = (a.testBit c && !b.testBit c) := by
  rw [Nat.testBit_and, Nat.testBit_xor, show (63 : Nat) = 2 ^ 6 - 1 from rfl, Nat.testBit_two_pow_sub_one]
  by_cases h : c < 6
  · rw [decide_eq_true h]; cases b.testBit c <;> rfl
  · rw [Nat.testBit_lt_two_pow (Nat.lt_of_lt_of_le (show a < 2 ^ 6 from ha) (Nat.pow_le_pow_right (show 0 < 2 by decide) (show 6 ≤ c by omega)))]; rfl
theorem mask_lt {C : Nat} (hC : C ≤ 6) : 2 ^ C - 1 < 64 := by
  have hp : 2 ^ C ≤ 2 ^ 6 := Nat.pow_le_pow_right (by decide) hC
  have := Nat.two_pow_pos C
  omega
theorem impl_answer {r c : Int} {l rows cols : List Int} (hr : rows.length ≤ 1048576) (hc : cols.length ≤ 1048576) : Ev (fun k => impl_IsCover.f k r c l rows cols) (ans r c l rows cols) := by
  unfold impl_IsCover.f ans
  refine Ev.congr (fun k => by rw [impl_IsBoard.f, Option.bind_some]) ?_
  have no : ∀ (R C : Int), Ev (fun k => impl_IsCover.j0 k true R C l rows cols) (false, false) := fun R C => Ev.step (f := fun _ => some (false, false)) (fun k => by rw [impl_IsCover.j0, if_pos rfl]) (Ev.now _)
  by_cases hb : isBoardB r c l = true
  · obtain ⟨R, C, rfl, rfl, hlR, h1R, hR, h1C, hC, hbits⟩ := board_of hb
    refine Ev.congr (fun k => by rw [if_pos hb]) ?_
    rw [hb, Bool.true_and, Int.toNat_natCast, Int.toNat_natCast]
    refine Ev.bind (areSome (by omega) (by omega) (by omega)) ?_
    by_cases h1 : risesB (R : Int) 0 rows = true
    · refine Ev.congr (fun k => by rw [if_pos h1]) ?_
      rw [h1, Bool.true_and]
      refine Ev.bind (areSome (by omega) (by omega) (by omega)) ?_
      by_cases h2 : risesB (C : Int) 0 cols = true
      · rw [if_pos h2, h2]
        obtain ⟨m1, hm1, rfl, hb1⟩ := rises_mask (by omega) rows 0 (by omega) h1
        obtain ⟨m2, hm2, rfl, hb2⟩ := rises_mask (by omega) cols 0 (by omega) h2
        have hpR := mask_lt hR
        have e1 : wrap64 (shl .i64 1 (R : Int) - 1) = ((2 ^ R - 1 : Nat) : Int) := by
          have h5 : 0 < 2 ^ R := Nat.two_pow_pos R
          have h4 : 2 ^ R ≤ 2 ^ 6 := Nat.pow_le_pow_right (by decide) hR
          rw [shl_one R (by omega), w64 (by omega) (by omega)]; omega
        have hlt : ((2 ^ R - 1) &&& (63 ^^^ m1)) < 64 := Nat.lt_of_le_of_lt Nat.and_le_left hpR
        have hbit : ∀ i, ((2 ^ R - 1) &&& (63 ^^^ m1)).testBit i = true ↔ i < R ∧ m1.testBit i = false := by
          intro i
          rw [andNot_bit _ _ _ hpR, Nat.testBit_two_pow_sub_one, Bool.and_eq_true, decide_eq_true_eq]
          simp
        refine Ev.step (fun k => by rw [impl_IsCover.j0, if_neg (by simp), if_pos (by omega)]) ?_
        refine Ev.bind (maskOf hm1) ?_
        rw [e1, andNot hpR hm1]
        refine Ev.bind (columns (R : Int) (C : Int) hC hbits hlt (fun i hi => by have := (hbit i).1 hi; omega)) (Ev.bind (maskOf hm2) ?_)
        have hor : orM l (listM ((2 ^ R - 1) &&& (63 ^^^ m1))) < 2 ^ C := orFrom_lt hbits _ 0 (Nat.two_pow_pos C)
        have hp : 2 ^ C ≤ 2 ^ 6 := Nat.pow_le_pow_right (by decide) hC
        rw [andNot (by omega) hm2]
        refine LinesK.evEq (Ev.now _) ?_
        congr 1
        rw [Bool.eq_iff_iff]
        unfold coverB
        rw [List.all_eq_true, beq_iff_eq]
        constructor
        · intro h0 x hx
          obtain ⟨r, c, hr, hc, hcell, rfl⟩ := mem_cells.1 hx
          have e : rd [(r : Int), (c : Int)] 0 = r ∧ rd [(r : Int), (c : Int)] 1 = c := ⟨rfl, rfl⟩
          rw [e.1, e.2, Bool.or_eq_true, decide_eq_true_eq, decide_eq_true_eq]
          by_cases hm : m1.testBit r = true
          · exact .inl (mem_listM.2 ⟨by omega, by omega, by rw [Int.toNat_natCast]; exact hm⟩)
          · right
            have h3 : (orM l (listM ((2 ^ R - 1) &&& (63 ^^^ m1))) &&& (63 ^^^ m2)).testBit c = false := by
              rw [show (orM l (listM ((2 ^ R - 1) &&& (63 ^^^ m1))) &&& (63 ^^^ m2)) = 0 by exact_mod_cast h0]; simp
            rw [andNot_bit _ _ _ (by omega), orM_bit] at h3
            have h4 : (listM ((2 ^ R - 1) &&& (63 ^^^ m1))).any (fun x => cell l x.toNat c) = true := by
              rw [List.any_eq_true]
              refine ⟨(r : Int), mem_listM.2 ⟨by omega, by omega, ?_⟩, by rw [Int.toNat_natCast]; exact hcell⟩
              rw [Int.toNat_natCast]
              exact (hbit r).2 ⟨hr, by simpa using hm⟩
            rw [h4, Bool.true_and] at h3
            exact mem_listM.2 ⟨by omega, by omega, by rw [Int.toNat_natCast]; simpa using h3⟩
        · intro h0
          have : (orM l (listM ((2 ^ R - 1) &&& (63 ^^^ m1))) &&& (63 ^^^ m2)) = 0 := by
            refine Nat.eq_of_testBit_eq (fun c => ?_)
            rw [andNot_bit _ _ _ (by omega), orM_bit, Nat.zero_testBit]
            cases h5 : (listM ((2 ^ R - 1) &&& (63 ^^^ m1))).any (fun x => cell l x.toNat c) with
            | false => rfl
            | true =>
              obtain ⟨x, hx, hcell⟩ := List.any_eq_true.1 h5
              obtain ⟨hx1, hx2, hx3⟩ := mem_listM.1 hx
              obtain ⟨r, rfl⟩ : ∃ r : Nat, x = r := ⟨x.toNat, by omega⟩
              rw [Int.toNat_natCast] at hx3 hcell
              obtain ⟨hrR, hm⟩ := (hbit r).1 hx3
              have hcC : c < C := by
                by_cases hcc : c < C
                · exact hcc
                · have hz := (hbits r (by omega))
                  have hz2 : l[r].toNat < 2 ^ C := by
                    have h7 : ((l[r].toNat : Nat) : Int) < ((2 ^ C : Nat) : Int) := by rw [Int.toNat_of_nonneg hz.1]; exact_mod_cast hz.2
                    exact_mod_cast h7
                  have h6 : cell l r c = false := by
                    unfold cell
                    rw [gD_lt _ _ (show r < l.length by omega)]
                    exact Nat.testBit_lt_two_pow (Nat.lt_of_lt_of_le hz2 (Nat.pow_le_pow_right (by decide) (by omega)))
                  rw [h6] at hcell; cases hcell
              have h8 := h0 _ (mem_cells.2 ⟨r, c, hrR, hcC, hcell, rfl⟩)
              have e : rd [(r : Int), (c : Int)] 0 = r ∧ rd [(r : Int), (c : Int)] 1 = c := ⟨rfl, rfl⟩
              rw [e.1, e.2, Bool.or_eq_true, decide_eq_true_eq, decide_eq_true_eq] at h8
              rcases h8 with h8 | h8
              · have := (mem_listM.1 h8).2.2
                rw [Int.toNat_natCast, hm] at this; cases this
              · have := (mem_listM.1 h8).2.2
                rw [Int.toNat_natCast] at this
                rw [this]; rfl
          rw [this]; rfl
      · rw [if_neg h2, show risesB (C : Int) 0 cols = false by simpa using h2]
        exact no _ _
    · rw [show risesB (R : Int) 0 rows = false by simpa using h1, Bool.false_and, if_neg (by simp)]
      exact Ev.congr (fun k => if_neg (by simp)) (no _ _)
  · rw [show isBoardB r c l = false by simpa using hb, Bool.false_and, if_neg (by simp)]
    exact Ev.congr (fun k => if_neg (by simp)) (no _ _)
theorem spec_l0 {rows cols : List Int} (h1 : rows.length ≤ 1048576) (h2 : cols.length ≤ 1048576) {L : List (List Int)} (hL : L.length ≤ 36) (hx : ∀ x ∈ L, ∃ a b : Int, x = [a, b]) : ∀ (d i : Nat), i + d = L.length →
    Ev (fun k => spec_IsCover.l0 k L (L.length : Int) i rows cols) ((L.drop i).all (fun x => decide (rd x 0 ∈ rows) || decide (rd x 1 ∈ cols)), true)
  | 0, i, hi => by
    refine Ev.step (f := fun _ => some (true, true)) (fun k => ?_) (LinesK.evEq (Ev.now _) (by rw [List.drop_eq_nil_of_le (by omega)]; rfl))
    rw [spec_IsCover.l0, if_neg (by omega)]
  | d + 1, i, hi => by
    have w1 : wrap64 ((i : Int) + 1) = ((i + 1 : Nat) : Int) := by rw [w64 (by omega) (by omega)]; rfl
    have hi2 : i < L.length := by omega
    have ih := spec_l0 h1 h2 hL hx d (i + 1) (by omega)
    have er : rd_L2 L (i : Int) = L[i] := by unfold rd_L2; rw [Int.toNat_natCast]; exact gD_lt _ _ hi2
    obtain ⟨a, b, hab⟩ := hx L[i] (List.getElem_mem hi2)
    rw [List.drop_eq_getElem_cons hi2, List.all_cons]
    have hlen : (L[i]).length = 2 := by rw [hab]; rfl
    refine Ev.step (f := fun k => (spec_l1Has.f k rows (rd L[i] 0)).bind fun t => if t = true then spec_IsCover.l0 k L (L.length : Int) ((i + 1 : Nat) : Int) rows cols else (spec_l1Has.f k cols (rd L[i] 1)).bind fun t2 => if t2 = true then spec_IsCover.l0 k L (L.length : Int) ((i + 1 : Nat) : Int) rows cols else some (false, true)) (fun k => ?_) ?_
    · rw [spec_IsCover.l0, if_pos (by omega), if_pos (by omega), if_pos (by omega), er, if_pos (by omega), if_pos (by omega), w1]
    · refine Ev.bind (l1Has _ (by omega)) ?_
      by_cases c1 : rd L[i] 0 ∈ rows
      · rw [decide_eq_true c1, Bool.true_or, Bool.true_and]
        exact Ev.congr (fun k => if_pos rfl) ih
      · rw [decide_eq_false c1, Bool.false_or]
        refine Ev.congr (fun k => if_neg (by simp)) ?_
        refine Ev.bind (l1Has _ (by omega)) ?_
        by_cases c2 : rd L[i] 1 ∈ cols
        · rw [decide_eq_true c2, Bool.true_and]
          exact Ev.congr (fun k => if_pos rfl) ih
        · rw [decide_eq_false c2, Bool.false_and]
          exact Ev.congr (fun k => if_neg (by simp)) (Ev.now _)
theorem spec_answer {r c : Int} {l rows cols : List Int} (hl : l.length ≤ 1048576) (hr : rows.length ≤ 1048576) (hc : cols.length ≤ 1048576) : Ev (fun k => spec_IsCover.f k r c l rows cols) (ans r c l rows cols) := by
  unfold spec_IsCover.f ans
  refine Ev.bind (boGood r c (by omega)) ?_
  have no : ∀ (R C : Int), Ev (fun k => spec_IsCover.j0 k true R C l rows cols) (false, false) := fun R C => Ev.step (f := fun _ => some (false, false)) (fun k => by rw [spec_IsCover.j0, if_pos rfl]) (Ev.now _)
  by_cases hb : isBoardB r c l = true
  · obtain ⟨R, C, rfl, rfl, hlR, h1R, hR, h1C, hC, hbits⟩ := board_of hb
    refine Ev.congr (fun k => by rw [if_pos hb]) ?_
    rw [hb, Bool.true_and, Int.toNat_natCast, Int.toNat_natCast]
    refine Ev.bind (l1Rising (by omega) (by omega) (by omega)) ?_
    by_cases h1 : risesB (R : Int) 0 rows = true
    · refine Ev.congr (fun k => by rw [if_pos h1]) ?_
      rw [h1, Bool.true_and]
      refine Ev.bind (l1Rising (by omega) (by omega) (by omega)) ?_
      by_cases h2 : risesB (C : Int) 0 cols = true
      · rw [if_pos h2, h2]
        refine Ev.step (fun k => by rw [spec_IsCover.j0, if_neg (by simp)]) ?_
        refine Ev.bind (boCells hlR hR hC (fun i hi => by have := hbits i hi; have := two_pow_six hC; omega)) ?_
        have := spec_l0 hr hc (L := cellsFrom l C 0 R) (cells_len l C R hC hR) (fun x hx => by obtain ⟨r, c, _, _, _, rfl⟩ := mem_cells.1 hx; exact ⟨_, _, rfl⟩) (cellsFrom l C 0 R).length 0 (by omega)
        rw [List.drop_zero] at this
        exact this
      · rw [if_neg h2, show risesB (C : Int) 0 cols = false by simpa using h2]
        exact no _ _
    · rw [show risesB (R : Int) 0 rows = false by simpa using h1, Bool.false_and, if_neg (by simp)]
      exact Ev.congr (fun k => if_neg (by simp)) (no _ _)
  · rw [show isBoardB r c l = false by simpa using hb, Bool.false_and, if_neg (by simp)]
    exact Ev.congr (fun k => if_neg (by simp)) (no _ _)
theorem szIntS_f (l : List Int) (hl : l.length * 8 ≤ 140737488351232) (n : Int) (h0 : 0 ≤ n) (h1 : n ≤ 1048576) : laws_szIntS.f l n = some (if (l.length : Int) ≤ n then n - (l.length : Int) else -1) := by
  unfold laws_szIntS.f
  rw [w64 (by omega) (by omega)]
  by_cases h : (l.length : Int) ≤ n
  · rw [if_neg (by omega), if_pos h]
  · rw [if_pos (by omega), if_neg h]
end CoverK
open CoverK

theorem FnExactIsCover : laws_FnExactIsCover.Pure := by
  intro r c l p q _ _ _ hl8 _ hm2 hp8 _ hm3 hq8 _
  unfold laws_FnExactIsCover.f
  refine ends ?_
  refine Ev.congr (fun k => by rw [szBoard_f r c l hl8, Option.bind_some]) ?_
  by_cases hlb : l.length ≤ 1048576
  · refine Ev.congr (fun k => by rw [if_pos hlb, if_neg (by omega), laws_szLines.f, szIntS_f p hp8 _ (by omega) (by omega), Option.bind_some]) ?_
    by_cases hp : (p.length : Int) ≤ 1048576 - (l.length : Int)
    · refine Ev.congr (fun k => by rw [if_pos hp, if_neg (by omega), szIntS_f q hq8 _ (by omega) (by omega), Option.bind_some]) ?_
      by_cases hq : (q.length : Int) ≤ 1048576 - (l.length : Int) - (p.length : Int)
      · refine Ev.congr (fun k => by rw [if_pos hq, if_neg (by omega), Option.bind_some, if_neg (by omega)]) ?_
        have tl : Ev (fun k => laws_toLines.f k p q) (p, q) := by
          unfold laws_toLines.f
          exact Ev.bind (toIntS (by omega)) (Ev.bind (toIntS (by omega)) (Ev.now _))
        refine Ev.bind (toBoard r c hlb) (Ev.bind tl (Ev.bind (spec_answer hlb (by simp only []; omega) (by simp only []; omega)) (Ev.bind (toBoard r c hlb) (Ev.bind tl (Ev.bind (impl_answer (by simp only []; omega) (by simp only []; omega)) ?_)))))
        refine Ev.congr (fun k => by rw [if_neg (by simp)]) ?_
        refine Ev.step (fun k => by rw [laws_FnExactIsCover.j0, if_neg (by simp)]) ?_
        refine Ev.bind (toBoard r c hlb) (Ev.bind (eqBoard r c (by simp; omega)) ?_)
        refine Ev.congr (fun k => by rw [if_pos rfl]) ?_
        refine Ev.bind tl ?_
        have el : Ev (fun k => laws_eqLines.f k p q p q) true := by
          unfold laws_eqLines.f
          refine Ev.bind (eqIntS (by omega)) ?_
          refine Ev.congr (fun k => by rw [if_pos (by simp)]) ?_
          refine Ev.bind (eqIntS (by omega)) ?_
          exact Ev.congr (fun k => by rw [if_pos (by simp)]) (Ev.now _)
        refine Ev.bind el ?_
        exact Ev.congr (fun k => by rw [if_pos rfl]) (Ev.now _)
      · exact Ev.congr (fun k => by rw [if_neg hq, if_pos (by omega), Option.bind_some, if_pos (by omega)]) (Ev.now _)
    · exact Ev.congr (fun k => by rw [if_neg hp, if_pos (by omega), Option.bind_some, if_pos (by omega)]) (Ev.now _)
  · exact Ev.congr (fun k => by rw [if_neg hlb, if_pos (by omega)]) (Ev.now _)

end Go.Proofs.Ytgnmcfoenmfhcaa.Pure
