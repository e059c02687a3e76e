/- The program's WeightedProductAt returns what the reference's returns, for all arguments. No conditions. -/
import Derived.Test.YtlhblnphfpijkaaQlawsFnExactWeightedProductAt
import Derived.Test.YtlhblnphfpijkaaLenA
namespace Go.Proofs.Ytlhblnphfpijkaa.Pure
set_option linter.unusedVariables false
open Go.RowKit Go.Proofs.Ytlhblnphfpijkaa.Q Go.Proofs.YtlhblnphfpijkaaW.PrintWords Go.Proofs.YtlhblnphfpijkaaW.PrintLast Go.Proofs.YtlhblnphfpijkaaW.PrintMore
open Go.Proofs.YtlhblnphfpijkaaL Go.Proofs.Ytlhblnphfpijkaa.LawK Go.Proofs.Ytlhblnphfpijkaa.BoardK

namespace WPK
theorem withinR (a b c : Int) : impl_within.f a b c = some (inR b c a) := by
  unfold impl_within.f inR
  by_cases h : b ≤ a
  · rw [if_pos h]; simp [h]
  · rw [if_neg h]; congr 1; exact (decide_eq_false (by omega)).symm
/-- All lists of so many numbers of 0 to m. -/
def tup (m : Nat) : Nat → List (List Int)
  | 0 => [[]]
  | d + 1 => (tup m d).flatMap fun t => (List.range (m + 1)).map fun i => ((i : Nat) : Int) :: t
theorem tup_mem (m : Nat) : ∀ (l : List Int), (∀ x ∈ l, 0 ≤ x ∧ x ≤ m) → l ∈ tup m l.length
  | [], _ => by simp [tup]
  | x :: t, h => by
    have h1 := tup_mem m t (fun y hy => h y (List.mem_cons_of_mem _ hy))
    have h2 := h x List.mem_cons_self
    rw [List.length_cons, tup, List.mem_flatMap]
    refine ⟨t, h1, ?_⟩
    rw [List.mem_map]
    exact ⟨x.toNat, by rw [List.mem_range]; omega, by rw [Int.toNat_of_nonneg h2.1]⟩
def chk (l : List Int) (q x : Int) : Bool := match impl_WeightedProductAt.f 100 l q x, spec_WeightedProductAt.f 100 l q x with
  | some a, some b => a == b
  | _, _ => false
theorem fin : ∀ n : Fin 5, ((tup n.val n.val).all fun l => !LensK.lenB l || (chk l 2 4 && chk l 2 5 && chk l 2 6 && chk l 2 7 && chk l 2 8 && chk l 3 4 && chk l 3 5 && chk l 3 6 && chk l 3 7 && chk l 3 8 && (decide (4 ≤ l.length) || (chk l 2 3 && chk l 3 3 && (decide (3 ≤ l.length) || (chk l 2 2 && chk l 3 2 && (decide (2 ≤ l.length) || (chk l 2 1 && chk l 3 1)))))))) = true := by decide +kernel
def wB (l : List Int) (q x : Int) : Bool := LensK.lenB l && (decide ((l.length : Int) ≤ 4) && (inR 2 3 q && inR (l.length : Int) 8 x))
theorem impl_w {l : List Int} (q x : Int) (hl : l.length ≤ 1048576) : Ev (fun k => impl_isWeighted.f k l q x) (wB l q x) := by
  unfold impl_isWeighted.f wB
  refine Ev.bind (LensK.impl_good hl) ?_
  by_cases h : LensK.lenB l = true
  · rw [h, Bool.true_and]
    refine Ev.congr (fun k => if_pos rfl) ?_
    by_cases c : (l.length : Int) ≤ 4
    · rw [decide_eq_true c, Bool.true_and]
      refine Ev.congr (fun k => by rw [if_pos c, impl_isQ.f, withinR, Option.bind_some, Option.bind_some, withinR, Option.bind_some]) ?_
      cases inR 2 3 q
      · exact Ev.congr (fun k => if_neg (by simp)) (Ev.now _)
      · exact Ev.congr (fun k => if_pos rfl) (Ev.now _)
    · rw [decide_eq_false c, Bool.false_and]
      exact Ev.congr (fun k => if_neg c) (Ev.now _)
  · rw [show LensK.lenB l = false by simpa using h, Bool.false_and]
    exact Ev.congr (fun k => if_neg (by simp)) (Ev.now _)
theorem spec_w {l : List Int} (q x : Int) (hl : l.length ≤ 1048576) : Ev (fun k => spec_weArgument.f k l q x) (wB l q x) := by
  unfold spec_weArgument.f wB
  refine Ev.bind (LensK.spec_good hl) ?_
  by_cases h : LensK.lenB l = true
  · rw [h, Bool.true_and]
    refine Ev.congr (fun k => if_pos rfl) ?_
    by_cases c : (l.length : Int) ≤ 4
    · rw [decide_eq_true c, Bool.true_and]
      refine Ev.congr (fun k => by rw [if_pos c, spec_weBase.f, l1In_f, Option.bind_some, Option.bind_some, l1In_f, Option.bind_some]) ?_
      cases inR 2 3 q
      · exact Ev.congr (fun k => if_neg (by simp)) (Ev.now _)
      · exact Ev.congr (fun k => if_pos rfl) (Ev.now _)
    · rw [decide_eq_false c, Bool.false_and]
      exact Ev.congr (fun k => if_neg c) (Ev.now _)
  · rw [show LensK.lenB l = false by simpa using h, Bool.false_and]
    exact Ev.congr (fun k => if_neg (by simp)) (Ev.now _)
theorem of_chk {l : List Int} {q x : Int} (h : chk l q x = true) : ∃ r, Ev (fun k => spec_WeightedProductAt.f k l q x) r ∧ Ev (fun k => impl_WeightedProductAt.f k l q x) r := by
  unfold chk at h
  cases h1 : impl_WeightedProductAt.f 100 l q x with
  | none => rw [h1] at h; simp at h
  | some a =>
    cases h2 : spec_WeightedProductAt.f 100 l q x with
    | none => rw [h1, h2] at h; simp at h
    | some b =>
      rw [h1, h2] at h
      simp only [beq_iff_eq] at h
      exact ⟨a, Ev.of (fun k => spec_WeightedProductAt.mono _ _ _ k) (by rw [h2, h]), Ev.of (fun k => impl_WeightedProductAt.mono _ _ _ k) h1⟩
theorem both {l : List Int} (q x : Int) (hl : l.length ≤ 1048576) : ∃ r, Ev (fun k => spec_WeightedProductAt.f k l q x) r ∧ Ev (fun k => impl_WeightedProductAt.f k l q x) r := by
  by_cases h : wB l q x = true
  · unfold wB at h
    rw [Bool.and_eq_true, Bool.and_eq_true, Bool.and_eq_true, decide_eq_true_eq] at h
    obtain ⟨h1, h2, h3, h4⟩ := h
    have hq : 2 ≤ q ∧ q ≤ 3 := of_decide_eq_true h3
    have hx : (l.length : Int) ≤ x ∧ x ≤ 8 := of_decide_eq_true h4
    have hL := LensK.len_of h1
    have hm := tup_mem l.length l (fun y hy => by obtain ⟨i, hi, rfl⟩ := List.mem_iff_getElem.1 hy; exact hL.2.2 i hi)
    have hf := List.all_eq_true.1 (fin ⟨l.length, by omega⟩) l hm
    rw [h1] at hf
    simp only [Bool.not_true, Bool.false_or, Bool.and_eq_true, Bool.or_eq_true, decide_eq_true_eq] at hf
    obtain ⟨⟨⟨⟨⟨⟨⟨⟨⟨⟨a1, a2⟩, a3⟩, a4⟩, a5⟩, b1⟩, b2⟩, b3⟩, b4⟩, b5⟩, c⟩ := hf
    obtain rfl | rfl : q = 2 ∨ q = 3 := by omega
    · obtain rfl | rfl | rfl | rfl | rfl | rfl | rfl | rfl : x = 8 ∨ x = 7 ∨ x = 6 ∨ x = 5 ∨ x = 4 ∨ x = 3 ∨ x = 2 ∨ x = 1 := by omega
      · exact of_chk a5
      · exact of_chk a4
      · exact of_chk a3
      · exact of_chk a2
      · exact of_chk a1
      · rcases c with c | ⟨⟨c1, c2⟩, c⟩
        · omega
        · exact of_chk c1
      · rcases c with c | ⟨⟨c1, c2⟩, c⟩
        · omega
        · rcases c with c | ⟨⟨c3, c4⟩, c⟩
          · omega
          · exact of_chk c3
      · rcases c with c | ⟨⟨c1, c2⟩, c⟩
        · omega
        · rcases c with c | ⟨⟨c3, c4⟩, c⟩
          · omega
          · rcases c with c | ⟨c5, c6⟩
            · omega
            · exact of_chk c5
    · obtain rfl | rfl | rfl | rfl | rfl | rfl | rfl | rfl : x = 8 ∨ x = 7 ∨ x = 6 ∨ x = 5 ∨ x = 4 ∨ x = 3 ∨ x = 2 ∨ x = 1 := by omega
      · exact of_chk b5
      · exact of_chk b4
      · exact of_chk b3
      · exact of_chk b2
      · exact of_chk b1
      · rcases c with c | ⟨⟨c1, c2⟩, c⟩
        · omega
        · exact of_chk c2
      · rcases c with c | ⟨⟨c1, c2⟩, c⟩
        · omega
        · rcases c with c | ⟨⟨c3, c4⟩, c⟩
          · omega
          · exact of_chk c4
      · rcases c with c | ⟨⟨c1, c2⟩, c⟩
        · omega
        · rcases c with c | ⟨⟨c3, c4⟩, c⟩
          · omega
          · rcases c with c | ⟨c5, c6⟩
            · omega
            · exact of_chk c6
  · have h2 : wB l q x = false := by simpa using h
    refine ⟨(0, false), ?_, ?_⟩
    · unfold spec_WeightedProductAt.f
      refine Ev.bind (spec_w q x hl) ?_
      rw [h2]
      exact Ev.congr (fun k => if_neg (by simp)) (Ev.now _)
    · unfold impl_WeightedProductAt.f
      refine Ev.bind (impl_w q x hl) ?_
      rw [h2]
      exact Ev.congr (fun k => if_neg (by simp)) (Ev.now _)
end WPK
open WPK
theorem FnExactWeightedProductAt : laws_FnExactWeightedProductAt.Pure := by
  intro l q x hm1 _ _ _ _
  unfold laws_FnExactWeightedProductAt.f
  refine ends ?_
  by_cases hl : l.length ≤ 1048576
  · refine Ev.congr (fun k => by rw [if_neg (by omega)]) ?_
    have tl := toIntS hl
    obtain ⟨r, h1, h2⟩ := both q x hl
    refine Ev.bind tl (Ev.bind h1 (Ev.bind tl (Ev.bind h2 ?_)))
    refine Ev.congr (fun k => by rw [if_pos rfl]) ?_
    refine Ev.step (fun k => by rw [laws_FnExactWeightedProductAt.j0, if_neg (by simp)]) ?_
    refine Ev.bind tl (Ev.bind (eqIntS (by omega)) ?_)
    exact Ev.congr (fun k => by rw [if_pos (by simp)]) (Ev.now _)
  · exact Ev.congr (fun k => by rw [if_pos (by omega)]) (Ev.now _)
end Go.Proofs.Ytlhblnphfpijkaa.Pure
