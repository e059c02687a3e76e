/- Rows for a rank: what the reference's look at them answers. No conditions but small rows. -/
import Derived.Test.YtlhblnphfpijkaaCellA
import Derived.Test.YtlhblnphfpijkaaRowsK
import Derived.Test.YtlhblnphfpijkaaQspecweRows
import Derived.Test.YtlhblnphfpijkaaQspecweBase
import Derived.Test.YtlhblnphfpijkaaAreOut
namespace Go.Proofs.Ytlhblnphfpijkaa.RankK
set_option linter.unusedVariables false
open Go.RowKit Go.Proofs.Ytlhblnphfpijkaa.Q Go.Proofs.YtlhblnphfpijkaaW.PrintWords Go.Proofs.YtlhblnphfpijkaaW.PrintLast Go.Proofs.YtlhblnphfpijkaaW.PrintMore
open Go.Proofs.YtlhblnphfpijkaaL Go.Proofs.Ytlhblnphfpijkaa.LawK Go.Proofs.Ytlhblnphfpijkaa.BoardK Go.Proofs.Ytlhblnphfpijkaa.RowsK Go.Proofs.Ytlhblnphfpijkaa.LeadsK
/-- Rows for a rank, as the reference asks, from one on. -/
def sameB (n : Nat) (q : Int) (rows : List (List Int)) : Bool := rows.all (fun x => decide (x.length = n) && x.all (inR 0 (q - 1)))
theorem weRows_l0 {rows : List (List Int)} {q : Int} (hq : 2 ≤ q ∧ q ≤ 3) (h1 : 0 < rows.length) (h6 : rows.length ≤ 6) (hx : ∀ x ∈ rows, x.length ≤ 1048576) : ∀ (d i : Nat), i + d = rows.length →
    Ev (fun k => spec_weRows.l0 k rows q rows (rows.length : Int) i) (sameB (rows[0]'h1).length q (rows.drop i))
  | 0, i, hi => by
    refine Ev.step (f := fun _ => some true) (fun k => ?_) (evEq (Ev.now _) (by rw [List.drop_eq_nil_of_le (by omega)]; rfl))
    rw [spec_weRows.l0, if_neg (by omega)]
  | d + 1, i, hi => by
    have w1 : wrap64 ((i : Int) + 1) = ((i + 1 : Nat) : Int) := by rw [w64 (by omega) (by omega)]; rfl
    have w2 : wrap64 (q - 1) = q - 1 := w64 (by omega) (by omega)
    have hi2 : i < rows.length := by omega
    have ih := weRows_l0 hq h1 h6 hx d (i + 1) (by omega)
    have e0 : rd_L1 rows 0 = rows[0]'h1 := rdL (i := 0) h1
    rw [List.drop_eq_getElem_cons hi2]
    unfold sameB at ih ⊢
    rw [List.all_cons]
    by_cases c1 : rows[i].length = (rows[0]'h1).length
    · rw [decide_eq_true c1, Bool.true_and]
      refine Ev.step (f := fun k => (spec_l1All.f k rows[i] 0 (q - 1)).bind fun t => if t = true then spec_weRows.l0 k rows q rows (rows.length : Int) ((i + 1 : Nat) : Int) else some false) (fun k => ?_) ?_
      · rw [spec_weRows.l0, if_pos (by omega), if_pos (by omega), if_pos (by omega), if_pos (by omega), rdL hi2, e0, if_pos (by omega), w1, w2]
      · refine Ev.bind (l1All _ _ (by have := hx _ (List.getElem_mem hi2); omega)) ?_
        by_cases c : rows[i].all (inR 0 (q - 1)) = true
        · rw [c, Bool.true_and]
          exact Ev.congr (fun k => if_pos rfl) ih
        · rw [show rows[i].all (inR 0 (q - 1)) = false by simpa using c, Bool.false_and]
          exact Ev.congr (fun k => if_neg (by simp)) (Ev.now _)
    · rw [decide_eq_false c1, Bool.false_and, Bool.false_and]
      refine Ev.step (f := fun _ => some false) (fun k => ?_) (Ev.now _)
      rw [spec_weRows.l0, if_pos (by omega), if_pos (by omega), if_pos (by omega), if_pos (by omega), rdL hi2, e0, if_neg (by omega)]
theorem weRows {rows : List (List Int)} {q : Int} (hq : 2 ≤ q ∧ q ≤ 3) (hx : ∀ x ∈ rows, x.length ≤ 1048576) : Ev (fun k => spec_weRows.f k rows q) (inR 1 6 (rows.length : Int) && (inR 1 6 ((rows.getD 0 []).length : Int) && sameB (rows.getD 0 []).length q rows)) := by
  unfold spec_weRows.f
  have no : Ev (fun k => spec_weRows.j0 k rows q true) false := Ev.step (f := fun _ => some false) (fun k => by rw [spec_weRows.j0, if_pos rfl]) (Ev.now _)
  refine Ev.congr (fun k => by rw [boSide_f, Option.bind_some]) ?_
  by_cases h : inR 1 6 (rows.length : Int) = true
  · have h2 : 1 ≤ (rows.length : Int) ∧ (rows.length : Int) ≤ 6 := of_decide_eq_true h
    have h1 : 0 < rows.length := by omega
    have e0 : rd_L1 rows 0 = rows[0]'h1 := rdL (i := 0) h1
    have e1 : rows.getD 0 [] = rows[0]'h1 := gD_lt _ _ h1
    rw [h, Bool.true_and, e1]
    refine Ev.congr (fun k => by rw [if_pos rfl, if_pos (by omega), e0, boSide_f, Option.bind_some]) ?_
    by_cases c : inR 1 6 ((rows[0]'h1).length : Int) = true
    · rw [c, Bool.true_and]
      have := weRows_l0 hq h1 (by omega) hx rows.length 0 (by omega)
      rw [List.drop_zero] at this
      refine Ev.step (fun k => ?_) this
      rw [spec_weRows.j0, if_neg (by simp)]; rfl
    · rw [show inR 1 6 ((rows[0]'h1).length : Int) = false by simpa using c, Bool.false_and]
      exact no
  · rw [show inR 1 6 (rows.length : Int) = false by simpa using h, Bool.false_and]
    exact Ev.congr (fun k => if_neg (by simp)) no
/-- The program's question is the reference's. -/
theorem areRows_eq (rows : List (List Int)) (q : Int) : areRowsB rows q = (inR 2 3 q && (inR 1 6 (rows.length : Int) && (inR 1 6 ((rows.getD 0 []).length : Int) && sameB (rows.getD 0 []).length q rows))) := by
  unfold areRowsB
  show (inR 2 3 q && (inR 1 6 (rows.length : Int) && rows.all (rowOk q (rows.getD 0 []).length))) = _
  cases h2 : inR 1 6 (rows.length : Int)
  · simp
  · have h3 : 1 ≤ (rows.length : Int) ∧ (rows.length : Int) ≤ 6 := of_decide_eq_true h2
    have h0 : rows.getD 0 [] ∈ rows := by rw [gD_lt _ _ (by omega)]; exact List.getElem_mem _
    congr 2
    rw [Bool.eq_iff_iff, Bool.and_eq_true, List.all_eq_true]
    unfold sameB
    rw [List.all_eq_true]
    constructor
    · intro h
      have key : ∀ x ∈ rows, inR 1 6 (x.length : Int) = true ∧ x.length = (rows.getD 0 []).length ∧ x.all (inR 0 (q - 1)) = true := by
        intro x hx
        have := h x hx
        unfold rowOk at this
        rw [Bool.and_eq_true, Bool.and_eq_true, decide_eq_true_eq, decide_eq_true_eq] at this
        exact ⟨decide_eq_true this.1, by omega, this.2.2⟩
      exact ⟨(key _ h0).1, fun x hx => by rw [Bool.and_eq_true, decide_eq_true_eq]; exact (key x hx).2⟩
    · rintro ⟨h1, h4⟩ x hx
      have := h4 x hx
      rw [Bool.and_eq_true, decide_eq_true_eq] at this
      have h5 : 1 ≤ ((rows.getD 0 []).length : Int) ∧ ((rows.getD 0 []).length : Int) ≤ 6 := of_decide_eq_true h1
      unfold rowOk
      rw [Bool.and_eq_true, Bool.and_eq_true, decide_eq_true_eq, decide_eq_true_eq]
      exact ⟨by omega, by omega, this.2⟩
theorem withinR (a b c : Int) : impl_within.f a b c = some (inR b c a) := by
  unfold impl_within.f inR
  by_cases h : b ≤ a
  · rw [if_pos h]; simp [h]
  · rw [if_neg h]; congr 1; exact (decide_eq_false (by omega)).symm
/-- What the reference asks ahead of a rank or leads. -/
theorem asks {α : Type} {rows : List (List Int)} {q : Int} (hx : ∀ x ∈ rows, x.length ≤ 1048576) {yes : Nat → Option α} {no r : α} (hy : areRowsB rows q = true → Ev yes r) (hn : areRowsB rows q = false → no = r) :
    Ev (fun k => (spec_weBase.f q).bind fun t => if t = true then ((spec_weRows.f k rows q).bind fun t2 => if t2 = true then yes k else some no) else some no) r := by
  refine Ev.congr (fun k => by rw [spec_weBase.f, l1In_f, Option.bind_some, Option.bind_some]) ?_
  by_cases hq : inR 2 3 q = true
  · refine Ev.congr (fun k => if_pos hq) (Ev.bind (weRows (of_decide_eq_true hq) hx) ?_)
    have e := areRows_eq rows q
    rw [hq, Bool.true_and] at e
    rw [← e]
    by_cases h : areRowsB rows q = true
    · exact Ev.congr (fun k => if_pos h) (hy h)
    · refine Ev.congr (fun k => if_neg h) ?_
      rw [hn (by simpa using h)]; exact Ev.now _
  · refine Ev.congr (fun k => if_neg hq) ?_
    have h : areRowsB rows q = false := by rw [areRows_eq, show inR 2 3 q = false by simpa using hq, Bool.false_and]
    rw [hn h]; exact Ev.now _
theorem leadsF_in {q : Int} (hq : 2 ≤ q ∧ q ≤ 3) {n : Nat} : ∀ (rows : List (List Int)) (done : List (List Int)) (out : List Int), (∀ r ∈ rows, Dig q n r) → WFs q n done out → (leadsF q n rows done out).length = out.length + rows.length ∧ ∀ e ∈ leadsF q n rows done out, e = -1 ∨ (0 ≤ e ∧ e < n)
  | [], done, out, _, h => ⟨rfl, h.lead⟩
  | row :: t, done, out, hd, h => by
    rw [leadsF]
    have := leadsF_in hq t _ _ (fun r hr => hd r (List.mem_cons_of_mem _ hr)) (h.snoc (Dig.red hq done out row h.dig (hd row List.mem_cons_self)))
    rw [this.1]
    exact ⟨by simp; omega, this.2⟩
/-- The leads of rows. -/
def leadsOf (rows : List (List Int)) (q : Int) : List Int := leadsF q (rows.getD 0 []).length rows [] []
theorem leadsOf_in {rows : List (List Int)} {q : Int} (h : areRowsB rows q = true) : (leadsOf rows q).length = rows.length ∧ ∀ e ∈ leadsOf rows q, e = -1 ∨ 0 ≤ e := by
  obtain ⟨h1, h2, h3, h4, h5⟩ := areRows_out h
  have := leadsF_in h1 rows [] [] h5 ⟨rfl, by simp, by simp⟩
  exact ⟨by have h6 := this.1; rw [List.length_nil, Nat.zero_add] at h6; exact h6, fun e he => by have := this.2 e he; omega⟩
end Go.Proofs.Ytlhblnphfpijkaa.RankK
