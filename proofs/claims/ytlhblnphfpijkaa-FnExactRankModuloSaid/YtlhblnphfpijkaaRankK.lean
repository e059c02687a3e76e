/- Ranks: what the program and the reference count of the leads. No conditions but rows. -/
import Derived.Test.YtlhblnphfpijkaaWeRows
import Derived.Test.YtlhblnphfpijkaaRookN
import Derived.Test.YtlhblnphfpijkaaQimplrank
import Derived.Test.YtlhblnphfpijkaaQspecweRank
namespace Go.Proofs.Ytlhblnphfpijkaa.RankK
set_option linter.unusedVariables false
open Go.RowKit Go.Proofs.Ytlhblnphfpijkaa.Q Go.Proofs.YtlhblnphfpijkaaW.PrintWords Go.Proofs.YtlhblnphfpijkaaW.PrintLast Go.Proofs.YtlhblnphfpijkaaW.PrintMore
open Go.Proofs.YtlhblnphfpijkaaL Go.Proofs.Ytlhblnphfpijkaa.LawK Go.Proofs.Ytlhblnphfpijkaa.BoardK Go.Proofs.Ytlhblnphfpijkaa.RowsK Go.Proofs.Ytlhblnphfpijkaa.LeadsK Go.Proofs.Ytlhblnphfpijkaa.Walk
theorem impl_rank {rows : List (List Int)} {q : Int} (h : areRowsB rows q = true) : Ev (fun k => impl_rank.f k rows q) (rooksN (leadsOf rows q) : Int) := by
  unfold impl_rank.f
  obtain ⟨h1, h2⟩ := leadsOf_in h
  have h6 := (areRows_out h).2.1
  refine Ev.congr (fun k => by rw [impl_leads.f, if_pos h, Option.bind_some]) ?_
  have hr := rooks_l0 (l := leadsOf rows q) (by omega) (leadsOf rows q).length 0 0 (by omega) (by omega)
  rw [List.drop_zero, Nat.zero_add] at hr
  exact Ev.bind (a := (rooksN (leadsOf rows q) : Int)) hr (Ev.now _)
theorem spec_l0 {l : List Int} (hl : l.length ≤ 1048576) (hin : ∀ e ∈ l, e = -1 ∨ 0 ≤ e) : ∀ (d i n : Nat), i + d = l.length → n ≤ i → Ev (fun k => spec_weRank.l0 k n l (l.length : Int) i) ((n + rooksN (l.drop i) : Nat) : Int)
  | 0, i, n, hi, hn => by
    refine Ev.step (f := fun _ => some ((n + rooksN (l.drop i) : Nat) : Int)) (fun k => ?_) (Ev.now _)
    rw [spec_weRank.l0, if_neg (by omega), List.drop_eq_nil_of_le (by omega)]; rfl
  | d + 1, i, n, hi, hn => by
    have w1 := Aside0.mk (show wrap64 ((i : Int) + 1) = ((i + 1 : Nat) : Int) by rw [w64 (by omega) (by omega)]; rfl)
    have w2 := Aside0.mk (show wrap64 ((n : Int) + 1) = ((n + 1 : Nat) : Int) by rw [w64 (by omega) (by omega)]; rfl)
    have hi2 : i < l.length := by omega
    have hx := hin _ (List.getElem_mem hi2)
    rw [List.drop_eq_getElem_cons hi2, rooksN, List.countP_cons]
    by_cases h : l[i] = -1
    · have ih := spec_l0 hl hin d (i + 1) n (by omega) (by omega)
      rw [rooksN] at ih
      rw [if_neg (by simp [h]), Nat.add_zero]
      refine Ev.step (fun k => ?_) ih
      rw [spec_weRank.l0, if_pos (by omega), if_pos (by omega), if_pos (by omega), rd_lt _ _ hi2, if_neg (by omega), w1.out]
    · have ih := spec_l0 hl hin d (i + 1) (n + 1) (by omega) (by omega)
      rw [rooksN] at ih
      rw [if_pos (by simpa using h), show n + (List.countP (fun x => x != -1) (List.drop (i + 1) l) + 1) = n + 1 + List.countP (fun x => x != -1) (List.drop (i + 1) l) by omega]
      refine Ev.step (fun k => ?_) ih
      rw [spec_weRank.l0, if_pos (by omega), if_pos (by omega), if_pos (by omega), rd_lt _ _ hi2, if_pos (by omega), w1.out, w2.out]
theorem spec_rank {rows : List (List Int)} {q : Int} (h : areRowsB rows q = true) : Ev (fun k => spec_weRank.f k rows q) (rooksN (leadsOf rows q) : Int) := by
  unfold spec_weRank.f
  obtain ⟨h1, h2⟩ := leadsOf_in h
  have h6 := (areRows_out h).2.1
  refine Ev.congr (fun k => by rw [spec_weLeads.f, if_pos h, Option.bind_some]) ?_
  have hr := spec_l0 (l := leadsOf rows q) (by omega) h2 (leadsOf rows q).length 0 0 (by omega) (by omega)
  rw [List.drop_zero, Nat.zero_add] at hr
  exact hr
theorem rank_le {rows : List (List Int)} {q : Int} (h : areRowsB rows q = true) : rooksN (leadsOf rows q) ≤ rows.length := by
  have := List.countP_le_length (p := fun x => x != -1) (l := leadsOf rows q)
  rw [(leadsOf_in h).1] at this
  exact this
end Go.Proofs.Ytlhblnphfpijkaa.RankK
