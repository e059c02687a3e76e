/- The program's RooksFromHits returns what the reference's returns, for all arguments. No conditions. -/
import Derived.Test.YtiocgomkminmoaaQlawsFnExactRooksFromHits
import Derived.Test.YtiocgomkminmoaaRooks
namespace Go.Proofs.Ytiocgomkminmoaa.Pure
open Go.RowKit Go.Proofs.Ytiocgomkminmoaa.Q Go.Proofs.YtiocgomkminmoaaW.PrintWords Go.Proofs.YtiocgomkminmoaaW.PrintLast Go.Proofs.YtiocgomkminmoaaW.PrintMore
open Go.Proofs.YtiocgomkminmoaaL Go.Proofs.Ytiocgomkminmoaa.LawK Go.Proofs.Ytiocgomkminmoaa.HitsK

theorem FnExactRooksFromHits : laws_FnExactRooksFromHits.Pure := by
  intro l hl _ _
  by_cases hbig : (l.length : Int) > 1048576
  · exact ⟨1, by unfold laws_FnExactRooksFromHits.f; rw [if_pos hbig]⟩
  · have hlen : l.length ≤ 1048576 := by omega
    obtain ⟨w, hw, hwl⟩ : ∃ w : List Int × Bool, w = (if goodL l then rooksOfHits l else ([], false)) ∧ w.1.length ≤ 1048576 := by
      refine ⟨_, rfl, ?_⟩
      split
      · next hg =>
        have h1 := rooksF_length l l.length 0 []
        have h2 := good_length hg
        unfold rooksOfHits
        simp at h1; omega
      · exact Nat.zero_le _
    have hS := spec_rooksFromHits hlen
    have hI := impl_rooksFromHits hlen
    rw [← hw] at hS hI
    obtain ⟨r, ok⟩ := w
    have hq : (1 : Int) + (r.length : Int) ≤ 4611686018427387904 := by simp at hwl; omega
    have hr : r.length ≤ 9223372036854775806 := by simp at hwl; omega
    refine ends ?_
    unfold laws_FnExactRooksFromHits.f
    refine Ev.congr (fun k => by rw [if_neg hbig]) ?_
    refine Ev.bind (toIntS hlen) (Ev.bind hS (Ev.bind (toIntS hlen) (Ev.bind hI (Ev.bind (eqIntS hr) ?_))))
    refine Ev.congr (fun k => by rw [if_pos (by simp)]) ?_
    refine Ev.step (fun k => by rw [laws_FnExactRooksFromHits.j0, if_neg (by simp)]) ?_
    refine Ev.bind (toIntS hlen) (Ev.bind (eqIntS (by omega)) ?_)
    refine Ev.congr (fun k => by rw [if_pos (by simp)]) ?_
    refine Ev.bind (markIntS l (by omega) (by omega)) ?_
    refine Ev.congr (fun k => by rw [if_neg (by show ¬ ((1 : Int) + (l.length : Int) < 0); omega)]) ?_
    refine Ev.bind (eqIntS hr) ?_
    refine Ev.congr (fun k => by rw [if_pos (by simp)]) ?_
    refine Ev.step (fun k => by rw [laws_FnExactRooksFromHits.j1, if_neg (by simp)]) ?_
    refine Ev.bind (markIntS r (by omega) hq) ?_
    refine Ev.bind (heldIntS r.length (by omega) hq) ?_
    refine Ev.congr (fun k => by rw [if_neg (by omega), if_pos rfl]) ?_
    refine Ev.bind (toIntS hlen) (Ev.bind hI (Ev.bind (eqIntS hr) ?_))
    refine Ev.congr (fun k => by rw [if_pos (by simp)]) ?_
    refine Ev.step (fun k => by rw [laws_FnExactRooksFromHits.j2, if_neg (by simp)]) ?_
    refine Ev.bind (heldIntS r.length (by omega) hq) ?_
    exact Ev.congr (fun k => by rw [if_neg (by omega), if_pos rfl]) (Ev.now _)

end Go.Proofs.Ytiocgomkminmoaa.Pure
