/- What the program's and the reference's HitNumbers answer. No conditions. -/
import Derived.Test.YtiocgomkminmoaaQspecHitNumbers
import Derived.Test.YtiocgomkminmoaaQimplHitNumbers
import Derived.Test.YtiocgomkminmoaaHitAll
namespace Go.Proofs.Ytiocgomkminmoaa.Pure
set_option linter.unusedVariables false
open Go.RowKit Go.Proofs.Ytiocgomkminmoaa.Q Go.Proofs.YtiocgomkminmoaaW.PrintWords Go.Proofs.YtiocgomkminmoaaW.PrintLast Go.Proofs.YtiocgomkminmoaaW.PrintMore
open Go.Proofs.YtiocgomkminmoaaL Go.Proofs.Ytiocgomkminmoaa.LawK Go.Proofs.Ytiocgomkminmoaa.BoardK Go.Proofs.Ytiocgomkminmoaa.PermK Go.Proofs.Ytiocgomkminmoaa.Walk Go.Proofs.Ytiocgomkminmoaa.HN Go.Proofs.Ytiocgomkminmoaa.HitAllK

def hitNumbers (r c : Int) (l : List Int) : List Int × Bool := if squareB r c l = true then (countsF l (l.length + 1) (permsOf l.length), true) else ([], false)
theorem countsF_length (l : List Int) (m : Nat) (vis : List (List Int)) : (countsF l m vis).length = m := by
  unfold countsF
  have : ∀ (L : List (List Int)) (o : List Int), (L.foldl (fun o p => o.set (hitsF l p 0 0).toNat (IntKind.i64.wrap (rdOf 0 o (hitsF l p 0 0) + 1))) o).length = o.length := by
    intro L
    induction L with
    | nil => intro o; rfl
    | cons a t ih => intro o; rw [List.foldl_cons, ih]; simp
  rw [this]; simp
theorem answer_length (r c : Int) (l : List Int) : (hitNumbers r c l).1.length ≤ 100 := by
  unfold hitNumbers
  by_cases hs : squareB r c l = true
  · obtain ⟨q1, _⟩ := board_bits hs
    rw [if_pos hs]; simp only []; rw [countsF_length]; omega
  · rw [if_neg hs]; simp
theorem spec_answer {r c : Int} {l : List Int} (hl : l.length ≤ 1048576) : Ev (fun k => spec_HitNumbers.f k r c l) (hitNumbers r c l) := by
  unfold spec_HitNumbers.f hitNumbers
  refine Ev.bind (hiGood r c (by omega)) ?_
  by_cases hs : squareB r c l = true
  · rw [if_pos hs]
    exact Ev.congr (fun k => by rw [if_pos hs]) (Ev.bind (spec_hiNumbers hs) (Ev.now _))
  · rw [if_neg hs]
    exact Ev.congr (fun k => by rw [if_neg hs]) (Ev.now _)
theorem impl_answer_f (r c : Int) (l : List Int) : impl_HitNumbers.f r c l = some (hitNumbers r c l) := by
  unfold impl_HitNumbers.f hitNumbers impl_Board_hitNumbers.f
  rw [isSquare_f, Option.bind_some]
  by_cases hs : squareB r c l = true
  · rw [if_pos hs, if_pos hs, Option.bind_some, if_pos hs]
  · rw [if_neg hs, if_neg hs]
theorem impl_answer {r c : Int} {l : List Int} : Ev (fun k => impl_HitNumbers.f r c l) (hitNumbers r c l) := Ev.congr (fun k => by rw [impl_answer_f]) (Ev.now _)

end Go.Proofs.Ytiocgomkminmoaa.Pure
