/- What TableBoard's own test answers: is a cell at a seat or the next one of a round table? No conditions but a captured number of seats that is there. -/
import Derived.Test.YtiocgomkminmoaaQ0
import Derived.Test.YtiocgomkminmoaaL
import Derived.Outline
import Derived.Lib.Hide
namespace Go.Proofs.Ytiocgomkminmoaa.Q
open Go.RowKit Go.Proofs.YtiocgomkminmoaaW.PrintWords Go.Proofs.YtiocgomkminmoaaW.PrintLast Go.Proofs.YtiocgomkminmoaaW.PrintMore
open Go.Proofs.YtiocgomkminmoaaL
set_option linter.unusedVariables false
def impl_TableBoard_1.f (n : Int) (r : Int) (c : Int) : Option Bool := if n = 0 then none else some (c == r || c == Int.tmod (wrap64 (r + 1)) n)
set_option maxHeartbeats 4000000 in
set_option maxRecDepth 100000 in
theorem impl_TableBoard_1.calls (n : Int) (a0 : Int) (a1 : Int) (r : Bool) (gn : Nat) (w : World) (hn : w.heap[gn]? = some (.cells #[.int .i64 n] 3 (0, 0))) (h : impl_TableBoard_1.f n a0 a1 = some r) :
    Calls Try.prog 102 #[.int .i64 a0, .int .i64 a1, .pointer (some ⟨gn, 0, none⟩)] w fun e w' => e = .returned (.bool r) ∧ Drawn0 w w' := by
  unfold impl_TableBoard_1.f at h
  by_cases h0 : n = 0
  · rw [if_pos h0] at h; cases h
  rw [if_neg h0] at h
  have h := Option.some.inj h
  have z1 : w.cell? ⟨gn, 0, none⟩ = some (.int .i64 n) := (blk_cell hn 0).trans rfl
  have n0 : (n == 0) = false := beq_eq_false_iff_ne.mpr h0
  clear hn
  by_cases h1 : a1 = a0
  · have c1 : (a1 == a0) = true := beq_iff_eq.mpr h1
    rw [c1, Bool.true_or] at h
    subst h
    clear h1
    go_enter Try.func102, Try.ntmps102
    go_wp2
    go_ret
    exact ⟨rfl, by repeat (first | exact Drawn0.refl _ | apply Drawn0.step)⟩
  · have c1 : (a1 == a0) = false := beq_eq_false_iff_ne.mpr h1
    rw [c1, Bool.false_or] at h
    subst h
    clear h1
    go_enter Try.func102, Try.ntmps102
    go_wp2
    go_ret
    exact ⟨by first | rfl | (simp [wrap_i64']; done) | simp, by repeat (first | exact Drawn0.refl _ | apply Drawn0.step)⟩
end Go.Proofs.Ytiocgomkminmoaa.Q
