/- The program's FollowWay returns what the reference's returns, for all arguments. No conditions. -/
import Derived.Test.YtgnmcfoenmfhcaaQlawsFnExactFollowWay
import Derived.Test.YtgnmcfoenmfhcaaPlace
namespace Go.Proofs.Ytgnmcfoenmfhcaa.Pure
set_option linter.unusedVariables false
open Go.RowKit Go.Proofs.Ytgnmcfoenmfhcaa.Q Go.Proofs.YtgnmcfoenmfhcaaW.PrintWords Go.Proofs.YtgnmcfoenmfhcaaW.PrintLast Go.Proofs.YtgnmcfoenmfhcaaW.PrintMore
open Go.Proofs.YtgnmcfoenmfhcaaL Go.Proofs.Ytgnmcfoenmfhcaa.LawK Go.Proofs.Ytgnmcfoenmfhcaa.BoardK Go.Proofs.Ytgnmcfoenmfhcaa.PlaceK

namespace FollowK
/-- The rooks of a way, put one after the other. -/
def folL (R : Nat) (fin : List Int → List Int × Bool) : List Int → List Int → List Int × Bool
  | a :: b :: t, out => if inR 0 ((R : Int) - 1) a = true then folL R fin t (out.set a.toNat b) else ([], false)
  | _, out => fin out
def fin (l : List Int) (C : Nat) (p out : List Int) : List Int × Bool := if (placeB l C out && decide (rk p < rk out)) = true then (out, true) else ([], false)
def ans (r c : Int) (l p way : List Int) : List Int × Bool :=
  if (isBoardB r c l && (placeB l c.toNat p && decide (way.length % 2 = 0 ∧ 2 ≤ way.length ∧ way.length ≤ 12))) = true then folL r.toNat (fin l c.toNat p) way p else ([], false)
section
variable {l p way : List Int} {R C : Nat} (hlR : l.length = R) (hR : R ≤ 6) (hC : C ≤ 6) (hb : ∀ i (hi : i < l.length), 0 ≤ l[i] ∧ l[i] < 64) (hw : way.length ≤ 12) (hp : placeB l C p = true)
include hlR hR hC hb hw hp
theorem impl_l0 : ∀ (d i : Nat) (out : List Int), i + 2 * d = way.length → out.length = R → Ev (fun k => impl_FollowWay.l0 k p way (way.length : Int) out i R C l) (folL R (fin l C p) (way.drop i) out)
  | 0, i, out, hi, ho => by
    have e : folL R (fin l C p) (way.drop i) out = fin l C p out := by rw [List.drop_eq_nil_of_le (by omega)]; rfl
    rw [e]
    refine Ev.step (f := fun k => (impl_Board_isPlacement.f k R C l out).bind fun t => if t = true then (impl_rooks.f k out).bind fun t1 => (impl_rooks.f k p).bind fun t2 => if t1 ≤ t2 then some (([] : List Int), false) else some (out, true) else some (([] : List Int), false)) (fun k => ?_) ?_
    · rw [impl_FollowWay.l0, if_neg (by omega)]
    · have hp2 := placeB_ge hp
      refine Ev.bind (isPlacement hlR hR hC hb out) ?_
      unfold fin
      by_cases c1 : placeB l C out = true
      · refine Ev.congr (fun k => by rw [if_pos c1]) ?_
        refine Ev.bind (rooks (by omega)) (Ev.bind (rooks (by omega)) ?_)
        rw [c1, Bool.true_and]
        by_cases c2 : rk p < rk out
        · rw [if_pos (show decide (rk p < rk out) = true from decide_eq_true c2)]
          exact Ev.congr (fun k => if_neg (by omega)) (Ev.now _)
        · rw [if_neg (show ¬ (decide (rk p < rk out) = true) by simpa using c2)]
          exact Ev.congr (fun k => if_pos (by omega)) (Ev.now _)
      · rw [show placeB l C out = false by simpa using c1, Bool.false_and, if_neg (by simp)]
        exact Ev.congr (fun k => if_neg (by simp)) (Ev.now _)
  | d + 1, i, out, hi, ho => by
    have w1 : wrap64 ((i : Int) + 1) = ((i + 1 : Nat) : Int) := by rw [w64 (by omega) (by omega)]; rfl
    have w2 : wrap64 ((i : Int) + 2) = ((i + 2 : Nat) : Int) := by rw [w64 (by omega) (by omega)]; rfl
    have hi2 : i < way.length := by omega
    have hi3 : i + 1 < way.length := by omega
    have w3 : wrap64 ((R : Int) - 1) = (R : Int) - 1 := w64 (by omega) (by omega)
    rw [List.drop_eq_getElem_cons hi2, List.drop_eq_getElem_cons hi3, folL]
    by_cases c1 : inR 0 ((R : Int) - 1) way[i] = true
    · have c2 : 0 ≤ way[i] ∧ way[i] ≤ (R : Int) - 1 := of_decide_eq_true c1
      rw [if_pos c1]
      refine Ev.step (fun k => ?_) (impl_l0 d (i + 2) (out.set way[i].toNat way[i + 1]) (by omega) (by rw [List.length_set]; exact ho))
      rw [impl_FollowWay.l0, if_pos (by omega), if_pos (by omega), if_pos (by omega), rd_lt _ _ hi2, w3, withinR, Option.bind_some, if_pos c1, w1, if_pos (by omega), if_pos (by omega), if_pos c2.1, if_pos (by omega), rd_lt _ _ hi3, w2]
    · rw [if_neg c1]
      refine Ev.step (f := fun _ => some ([], false)) (fun k => ?_) (Ev.now _)
      rw [impl_FollowWay.l0, if_pos (by omega), if_pos (by omega), if_pos (by omega), rd_lt _ _ hi2, w3, withinR, Option.bind_some, if_neg c1]
theorem spec_l0 : ∀ (d i : Nat) (out : List Int), i + 2 * d = way.length → out.length = R → Ev (fun k => spec_FollowWay.l0 k p way out i R C l) (folL R (fin l C p) (way.drop i) out)
  | 0, i, out, hi, ho => by
    have e : folL R (fin l C p) (way.drop i) out = fin l C p out := by rw [List.drop_eq_nil_of_le (by omega)]; rfl
    rw [e]
    refine Ev.step (f := fun k => (spec_lcGood.f k R C l out).bind fun t => if t = true then (spec_lcSize.f k out).bind fun t1 => (spec_lcSize.f k p).bind fun t2 => if t1 ≤ t2 then some (([] : List Int), false) else some (out, true) else some (([] : List Int), false)) (fun k => ?_) ?_
    · rw [spec_FollowWay.l0, if_neg (by omega)]
    · have hp2 := placeB_ge hp
      refine Ev.bind (lcGood hlR hR hC hb out) ?_
      unfold fin
      by_cases c1 : placeB l C out = true
      · have ho2 := placeB_ge c1
        refine Ev.congr (fun k => by rw [if_pos c1]) ?_
        refine Ev.bind (lcSize (by omega) (fun x hx => (ho2.2 x hx).1)) (Ev.bind (lcSize (by omega) (fun x hx => (hp2.2 x hx).1)) ?_)
        rw [c1, Bool.true_and]
        by_cases c2 : rk p < rk out
        · rw [if_pos (show decide (rk p < rk out) = true from decide_eq_true c2)]
          exact Ev.congr (fun k => if_neg (by omega)) (Ev.now _)
        · rw [if_neg (show ¬ (decide (rk p < rk out) = true) by simpa using c2)]
          exact Ev.congr (fun k => if_pos (by omega)) (Ev.now _)
      · rw [show placeB l C out = false by simpa using c1, Bool.false_and, if_neg (by simp)]
        exact Ev.congr (fun k => if_neg (by simp)) (Ev.now _)
  | d + 1, i, out, hi, ho => by
    have w1 : wrap64 ((i : Int) + 1) = ((i + 1 : Nat) : Int) := by rw [w64 (by omega) (by omega)]; rfl
    have w2 : wrap64 ((i : Int) + 2) = ((i + 2 : Nat) : Int) := by rw [w64 (by omega) (by omega)]; rfl
    have hi2 : i < way.length := by omega
    have hi3 : i + 1 < way.length := by omega
    have w3 : wrap64 ((R : Int) - 1) = (R : Int) - 1 := w64 (by omega) (by omega)
    rw [List.drop_eq_getElem_cons hi2, List.drop_eq_getElem_cons hi3, folL]
    by_cases c1 : inR 0 ((R : Int) - 1) way[i] = true
    · have c2 : 0 ≤ way[i] ∧ way[i] ≤ (R : Int) - 1 := of_decide_eq_true c1
      rw [if_pos c1]
      refine Ev.step (fun k => ?_) (spec_l0 d (i + 2) (out.set way[i].toNat way[i + 1]) (by omega) (by rw [List.length_set]; exact ho))
      rw [spec_FollowWay.l0, if_pos (by omega), if_pos (by omega), rd_lt _ _ hi2, w3, l1In_f, Option.bind_some, if_pos c1, w1, if_pos (by omega), if_pos (by omega), if_pos c2.1, if_pos (by omega), rd_lt _ _ hi3, w2]
    · rw [if_neg c1]
      refine Ev.step (f := fun _ => some ([], false)) (fun k => ?_) (Ev.now _)
      rw [spec_FollowWay.l0, if_pos (by omega), if_pos (by omega), rd_lt _ _ hi2, w3, l1In_f, Option.bind_some, if_neg c1]
end
theorem impl_answer {r c : Int} {l p way : List Int} (hw : way.length ≤ 1048576) : Ev (fun k => impl_FollowWay.f k r c l p way) (ans r c l p way) := by
  unfold impl_FollowWay.f ans
  refine Ev.congr (fun k => by rw [impl_IsBoard.f, Option.bind_some]) ?_
  have no : ∀ (R C : Int), Ev (fun k => impl_FollowWay.j0 k p way (way.length : Int) true R C l) ([], false) := fun R C => Ev.step (f := fun _ => some ([], false)) (fun k => by rw [impl_FollowWay.j0, if_pos rfl]) (Ev.now _)
  by_cases hb : isBoardB r c l = true
  · obtain ⟨R, C, rfl, rfl, hlR, h1R, hR, h1C, hC, hbits⟩ := board_of hb
    have hb6 : ∀ i (hi : i < l.length), 0 ≤ l[i] ∧ l[i] < 64 := fun i hi => by have := hbits i hi; have := two_pow_six hC; omega
    refine Ev.congr (fun k => by rw [if_pos hb]) ?_
    rw [hb, Bool.true_and, Int.toNat_natCast, Int.toNat_natCast]
    refine Ev.bind (isPlacement hlR hR hC hb6 p) ?_
    by_cases hp : placeB l C p = true
    · refine Ev.congr (fun k => by rw [if_pos hp]) ?_
      rw [hp, Bool.true_and]
      by_cases h2 : way.length % 2 = 0
      · refine Ev.congr (fun k => by rw [if_pos (by omega), withinR, Option.bind_some]) ?_
        by_cases h3 : 2 ≤ way.length ∧ way.length ≤ 12
        · rw [if_pos (decide_eq_true ⟨h2, h3⟩), show inR 2 12 (way.length : Int) = true from decide_eq_true (by omega)]
          have hpl := (placeB_ge hp).1
          refine Ev.step (fun k => by rw [impl_FollowWay.j0, if_neg (by simp), slices_Clone_int_int.f, if_pos (by omega), Option.bind_some]) ?_
          have := impl_l0 hlR hR hC hb6 h3.2 hp (way.length / 2) 0 p (by omega) (by omega)
          rw [List.drop_zero] at this
          exact this
        · rw [if_neg (by simp [h2]; omega), show inR 2 12 (way.length : Int) = false from decide_eq_false (by omega)]
          exact no _ _
      · rw [if_neg (by simp [h2])]
        refine Ev.congr (fun k => by rw [if_neg (by omega)]) ?_
        exact no _ _
    · rw [show placeB l C p = false by simpa using hp, Bool.false_and, if_neg (by simp)]
      exact Ev.congr (fun k => if_neg (by simp)) (no _ _)
  · rw [show isBoardB r c l = false by simpa using hb, Bool.false_and, if_neg (by simp)]
    exact Ev.congr (fun k => if_neg (by simp)) (no _ _)
theorem spec_answer {r c : Int} {l p way : List Int} (hl : l.length ≤ 1048576) (hw : way.length ≤ 1048576) : Ev (fun k => spec_FollowWay.f k r c l p way) (ans r c l p way) := by
  unfold spec_FollowWay.f ans
  refine Ev.bind (boGood r c (by omega)) ?_
  have no : ∀ (R C : Int), Ev (fun k => spec_FollowWay.j0 k p way true R C l) ([], false) := fun R C => Ev.step (f := fun _ => some ([], false)) (fun k => by rw [spec_FollowWay.j0, if_pos rfl]) (Ev.now _)
  by_cases hb : isBoardB r c l = true
  · obtain ⟨R, C, rfl, rfl, hlR, h1R, hR, h1C, hC, hbits⟩ := board_of hb
    have hb6 : ∀ i (hi : i < l.length), 0 ≤ l[i] ∧ l[i] < 64 := fun i hi => by have := hbits i hi; have := two_pow_six hC; omega
    refine Ev.congr (fun k => by rw [if_pos hb]) ?_
    rw [hb, Bool.true_and, Int.toNat_natCast, Int.toNat_natCast]
    refine Ev.bind (lcGood hlR hR hC hb6 p) ?_
    by_cases hp : placeB l C p = true
    · refine Ev.congr (fun k => by rw [if_pos hp]) ?_
      rw [hp, Bool.true_and]
      by_cases h2 : way.length % 2 = 0
      · refine Ev.congr (fun k => by rw [if_neg (by omega), l1In_f, Option.bind_some]) ?_
        by_cases h3 : 2 ≤ way.length ∧ way.length ≤ 12
        · rw [if_pos (decide_eq_true ⟨h2, h3⟩), show inR 2 12 (way.length : Int) = true from decide_eq_true (by omega)]
          have hpl := (placeB_ge hp).1
          refine Ev.step (fun k => by rw [spec_FollowWay.j0, if_neg (by simp), spec_l1Own.f, Option.bind_some, if_pos (by simp; omega), Option.bind_some, List.nil_append]) ?_
          have := spec_l0 hlR hR hC hb6 h3.2 hp (way.length / 2) 0 p (by omega) (by omega)
          rw [List.drop_zero] at this
          exact this
        · rw [if_neg (by simp [h2]; omega), show inR 2 12 (way.length : Int) = false from decide_eq_false (by omega)]
          exact no _ _
      · rw [if_neg (by simp [h2])]
        refine Ev.congr (fun k => by rw [if_pos (by omega)]) ?_
        exact no _ _
    · rw [show placeB l C p = false by simpa using hp, Bool.false_and, if_neg (by simp)]
      exact Ev.congr (fun k => if_neg (by simp)) (no _ _)
  · rw [show isBoardB r c l = false by simpa using hb, Bool.false_and, if_neg (by simp)]
    exact Ev.congr (fun k => if_neg (by simp)) (no _ _)
theorem folL_len (R : Nat) (l : List Int) (C : Nat) (p : List Int) (n : Nat) : ∀ (m : Nat) (w out : List Int), w.length ≤ m → out.length ≤ n → (folL R (fin l C p) w out).1.length ≤ n
  | 0, [], out, _, h => by
    show (fin l C p out).1.length ≤ n
    unfold fin; split
    · exact h
    · exact Nat.zero_le _
  | m + 1, [], out, _, h => by
    show (fin l C p out).1.length ≤ n
    unfold fin; split
    · exact h
    · exact Nat.zero_le _
  | m + 1, [_], out, _, h => by
    show (fin l C p out).1.length ≤ n
    unfold fin; split
    · exact h
    · exact Nat.zero_le _
  | m + 1, a :: b :: t, out, hm, h => by
    rw [folL]; split
    · exact folL_len R l C p n m t _ (by simp at hm; omega) (by rw [List.length_set]; exact h)
    · exact Nat.zero_le _
theorem ans_len (r c : Int) (l p way : List Int) (hp : p.length ≤ 1048576) : (ans r c l p way).1.length ≤ 1048576 := by
  unfold ans
  split
  · exact folL_len _ l _ p _ way.length way p (Nat.le_refl _) hp
  · exact Nat.zero_le _
end FollowK
open FollowK

theorem FnExactFollowWay : laws_FnExactFollowWay.Pure := by
  intro r c l p q _ _ _ hl8 _ hm2 _ _ hm3 _ _
  unfold laws_FnExactFollowWay.f
  refine ends ?_
  by_cases hp : p.length ≤ 1048576
  · refine Ev.congr (fun k => by rw [if_neg (by omega)]) ?_
    by_cases hq : q.length ≤ 1048576
    · refine Ev.congr (fun k => by rw [if_neg (by omega), szBoard_f r c l hl8, Option.bind_some]) ?_
      by_cases hlb : l.length ≤ 1048576
      · have hn := ans_len r c l p q hp
        refine Ev.congr (fun k => by rw [if_pos hlb, if_neg (by omega)]) ?_
        refine Ev.bind (toBoard r c hlb) (Ev.bind (toIntS hp) (Ev.bind (toIntS hq) (Ev.bind (spec_answer hlb hq) (Ev.bind (toBoard r c hlb) (Ev.bind (toIntS hp) (Ev.bind (toIntS hq) (Ev.bind (impl_answer hq) ?_)))))))
        refine Ev.bind (eqIntS (by simp only []; omega)) ?_
        refine Ev.congr (fun k => by rw [if_pos (by simp)]) ?_
        refine Ev.step (fun k => by rw [laws_FnExactFollowWay.j0, if_neg (by simp)]) ?_
        refine Ev.bind (toBoard r c hlb) (Ev.bind (eqBoard r c (by simp; omega)) ?_)
        refine Ev.congr (fun k => by rw [if_pos rfl]) ?_
        refine Ev.bind (toIntS hp) (Ev.bind (eqIntS (by omega)) ?_)
        refine Ev.congr (fun k => by rw [if_pos (by simp)]) ?_
        refine Ev.bind (toIntS hq) (Ev.bind (eqIntS (by omega)) ?_)
        refine Ev.congr (fun k => by rw [if_pos (by simp)]) ?_
        refine Ev.bind (a := (1 + (l.length : Int), iota 1 l.length)) (show Ev (fun k => laws_markBoard.f k r c l 1) (1 + (l.length : Int), iota 1 l.length) by unfold laws_markBoard.f; exact Ev.bind (markIntS l (by omega) (by omega)) (Ev.now _)) ?_
        refine Ev.bind (markIntS p (by simp only []; omega) (by simp only []; omega)) ?_
        refine Ev.bind (markIntS q (by simp only []; omega) (by simp only []; omega)) ?_
        refine Ev.congr (fun k => by rw [if_neg (by simp; omega)]) ?_
        refine Ev.bind (eqIntS (by simp only []; omega)) ?_
        refine Ev.congr (fun k => by rw [if_pos (by simp)]) ?_
        refine Ev.step (fun k => by rw [laws_FnExactFollowWay.j1, if_neg (by simp)]) ?_
        refine Ev.bind (markIntS _ (by omega) (by simp only []; omega)) ?_
        refine Ev.bind (heldIntS _ (by omega) (by simp only []; omega)) ?_
        refine Ev.congr (fun k => by rw [if_neg (by omega), if_pos rfl]) ?_
        refine Ev.bind (toBoard r c hlb) (Ev.bind (toIntS hp) (Ev.bind (toIntS hq) (Ev.bind (impl_answer hq) ?_)))
        refine Ev.bind (eqIntS (by simp only []; omega)) ?_
        refine Ev.congr (fun k => by rw [if_pos (by simp)]) ?_
        refine Ev.step (fun k => by rw [laws_FnExactFollowWay.j2, if_neg (by simp)]) ?_
        refine Ev.bind (heldIntS _ (by omega) (by simp only []; omega)) ?_
        exact Ev.congr (fun k => by rw [if_neg (by omega), if_pos rfl]) (Ev.now _)
      · exact Ev.congr (fun k => by rw [if_neg hlb, if_pos (by omega)]) (Ev.now _)
    · exact Ev.congr (fun k => by rw [if_pos (by omega)]) (Ev.now _)
  · exact Ev.congr (fun k => by rw [if_pos (by omega)]) (Ev.now _)

end Go.Proofs.Ytgnmcfoenmfhcaa.Pure
