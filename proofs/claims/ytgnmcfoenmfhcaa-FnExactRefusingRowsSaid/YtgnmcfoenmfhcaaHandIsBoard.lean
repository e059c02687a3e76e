/- What IsBoard answers: the sides lie between 1 and 6, there are as many rows as it says, and each row's mask has bits of columns alone. No conditions. -/
import Derived.Test.YtgnmcfoenmfhcaaQimplisSide
import Derived.Test.YtgnmcfoenmfhcaaL
import Derived.Outline
import Derived.Lib.Hide
namespace Go.Proofs.Ytgnmcfoenmfhcaa.Q
open Go.RowKit Go.Proofs.YtgnmcfoenmfhcaaW.PrintWords Go.Proofs.YtgnmcfoenmfhcaaW.PrintLast Go.Proofs.YtgnmcfoenmfhcaaW.PrintMore
open Go.Proofs.YtgnmcfoenmfhcaaL
set_option linter.unusedVariables false

/-- Is m a row of so many columns? -/
def rowIn (c : Int) (m : Int) : Bool := decide (0 ≤ m ∧ m ≤ 2 ^ c.toNat - 1)
def isBoardB (r c : Int) (l : List Int) : Bool := decide (1 ≤ r ∧ r ≤ 6 ∧ 1 ≤ c ∧ c ≤ 6 ∧ (l.length : Int) = r) && l.all (rowIn c)
theorem within_f (a b c : Int) : impl_within.f a b c = some (decide (b ≤ a ∧ a ≤ c)) := by
  unfold impl_within.f
  by_cases h : b ≤ a
  · rw [if_pos h]; simp [h]
  · rw [if_neg h]; simp [h]
theorem isSide_f (a : Int) : impl_isSide.f a = some (decide (1 ≤ a ∧ a ≤ 6)) := by
  unfold impl_isSide.f; rw [within_f]; rfl
set_option maxHeartbeats 1000000 in
theorem isBoard1 (m c : Int) (B : Nat) (w : World) (hc : w.cell? ⟨B, 1, none⟩ = some (.int .i64 c)) (h1 : 1 ≤ c) (h6 : c ≤ 6) :
    Calls Try.prog 115 #[.int .i64 m, .pointer (some ⟨B, 0, none⟩)] w fun e w' => e = .returned (.bool (!rowIn c m)) ∧ Drawn0 w w' := by
  have key : ∀ x : Int, x = 2 ^ c.toNat - 1 → Aside0 (impl_within.f m 0 x = some (rowIn c m)) := fun x hx => ⟨by rw [hx]; exact within_f m 0 _⟩
  obtain rfl | rfl | rfl | rfl | rfl | rfl : c = 1 ∨ c = 2 ∨ c = 3 ∨ c = 4 ∨ c = 5 ∨ c = 6 := by omega
  all_goals
    have K := key _ rfl
    clear key
    generalize rowIn _ m = rr at K ⊢
    simp only [Int.reduceToNat, Int.reducePow, Int.reduceSub] at K
    go_enter Try.func115, Try.ntmps115
    go_wp2_with (first | (go_at_call 95; (refine (impl_within.calls m 0 _ rr _ K.out).mono ?_); rintro e w' ⟨rfl, ⟨nd, rfl⟩⟩))
    go_ret
    exact ⟨rfl, by repeat (first | exact Drawn0.refl _ | apply Drawn0.step)⟩
/-- The first row that is none, from place i on, or -1. -/
def idxB (c : Int) : List Int → Int → Int
  | [], _ => -1
  | x :: t, i => if rowIn c x = true then idxB c t (i + 1) else i
theorem idxB_neg (c : Int) : ∀ (l : List Int) (i : Int), 0 ≤ i → decide (0 ≤ idxB c l i) = !l.all (rowIn c)
  | [], _, _ => rfl
  | x :: t, i, h => by
    rw [idxB, List.all_cons]
    by_cases hx : rowIn c x = true
    · rw [if_pos hx, idxB_neg c t (i + 1) (by omega), hx, Bool.true_and]
    · rw [if_neg hx]; simp [hx, h]
set_option maxHeartbeats 1000000 in
theorem isBoardIndex (A0 : Option Addr) (c0 : Nat) (l0 : List Int) (c : Int) (B : Nat) (w : World) (hr0 : Kd.C (Kd.int .i64) w A0 l0.length l0) (hc0 : l0.length ≤ c0) (hlen : l0.length ≤ 6)
    (hc : w.cell? ⟨B, 1, none⟩ = some (.int .i64 c)) (h1 : 1 ≤ c) (h6 : c ≤ 6) :
    Calls Try.prog 129 #[.slice A0 l0.length c0, .func (.func 115) #[] #[.pointer (some ⟨B, 0, none⟩)]] w fun e w' => e = .returned (.int .i64 (idxB c l0 0)) ∧ Drawn0 w w' := by
  have HR0 := Aside0.mk hr0
  have HC0 := Aside0.mk hc0
  have HL := Aside0.mk hlen
  have HC := Aside0.mk hc
  have H1 := Aside0.mk h1
  have H6 := Aside0.mk h6
  clear hr0 hc0 hlen hc h1 h6
  obtain ⟨r, hr⟩ : ∃ r, r = idxB c l0 0 := ⟨_, rfl⟩
  rw [← hr]
  have HR := Aside0.mk hr
  clear hr
  go_enter Try.func129, Try.ntmps129
  go_wp2
  go_loopg [8] l0.length (fun kq v8 w' => ∃ (x8_1 : Int), v8 = .int .i64 x8_1 ∧ Aside0 (∃ i : Nat, x8_1 = i ∧ i + kq = l0.length ∧ idxB c (l0.drop i) i = r) ∧ Drawn0 w w')
  case atStart => exact ⟨(0), rfl, ⟨0, rfl, by omega, by rw [HR.out]; rfl⟩, by repeat (first | exact Drawn0.refl _ | apply Drawn0.step)⟩
  case round =>
    obtain ⟨x8_1, rfl, HI, ⟨m1, rfl⟩⟩ := hrel
    by_cases c3 : x8_1 < (l0.length : Int)
    · have c4b0 : decide (0 ≤ x8_1) = true := decide_eq_true (by obtain ⟨i, h, _⟩ := HI.out; omega)
      have c3b0 : decide (x8_1 < (l0.length : Int)) = true := decide_eq_true c3
      cases gk with
      | zero => exact absurd HI.out (by rintro ⟨i, h, h', _⟩; omega)
      | succ k1 =>
        clear c3
        have p101 : 0 ≤ (x8_1 : Int) := of_decide_eq_true (by first | (with_reducible assumption) | assumption)
        have q101 : x8_1 < (l0.length : Int) := of_decide_eq_true (by first | (with_reducible assumption) | assumption)
        have HX : Aside0 (∃ i : Nat, x8_1 = i ∧ i + k1 + 1 = l0.length ∧ (if rowIn c (rd l0 x8_1) = true then idxB c (l0.drop (i + 1)) (i + 1) else i) = r) := ⟨by
          obtain ⟨i, h, h', h3⟩ := HI.out
          refine ⟨i, h, by omega, ?_⟩
          rw [List.drop_eq_getElem_cons (by omega), idxB] at h3
          rw [h, rd_lt _ _ (by omega)]
          exact h3⟩
        clear HI
        obtain ⟨ad101, e101, hx101_0⟩ := Kd.at_int HR0.out x8_1 p101 q101
        cases e101
        replace p101 := eq_true p101
        replace q101 := eq_true q101
        by_cases cr : rowIn c (rd l0 x8_1) = true
        · have HB : Aside0 ((!rowIn c (rd l0 x8_1)) = false) := ⟨by rw [cr]; rfl⟩
          have HX2 : Aside0 (∃ i : Nat, wrap64 (x8_1 + 1) = i ∧ i + k1 = l0.length ∧ idxB c (l0.drop i) i = r) := ⟨by
            obtain ⟨i, h, h', h3⟩ := HX.out
            rw [if_pos cr] at h3
            have := HL.out
            refine ⟨i + 1, by rw [w64 (by omega) (by omega)]; omega, by omega, h3⟩⟩
          clear HX cr
          have CC : ∀ W : World, (∃ q, W = w.drewN q) → Calls Try.prog 115 #[.int .i64 (rd l0 x8_1), .pointer (some ⟨B, 0, none⟩)] W fun e w' => e = .returned (.bool false) ∧ Drawn0 W w' := by
            rintro W ⟨q, rfl⟩
            have := isBoard1 (rd l0 x8_1) c B (w.drewN q) HC.out H1.out H6.out
            rw [HB.out] at this
            exact this
          have CX := Lib.hid CC
          clear CC
          go_wp2_with (first | (go_at_call 115; (refine (CX.out _ ⟨_, rfl⟩).mono ?_); rintro e w' ⟨rfl, ⟨nd, rfl⟩⟩))
          go_roundg k1
          case measure => omega
          case rel => exact ⟨(wrap64 (x8_1 + 1)), (by first | rfl | (simp; done) | (simp [*]; done)), HX2, by repeat (first | exact Drawn0.refl _ | apply Drawn0.step)⟩
        · have HB : Aside0 ((!rowIn c (rd l0 x8_1)) = true) := ⟨by simp [cr]⟩
          have HX2 : Aside0 (x8_1 = r) := ⟨by
            obtain ⟨i, h, h', h3⟩ := HX.out
            rw [if_neg cr] at h3
            omega⟩
          clear HX cr
          have CC : ∀ W : World, (∃ q, W = w.drewN q) → Calls Try.prog 115 #[.int .i64 (rd l0 x8_1), .pointer (some ⟨B, 0, none⟩)] W fun e w' => e = .returned (.bool true) ∧ Drawn0 W w' := by
            rintro W ⟨q, rfl⟩
            have := isBoard1 (rd l0 x8_1) c B (w.drewN q) HC.out H1.out H6.out
            rw [HB.out] at this
            exact this
          have CX := Lib.hid CC
          clear CC
          go_wp2_with (first | (go_at_call 115; (refine (CX.out _ ⟨_, rfl⟩).mono ?_); rintro e w' ⟨rfl, ⟨nd, rfl⟩⟩))
          go_ret
          exact ⟨by rw [HX2.out]; rfl, by repeat (first | exact Drawn0.refl _ | apply Drawn0.step)⟩
    · have c3b0 : decide (x8_1 < (l0.length : Int)) = false := decide_eq_false c3
      have HX2 : Aside0 (-1 = r) := ⟨by
        obtain ⟨i, h, h', h3⟩ := HI.out
        rw [List.drop_eq_nil_of_le (by omega), idxB] at h3
        exact h3⟩
      clear c3 HI
      go_wp2
      go_ret
      exact ⟨by rw [HX2.out]; rfl, by repeat (first | exact Drawn0.refl _ | apply Drawn0.step)⟩
theorem isBoardContains (A0 : Option Addr) (c0 : Nat) (l0 : List Int) (c : Int) (B : Nat) (w : World) (hr0 : Kd.C (Kd.int .i64) w A0 l0.length l0) (hc0 : l0.length ≤ c0) (hlen : l0.length ≤ 6)
    (hc : w.cell? ⟨B, 1, none⟩ = some (.int .i64 c)) (h1 : 1 ≤ c) (h6 : c ≤ 6) :
    Calls Try.prog 103 #[.slice A0 l0.length c0, .func (.func 115) #[] #[.pointer (some ⟨B, 0, none⟩)]] w fun e w' => e = .returned (.bool (!l0.all (rowIn c))) ∧ Drawn0 w w' := by
  have C := isBoardIndex A0 c0 l0 c B w hr0 hc0 hlen hc h1 h6
  have N := Aside0.mk (idxB_neg c l0 0 (Int.le_refl _))
  have CX := Lib.hid C
  clear C hr0 hc0 hlen hc h1 h6
  rw [← N.out]
  clear N
  go_enter Try.func103, Try.ntmps103
  go_wp2_with (first | (go_at_call 129; (refine CX.out.mono ?_); rintro e w' ⟨rfl, ⟨nd, rfl⟩⟩))
  go_ret
  exact ⟨by first | rfl | (simp; done), by repeat (first | exact Drawn0.refl _ | apply Drawn0.step)⟩
def impl_IsBoard.f (a0_0 : Int) (a0_1 : Int) (l0_2 : List Int) : Option (Bool) := some (isBoardB a0_0 a0_1 l0_2)
set_option maxHeartbeats 1000000 in
theorem impl_IsBoard.calls (a0_0 : Int) (a0_1 : Int) (A0_2 : Option Addr) (c0_2 : Nat) (l0_2 : List Int) (r : Bool) (w : World) (hr0_2 : Kd.C (Kd.int .i64) w A0_2 l0_2.length l0_2) (hc0_2 : l0_2.length ≤ c0_2) (h : impl_IsBoard.f a0_0 a0_1 l0_2 = some r) :
    Calls Try.prog 71 #[.agg #[.int .i64 a0_0, .int .i64 a0_1, .slice A0_2 l0_2.length c0_2]] w fun e w' => e = .returned (.bool r) ∧ Below w.heap.size w w' := by
  have hB := Option.some.inj h
  clear h
  unfold isBoardB at hB
  have s1 := Aside0.mk (isSide_f a0_0)
  have s2 := Aside0.mk (isSide_f a0_1)
  by_cases h1 : 1 ≤ a0_0 ∧ a0_0 ≤ 6
  · rw [decide_eq_true h1] at s1
    by_cases h2 : 1 ≤ a0_1 ∧ a0_1 ≤ 6
    · rw [decide_eq_true h2] at s2
      by_cases h3 : (l0_2.length : Int) = a0_0
      · have e : r = l0_2.all (rowIn a0_1) := by rw [← hB, decide_eq_true ⟨h1.1, h1.2, h2.1, h2.2, h3⟩, Bool.true_and]
        have t1 : ((l0_2.length : Int) != a0_0) = false := bne_eq_false_iff_eq.mpr h3
        have C : ∀ W : World, Kd.C (Kd.int .i64) W A0_2 l0_2.length l0_2 → W.cell? ⟨w.heap.size, 1, none⟩ = some (.int .i64 a0_1) → Calls Try.prog 103 #[.slice A0_2 l0_2.length c0_2, .func (.func 115) #[] #[.pointer (some ⟨w.heap.size, 0, none⟩)]] W fun e w' => e = .returned (.bool (!r)) ∧ Drawn0 W w' := by
          intro W hW hcell
          rw [e]
          exact isBoardContains A0_2 c0_2 l0_2 a0_1 w.heap.size W hW hc0_2 (by omega) hcell h2.1 h2.2
        have CX := Lib.hid C
        have HR := Aside0.mk hr0_2
        clear C hr0_2 hc0_2 h1 h2 h3 e hB
        go_enter Try.func71, Try.ntmps71
        go_wp2_with (first | (go_at_call 114; (with_reducible refine (impl_isSide.calls a0_0 true _ s1.out).mono ?_); rintro e w' ⟨rfl, ⟨nd, rfl⟩⟩) | (go_at_call 114; (with_reducible refine (impl_isSide.calls a0_1 true _ s2.out).mono ?_); rintro e w' ⟨rfl, ⟨nd, rfl⟩⟩) | (go_at_call 103; (refine (CX.out _ ?side1 ?side2).mono ?_); (case side1 => repeat (first | exact HR.out | (with_reducible refine Kd.C_alloc ?_ _) | (with_reducible refine Kd.C_drewN ?_ _) | (with_reducible refine Kd.C_drew ?_))); (case side2 => first | rfl | (simp; done)); rintro e w' ⟨rfl, ⟨nd, rfl⟩⟩))
        go_ret
        exact ⟨by first | rfl | (simp; done), by repeat (first | exact Below.refl _ _ | apply below_alloc | apply pw_below_drewN | apply below_drew1)⟩
      · have e : r = false := by rw [← hB, decide_eq_false (fun hh => h3 hh.2.2.2.2), Bool.false_and]
        have t1 : ((l0_2.length : Int) != a0_0) = true := bne_iff_ne.mpr h3
        subst e
        clear hr0_2 hc0_2 h1 h2 h3 hB
        go_enter Try.func71, Try.ntmps71
        go_wp2_with (first | (go_at_call 114; (with_reducible refine (impl_isSide.calls a0_0 true _ s1.out).mono ?_); rintro e w' ⟨rfl, ⟨nd, rfl⟩⟩) | (go_at_call 114; (with_reducible refine (impl_isSide.calls a0_1 true _ s2.out).mono ?_); rintro e w' ⟨rfl, ⟨nd, rfl⟩⟩))
        go_ret
        exact ⟨by first | rfl | (simp; done), by repeat (first | exact Below.refl _ _ | apply below_alloc | apply pw_below_drewN | apply below_drew1)⟩
    · rw [decide_eq_false h2] at s2
      have e : r = false := by rw [← hB, decide_eq_false (fun hh => h2 ⟨hh.2.2.1, hh.2.2.2.1⟩), Bool.false_and]
      subst e
      clear hr0_2 hc0_2 h1 h2 hB
      go_enter Try.func71, Try.ntmps71
      go_wp2_with (first | (go_at_call 114; (with_reducible refine (impl_isSide.calls a0_0 true _ s1.out).mono ?_); rintro e w' ⟨rfl, ⟨nd, rfl⟩⟩) | (go_at_call 114; (with_reducible refine (impl_isSide.calls a0_1 false _ s2.out).mono ?_); rintro e w' ⟨rfl, ⟨nd, rfl⟩⟩))
      go_ret
      exact ⟨by first | rfl | (simp; done), by repeat (first | exact Below.refl _ _ | apply below_alloc | apply pw_below_drewN | apply below_drew1)⟩
  · rw [decide_eq_false h1] at s1
    have e : r = false := by rw [← hB, decide_eq_false (fun hh => h1 ⟨hh.1, hh.2.1⟩), Bool.false_and]
    subst e
    clear hr0_2 hc0_2 h1 hB s2
    go_enter Try.func71, Try.ntmps71
    go_wp2_with (first | (go_at_call 114; (with_reducible refine (impl_isSide.calls a0_0 false _ s1.out).mono ?_); rintro e w' ⟨rfl, ⟨nd, rfl⟩⟩))
    go_ret
    exact ⟨by first | rfl | (simp; done), by repeat (first | exact Below.refl _ _ | apply below_alloc | apply pw_below_drewN | apply below_drew1)⟩
end Go.Proofs.Ytgnmcfoenmfhcaa.Q
