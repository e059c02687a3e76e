/- The law's last texts put together: what the program and the reference answer, and the pure statement. No conditions. -/
import Derived.Test.YtlhblnphfpijkaaQ0
import Derived.Test.YtlhblnphfpijkaaQlawsszIntS
import Derived.Test.YtlhblnphfpijkaaQlawstoIntS
import Derived.Test.YtlhblnphfpijkaaQlawseqIntS
import Derived.Test.YtlhblnphfpijkaaLaw
import Derived.Test.YtlhblnphfpijkaaBag
import Derived.Test.YtlhblnphfpijkaaQspecweAll
import Derived.Test.YtlhblnphfpijkaaHandW
import Derived.Test.YtlhblnphfpijkaaQspecweAsked
import Derived.Test.YtlhblnphfpijkaaQimplWeightsOf
import Derived.Test.YtlhblnphfpijkaaL
import Derived.Test.YtlhblnphfpijkaaQimplpower
import Derived.Test.YtlhblnphfpijkaaQimplat
import Derived.Test.YtlhblnphfpijkaaQspecweAt
import Derived.Test.YtlhblnphfpijkaaQlawsFnExactWeightAt
section
namespace Go.Proofs.Ytlhblnphfpijkaa.Q
open Go.RowKit Go.Proofs.YtlhblnphfpijkaaW.PrintWords Go.Proofs.YtlhblnphfpijkaaW.PrintLast Go.Proofs.YtlhblnphfpijkaaW.PrintMore
attribute [local go_sem] max2_int min2_int max_two min_two max_three min_three max_four min_four   -- for this text's walks alone
set_option linter.unusedVariables false
set_option linter.unusedSimpArgs false

/-! ### laws_szIntSS: function 16 -/
def laws_szIntSS.l0 : Nat → List (List Int) → Int → Int → Option (Int)
  | 0, _, _, _ => none
  | k + 1, x0, x1, x5 => if x5 < (x0.length : Int) then (if 0 ≤ x5 then ((laws_szIntS.f (rd_L1 x0 x5) x1).bind fun t102 => (if t102 < 0 then (some (-1)) else (laws_szIntSS.l0 k x0 t102 (wrap64 (x5 + 1))))) else (none)) else (some x1)
def laws_szIntSS.f (k : Nat) (l0 : List (List Int)) (a1 : Int) : Option (Int) := if (wrap64 (a1 - (l0.length : Int))) < 0 then (some (-1)) else (laws_szIntSS.l0 k l0 (wrap64 (a1 - (l0.length : Int))) 0)
theorem laws_szIntSS.mono_l : ∀ k, (∀ y0 y1 y2, LeO (laws_szIntSS.l0 k y0 y1 y2) (laws_szIntSS.l0 (k + 1) y0 y1 y2))
  | 0 => fun _ _ _ r h => by simp [laws_szIntSS.l0] at h
  | k + 1 => by
    have ih0 := laws_szIntSS.mono_l k
    · intro y0 y1 y2
      unfold laws_szIntSS.l0
      repeat' first
      | (with_reducible exact ih0 _ _ _)
      | (with_reducible exact LeO.refl _)
      | (with_reducible exact LeO.none _)
      | (with_reducible refine LeO.ite ?_ ?_)
      | (with_reducible refine LeO.bind ?_ (fun _ => ?_))
      | exact ih0 _ _ _
      | exact LeO.none _
      | refine LeO.ite ?_ ?_
      | refine LeO.bind ?_ (fun _ => ?_)
theorem laws_szIntSS.mono : ∀ a0 a1 k, LeO (laws_szIntSS.f k a0 a1) (laws_szIntSS.f (k + 1) a0 a1) := by
  intro a0 a1 k
  have ih0 := laws_szIntSS.mono_l k
  unfold laws_szIntSS.f
  repeat' first
      | (with_reducible exact ih0 _ _ _)
      | (with_reducible exact LeO.refl _)
      | (with_reducible exact LeO.none _)
      | (with_reducible refine LeO.ite ?_ ?_)
      | (with_reducible refine LeO.bind ?_ (fun _ => ?_))
      | exact ih0 _ _ _
      | exact LeO.none _
      | refine LeO.ite ?_ ?_
      | refine LeO.bind ?_ (fun _ => ?_)
set_option maxHeartbeats 8000000 in
set_option maxRecDepth 100000 in
theorem laws_szIntSS.calls (k : Nat) (A0 : Option Addr) (c0 : Nat) (l0 : List (List Int)) (a1 : Int) (r : Int) (w : World) (hr0 : Kd.C (Kd.slice 3 (Kd.int .i64)) w A0 l0.length l0) (hc0 : l0.length ≤ c0) (h : laws_szIntSS.f k l0 a1 = some r) :
    Calls Try.prog 16 #[.slice A0 l0.length c0, .int .i64 a1] w fun e w' => e = .returned (.int .i64 r) ∧ Drawn0 w w' := by
  have HR0 := Aside0.mk hr0
  have HC0 := Aside0.mk hc0
  clear hr0 hc0
  have H : (if (wrap64 (a1 - (l0.length : Int))) < 0 then (some (-1)) else (laws_szIntSS.l0 k l0 (wrap64 (a1 - (l0.length : Int))) 0)) = some r := h
  clear h
  by_cases c3 : (wrap64 (a1 - (l0.length : Int))) < 0
  · rw [if_pos c3] at H
    have c3b0 : decide ((wrap64 (a1 - (l0.length : Int))) < 0) = true := decide_eq_true c3
    clear c3
    obtain rfl := Option.some.inj H
    go_enter Try.func16, Try.ntmps16
    go_wp2
    go_ret
    exact ⟨by first | rfl | (simp; done) | (simp [*]; done), by repeat (first | exact Drawn0.refl _ | apply Drawn0.step)⟩
  · rw [if_neg c3] at H
    have c3b0 : decide ((wrap64 (a1 - (l0.length : Int))) < 0) = false := decide_eq_false c3
    clear c3
    have H' := Aside0.mk H
    clear H
    go_enter Try.func16, Try.ntmps16
    go_wp2
    go_loopg [1, 5] k (fun kq v1 v5 w' => ∃ (x1_1 : Int) (x5_1 : Int), v1 = .int .i64 x1_1 ∧ v5 = .int .i64 x5_1 ∧ Aside0 (laws_szIntSS.l0 kq l0 x1_1 x5_1 = some r) ∧ Aside0 (kq ≤ k) ∧ Drawn0 w w')
    case atStart => exact ⟨(wrap64 (a1 - (l0.length : Int))), (0), (by first | rfl | (simp; done) | (simp [*]; done)), (by first | rfl | (simp; done) | (simp [*]; done)), H', ⟨Nat.le_refl _⟩, by repeat (first | exact Drawn0.refl _ | apply Drawn0.step)⟩
    case round =>
      clear H'
      try clear c1
      try clear p2
      try clear c3
      try clear c3b0
      obtain ⟨x1_1, x5_1, rfl, rfl, HA, HK1, ⟨m1, rfl⟩⟩ := hrel
      cases gk with
      | zero => exact absurd HA.out (by simp [laws_szIntSS.l0])
      | succ k1 =>
        have H := HA.out
        clear HA
        simp only [laws_szIntSS.l0] at H
        by_cases c4 : x5_1 < (l0.length : Int)
        · rw [if_pos c4] at H
          have c4b0 : decide (x5_1 < (l0.length : Int)) = true := decide_eq_true c4
          clear c4
          by_cases c5 : 0 ≤ x5_1
          · rw [if_pos c5] at H
            have c5b0 : decide (0 ≤ x5_1) = true := decide_eq_true c5
            clear c5
            replace H := Option.bind_eq_some_iff.mp H
            obtain ⟨t102, A60, H⟩ := H
            replace H : (if t102 < 0 then (some (-1)) else (laws_szIntSS.l0 k1 l0 t102 (wrap64 (x5_1 + 1)))) = some r := H
            have A6 := Aside0.mk A60
            clear A60
            by_cases c7 : t102 < 0
            · rw [if_pos c7] at H
              have c7b0 : decide (t102 < 0) = true := decide_eq_true c7
              clear c7
              obtain rfl := Option.some.inj H
              have p101 : 0 ≤ (x5_1 : Int) := of_decide_eq_true (by first | (with_reducible assumption) | assumption)
              have q101 : x5_1 < (l0.length : Int) := of_decide_eq_true (by first | (with_reducible assumption) | assumption)
              obtain ⟨ad101, A101_0, c101_0, e101, hx101_0, hl101_0, hi101_0⟩ := at_L1 HR0.out x5_1 p101 q101
              cases e101
              have HR101_0 := Aside0.mk hi101_0
              have HC101_0 := Aside0.mk hl101_0
              clear hi101_0 hl101_0
              replace p101 := eq_true p101
              replace q101 := eq_true q101
              go_wp2_with (first | ((with_reducible refine gate_callee (f := 60) rfl ?_); refine goesL_ (some 23) rfl rfl Try.func60 (by kernel_rfl) rfl #[.slice A101_0 (rd_L1 l0 x5_1).length c101_0, .int .i64 x1_1] rfl (by (try simp only [List.map_toArray, List.map_cons, List.map_nil]); first | done | rfl | (simp only [List.length_drop, List.length_take]; rfl)) ?_; (with_reducible refine (laws_szIntS.calls _ _ (rd_L1 l0 x5_1) x1_1 t102 _ ?side1 ?side2 A6.out).mono ?_); (case side1 => repeat (first | exact HR101_0.out | (with_reducible refine Kd.C_alloc ?_ _) | (with_reducible refine Kd.C_drewN ?_ _) | (with_reducible refine Kd.C_drew ?_))); (case side2 => exact HC101_0.out); rintro e w' ⟨rfl, ⟨nd, rfl⟩⟩; refine ⟨_, rfl, ?_⟩))
              go_ret
              exact ⟨by first | rfl | (simp; done) | (simp [*]; done), by repeat (first | exact Drawn0.refl _ | apply Drawn0.step)⟩
            · rw [if_neg c7] at H
              have c7b0 : decide (t102 < 0) = false := decide_eq_false c7
              clear c7
              have H' := Aside0.mk H
              clear H
              have p101 : 0 ≤ (x5_1 : Int) := of_decide_eq_true (by first | (with_reducible assumption) | assumption)
              have q101 : x5_1 < (l0.length : Int) := of_decide_eq_true (by first | (with_reducible assumption) | assumption)
              obtain ⟨ad101, A101_0, c101_0, e101, hx101_0, hl101_0, hi101_0⟩ := at_L1 HR0.out x5_1 p101 q101
              cases e101
              have HR101_0 := Aside0.mk hi101_0
              have HC101_0 := Aside0.mk hl101_0
              clear hi101_0 hl101_0
              replace p101 := eq_true p101
              replace q101 := eq_true q101
              go_wp2_with (first | ((with_reducible refine gate_callee (f := 60) rfl ?_); refine goesL_ (some 23) rfl rfl Try.func60 (by kernel_rfl) rfl #[.slice A101_0 (rd_L1 l0 x5_1).length c101_0, .int .i64 x1_1] rfl (by (try simp only [List.map_toArray, List.map_cons, List.map_nil]); first | done | rfl | (simp only [List.length_drop, List.length_take]; rfl)) ?_; (with_reducible refine (laws_szIntS.calls _ _ (rd_L1 l0 x5_1) x1_1 t102 _ ?side1 ?side2 A6.out).mono ?_); (case side1 => repeat (first | exact HR101_0.out | (with_reducible refine Kd.C_alloc ?_ _) | (with_reducible refine Kd.C_drewN ?_ _) | (with_reducible refine Kd.C_drew ?_))); (case side2 => exact HC101_0.out); rintro e w' ⟨rfl, ⟨nd, rfl⟩⟩; refine ⟨_, rfl, ?_⟩))
              go_roundg k1
              case measure => have := HK1.out; omega
              case rel => exact ⟨(t102), (wrap64 (x5_1 + 1)), (by first | rfl | (simp; done) | (simp [*]; done)), (by first | rfl | (simp; done) | (simp [*]; done)), H', ⟨by have := HK1.out; omega⟩, by repeat (first | exact Drawn0.refl _ | apply Drawn0.step)⟩
          · rw [if_neg c5] at H
            exact absurd H (by simp)
        · rw [if_neg c4] at H
          have c4b0 : decide (x5_1 < (l0.length : Int)) = false := decide_eq_false c4
          clear c4
          obtain rfl := Option.some.inj H
          go_wp2
          go_ret
          exact ⟨by first | rfl | (simp; done) | (simp [*]; done), by repeat (first | exact Drawn0.refl _ | apply Drawn0.step)⟩

end Go.Proofs.Ytlhblnphfpijkaa.Q
end
section
namespace Go.Proofs.Ytlhblnphfpijkaa.Q
open Go.RowKit Go.Proofs.YtlhblnphfpijkaaW.PrintWords Go.Proofs.YtlhblnphfpijkaaW.PrintLast Go.Proofs.YtlhblnphfpijkaaW.PrintMore
attribute [local go_sem] max2_int min2_int max_two min_two max_three min_three max_four min_four   -- for this text's walks alone
set_option linter.unusedVariables false
set_option linter.unusedSimpArgs false

/-! ### laws_toIntSS: function 19 -/
def laws_toIntSS.l0 : Nat → List (List Int) → List (List Int) → Int → Option ((List (List Int)))
  | 0, _, _, _ => none
  | k + 1, x0, x3, x4 => if x4 < (x0.length : Int) then (if 0 ≤ x4 then ((laws_toIntS.f k (rd_L1 x0 x4)).bind fun t105 => (if x4 < (x3.length : Int) then (laws_toIntSS.l0 k x0 (x3.set (x4 : Int).toNat t105) (wrap64 (x4 + 1))) else (none))) else (none)) else (some x3)
def laws_toIntSS.f (k : Nat) (l0 : List (List Int)) : Option ((List (List Int))) := if 0 ≤ (l0.length : Int) then (if ((l0.length : Int) : Int).toNat ≤ 11728124029610 then (laws_toIntSS.l0 k l0 (List.replicate ((l0.length : Int) : Int).toNat []) 0) else (none)) else (none)
theorem laws_toIntSS.mono_l : ∀ k, (∀ y0 y1 y2, LeO (laws_toIntSS.l0 k y0 y1 y2) (laws_toIntSS.l0 (k + 1) y0 y1 y2))
  | 0 => fun _ _ _ r h => by simp [laws_toIntSS.l0] at h
  | k + 1 => by
    have ih0 := laws_toIntSS.mono_l k
    · intro y0 y1 y2
      unfold laws_toIntSS.l0
      repeat' first
      | (with_reducible exact ih0 _ _ _)
      | (with_reducible exact laws_toIntS.mono _ _)
      | (with_reducible exact LeO.refl _)
      | (with_reducible exact LeO.none _)
      | (with_reducible refine LeO.ite ?_ ?_)
      | (with_reducible refine LeO.bind ?_ (fun _ => ?_))
      | exact ih0 _ _ _
      | exact laws_toIntS.mono _ _
      | exact LeO.none _
      | refine LeO.ite ?_ ?_
      | refine LeO.bind ?_ (fun _ => ?_)
theorem laws_toIntSS.mono : ∀ a0 k, LeO (laws_toIntSS.f k a0) (laws_toIntSS.f (k + 1) a0) := by
  intro a0 k
  have ih0 := laws_toIntSS.mono_l k
  unfold laws_toIntSS.f
  repeat' first
      | (with_reducible exact ih0 _ _ _)
      | (with_reducible exact laws_toIntS.mono _ _)
      | (with_reducible exact LeO.refl _)
      | (with_reducible exact LeO.none _)
      | (with_reducible refine LeO.ite ?_ ?_)
      | (with_reducible refine LeO.bind ?_ (fun _ => ?_))
      | exact ih0 _ _ _
      | exact laws_toIntS.mono _ _
      | exact LeO.none _
      | refine LeO.ite ?_ ?_
      | refine LeO.bind ?_ (fun _ => ?_)
set_option maxHeartbeats 8000000 in
set_option maxRecDepth 100000 in
theorem laws_toIntSS.calls (k : Nat) (A0 : Option Addr) (c0 : Nat) (l0 : List (List Int)) (r : List (List Int)) (w : World) (hr0 : Kd.C (Kd.slice 3 (Kd.int .i64)) w A0 l0.length l0) (hc0 : l0.length ≤ c0) (h : laws_toIntSS.f k l0 = some r) :
    Calls Try.prog 19 #[.slice A0 l0.length c0] w fun e w' => ∃ v0_ : Value, e = .returned (v0_) ∧ Kd.S (Kd.slice 3 (Kd.int .i64)) 22 w' w.heap.size (fun _ => True) v0_ r ∧ Below w.heap.size w w' := by
  have HR0 := Aside0.mk hr0
  have HC0 := Aside0.mk hc0
  clear hr0 hc0
  have HB := Aside0.mk (Below.refl w.heap.size w)
  have H : (if 0 ≤ (l0.length : Int) then (if ((l0.length : Int) : Int).toNat ≤ 11728124029610 then (laws_toIntSS.l0 k l0 (List.replicate ((l0.length : Int) : Int).toNat []) 0) else (none)) else (none)) = some r := h
  clear h
  by_cases c2 : 0 ≤ (l0.length : Int)
  · rw [if_pos c2] at H
    have c2b0 := eq_true c2
    have c2b1 : decide (0 ≤ (l0.length : Int)) = true := decide_eq_true c2
    clear c2
    by_cases c3 : ((l0.length : Int) : Int).toNat ≤ 11728124029610
    · rw [if_pos c3] at H
      have c3b0 := eq_true c3
      have c3b1 : decide (((l0.length : Int) : Int).toNat ≤ 11728124029610) = true := decide_eq_true c3
      clear c3
      obtain ⟨y101, hy101⟩ : ∃ y_ : List (List Int), y_ = (List.replicate ((l0.length : Int) : Int).toNat []) := ⟨_, rfl⟩
      replace H : (laws_toIntSS.l0 k l0 y101 0) = some r := by first | (rw [hy101]; with_reducible exact H) | (have H2_ := (Option.bind_some _ _).symm.trans H; rw [hy101]; with_reducible exact H2_) | (have H2_ := (Option.bind_some _ _).symm.trans H; with_reducible exact H2_) | with_reducible exact H | (rw [hy101]; exact H) | exact H
      have Ny101 := Aside0.mk hy101
      clear hy101
      have H' := Aside0.mk H
      clear H
      go_enter Try.func19, Try.ntmps19
      go_wp2_with (first | ((with_reducible refine gate_dst (N := 7) rfl ?_); refine Kd.S_make (Kd.slice 3 (Kd.int .i64)) _ 22 rfl (N := 7) rfl 23 _ _ rfl (l0.length : Int) rfl rfl Try.underlying23 (.slice none 0 0) 24 info22 rfl (by decide) (by omega) [] (ok := fun _ => True) (okp := fun _ => True) ⟨_, rfl, Kd.R_nil _ _ _ _ _⟩ (fun _ hk => hk) trivial (of_decide_eq_true (by first | (with_reducible assumption) | assumption)) (Nat.le_trans (Nat.mul_le_mul_right _ (of_decide_eq_true (by first | (with_reducible assumption) | assumption) : (l0.length : Int).toNat ≤ 11728124029610)) (by omega)) (Below.refl _ _) (Nat.le_refl _) ?_; intro v102 w4 ho5 hb hg_ hnew_; clear hg_ hnew_; (first | rw [← Ny101.out] at ho5 | (simp only [Int.reduceToNat] at ho5; rw [← Ny101.out] at ho5)); have n0_ := Aside0.mk (Kd.S_lower ho5 (below_size (by repeat (first | (with_reducible first | exact HB.out | apply below_alloc | apply pw_below_drewN | apply below_drew1) | exact HB.out)))); have n1_ := Aside0.mk (below_step (by repeat (first | (with_reducible first | exact HB.out | apply below_alloc | apply pw_below_drewN | apply below_drew1) | exact HB.out)) hb); clear HB; have HO103 := n0_; have HB := n1_; clear n0_ n1_; clear hb ho5))
      go_loopg [4] k (fun kq v4 w' => ∃ (x3_1 : List (List Int)) (x4_1 : Int), v4 = .int .i64 x4_1 ∧ Aside0 (laws_toIntSS.l0 kq l0 x3_1 x4_1 = some r) ∧ Aside0 (kq ≤ k) ∧ Aside0 (Kd.S (Kd.slice 3 (Kd.int .i64)) 22 w' w.heap.size (fun _ => True) v102 x3_1) ∧ Aside0 (Below w.heap.size w w'))
      case atStart => exact ⟨(y101), (0), (by first | rfl | (simp; done) | (simp [*]; done)), H', ⟨Nat.le_refl _⟩, ⟨by (with_reducible repeat (first | apply Kd.S_alloc | apply Kd.S_drewN | apply Kd.S_drew)); exact HO103.out⟩, ⟨by repeat (first | (with_reducible first | exact HB.out | apply below_alloc | apply pw_below_drewN | apply below_drew1) | exact HB.out)⟩⟩
      case round =>
        clear H'
        try clear c1
        try clear c2
        try clear c2b0
        try clear c2b1
        try clear p2
        try clear c3
        try clear c3b0
        try clear c3b1
        obtain ⟨x3_1, x4_1, rfl, HA, HK1, HO_3, HB⟩ := hrel
        cases gk with
        | zero => exact absurd HA.out (by simp [laws_toIntSS.l0])
        | succ k1 =>
          have H := HA.out
          clear HA
          simp only [laws_toIntSS.l0] at H
          by_cases c6 : x4_1 < (l0.length : Int)
          · rw [if_pos c6] at H
            have c6b0 : decide (x4_1 < (l0.length : Int)) = true := decide_eq_true c6
            clear c6
            by_cases c7 : 0 ≤ x4_1
            · rw [if_pos c7] at H
              have c7b0 : decide (0 ≤ x4_1) = true := decide_eq_true c7
              clear c7
              replace H := Option.bind_eq_some_iff.mp H
              obtain ⟨t105, A80, H⟩ := H
              replace H : (if x4_1 < (x3_1.length : Int) then (laws_toIntSS.l0 k1 l0 (x3_1.set (x4_1 : Int).toNat t105) (wrap64 (x4_1 + 1))) else (none)) = some r := H
              have A8 := Aside0.mk A80
              clear A80
              by_cases c9 : x4_1 < (x3_1.length : Int)
              · rw [if_pos c9] at H
                have c9b0 : decide (x4_1 < (x3_1.length : Int)) = true := decide_eq_true c9
                clear c9
                obtain ⟨y108, hy108⟩ : ∃ y_ : List (List Int), y_ = (x3_1.set (x4_1 : Int).toNat t105) := ⟨_, rfl⟩
                replace H : (laws_toIntSS.l0 k1 l0 y108 (wrap64 (x4_1 + 1))) = some r := by first | (rw [hy108]; with_reducible exact H) | (have H2_ := (Option.bind_some _ _).symm.trans H; rw [hy108]; with_reducible exact H2_) | (have H2_ := (Option.bind_some _ _).symm.trans H; with_reducible exact H2_) | with_reducible exact H | (rw [hy108]; exact H) | exact H
                have Ny108 := Aside0.mk hy108
                clear hy108
                have H' := Aside0.mk H
                clear H
                have p104 : 0 ≤ (x4_1 : Int) := of_decide_eq_true (by first | (with_reducible assumption) | assumption)
                have q104 : x4_1 < (l0.length : Int) := of_decide_eq_true (by first | (with_reducible assumption) | assumption)
                obtain ⟨ad104, A104_0, c104_0, e104, hx104_0, hl104_0, hi104_0⟩ := at_L1 HR0.out x4_1 p104 q104
                cases e104
                replace hx104_0 := (HB.out.cell (World.block_lt_of_cell? w _ hx104_0)).trans hx104_0
                have HR104_0 := Aside0.mk hi104_0
                have HC104_0 := Aside0.mk hl104_0
                clear hi104_0 hl104_0
                replace p104 := eq_true p104
                replace q104 := eq_true q104
                go_wp2_with (first | ((with_reducible refine gate_callee (f := 18) rfl ?_); refine goesL_ (some 20) rfl rfl Try.func18 (by kernel_rfl) rfl #[.slice A104_0 (rd_L1 l0 x4_1).length c104_0] rfl (by (try simp only [List.map_toArray, List.map_cons, List.map_nil]); first | done | rfl | (simp only [List.length_drop, List.length_take]; rfl)) ?_; (with_reducible refine (laws_toIntS.calls k1 _ _ (rd_L1 l0 x4_1) t105 _ ?side1 ?side2 A8.out).mono ?_); (case side1 => repeat (first | exact (Kd.C_below HR104_0.out HB.out) | (with_reducible refine Kd.C_alloc ?_ _) | (with_reducible refine Kd.C_drewN ?_ _) | (with_reducible refine Kd.C_drew ?_))); (case side2 => exact HC104_0.out); rintro e w11 ⟨v106, rfl, ho0, hb⟩; refine ⟨_, rfl, ?_⟩; have n0_ := Aside0.mk (Kd.S_elder' (by (with_reducible repeat (first | apply Kd.S_alloc | apply Kd.S_drewN | apply Kd.S_drew)); exact HO_3.out) (Kd.R_base ho0) hb); have n1_ := Aside0.mk (Kd.R_lower ho0 (below_size (by repeat (first | (with_reducible first | exact HB.out | apply below_alloc | apply pw_below_drewN | apply below_drew1) | exact HB.out)))); have n2_ := Aside0.mk (below_step (by repeat (first | (with_reducible first | exact HB.out | apply below_alloc | apply pw_below_drewN | apply below_drew1) | exact HB.out)) hb); clear HO_3; clear HB; have HO_3 := n0_; have HO107 := n1_; have HB := n2_; clear n0_ n1_ n2_; (try clear hb); (try clear hb2); (try clear hk); (try clear hi); (try clear ho0); have p10 : 0 ≤ (x4_1 : Int) := of_decide_eq_true (by first | (with_reducible assumption) | assumption); have q10 : (x4_1 : Int) < ((x3_1.length : Int) : Int) := of_decide_eq_true (by first | (with_reducible assumption) | assumption); obtain ⟨go10, co10, eo10, gb10, gl10, cl10, HG10⟩ := Kd.S_form HO_3.out (by omega); (first | cases eo10 | (injection eo10 with ea_ en_ ec_; (first | subst ea_ | (injection ea_ with ea_; subst ea_)); subst ec_; clear en_)); have GB10 := Aside0.mk gb10; have GG10 := Aside0.mk HG10; clear gb10 gl10 HG10; obtain ⟨_, ce10, hcl10, hM10, hcc10, hfr10, _, _⟩ := Kd.S_elem HO_3.out [] (x4_1 : Int) p10 q10; obtain ⟨ve10_0, rfl, ge10_0⟩ := hM10; have hx10_0 := hcc10 0 _ rfl; have hf10_0 := hfr10 0; (try simp only [show ((Kd.slice 3 (Kd.int .i64))).sz = 1 from rfl, Nat.mul_one, Nat.add_zero] at hx10_0); (try simp only [show ((Kd.slice 3 (Kd.int .i64))).sz = 1 from rfl, Nat.mul_one, Nat.add_zero] at hf10_0); (try clear hM10); clear hcl10 hcc10 hfr10; replace p10 := eq_true p10; replace q10 := eq_true q10; have n_ := Aside0.mk (Kd.S_mono (ok' := (fun k_ => some k_ ≠ (v106 : Value).ownBlock)) HO_3.out (fun k_ hk => hk.2)); clear HO_3; have HO_3 := n_; clear n_; have HX12 := Aside0.mk (show Kd.S (Kd.slice 3 (Kd.int .i64)) 22 w11 w.heap.size (fun k_ => ((fun _ => True)) k_ ∧ ¬ ((fun k_ => some k_ = (v106 : Value).ownBlock)) k_) (.slice (some ⟨go10, 0, none⟩) x3_1.length co10) x3_1 from (by (with_reducible repeat (first | apply Kd.S_alloc | apply Kd.S_drewN | apply Kd.S_drew)); exact Kd.S_mono HO_3.out (fun k_ hk => ⟨trivial, fun e_ => hk e_⟩))); obtain ⟨oki12, ce12, hcl12, hM12, hcc12, hfr12, hoki12, hH12⟩ := Kd.S_elem HX12.out [] (x4_1 : Int) (of_decide_eq_true (by first | (with_reducible assumption) | assumption)) (by have h_ : (x4_1 : Int) < ((x3_1.length : Int) : Int) := of_decide_eq_true (by first | (with_reducible assumption) | assumption); first | exact h_ | (have e_ := (Kd.S_reads' HO_3.out).1; omega) | simpa using h_); obtain ⟨ve12_0, rfl, ge12_0⟩ := hM12; have HP12 := Kd.S_seg hH12 (of_decide_eq_true (by first | (with_reducible assumption) | assumption)) (by have h_ : (x4_1 : Int) < ((x3_1.length : Int) : Int) := of_decide_eq_true (by first | (with_reducible assumption) | assumption); first | exact h_ | (have e_ := (Kd.S_reads' HO_3.out).1; omega) | simpa using h_) (seg := [v106]) (j := 0) (show 1 ≤ 1 from by decide) (x' := t105) (Kd.M_row (Kd.R_mono (Kd.R_tight rfl (Kd.R_mono (ok' := fun k_ => ((fun _ => True)) k_ ∧ k_ ≠ go10) (Kd.R_apart' (HO107.out) (Kd.S_typed HO_3.out) (by decide)) (fun k_ hk => ⟨trivial, fun e_ => (hk.2) (by rw [e_]; rfl)⟩))) (fun _ h_ => Or.inr (h_)))) (fun _ hk => hk) (fun k_ hk_ => ((Kd.R_mono (ok' := fun k_ => ((fun _ => True)) k_ ∧ k_ ≠ go10) (Kd.R_apart' (HO107.out) (Kd.S_typed HO_3.out) (by decide)) (fun k_ hk => ⟨trivial, fun e_ => (hk.2) (by rw [e_]; rfl)⟩))).1 k_ hk_.symm); have hx12_0 := hcc12 0 _ rfl; (try simp only [show ((Kd.slice 3 (Kd.int .i64))).sz = 1 from rfl, Nat.mul_one, Nat.add_zero] at hx12_0); have hf12_0 := hfr12 0; (try simp only [show ((Kd.slice 3 (Kd.int .i64))).sz = 1 from rfl, Nat.mul_one, Nat.add_zero] at hf12_0); (try clear hM12); clear hcl12 hcc12 hfr12 hoki12 hH12; (try simp only [show ((Kd.slice 3 (Kd.int .i64))).sz = 1 from rfl, Nat.mul_one, Nat.add_zero] at HP12)) | ((with_reducible refine gate_store (t := 22) (p := 21) rfl ?_); refine store_event (t := 22) (p := 21) (v := ?vo_w13) (w1 := (w11.setCell ⟨go10, (x4_1 : Int).toNat, none⟩ (v106))) ?hg ?ho ?hn ?hr ?_; (case ho => rfl); (case hg => rfl); (case hn => rfl); (case hr => (obtain ⟨Aq_, cq_, eq_⟩ := Kd.R_slice HO107.out; subst eq_; first | (go_simp; done) | (go_simp; rfl))); intro w13 hw; have hg : w11.grownBy w13 (some go10) := (by rw [hw]; exact HP12.2); have hp_ : Kd.S (Kd.slice 3 (Kd.int .i64)) 22 w13 w.heap.size (fun _ => True) (.slice (some ⟨go10, 0, none⟩) x3_1.length co10) y108 := (by rw [hw, Ny108.out]; exact HP12.1); clear HP12; have n0_ := Aside0.mk (hp_); have n1_ := Aside0.mk ((by rw [hw]; exact below_set (HB.out) GB10.out : Below w.heap.size w w13)); clear HO_3; clear HB; clear HO107; have HO_3 := n0_; have HB := n1_; clear n0_ n1_; clear hg hw hp_))
                go_roundg k1
                case measure => have := HK1.out; omega
                case rel => exact ⟨(y108), (wrap64 (x4_1 + 1)), (by first | rfl | (simp; done) | (simp [*]; done)), H', ⟨by have := HK1.out; omega⟩, ⟨by (with_reducible repeat (first | apply Kd.S_alloc | apply Kd.S_drewN | apply Kd.S_drew)); exact HO_3.out⟩, ⟨by repeat (first | (with_reducible first | exact HB.out | apply below_alloc | apply pw_below_drewN | apply below_drew1) | exact HB.out)⟩⟩
              · rw [if_neg c9] at H
                exact absurd H (by simp)
            · rw [if_neg c7] at H
              exact absurd H (by simp)
          · rw [if_neg c6] at H
            have c6b0 : decide (x4_1 < (l0.length : Int)) = false := decide_eq_false c6
            clear c6
            obtain rfl := Option.some.inj H
            go_wp2
            go_ret
            exact ⟨_, by first | rfl | (simp [errW_none, errW_some] <;> rfl) | (simp [*, errW_none, errW_some] <;> rfl), by (with_reducible repeat (first | apply Kd.S_alloc | apply Kd.S_drewN | apply Kd.S_drew)); exact HO_3.out, by repeat (first | (with_reducible first | exact HB.out | apply below_alloc | apply pw_below_drewN | apply below_drew1) | exact HB.out)⟩
    · rw [if_neg c3] at H
      exact absurd H (by simp)
  · rw [if_neg c2] at H
    exact absurd H (by simp)

end Go.Proofs.Ytlhblnphfpijkaa.Q
end
section
namespace Go.Proofs.Ytlhblnphfpijkaa.Q
open Go.RowKit Go.Proofs.YtlhblnphfpijkaaW.PrintWords Go.Proofs.YtlhblnphfpijkaaW.PrintLast Go.Proofs.YtlhblnphfpijkaaW.PrintMore
attribute [local go_sem] max2_int min2_int max_two min_two max_three min_three max_four min_four   -- for this text's walks alone
set_option linter.unusedVariables false
set_option linter.unusedSimpArgs false

/-! ### laws_eqIntSS: function 22 -/
def laws_eqIntSS.l0 : Nat → List (List Int) → List (List Int) → Int → Option (Bool)
  | 0, _, _, _ => none
  | k + 1, x0, x1, x5 => if x5 < (x0.length : Int) then (if 0 ≤ x5 then (if x5 < (x1.length : Int) then ((laws_eqIntS.f k (rd_L1 x0 x5) (rd_L1 x1 x5)).bind fun t103 => (if t103 = true then (laws_eqIntSS.l0 k x0 x1 (wrap64 (x5 + 1))) else (some false))) else (none)) else (none)) else (some true)
def laws_eqIntSS.f (k : Nat) (l0 : List (List Int)) (l1 : List (List Int)) : Option (Bool) := if (l0.length : Int) = (l1.length : Int) then (laws_eqIntSS.l0 k l0 l1 0) else (some false)
theorem laws_eqIntSS.mono_l : ∀ k, (∀ y0 y1 y2, LeO (laws_eqIntSS.l0 k y0 y1 y2) (laws_eqIntSS.l0 (k + 1) y0 y1 y2))
  | 0 => fun _ _ _ r h => by simp [laws_eqIntSS.l0] at h
  | k + 1 => by
    have ih0 := laws_eqIntSS.mono_l k
    · intro y0 y1 y2
      unfold laws_eqIntSS.l0
      repeat' first
      | (with_reducible exact ih0 _ _ _)
      | (with_reducible exact laws_eqIntS.mono _ _ _)
      | (with_reducible exact LeO.refl _)
      | (with_reducible exact LeO.none _)
      | (with_reducible refine LeO.ite ?_ ?_)
      | (with_reducible refine LeO.bind ?_ (fun _ => ?_))
      | exact ih0 _ _ _
      | exact laws_eqIntS.mono _ _ _
      | exact LeO.none _
      | refine LeO.ite ?_ ?_
      | refine LeO.bind ?_ (fun _ => ?_)
theorem laws_eqIntSS.mono : ∀ a0 a1 k, LeO (laws_eqIntSS.f k a0 a1) (laws_eqIntSS.f (k + 1) a0 a1) := by
  intro a0 a1 k
  have ih0 := laws_eqIntSS.mono_l k
  unfold laws_eqIntSS.f
  repeat' first
      | (with_reducible exact ih0 _ _ _)
      | (with_reducible exact laws_eqIntS.mono _ _ _)
      | (with_reducible exact LeO.refl _)
      | (with_reducible exact LeO.none _)
      | (with_reducible refine LeO.ite ?_ ?_)
      | (with_reducible refine LeO.bind ?_ (fun _ => ?_))
      | exact ih0 _ _ _
      | exact laws_eqIntS.mono _ _ _
      | exact LeO.none _
      | refine LeO.ite ?_ ?_
      | refine LeO.bind ?_ (fun _ => ?_)
set_option maxHeartbeats 8000000 in
set_option maxRecDepth 100000 in
theorem laws_eqIntSS.calls (k : Nat) (A0 : Option Addr) (c0 : Nat) (l0 : List (List Int)) (A1 : Option Addr) (c1 : Nat) (l1 : List (List Int)) (r : Bool) (w : World) (hr0 : Kd.C (Kd.slice 3 (Kd.int .i64)) w A0 l0.length l0) (hc0 : l0.length ≤ c0) (hr1 : Kd.C (Kd.slice 3 (Kd.int .i64)) w A1 l1.length l1) (hc1 : l1.length ≤ c1) (h : laws_eqIntSS.f k l0 l1 = some r) :
    Calls Try.prog 22 #[.slice A0 l0.length c0, .slice A1 l1.length c1] w fun e w' => e = .returned (.bool r) ∧ Drawn0 w w' := by
  have HR0 := Aside0.mk hr0
  have HC0 := Aside0.mk hc0
  clear hr0 hc0
  have HR1 := Aside0.mk hr1
  have HC1 := Aside0.mk hc1
  clear hr1 hc1
  have H : (if (l0.length : Int) = (l1.length : Int) then (laws_eqIntSS.l0 k l0 l1 0) else (some false)) = some r := h
  clear h
  by_cases c3 : (l0.length : Int) = (l1.length : Int)
  · rw [if_pos c3] at H
    have c3b0 : ((l0.length : Int) == (l1.length : Int)) = true := beq_iff_eq.mpr c3
    have c3b1 : ((l0.length : Int) != (l1.length : Int)) = false := bne_eq_false_iff_eq.mpr c3
    have c3b2 : (l0.length == l1.length) = true := by first | simpa using c3 | (simp at c3 ⊢; omega)
    clear c3
    have H' := Aside0.mk H
    clear H
    go_enter Try.func22, Try.ntmps22
    go_wp2
    repeat (go_quiet (fail); try go_wp2)
    go_loopg [5] k (fun kq v5 w' => ∃ (x5_1 : Int), v5 = .int .i64 x5_1 ∧ Aside0 (laws_eqIntSS.l0 kq l0 l1 x5_1 = some r) ∧ Aside0 (kq ≤ k) ∧ Drawn0 w w')
    case atStart => exact ⟨(0), (by first | rfl | (simp; done) | (simp [*]; done)), H', ⟨Nat.le_refl _⟩, by repeat (first | exact Drawn0.refl _ | apply Drawn0.step)⟩
    case round =>
      clear H'
      try clear c1
      try clear c2
      try clear p2
      try clear c3
      try clear c3b0
      try clear c3b1
      try clear c3b2
      obtain ⟨x5_1, rfl, HA, HK1, ⟨m1, rfl⟩⟩ := hrel
      cases gk with
      | zero => exact absurd HA.out (by simp [laws_eqIntSS.l0])
      | succ k1 =>
        have H := HA.out
        clear HA
        simp only [laws_eqIntSS.l0] at H
        by_cases c4 : x5_1 < (l0.length : Int)
        · rw [if_pos c4] at H
          have c4b0 : decide (x5_1 < (l0.length : Int)) = true := decide_eq_true c4
          clear c4
          by_cases c5 : 0 ≤ x5_1
          · rw [if_pos c5] at H
            have c5b0 : decide (0 ≤ x5_1) = true := decide_eq_true c5
            clear c5
            by_cases c6 : x5_1 < (l1.length : Int)
            · rw [if_pos c6] at H
              have c6b0 : decide (x5_1 < (l1.length : Int)) = true := decide_eq_true c6
              clear c6
              replace H := Option.bind_eq_some_iff.mp H
              obtain ⟨t103, A70, H⟩ := H
              replace H : (if t103 = true then (laws_eqIntSS.l0 k1 l0 l1 (wrap64 (x5_1 + 1))) else (some false)) = some r := H
              have A7 := Aside0.mk A70
              clear A70
              by_cases c8 : t103 = true
              · subst c8
                have H1 : (laws_eqIntSS.l0 k1 l0 l1 (wrap64 (x5_1 + 1))) = some r := by rw [if_pos rfl] at H; exact H
                clear H
                have H := H1
                clear H1
                have H' := Aside0.mk H
                clear H
                have p101 : 0 ≤ (x5_1 : Int) := of_decide_eq_true (by first | (with_reducible assumption) | assumption)
                have q101 : x5_1 < (l0.length : Int) := of_decide_eq_true (by first | (with_reducible assumption) | assumption)
                obtain ⟨ad101, A101_0, c101_0, e101, hx101_0, hl101_0, hi101_0⟩ := at_L1 HR0.out x5_1 p101 q101
                cases e101
                have HR101_0 := Aside0.mk hi101_0
                have HC101_0 := Aside0.mk hl101_0
                clear hi101_0 hl101_0
                replace p101 := eq_true p101
                replace q101 := eq_true q101
                have p102 : 0 ≤ (x5_1 : Int) := of_decide_eq_true (by first | (with_reducible assumption) | assumption)
                have q102 : x5_1 < (l1.length : Int) := of_decide_eq_true (by first | (with_reducible assumption) | assumption)
                obtain ⟨ad102, A102_0, c102_0, e102, hx102_0, hl102_0, hi102_0⟩ := at_L1 HR1.out x5_1 p102 q102
                cases e102
                have HR102_0 := Aside0.mk hi102_0
                have HC102_0 := Aside0.mk hl102_0
                clear hi102_0 hl102_0
                replace p102 := eq_true p102
                replace q102 := eq_true q102
                go_wp2_with (first | (go_at_call 21; (with_reducible refine (laws_eqIntS.calls k1 _ _ (rd_L1 l0 x5_1) _ _ (rd_L1 l1 x5_1) true _ ?side1 ?side2 ?side3 ?side4 A7.out).mono ?_); (case side1 => repeat (first | exact HR101_0.out | (with_reducible refine Kd.C_alloc ?_ _) | (with_reducible refine Kd.C_drewN ?_ _) | (with_reducible refine Kd.C_drew ?_))); (case side2 => exact HC101_0.out); (case side3 => repeat (first | exact HR102_0.out | (with_reducible refine Kd.C_alloc ?_ _) | (with_reducible refine Kd.C_drewN ?_ _) | (with_reducible refine Kd.C_drew ?_))); (case side4 => exact HC102_0.out); rintro e w' ⟨rfl, ⟨nd, rfl⟩⟩; (try first | exact ⟨rfl, _, World.drewN_drewN _ _ _⟩ | exact ⟨rfl, _, Eq.trans (World.drewN_drewN _ _ _) (congrArg (World.drewN _) (Nat.add_assoc _ _ _))⟩)))
                repeat (go_quiet (first | (go_at_call 21; (with_reducible refine (laws_eqIntS.calls k1 _ _ (rd_L1 l0 x5_1) _ _ (rd_L1 l1 x5_1) true _ ?side1 ?side2 ?side3 ?side4 A7.out).mono ?_); (case side1 => repeat (first | exact HR101_0.out | (with_reducible refine Kd.C_alloc ?_ _) | (with_reducible refine Kd.C_drewN ?_ _) | (with_reducible refine Kd.C_drew ?_))); (case side2 => exact HC101_0.out); (case side3 => repeat (first | exact HR102_0.out | (with_reducible refine Kd.C_alloc ?_ _) | (with_reducible refine Kd.C_drewN ?_ _) | (with_reducible refine Kd.C_drew ?_))); (case side4 => exact HC102_0.out); rintro e w' ⟨rfl, ⟨nd, rfl⟩⟩; (try first | exact ⟨rfl, _, World.drewN_drewN _ _ _⟩ | exact ⟨rfl, _, Eq.trans (World.drewN_drewN _ _ _) (congrArg (World.drewN _) (Nat.add_assoc _ _ _))⟩))); try go_wp2_with (first | (go_at_call 21; (with_reducible refine (laws_eqIntS.calls k1 _ _ (rd_L1 l0 x5_1) _ _ (rd_L1 l1 x5_1) true _ ?side1 ?side2 ?side3 ?side4 A7.out).mono ?_); (case side1 => repeat (first | exact HR101_0.out | (with_reducible refine Kd.C_alloc ?_ _) | (with_reducible refine Kd.C_drewN ?_ _) | (with_reducible refine Kd.C_drew ?_))); (case side2 => exact HC101_0.out); (case side3 => repeat (first | exact HR102_0.out | (with_reducible refine Kd.C_alloc ?_ _) | (with_reducible refine Kd.C_drewN ?_ _) | (with_reducible refine Kd.C_drew ?_))); (case side4 => exact HC102_0.out); rintro e w' ⟨rfl, ⟨nd, rfl⟩⟩; (try first | exact ⟨rfl, _, World.drewN_drewN _ _ _⟩ | exact ⟨rfl, _, Eq.trans (World.drewN_drewN _ _ _) (congrArg (World.drewN _) (Nat.add_assoc _ _ _))⟩))))
                go_roundg k1
                case measure => have := HK1.out; omega
                case rel => exact ⟨(wrap64 (x5_1 + 1)), (by first | rfl | (simp; done) | (simp [*]; done)), H', ⟨by have := HK1.out; omega⟩, by repeat (first | exact Drawn0.refl _ | apply Drawn0.step)⟩
              · replace c8 := Bool.eq_false_iff.mpr c8
                subst c8
                have H1 : (some false) = some r := by rw [if_neg (show ¬ (false = true) by decide)] at H; exact H
                clear H
                have H := H1
                clear H1
                obtain rfl := Option.some.inj H
                have p101 : 0 ≤ (x5_1 : Int) := of_decide_eq_true (by first | (with_reducible assumption) | assumption)
                have q101 : x5_1 < (l0.length : Int) := of_decide_eq_true (by first | (with_reducible assumption) | assumption)
                obtain ⟨ad101, A101_0, c101_0, e101, hx101_0, hl101_0, hi101_0⟩ := at_L1 HR0.out x5_1 p101 q101
                cases e101
                have HR101_0 := Aside0.mk hi101_0
                have HC101_0 := Aside0.mk hl101_0
                clear hi101_0 hl101_0
                replace p101 := eq_true p101
                replace q101 := eq_true q101
                have p102 : 0 ≤ (x5_1 : Int) := of_decide_eq_true (by first | (with_reducible assumption) | assumption)
                have q102 : x5_1 < (l1.length : Int) := of_decide_eq_true (by first | (with_reducible assumption) | assumption)
                obtain ⟨ad102, A102_0, c102_0, e102, hx102_0, hl102_0, hi102_0⟩ := at_L1 HR1.out x5_1 p102 q102
                cases e102
                have HR102_0 := Aside0.mk hi102_0
                have HC102_0 := Aside0.mk hl102_0
                clear hi102_0 hl102_0
                replace p102 := eq_true p102
                replace q102 := eq_true q102
                go_wp2_with (first | (go_at_call 21; (with_reducible refine (laws_eqIntS.calls k1 _ _ (rd_L1 l0 x5_1) _ _ (rd_L1 l1 x5_1) false _ ?side1 ?side2 ?side3 ?side4 A7.out).mono ?_); (case side1 => repeat (first | exact HR101_0.out | (with_reducible refine Kd.C_alloc ?_ _) | (with_reducible refine Kd.C_drewN ?_ _) | (with_reducible refine Kd.C_drew ?_))); (case side2 => exact HC101_0.out); (case side3 => repeat (first | exact HR102_0.out | (with_reducible refine Kd.C_alloc ?_ _) | (with_reducible refine Kd.C_drewN ?_ _) | (with_reducible refine Kd.C_drew ?_))); (case side4 => exact HC102_0.out); rintro e w' ⟨rfl, ⟨nd, rfl⟩⟩; (try first | exact ⟨rfl, _, World.drewN_drewN _ _ _⟩ | exact ⟨rfl, _, Eq.trans (World.drewN_drewN _ _ _) (congrArg (World.drewN _) (Nat.add_assoc _ _ _))⟩)))
                repeat (go_quiet (first | (go_at_call 21; (with_reducible refine (laws_eqIntS.calls k1 _ _ (rd_L1 l0 x5_1) _ _ (rd_L1 l1 x5_1) false _ ?side1 ?side2 ?side3 ?side4 A7.out).mono ?_); (case side1 => repeat (first | exact HR101_0.out | (with_reducible refine Kd.C_alloc ?_ _) | (with_reducible refine Kd.C_drewN ?_ _) | (with_reducible refine Kd.C_drew ?_))); (case side2 => exact HC101_0.out); (case side3 => repeat (first | exact HR102_0.out | (with_reducible refine Kd.C_alloc ?_ _) | (with_reducible refine Kd.C_drewN ?_ _) | (with_reducible refine Kd.C_drew ?_))); (case side4 => exact HC102_0.out); rintro e w' ⟨rfl, ⟨nd, rfl⟩⟩; (try first | exact ⟨rfl, _, World.drewN_drewN _ _ _⟩ | exact ⟨rfl, _, Eq.trans (World.drewN_drewN _ _ _) (congrArg (World.drewN _) (Nat.add_assoc _ _ _))⟩))); try go_wp2_with (first | (go_at_call 21; (with_reducible refine (laws_eqIntS.calls k1 _ _ (rd_L1 l0 x5_1) _ _ (rd_L1 l1 x5_1) false _ ?side1 ?side2 ?side3 ?side4 A7.out).mono ?_); (case side1 => repeat (first | exact HR101_0.out | (with_reducible refine Kd.C_alloc ?_ _) | (with_reducible refine Kd.C_drewN ?_ _) | (with_reducible refine Kd.C_drew ?_))); (case side2 => exact HC101_0.out); (case side3 => repeat (first | exact HR102_0.out | (with_reducible refine Kd.C_alloc ?_ _) | (with_reducible refine Kd.C_drewN ?_ _) | (with_reducible refine Kd.C_drew ?_))); (case side4 => exact HC102_0.out); rintro e w' ⟨rfl, ⟨nd, rfl⟩⟩; (try first | exact ⟨rfl, _, World.drewN_drewN _ _ _⟩ | exact ⟨rfl, _, Eq.trans (World.drewN_drewN _ _ _) (congrArg (World.drewN _) (Nat.add_assoc _ _ _))⟩))))
                go_ret
                exact ⟨by first | rfl | (simp; done) | (simp [*]; done), by repeat (first | exact Drawn0.refl _ | apply Drawn0.step)⟩
            · rw [if_neg c6] at H
              exact absurd H (by simp)
          · rw [if_neg c5] at H
            exact absurd H (by simp)
        · rw [if_neg c4] at H
          have c4b0 : decide (x5_1 < (l0.length : Int)) = false := decide_eq_false c4
          clear c4
          obtain rfl := Option.some.inj H
          go_wp2
          repeat (go_quiet (fail); try go_wp2)
          go_ret
          exact ⟨by first | rfl | (simp; done) | (simp [*]; done), by repeat (first | exact Drawn0.refl _ | apply Drawn0.step)⟩
  · rw [if_neg c3] at H
    have c3b0 : ((l0.length : Int) == (l1.length : Int)) = false := beq_eq_false_iff_ne.mpr c3
    have c3b1 : ((l0.length : Int) != (l1.length : Int)) = true := bne_iff_ne.mpr c3
    have c3b2 : (l0.length == l1.length) = false := by first | simpa using c3 | (simp at c3 ⊢; omega)
    obtain rfl := Option.some.inj H
    go_enter Try.func22, Try.ntmps22
    go_wp2
    repeat (go_quiet (fail); try go_wp2)
    go_ret
    exact ⟨by first | rfl | (simp; done) | (simp [*]; done), by repeat (first | exact Drawn0.refl _ | apply Drawn0.step)⟩

end Go.Proofs.Ytlhblnphfpijkaa.Q
end
section
namespace Go.Proofs.Ytlhblnphfpijkaa.RowsK
set_option linter.unusedVariables false
open Go.RowKit Go.Proofs.Ytlhblnphfpijkaa.Q Go.Proofs.YtlhblnphfpijkaaW.PrintWords Go.Proofs.YtlhblnphfpijkaaW.PrintLast Go.Proofs.YtlhblnphfpijkaaW.PrintMore
open Go.Proofs.YtlhblnphfpijkaaL Go.Proofs.Ytlhblnphfpijkaa.LawK

theorem evEq {α : Type} {g : Nat → Option α} {a b : α} (h : Ev g a) (e : a = b) : Ev g b := e ▸ h
theorem rdL {xs : List (List Int)} {i : Nat} (h : i < xs.length) : rd_L1 xs (i : Int) = xs[i] := by unfold rd_L1; rw [Int.toNat_natCast]; exact gD_lt _ _ h
/-- What is left of a bound behind a list and all its rows; -1 behind the bound. -/
def szL : List (List Int) → Int → Int
  | [], n => n
  | x :: t, n => if (x.length : Int) ≤ n then szL t (n - (x.length : Int)) else -1
def szR (l : List (List Int)) (n : Int) : Int := if (l.length : Int) ≤ n then szL l (n - (l.length : Int)) else -1
theorem szIntS_f (l : List Int) (hl : l.length ≤ maxLen) (n : Int) (h0 : 0 ≤ n) (h1 : n ≤ 1048576) : laws_szIntS.f l n = some (if (l.length : Int) ≤ n then n - (l.length : Int) else -1) := by
  unfold maxLen at hl
  unfold laws_szIntS.f
  rw [w64 (by omega) (by omega)]
  by_cases h : (l.length : Int) ≤ n
  · rw [if_neg (by omega), if_pos h]
  · rw [if_pos (by omega), if_neg h]
theorem szL_le : ∀ (l : List (List Int)) (n : Int), 0 ≤ n → -1 ≤ szL l n ∧ szL l n ≤ n
  | [], n, h => ⟨by rw [szL]; omega, Int.le_refl _⟩
  | x :: t, n, h => by
    rw [szL]
    by_cases c : (x.length : Int) ≤ n
    · rw [if_pos c]
      have := szL_le t (n - (x.length : Int)) (by omega)
      omega
    · rw [if_neg c]; omega
theorem szIntSS_l0 {l : List (List Int)} (hx : ∀ x ∈ l, x.length ≤ maxLen) (hl : l.length ≤ 1048576) : ∀ (d i : Nat) (n : Int), i + d = l.length → 0 ≤ n → n ≤ 1048576 → Ev (fun k => laws_szIntSS.l0 k l n i) (szL (l.drop i) n)
  | 0, i, n, hi, h0, h1 => by
    refine Ev.step (f := fun _ => some n) (fun k => ?_) (evEq (Ev.now _) (by rw [List.drop_eq_nil_of_le (by omega)]; rfl))
    rw [laws_szIntSS.l0, if_neg (by omega)]
  | d + 1, i, n, hi, h0, h1 => by
    have w1 : wrap64 ((i : Int) + 1) = ((i + 1 : Nat) : Int) := by rw [w64 (by omega) (by omega)]; rfl
    have hi2 : i < l.length := by omega
    rw [List.drop_eq_getElem_cons hi2, szL]
    by_cases c : (l[i].length : Int) ≤ n
    · rw [if_pos c]
      refine Ev.step (fun k => ?_) (szIntSS_l0 hx hl d (i + 1) (n - (l[i].length : Int)) (by omega) (by omega) (by omega))
      rw [laws_szIntSS.l0, if_pos (by omega), if_pos (by omega), rdL hi2, szIntS_f _ (hx _ (List.getElem_mem hi2)) n h0 h1, Option.bind_some, if_pos c, if_neg (by omega), w1]
    · rw [if_neg c]
      refine Ev.step (f := fun _ => some (-1)) (fun k => ?_) (Ev.now _)
      rw [laws_szIntSS.l0, if_pos (by omega), if_pos (by omega), rdL hi2, szIntS_f _ (hx _ (List.getElem_mem hi2)) n h0 h1, Option.bind_some, if_neg c, if_pos (by omega)]
theorem szIntSS {l : List (List Int)} (hl : l.length ≤ maxLen) (hx : ∀ x ∈ l, x.length ≤ maxLen) {n : Int} (h0 : 0 ≤ n) (h1 : n ≤ 1048576) : Ev (fun k => laws_szIntSS.f k l n) (szR l n) := by
  unfold maxLen at hl
  unfold laws_szIntSS.f szR
  rw [w64 (by omega) (by omega)]
  by_cases c : (l.length : Int) ≤ n
  · rw [if_pos c]
    refine Ev.congr (fun k => if_neg (by omega)) ?_
    have := szIntSS_l0 hx (by omega) l.length 0 (n - (l.length : Int)) (by omega) (by omega) (by omega)
    rw [List.drop_zero] at this
    exact this
  · rw [if_neg c]
    exact Ev.congr (fun k => if_pos (by omega)) (Ev.now _)
theorem szL_len : ∀ (l : List (List Int)) (n : Int), 0 ≤ n → 0 ≤ szL l n → ∀ x ∈ l, (x.length : Int) ≤ n
  | x :: t, n, h0, h, y, hy => by
    rw [szL] at h
    by_cases c : (x.length : Int) ≤ n
    · rw [if_pos c] at h
      rcases List.mem_cons.1 hy with rfl | hy
      · exact c
      · have := szL_len t _ (by omega) h y hy
        omega
    · rw [if_neg c] at h; omega
theorem szR_len {l : List (List Int)} {n : Int} (h0 : 0 ≤ n) (h : 0 ≤ szR l n) : (l.length : Int) ≤ n ∧ ∀ x ∈ l, (x.length : Int) ≤ n := by
  unfold szR at h
  by_cases c : (l.length : Int) ≤ n
  · rw [if_pos c] at h
    exact ⟨c, fun x hx => by have := szL_len l _ (by omega) h x hx; omega⟩
  · rw [if_neg c] at h; omega
theorem toIntSS_l0 {l : List (List Int)} (hl : l.length ≤ 1048576) (hx : ∀ x ∈ l, x.length ≤ 1048576) : ∀ (d i : Nat) (x : List (List Int)), i + d = l.length → x.length = l.length → x.take i = l.take i → Ev (fun k => laws_toIntSS.l0 k l x i) l
  | 0, i, x, hi, hxl, ht => by
    refine Ev.step (f := fun _ => some l) (fun k => ?_) (Ev.now _)
    rw [laws_toIntSS.l0, if_neg (by omega)]
    rw [List.take_of_length_le (by omega), List.take_of_length_le (by omega)] at ht
    rw [ht]
  | d + 1, i, x, hi, hxl, ht => by
    have h1 : wrap64 ((i : Int) + 1) = ((i + 1 : Nat) : Int) := by rw [w64 (by omega) (by omega)]; rfl
    have hi2 : i < l.length := by omega
    refine Ev.step (f := fun k => (laws_toIntS.f k l[i]).bind fun t => laws_toIntSS.l0 k l (x.set i t) ((i + 1 : Nat) : Int)) (fun k => ?_) ?_
    · rw [laws_toIntSS.l0, if_pos (by omega), if_pos (by omega), rdL hi2, h1, Int.toNat_natCast]
      congr 1
      funext t
      rw [if_pos (by omega)]
    · refine Ev.bind (toIntS (hx _ (List.getElem_mem hi2))) ?_
      refine toIntSS_l0 hl hx d (i + 1) (x.set i l[i]) (by omega) (by simpa using hxl) ?_
      rw [List.take_succ_eq_append_getElem (by simp; omega), List.take_succ_eq_append_getElem (by omega), List.take_set_of_le (by omega), ht]
      simp
theorem toIntSS {l : List (List Int)} (hl : l.length ≤ 1048576) (hx : ∀ x ∈ l, x.length ≤ 1048576) : Ev (fun k => laws_toIntSS.f k l) l := by
  refine Ev.congr (fun k => ?_) (toIntSS_l0 hl hx l.length 0 (List.replicate l.length []) (by omega) (by simp) (by simp))
  unfold laws_toIntSS.f
  rw [if_pos (by omega), Int.toNat_natCast, if_pos (by omega)]; rfl
theorem eqIntSS_l0 {a b : List (List Int)} (hl : a.length ≤ 4611686018427387904) (hx : ∀ x ∈ a, x.length ≤ 4611686018427387904) (h : a.length = b.length) : ∀ (d i : Nat), i + d = a.length → a.take i = b.take i → Ev (fun k => laws_eqIntSS.l0 k a b i) (decide (a = b))
  | 0, i, hi, ht => by
    refine Ev.step (f := fun _ => some (decide (a = b))) (fun k => ?_) (Ev.now _)
    rw [laws_eqIntSS.l0, if_neg (by omega)]
    rw [List.take_of_length_le (by omega), List.take_of_length_le (by omega)] at ht
    simp [ht]
  | d + 1, i, hi, ht => by
    have h1 : wrap64 ((i : Int) + 1) = ((i + 1 : Nat) : Int) := by rw [w64 (by omega) (by omega)]; rfl
    have hi2 : i < a.length := by omega
    refine Ev.step (f := fun k => (laws_eqIntS.f k a[i] (b[i]'(by omega))).bind fun t => if t = true then laws_eqIntSS.l0 k a b ((i + 1 : Nat) : Int) else some false) (fun k => ?_) ?_
    · rw [laws_eqIntSS.l0, if_pos (by omega), if_pos (by omega), if_pos (by omega), h1, rdL hi2, rdL (by omega)]
    · refine Ev.bind (eqIntS (by have := hx _ (List.getElem_mem hi2); omega)) ?_
      by_cases e : a[i] = b[i]'(by omega)
      · refine Ev.congr (fun k => if_pos (decide_eq_true e)) (eqIntSS_l0 hl hx h d (i + 1) (by omega) ?_)
        rw [List.take_succ_eq_append_getElem (by omega), List.take_succ_eq_append_getElem (by omega), ht, e]
      · have : a ≠ b := fun hab => e (by simp [hab])
        rw [decide_eq_false this]
        exact Ev.congr (fun k => if_neg (by simpa using e)) (Ev.now _)
theorem eqIntSS {a b : List (List Int)} (hl : a.length ≤ 4611686018427387904) (hx : ∀ x ∈ a, x.length ≤ 4611686018427387904) : Ev (fun k => laws_eqIntSS.f k a b) (decide (a = b)) := by
  unfold laws_eqIntSS.f
  by_cases h : a.length = b.length
  · refine Ev.congr (fun k => if_pos (by omega)) (eqIntSS_l0 hl hx h a.length 0 (by omega) (by simp))
  · have : a ≠ b := fun hab => h (by simp [hab])
    rw [decide_eq_false this]
    exact Ev.congr (fun k => if_neg (by omega)) (Ev.now _)
end Go.Proofs.Ytlhblnphfpijkaa.RowsK
end
section
namespace Go.Proofs.Ytlhblnphfpijkaa.WeAllK
set_option linter.unusedVariables false
set_option linter.unusedSectionVars false
open Go.RowKit Go.Proofs.Ytlhblnphfpijkaa.Q Go.Proofs.YtlhblnphfpijkaaW.PrintWords Go.Proofs.YtlhblnphfpijkaaW.PrintLast Go.Proofs.YtlhblnphfpijkaaW.PrintMore
open Go.Proofs.YtlhblnphfpijkaaL Go.Proofs.Ytlhblnphfpijkaa.LawK Go.Proofs.Ytlhblnphfpijkaa.W1 Go.Proofs.Ytlhblnphfpijkaa.BagK Go.Proofs.Ytlhblnphfpijkaa.LensK Go.Proofs.Ytlhblnphfpijkaa.BoardK

theorem rd1_nat (T : List (List Int)) (i : Nat) : rd_L1 T (i : Int) = T.getD i [] := by unfold rd_L1; rw [Int.toNat_natCast]
theorem own_f {l : List Int} (h : l.length ≤ 1000000) : spec_l1Own.f l = some l := by
  unfold spec_l1Own.f
  rw [Option.bind_some, if_pos (by rw [List.length_nil]; omega), List.nil_append]
theorem pad_snoc {row : List Int} {p : Nat} (h : row.length ≤ p) : pad (row ++ [0]) p = pad row p := by
  unfold pad
  rw [List.append_assoc, List.length_append, List.length_singleton, show p + 1 - row.length = (p + 1 - (row.length + 1)) + 1 by omega, List.replicate_succ]
  rfl
theorem pad_long {row : List Int} {p : Nat} (h : p < row.length) : pad row p = row := by
  unfold pad
  rw [show p + 1 - row.length = 0 by omega, List.replicate_zero, List.append_nil]
theorem add_l1 {b : List Int} {by_ e n : Nat} (hp : by_ + e ≤ 1000000) {g : List Int} : ∀ (d : Nat) (row : List Int), d = e + by_ + 1 - row.length →
    Ev (fun k => spec_weAdd.l0 k by_ (addAt row (e + by_) n) b (b.length : Int) ((e + 1 : Nat) : Int)) g → Ev (fun k => spec_weAdd.l1 k by_ row e n b (b.length : Int) e) g
  | 0, row, hd, next => by
    have w1 : wrap64 ((e : Int) + by_) = ((e + by_ : Nat) : Int) := by rw [w64 (by omega) (by omega)]; rfl
    have w2 : wrap64 ((e : Int) + 1) = ((e + 1 : Nat) : Int) := by rw [w64 (by omega) (by omega)]; rfl
    refine Ev.step (fun k => ?_) next
    rw [spec_weAdd.l1, w1, if_neg (by omega), if_pos (by omega), if_pos (by omega), w2, Int.toNat_natCast]
    unfold addAt
    rw [pad_long (by omega)]
  | d + 1, row, hd, next => by
    have w1 : wrap64 ((e : Int) + by_) = ((e + by_ : Nat) : Int) := by rw [w64 (by omega) (by omega)]; rfl
    refine Ev.step (fun k => ?_) (add_l1 hp d (row ++ [0]) (by rw [List.length_append, List.length_singleton]; omega) (by unfold addAt at next ⊢; rw [pad_snoc (by omega)]; exact next))
    rw [spec_weAdd.l1, w1, if_pos (by omega), if_pos (by omega)]
/-- A row's numbers behind the first e of another one were added, moved. -/
def plus (c d : Nat → Nat) (by_ e i : Nat) : Nat := c i + if by_ ≤ i ∧ i - by_ < e then d (i - by_) else 0
theorem add_l0 {b : List Int} {c d : Nat → Nat} {by_ : Nat} (hb : RepC b d) (hbl : b.length ≤ 1000) (hby : by_ ≤ 1000) (hc : ∀ i, c i ≤ 1000000000) (hd : ∀ i, d i ≤ 1000000000) :
    ∀ (r e : Nat) (row : List Int), e + r = b.length → RepC row (plus c d by_ e) → ∃ out, Ev (fun k => spec_weAdd.l0 k by_ row b (b.length : Int) e) out ∧ RepC out (plus c d by_ b.length)
  | 0, e, row, he, hr => by
    refine ⟨row, ?_, by rw [show b.length = e by omega]; exact hr⟩
    refine Ev.step (f := fun _ => some row) (fun k => ?_) (Ev.now _)
    rw [spec_weAdd.l0, if_neg (by omega)]
  | r + 1, e, row, he, hr => by
    have he2 : e < b.length := by omega
    have w2 : wrap64 ((e : Int) + 1) = ((e + 1 : Nat) : Int) := by rw [w64 (by omega) (by omega)]; rfl
    have hg := hb.get e
    have hrd : rd b (e : Int) = (d e : Int) := by rw [rd_nat, hg]
    by_cases h0 : d e = 0
    · obtain ⟨out, h1, h2⟩ := add_l0 hb hbl hby hc hd r (e + 1) row (by omega) (hr.congr (fun i => by
        unfold plus
        congr 1
        by_cases q : by_ ≤ i ∧ i - by_ < e
        · rw [if_pos q, if_pos (by omega)]
        · rw [if_neg q]
          by_cases q2 : by_ ≤ i ∧ i - by_ < e + 1
          · rw [if_pos q2, show i - by_ = e by omega, h0]
          · rw [if_neg q2]))
      refine ⟨out, Ev.step (fun k => ?_) h1, h2⟩
      rw [spec_weAdd.l0, if_pos (by omega), if_pos (by omega), if_pos (by omega), hrd, if_pos (by omega), w2]
    · have hpc : plus c d by_ e (e + by_) = c (e + by_) := by unfold plus; rw [if_neg (by omega), Nat.add_zero]
      have hA := addAt_rep (p := e + by_) (n := d e) hr (by omega) (by rw [hpc]; have := hc (e + by_); have := hd e; omega)
      obtain ⟨out, h1, h2⟩ := add_l0 hb hbl hby hc hd r (e + 1) (addAt row (e + by_) (d e)) (by omega) (hA.congr (fun i => by
        unfold plus
        by_cases q : i = e + by_
        · subst q
          rw [if_pos rfl, if_neg (by omega), if_pos (by omega), show e + by_ - by_ = e by omega]
          rfl
        · rw [if_neg q]
          congr 1
          by_cases q2 : by_ ≤ i ∧ i - by_ < e
          · rw [if_pos q2, if_pos (by omega)]
          · rw [if_neg q2, if_neg (by omega)]))
      refine ⟨out, Ev.step (fun k => ?_) (add_l1 (by_ := by_) (e := e) (n := d e) (b := b) (by omega) (e + by_ + 1 - row.length) row rfl h1), h2⟩
      rw [spec_weAdd.l0, if_pos (by omega), if_pos (by omega), if_pos (by omega), hrd, if_neg (by omega)]
theorem weAdd {a b : List Int} {c d : Nat → Nat} {by_ : Nat} (ha : RepC a c) (hb : RepC b d) (hal : a.length ≤ 1000) (hbl : b.length ≤ 1000) (hby : by_ ≤ 1000) (hc : ∀ i, c i ≤ 1000000000) (hd : ∀ i, d i ≤ 1000000000) :
    ∃ out, Ev (fun k => spec_weAdd.f k a b by_) out ∧ RepC out (fun i => c i + if by_ ≤ i then d (i - by_) else 0) := by
  obtain ⟨out, h1, h2⟩ := add_l0 (c := c) hb hbl hby hc hd b.length 0 a (by omega) (ha.congr (fun i => by unfold plus; rw [if_neg (by omega), Nat.add_zero]))
  refine ⟨out, ?_, h2.congr (fun i => ?_)⟩
  · unfold spec_weAdd.f
    refine Ev.congr (fun k => by rw [own_f (by omega), Option.bind_some]; rfl) h1
  · unfold plus
    congr 1
    by_cases q : by_ ≤ i
    · rw [if_pos q]
      by_cases q2 : i - by_ < b.length
      · rw [if_pos ⟨q, q2⟩]
      · rw [if_neg (by omega)]
        have := hb.get (i - by_)
        rw [gD_ge _ _ (by omega)] at this
        omega
    · rw [if_neg q, if_neg (by omega)]
theorem RepC.short {r : List Int} {c : Nat → Nat} (h : RepC r c) (hs : ∀ i, c i ≠ 0 → i < 64) : r.length ≤ 64 := by
  rcases Nat.eq_zero_or_pos r.length with h0 | h0
  · omega
  · have := hs (r.length - 1) (h.last (r.length - 1) (by omega)); omega

/-- The table while a row is worked off: those above k are new. -/
structure Mid (n m : Nat) (F : List (Nat × Nat)) (T : List (List Int)) (k : Nat) : Prop where
  len : T.length = n + 1
  new : ∀ j, k ≤ j → j ≤ n → RepC (T.getD j []) (nextC F m j)
  old : ∀ j, j < k → j ≤ n → RepC (T.getD j []) (cnt F j)
theorem set_getD1 (T : List (List Int)) (p i : Nat) (x : List Int) (hp : p < T.length) : (T.set p x).getD i [] = if i = p then x else T.getD i [] := by
  rw [List.getD_eq_getElem?_getD, List.getElem?_set, List.getD_eq_getElem?_getD]
  by_cases h : p = i
  · subst h; simp [hp]
  · rw [if_neg h, if_neg (fun e => h e.symm)]
section
variable {l : List Int} {F : List (Nat × Nat)} {n m r : Nat} (hn : n ≤ 6) (hm : m ≤ 6) (hF : F.length ≤ 1000000) (hFe : ∀ x ∈ F, x.2 < 40)
include hn hm hF hFe
theorem cnt_le (k e : Nat) : cnt F k e ≤ 1000000 := Nat.le_trans List.count_le_length hF
theorem cnt_far (k e : Nat) (h : cnt F k e ≠ 0) : e < 40 := by
  have : (k, e) ∈ F := List.count_pos_iff.1 (Nat.pos_of_ne_zero h)
  exact hFe _ this
/-- What one more row gives a table's row, behind some places. -/
def part (F : List (Nat × Nat)) (m k b i : Nat) : Nat := (if k ≤ m ∧ m - k ≤ i then cnt F k (i - (m - k)) else 0) + (if k = 0 then 0 else sumTo b (fun b => if b ≤ i then cnt F (k - 1) (i - b) else 0))
theorem sum_far {k i : Nat} : ∀ b, sumTo b (fun b => if b ≤ i then cnt F k (i - b) else 0) ≠ 0 → i < 40 + b
  | 0, h => absurd rfl h
  | b + 1, h => by
    rw [sumTo] at h
    by_cases h1 : sumTo b (fun b => if b ≤ i then cnt F k (i - b) else 0) = 0
    · rw [h1, Nat.zero_add] at h
      by_cases h2 : b ≤ i
      · rw [if_pos h2] at h
        have := cnt_far hn hm hF hFe k (i - b) h
        omega
      · omega
    · have := sum_far b h1; omega
theorem part_far {k b i : Nat} (hb : b ≤ 7) (h : part F m k b i ≠ 0) : i < 64 := by
  unfold part at h
  by_cases h1 : (if k ≤ m ∧ m - k ≤ i then cnt F k (i - (m - k)) else 0) = 0
  · rw [h1, Nat.zero_add] at h
    by_cases h2 : k = 0
    · rw [if_pos h2] at h; exact absurd rfl h
    · rw [if_neg h2] at h
      have := sum_far hn hm hF hFe b h
      omega
  · by_cases h3 : k ≤ m ∧ m - k ≤ i
    · rw [if_pos h3] at h1
      have := cnt_far hn hm hF hFe _ _ h1
      omega
    · rw [if_neg h3] at h1; exact absurd rfl h1
theorem part_le {k b i : Nat} (hb : b ≤ 7) : part F m k b i ≤ 8000000 := by
  unfold part
  have h1 : (if k ≤ m ∧ m - k ≤ i then cnt F k (i - (m - k)) else 0) ≤ 1000000 := by
    split
    · exact cnt_le hn hm hF hFe _ _
    · omega
  have h2 : (if k = 0 then 0 else sumTo b (fun b => if b ≤ i then cnt F (k - 1) (i - b) else 0)) ≤ 7000000 := by
    split
    · omega
    · have := sumTo_le (f := fun b => if b ≤ i then cnt F (k - 1) (i - b) else 0) (B := 1000000) (fun b => by
        split
        · exact cnt_le hn hm hF hFe _ _
        · omega) b
      have h3 : b * 1000000 ≤ 7 * 1000000 := Nat.mul_le_mul_right _ hb
      omega
  omega
theorem old_short {T : List (List Int)} {k j : Nat} (h : Mid n m F T k) (hj : j < k) (hjn : j ≤ n) : (T.getD j []).length ≤ 64 :=
  RepC.short (h.old j hj hjn) (fun i hi => by have := cnt_far hn hm hF hFe j i hi; omega)
theorem all_l2 (hl : l.length = n) {g : List (List Int)} {T : List (List Int)} {k : Nat} (hk : k ≤ n) (hT : Mid n m F T (k + 1))
    (next : ∀ T', Mid n m F T' k → Ev (fun q => spec_weAll.l1 q l T' m ((k : Int) - 1) l (l.length : Int) r) g) :
    ∀ (d b : Nat) (row : List Int), b + d = m + 1 - k → RepC row (part F m k b) → Ev (fun q => spec_weAll.l2 q l T m k row b l (l.length : Int) r) g
  | 0, b, row, hb, hr => by
    have w1 : wrap64 ((m : Int) - k) = (m : Int) - k := w64 (by omega) (by omega)
    have w2 : wrap64 ((m : Int) - k + 1) = (m : Int) - k + 1 := w64 (by omega) (by omega)
    have w3 : wrap64 ((k : Int) - 1) = (k : Int) - 1 := w64 (by omega) (by omega)
    have hM : Mid n m F (T.set k row) k := by
      refine ⟨by rw [List.length_set]; exact hT.len, fun j h1 h2 => ?_, fun j h1 h2 => ?_⟩
      · rw [set_getD1 _ _ _ _ (by rw [hT.len]; omega)]
        by_cases e : j = k
        · rw [if_pos e]
          refine hr.congr (fun i => ?_)
          rw [e]
          unfold part nextC
          by_cases hk0 : k = 0
          · rw [if_pos hk0, if_pos hk0]
          · rw [if_neg hk0, if_neg hk0, show b = m + 1 - k by omega]
        · rw [if_neg e]; exact hT.new j (by omega) h2
      · rw [set_getD1 _ _ _ _ (by rw [hT.len]; omega), if_neg (by omega)]
        exact hT.old j (by omega) h2
    refine Ev.step (fun q => ?_) (next _ hM)
    rw [spec_weAll.l2, w1, w2, w3]
    by_cases hk0 : (k : Int) > 0
    · rw [if_pos hk0, if_neg (by omega), if_pos (by omega), if_pos (by rw [hT.len]; omega), Int.toNat_natCast]
    · rw [if_neg hk0, if_pos (by omega), if_pos (by rw [hT.len]; omega), Int.toNat_natCast]
  | d + 1, b, row, hb, hr => by
    have hb7 : b ≤ 7 := by clear hT next hr; omega
    have hbm : (b : Int) < (m : Int) - k + 1 := by clear hT next hr; omega
    have w1 : wrap64 ((m : Int) - k) = (m : Int) - k := w64 (by omega) (by omega)
    have w2 : wrap64 ((m : Int) - k + 1) = (m : Int) - k + 1 := w64 (by omega) (by omega)
    have w4 : wrap64 ((b : Int) + 1) = ((b + 1 : Nat) : Int) := by rw [w64 (by omega) (by omega)]; rfl
    by_cases hk0 : k = 0
    · have hM : Mid n m F (T.set k row) k := by
        refine ⟨by rw [List.length_set]; exact hT.len, fun j h1 h2 => ?_, fun j h1 h2 => by omega⟩
        rw [set_getD1 _ _ _ _ (by rw [hT.len]; omega)]
        by_cases e : j = k
        · rw [if_pos e]
          refine hr.congr (fun i => ?_)
          rw [e]
          unfold part nextC
          rw [if_pos hk0, if_pos hk0]
        · rw [if_neg e]; exact hT.new j (by omega) h2
      have w3 : wrap64 ((k : Int) - 1) = (k : Int) - 1 := w64 (by omega) (by omega)
      refine Ev.step (fun q => ?_) (next _ hM)
      rw [spec_weAll.l2, w3, if_neg (by omega), if_pos (by omega), if_pos (by rw [hT.len]; omega), Int.toNat_natCast]
    · have w3 : wrap64 ((k : Int) - 1) = ((k - 1 : Nat) : Int) := by rw [w64 (by omega) (by omega)]; omega
      have hold := hT.old (k - 1) (by omega) (by omega)
      have hs := old_short hn hm hF hFe hT (show k - 1 < k + 1 by omega) (by omega)
      obtain ⟨out, h1, h2⟩ := weAdd (by_ := b) hr hold (Nat.le_trans (RepC.short hr (fun i hi => part_far hn hm hF hFe hb7 hi)) (by decide)) (Nat.le_trans hs (by decide)) (Nat.le_trans hb7 (by decide)) (fun i => Nat.le_trans (part_le hn hm hF hFe (k := k) (b := b) (i := i) hb7) (by decide)) (fun i => Nat.le_trans (cnt_le hn hm hF hFe (k - 1) i) (by decide))
      have ih := all_l2 hl hk hT next d (b + 1) out (by omega) (h2.congr (fun i => by
        unfold part
        rw [if_neg hk0, if_neg hk0, sumTo, Nat.add_assoc]))
      refine Ev.step (fun q => by rw [spec_weAll.l2, w1, w2, w3, if_pos (by omega), if_pos hbm, if_pos (by omega), if_pos (by rw [hT.len]; omega), rd1_nat, w4]) ?_
      refine Ev.bind h1 ?_
      exact ih
theorem all_l1 (hl : l.length = n) {g : List (List Int)} (next : ∀ T', Mid n m F T' 0 → Ev (fun q => spec_weAll.l0 q l T' l (l.length : Int) (wrap64 ((r : Int) + 1))) g) :
    ∀ (k : Nat) (T : List (List Int)), k ≤ n + 1 → Mid n m F T k → Ev (fun q => spec_weAll.l1 q l T m ((k : Int) - 1) l (l.length : Int) r) g
  | 0, T, hk, hT => by
    refine Ev.step (fun q => ?_) (next T hT)
    rw [spec_weAll.l1, if_neg (by omega)]
  | k + 1, T, hk, hT => by
    have ih := fun T' h' => all_l1 hl next k T' (by omega) h'
    have e0 : ((k + 1 : Nat) : Int) - 1 = k := by omega
    rw [e0]
    have w1 : ∀ h : k ≤ m, wrap64 ((m : Int) - k) = ((m - k : Nat) : Int) := fun h => by rw [w64 (by omega) (by omega)]; omega
    by_cases hkm : k ≤ m
    · have hold := hT.old k (by omega) (by omega)
      have hs := old_short hn hm hF hFe hT (show k < k + 1 by omega) (by omega)
      obtain ⟨out, h1, h2⟩ := weAdd (a := []) (by_ := m - k) RepC.nil hold (by simp) (by omega) (by omega) (fun i => by omega) (fun i => by have := cnt_le hn hm hF hFe k i; omega)
      have h3 := all_l2 hn hm hF hFe hl (r := r) (by omega) hT ih (m + 1 - k) 0 out (by omega) (h2.congr (fun i => by
        unfold part
        rw [Nat.zero_add]
        by_cases q : m - k ≤ i
        · rw [if_pos q, if_pos ⟨hkm, q⟩]; by_cases hk0 : k = 0 <;> simp [hk0, sumTo]
        · rw [if_neg q, if_neg (by omega)]; by_cases hk0 : k = 0 <;> simp [hk0, sumTo]))
      refine Ev.step (fun q => by rw [spec_weAll.l1, if_pos (by omega), if_pos (by omega), if_pos (by omega), if_pos (by rw [hT.len]; omega), rd1_nat, w1 hkm]) ?_
      refine Ev.bind h1 ?_
      exact Ev.step (fun q => by rw [spec_weAll.j2]; rfl) h3
    · have h3 := all_l2 hn hm hF hFe hl (r := r) (by omega) hT ih 0 0 [] (by omega) (RepC.nil.congr (fun i => by
        unfold part
        rw [if_neg (by omega)]
        by_cases hk0 : k = 0 <;> simp [hk0, sumTo]))
      refine Ev.step (fun q => by rw [spec_weAll.l1, if_pos (by omega), if_neg (by omega)]) ?_
      exact Ev.step (fun q => by rw [spec_weAll.j2]; rfl) h3
end
theorem Fk_free {l : List Int} (hm : ∀ r, (l.getD r 0).toNat ≤ 6) : ∀ r x, x ∈ Fk l r → x.2 ≤ 6 * r
  | 0, x, h => by rw [Fk, List.mem_singleton] at h; subst h; exact Nat.le_refl _
  | r + 1, x, h => by
    rw [Fk, List.mem_flatMap] at h
    obtain ⟨y, hy, hx⟩ := h
    have q := Fk_free hm r y hy
    have q2 := hm r
    rw [BagK.step, List.mem_cons, List.mem_map] at hx
    rcases hx with rfl | ⟨i, hi, rfl⟩
    · simp only []; omega
    · rw [List.mem_range] at hi
      simp only []; omega
theorem weAll {l : List Int} (h : lenB l = true) : Ev (fun k => spec_weAll.f k l) (wtab l) := by
  obtain ⟨h1, h2, h3⟩ := len_of h
  have hr : riseFrom l 1 = true := by unfold lenB at h; simp only [Bool.and_eq_true] at h; exact h.2
  have hgd : ∀ i, 0 ≤ l.getD i 0 ∧ l.getD i 0 ≤ l.length := by
    intro i
    by_cases hi : i < l.length
    · rw [gD_lt _ _ hi]; exact h3 i hi
    · rw [gD_ge _ _ (by omega)]; omega
  have hm6 : ∀ i, (l.getD i 0).toNat ≤ 6 := fun i => by have := hgd i; omega
  have hlen : ∀ r, r ≤ l.length → (Fk l r).length ≤ 1000000 := by
    intro r hr
    have a := Fk_len hm6 r
    have b : 7 ^ r ≤ 7 ^ 6 := Nat.pow_le_pow_right (by omega) (by omega)
    omega
  have key : ∀ (d r : Nat) (T : List (List Int)), r + d = l.length → RepT l.length T (Fk l r) → Ev (fun q => spec_weAll.l0 q l T l (l.length : Int) r) (wtab l) := by
    intro d
    induction d with
    | zero =>
      intro r T hrd hT
      refine Ev.step (f := fun _ => some T) (fun k => by rw [spec_weAll.l0, if_neg (by omega)]) (evEq (Ev.now _) ?_)
      rw [show r = l.length by omega] at hT
      exact hT.eq (wtab_rep h)
    | succ d ih =>
      intro r T hrd hT
      have hr2 : r < l.length := by omega
      have w2 : wrap64 ((r : Int) + 1) = ((r + 1 : Nat) : Int) := by rw [w64 (by omega) (by omega)]; rfl
      obtain ⟨m, hm⟩ : ∃ m, m = (l.getD r 0).toNat := ⟨_, rfl⟩
      have hmi : rd l (r : Int) = (m : Int) := by rw [rd_nat, hm]; have := hgd r; omega
      have hm62 := hm6 r
      have hle : ∀ x ∈ Fk l r, x.1 ≤ m := by
        intro x hx
        refine (Fk_rooks r x hx).2 m (fun i hi => ?_)
        have := rise_le hr (r - i) i (by omega)
        rw [show i + (r - i) = r by omega] at this
        omega
      have hfe : ∀ x ∈ Fk l r, x.2 < 40 := fun x hx => by have := Fk_free hm6 r x hx; omega
      have e0 : ((l.length + 1 : Nat) : Int) - 1 = (l.length : Int) := by omega
      have := all_l1 (l := l) (r := r) (m := m) (n := l.length) h2 (by omega) (hlen r (by omega)) hfe rfl (fun T' hT' => by
        rw [w2]
        refine ih (r + 1) T' (by omega) ⟨hT'.len, fun k hk => (hT'.new k (by omega) hk).congr (fun i => ?_)⟩
        rw [Fk, ← hm, cnt_step m k i _ hle]) (l.length + 1) T (Nat.le_refl _) ⟨hT.len, fun j h1 h2 => by omega, fun j h1 h2 => hT.rep j h2⟩
      rw [e0] at this
      refine Ev.step (fun q => ?_) this
      rw [spec_weAll.l0, if_pos (by omega), if_pos (by omega), if_pos (by omega), hmi]
  have e1 : wrap64 ((l.length : Int) + 1) = ((l.length + 1 : Nat) : Int) := by rw [w64 (by omega) (by omega)]; rfl
  unfold spec_weAll.f
  refine Ev.congr (fun k => by rw [e1, if_pos (by omega), Int.toNat_natCast, if_pos (by omega), Option.bind_some, if_pos (by rw [List.length_replicate]; omega)]) ?_
  refine key l.length 0 _ (by omega) ⟨by rw [List.length_set, List.length_replicate], fun k hk => ?_⟩
  rw [show ((0 : Int)).toNat = 0 from rfl, set_getD1 _ _ _ _ (by rw [List.length_replicate]; omega)]
  by_cases e : k = 0
  · rw [if_pos e]
    refine ⟨fun i => ?_, fun i hi => ?_⟩
    · rw [Fk, cnt_cons, cnt_nil, Nat.zero_add]
      simp only []
      by_cases hi : i = 0
      · rw [if_pos ⟨e, hi⟩, hi]; rfl
      · rw [if_neg (by omega), gD_ge _ _ (by simp; omega)]; rfl
    · have hi0 : i = 0 := by simpa using hi.symm
      rw [Fk, cnt_cons, cnt_nil, e, hi0]; simp
  · rw [if_neg e, gD_lt _ _ (by rw [List.length_replicate]; omega), List.getElem_replicate]
    refine RepC.nil.congr (fun i => ?_)
    rw [Fk, cnt_cons, cnt_nil]
    simp only []
    rw [if_neg (by omega)]
end Go.Proofs.Ytlhblnphfpijkaa.WeAllK
end
section
namespace Go.Proofs.Ytlhblnphfpijkaa.WValK
set_option linter.unusedVariables false
open Go.RowKit Go.Proofs.Ytlhblnphfpijkaa.Q Go.Proofs.YtlhblnphfpijkaaW.PrintWords Go.Proofs.YtlhblnphfpijkaaW.PrintLast Go.Proofs.YtlhblnphfpijkaaW.PrintMore
open Go.Proofs.YtlhblnphfpijkaaL Go.Proofs.Ytlhblnphfpijkaa.LawK Go.Proofs.Ytlhblnphfpijkaa.BagK Go.Proofs.Ytlhblnphfpijkaa.LensK Go.Proofs.Ytlhblnphfpijkaa.BoardK Go.Proofs.Ytlhblnphfpijkaa.WeAllK
theorem withinR (a b c : Int) : impl_within.f a b c = some (inR b c a) := by
  unfold impl_within.f inR
  by_cases h : b ≤ a
  · rw [if_pos h]; simp [h]
  · rw [if_neg h]; congr 1; exact (decide_eq_false (by omega)).symm
theorem wtab_len {l : List Int} (h : lenB l = true) : (wtab l).length = l.length + 1 := (wtab_rep h).len
theorem wtab_row {l : List Int} (h : lenB l = true) (k : Nat) : ((wtab l).getD k []).length ≤ 64 := by
  obtain ⟨h1, h2, h3⟩ := len_of h
  by_cases hk : k ≤ l.length
  · refine RepC.short ((wtab_rep h).rep k hk) (fun i hi => ?_)
    have hm6 : ∀ i, (l.getD i 0).toNat ≤ 6 := by
      intro i
      by_cases hi : i < l.length
      · rw [gD_lt _ _ hi]; have := h3 i hi; omega
      · rw [gD_ge _ _ (by omega)]; exact Nat.zero_le _
    have := Fk_free hm6 l.length (k, i) (List.count_pos_iff.1 (Nat.pos_of_ne_zero hi))
    simp only [] at this
    omega
  · rw [gD_ge _ _ (by rw [wtab_len h]; omega)]; exact Nat.zero_le _
theorem asked {l : List Int} (k : Int) (hl : l.length ≤ 1048576) : Ev (fun q => spec_weAsked.f q l k) (lenB l && inR 0 l.length k) := by
  unfold spec_weAsked.f
  refine Ev.bind (spec_good hl) ?_
  by_cases h : lenB l = true
  · rw [h, Bool.true_and]
    exact Ev.congr (fun q => by rw [if_pos rfl, l1In_f, Option.bind_some]) (Ev.now _)
  · rw [show lenB l = false by simpa using h, Bool.false_and]
    exact Ev.congr (fun q => if_neg (by simp)) (Ev.now _)
theorem inR_nat {n : Nat} {k : Int} (h : inR 0 n k = true) : 0 ≤ k ∧ k ≤ n := of_decide_eq_true h
/-- What weights of so many rooks are. -/
def ofAns (l : List Int) (k : Int) : List Int × Bool := if (lenB l && inR 0 l.length k) = true then ((wtab l).getD k.toNat [], true) else ([], false)
theorem impl_of {l : List Int} (k : Int) (hl : l.length ≤ 1048576) : Ev (fun q => impl_WeightsOf.f q l k) (ofAns l k) := by
  unfold impl_WeightsOf.f ofAns
  refine Ev.bind (impl_good hl) ?_
  by_cases h : lenB l = true
  · rw [h, Bool.true_and]
    refine Ev.congr (fun q => by rw [if_pos rfl, withinR, Option.bind_some]) ?_
    by_cases h2 : inR 0 l.length k = true
    · have hk := inR_nat h2
      rw [if_pos h2, if_pos h2]
      refine Ev.congr (fun q => by rw [impl_weights.f, if_pos h, Option.bind_some, if_pos (by omega), if_pos (by rw [wtab_len h]; omega)]) ?_
      unfold rd_L1
      exact Ev.now _
    · rw [if_neg h2, if_neg h2]; exact Ev.now _
  · rw [show lenB l = false by simpa using h, Bool.false_and, if_neg (by simp), if_neg (by simp)]
    exact Ev.now _
theorem ofAns_len (l : List Int) (k : Int) : (ofAns l k).1.length ≤ 64 := by
  unfold ofAns
  split
  · rename_i h
    rw [Bool.and_eq_true] at h
    exact wtab_row h.1 _
  · exact Nat.zero_le _
end Go.Proofs.Ytlhblnphfpijkaa.WValK
end
section
namespace Go.Proofs.Ytlhblnphfpijkaa.Q
open Go.RowKit Go.Proofs.YtlhblnphfpijkaaW.PrintWords Go.Proofs.YtlhblnphfpijkaaW.PrintLast Go.Proofs.YtlhblnphfpijkaaW.PrintMore
attribute [local go_sem] max2_int min2_int max_two min_two max_three min_three max_four min_four   -- for this text's walks alone
set_option linter.unusedVariables false
set_option linter.unusedSimpArgs false

/-! ### spec_wePower: function 70 -/
def spec_wePower.l0 : Nat → Int → Int → Int → Option (Int)
  | 0, _, _, _ => none
  | k + 1, x0, x1, x5 => if x1 > 0 then (spec_wePower.l0 k x0 (wrap64 (x1 - 1)) (wrap64 (x5 * x0))) else (some x5)
def spec_wePower.f (k : Nat) (a0 : Int) (a1 : Int) : Option (Int) := spec_wePower.l0 k a0 a1 1
theorem spec_wePower.mono_l : ∀ k, (∀ y0 y1 y2, LeO (spec_wePower.l0 k y0 y1 y2) (spec_wePower.l0 (k + 1) y0 y1 y2))
  | 0 => fun _ _ _ r h => by simp [spec_wePower.l0] at h
  | k + 1 => by
    have ih0 := spec_wePower.mono_l k
    · intro y0 y1 y2
      unfold spec_wePower.l0
      repeat' first
      | (with_reducible exact ih0 _ _ _)
      | (with_reducible exact LeO.refl _)
      | (with_reducible exact LeO.none _)
      | (with_reducible refine LeO.ite ?_ ?_)
      | (with_reducible refine LeO.bind ?_ (fun _ => ?_))
      | exact ih0 _ _ _
      | exact LeO.none _
      | refine LeO.ite ?_ ?_
      | refine LeO.bind ?_ (fun _ => ?_)
theorem spec_wePower.mono : ∀ a0 a1 k, LeO (spec_wePower.f k a0 a1) (spec_wePower.f (k + 1) a0 a1) := by
  intro a0 a1 k
  have ih0 := spec_wePower.mono_l k
  unfold spec_wePower.f
  repeat' first
      | (with_reducible exact ih0 _ _ _)
      | (with_reducible exact LeO.refl _)
      | (with_reducible exact LeO.none _)
      | (with_reducible refine LeO.ite ?_ ?_)
      | (with_reducible refine LeO.bind ?_ (fun _ => ?_))
      | exact ih0 _ _ _
      | exact LeO.none _
      | refine LeO.ite ?_ ?_
      | refine LeO.bind ?_ (fun _ => ?_)
set_option maxHeartbeats 8000000 in
set_option maxRecDepth 100000 in
theorem spec_wePower.calls (k : Nat) (a0 : Int) (a1 : Int) (r : Int) (w : World) (h : spec_wePower.f k a0 a1 = some r) :
    Calls Try.prog 70 #[.int .i64 a0, .int .i64 a1] w fun e w' => e = .returned (.int .i64 r) ∧ Drawn0 w w' := by
  have H : (spec_wePower.l0 k a0 a1 1) = some r := h
  clear h
  have H' := Aside0.mk H
  clear H
  go_enter Try.func70, Try.ntmps70
  go_wp2
  go_loopg [1, 5] k (fun kq v1 v5 w' => ∃ (x1_1 : Int) (x5_1 : Int), v1 = .int .i64 x1_1 ∧ v5 = .int .i64 x5_1 ∧ Aside0 (spec_wePower.l0 kq a0 x1_1 x5_1 = some r) ∧ Aside0 (kq ≤ k) ∧ Drawn0 w w')
  case atStart => exact ⟨(a1), (1), (by first | rfl | (simp; done) | (simp [*]; done)), (by first | rfl | (simp; done) | (simp [*]; done)), H', ⟨Nat.le_refl _⟩, by repeat (first | exact Drawn0.refl _ | apply Drawn0.step)⟩
  case round =>
    clear H'
    try clear p2
    obtain ⟨x1_1, x5_1, rfl, rfl, HA, HK1, ⟨m1, rfl⟩⟩ := hrel
    cases gk with
    | zero => exact absurd HA.out (by simp [spec_wePower.l0])
    | succ k1 =>
      have H := HA.out
      clear HA
      simp only [spec_wePower.l0] at H
      by_cases c3 : x1_1 > 0
      · rw [if_pos c3] at H
        have c3b0 : decide (0 < x1_1) = true := decide_eq_true c3
        clear c3
        have H' := Aside0.mk H
        clear H
        go_wp2
        go_roundg k1
        case measure => have := HK1.out; omega
        case rel => exact ⟨(wrap64 (x1_1 - 1)), (wrap64 (x5_1 * a0)), (by first | rfl | (simp; done) | (simp [*]; done)), (by first | rfl | (simp; done) | (simp [*]; done)), H', ⟨by have := HK1.out; omega⟩, by repeat (first | exact Drawn0.refl _ | apply Drawn0.step)⟩
      · rw [if_neg c3] at H
        have c3b0 : decide (0 < x1_1) = false := decide_eq_false c3
        clear c3
        obtain rfl := Option.some.inj H
        go_wp2
        go_ret
        exact ⟨by first | rfl | (simp; done) | (simp [*]; done), by repeat (first | exact Drawn0.refl _ | apply Drawn0.step)⟩

end Go.Proofs.Ytlhblnphfpijkaa.Q
end
section
namespace Go.Proofs.Ytlhblnphfpijkaa.WValK
set_option linter.unusedVariables false
open Go.RowKit Go.Proofs.Ytlhblnphfpijkaa.Q Go.Proofs.YtlhblnphfpijkaaW.PrintWords Go.Proofs.YtlhblnphfpijkaaW.PrintLast Go.Proofs.YtlhblnphfpijkaaW.PrintMore
open Go.Proofs.YtlhblnphfpijkaaL
theorem evEq1 {α : Type} {g : Nat → Option α} {a b : α} (h : Ev g a) (e : a = b) : Ev g b := e ▸ h
def wpow (q : Int) : Nat → Int
  | 0 => 1
  | n + 1 => wrap64 (wpow q n * q)
theorem impl_pow (q : Int) {n : Int} (hn : n ≤ 1000) : Ev (fun k => impl_power.f k q n) (wpow q n.toNat) := by
  have key : ∀ (d j : Nat), j + d = n.toNat → Ev (fun k => impl_power.l0 k q (wpow q j) n j) (wpow q n.toNat) := by
    intro d
    induction d with
    | zero => intro j hj; exact Ev.step (f := fun _ => some (wpow q j)) (fun k => by rw [impl_power.l0, if_neg (by omega)]) (evEq1 (Ev.now _) (by rw [show j = n.toNat by omega]))
    | succ d ih =>
      intro j hj
      have w1 : wrap64 ((j : Int) + 1) = ((j + 1 : Nat) : Int) := by rw [w64 (by omega) (by omega)]; rfl
      refine Ev.step (fun k => ?_) (ih (j + 1) (by omega))
      rw [impl_power.l0, if_pos (by omega), w1, wpow]
  exact key n.toNat 0 (by omega)
theorem spec_pow (q : Int) {n : Int} (h0 : -9000000000 ≤ n) (hn : n ≤ 1000) : Ev (fun k => spec_wePower.f k q n) (wpow q n.toNat) := by
  have key : ∀ (d j : Nat) (m : Int), m.toNat = d → m ≤ 1000 → -9000000000 ≤ m → j + d = n.toNat → Ev (fun k => spec_wePower.l0 k q m (wpow q j)) (wpow q n.toNat) := by
    intro d
    induction d with
    | zero => intro j m hm h1 h2 hj; exact Ev.step (f := fun _ => some (wpow q j)) (fun k => by rw [spec_wePower.l0, if_neg (by omega)]) (evEq1 (Ev.now _) (by rw [show j = n.toNat by omega]))
    | succ d ih =>
      intro j m hm h1 h2 hj
      have w1 : wrap64 (m - 1) = m - 1 := w64 (by omega) (by omega)
      refine Ev.step (fun k => ?_) (ih (j + 1) (m - 1) (by omega) (by omega) (by omega) (by omega))
      rw [spec_wePower.l0, if_pos (by omega), w1, wpow]
  exact key n.toNat 0 n rfl hn h0 (by omega)
end Go.Proofs.Ytlhblnphfpijkaa.WValK
end
section
namespace Go.Proofs.Ytlhblnphfpijkaa.WValK
set_option linter.unusedVariables false
open Go.RowKit Go.Proofs.Ytlhblnphfpijkaa.Q Go.Proofs.YtlhblnphfpijkaaW.PrintWords Go.Proofs.YtlhblnphfpijkaaW.PrintLast Go.Proofs.YtlhblnphfpijkaaW.PrintMore
open Go.Proofs.YtlhblnphfpijkaaL
def rsum (q : Int) (row : List Int) : Nat → Nat → Int → Int
  | 0, _, s => s
  | d + 1, e, s => rsum q row d (e + 1) (wrap64 (s + wrap64 (row.getD e 0 * wpow q e)))
theorem impl_at (q : Int) {row : List Int} (hl : row.length ≤ 64) : Ev (fun k => impl_at.f k row q) (rsum q row row.length 0 0) := by
  have key : ∀ (d e : Nat) (s : Int), e + d = row.length → Ev (fun k => impl_at.l0 k q s row (row.length : Int) e) (rsum q row d e s) := by
    intro d
    induction d with
    | zero => intro e s h; exact Ev.step (f := fun _ => some s) (fun k => by rw [impl_at.l0, if_neg (by omega)]) (Ev.now _)
    | succ d ih =>
      intro e s h
      have w1 : wrap64 ((e : Int) + 1) = ((e + 1 : Nat) : Int) := by rw [w64 (by omega) (by omega)]; rfl
      rw [rsum]
      refine Ev.step (fun k => by rw [impl_at.l0, if_pos (by omega), if_pos (by omega), if_pos (by omega), rd_nat, w1]) ?_
      refine Ev.bind (impl_pow q (n := (e : Int)) (by omega)) ?_
      rw [Int.toNat_natCast]
      exact ih (e + 1) _ (by omega)
  exact key row.length 0 0 (by omega)
theorem spec_at (q : Int) {row : List Int} (hl : row.length ≤ 64) : Ev (fun k => spec_weAt.f k row q) (rsum q row row.length 0 0) := by
  have key : ∀ (d e : Nat) (s : Int), e + d = row.length → Ev (fun k => spec_weAt.l0 k q s (wpow q e) row (row.length : Int) e) (rsum q row d e s) := by
    intro d
    induction d with
    | zero => intro e s h; exact Ev.step (f := fun _ => some s) (fun k => by rw [spec_weAt.l0, if_neg (by omega)]) (Ev.now _)
    | succ d ih =>
      intro e s h
      have w1 : wrap64 ((e : Int) + 1) = ((e + 1 : Nat) : Int) := by rw [w64 (by omega) (by omega)]; rfl
      rw [rsum]
      refine Ev.step (fun k => ?_) (ih (e + 1) _ (by omega))
      rw [spec_weAt.l0, if_pos (by omega), if_pos (by omega), if_pos (by omega), rd_nat, w1, wpow]
  exact key row.length 0 0 (by omega)
end Go.Proofs.Ytlhblnphfpijkaa.WValK
end
section
namespace Go.Proofs.Ytlhblnphfpijkaa.Pure
set_option linter.unusedVariables false
open Go.RowKit Go.Proofs.Ytlhblnphfpijkaa.Q Go.Proofs.YtlhblnphfpijkaaW.PrintWords Go.Proofs.YtlhblnphfpijkaaW.PrintLast Go.Proofs.YtlhblnphfpijkaaW.PrintMore
open Go.Proofs.YtlhblnphfpijkaaL Go.Proofs.Ytlhblnphfpijkaa.LawK Go.Proofs.Ytlhblnphfpijkaa.BoardK Go.Proofs.Ytlhblnphfpijkaa.LensK Go.Proofs.Ytlhblnphfpijkaa.BagK Go.Proofs.Ytlhblnphfpijkaa.WeAllK Go.Proofs.Ytlhblnphfpijkaa.WValK
def atAns (l : List Int) (k q : Int) : Int × Bool := if (lenB l && inR 0 l.length k) = true then (if inR 2 3 q = true then (rsum q ((wtab l).getD k.toNat []) ((wtab l).getD k.toNat []).length 0 0, true) else (0, false)) else (0, false)
theorem spec_atA {l : List Int} (k q : Int) (hl : l.length ≤ 1048576) : Ev (fun n => spec_WeightAt.f n l k q) (atAns l k q) := by
  unfold spec_WeightAt.f atAns
  refine Ev.bind (asked k hl) ?_
  by_cases h : (lenB l && inR 0 l.length k) = true
  · rw [h, if_pos rfl]
    rw [Bool.and_eq_true] at h
    have hk := inR_nat h.2
    refine Ev.congr (fun n => by rw [if_pos rfl, spec_weBase.f, l1In_f, Option.bind_some, Option.bind_some]) ?_
    by_cases h2 : inR 2 3 q = true
    · rw [h2, if_pos rfl]
      refine Ev.step (fun n => by rw [spec_WeightAt.j0, if_neg (by simp)]) ?_
      refine Ev.bind (weAll h.1) ?_
      refine Ev.congr (fun n => by rw [if_pos (by omega), if_pos (by rw [wtab_len h.1]; omega), rd_L1]) ?_
      exact Ev.bind (spec_at q (wtab_row h.1 _)) (Ev.now _)
    · rw [if_neg h2, show inR 2 3 q = false by simpa using h2]
      exact Ev.step (fun n => by rw [spec_WeightAt.j0, if_pos (by simp)]) (Ev.now _)
  · rw [show (lenB l && inR 0 l.length k) = false by simpa using h, if_neg (by simp)]
    refine Ev.congr (fun n => if_neg (by simp)) ?_
    exact Ev.step (fun n => by rw [spec_WeightAt.j0, if_pos (by simp)]) (Ev.now _)
theorem impl_atA {l : List Int} (k q : Int) (hl : l.length ≤ 1048576) : Ev (fun n => impl_WeightAt.f n l k q) (atAns l k q) := by
  unfold impl_WeightAt.f atAns
  refine Ev.bind (impl_of k hl) ?_
  unfold ofAns
  by_cases h : (lenB l && inR 0 l.length k) = true
  · rw [h, if_pos rfl]
    rw [Bool.and_eq_true] at h
    refine Ev.congr (fun n => by rw [if_pos rfl, impl_isQ.f, withinR, Option.bind_some, Option.bind_some]) ?_
    by_cases h2 : inR 2 3 q = true
    · rw [if_pos h2]
      refine Ev.congr (fun n => if_pos h2) ?_
      exact Ev.bind (impl_at q (wtab_row h.1 _)) (Ev.now _)
    · rw [if_neg h2]
      exact Ev.congr (fun n => if_neg h2) (Ev.now _)
  · rw [show (lenB l && inR 0 l.length k) = false by simpa using h, if_neg (by simp)]
    exact Ev.congr (fun n => by rw [if_neg (by simp), if_neg (by simp)]) (Ev.now _)
theorem FnExactWeightAt : laws_FnExactWeightAt.Pure := by
  intro l a1 a2 _ _ _ _ _
  unfold laws_FnExactWeightAt.f
  refine ends ?_
  by_cases hl : l.length ≤ 1048576
  · refine Ev.congr (fun k => by rw [if_neg (by omega)]) ?_
    have tl := toIntS hl
    refine Ev.bind tl (Ev.bind (spec_atA a1 a2 hl) (Ev.bind tl (Ev.bind (impl_atA a1 a2 hl) ?_)))
    refine Ev.congr (fun k => by rw [if_pos rfl]) ?_
    refine Ev.step (fun k => by rw [laws_FnExactWeightAt.j0, if_neg (by simp)]) ?_
    refine Ev.bind tl (Ev.bind (eqIntS (by omega)) ?_)
    exact Ev.congr (fun k => by rw [if_pos (by simp)]) (Ev.now _)
  · exact Ev.congr (fun k => by rw [if_pos (by omega)]) (Ev.now _)
end Go.Proofs.Ytlhblnphfpijkaa.Pure
end
