-- Written by this session's copy of the print (wip/tools): Lean checks it.
import Derived.Test.YtljcbimhdoklbaaR0
import Derived.Test.YtljcbimhdoklbaaR1
namespace Go.Proofs.Ytljcbimhdoklbaa.R
open Go.RowKit Go.Proofs.YtljcbimhdoklbaaW.PrintWords Go.Proofs.YtljcbimhdoklbaaW.PrintLast Go.Proofs.YtljcbimhdoklbaaW.PrintMore
attribute [local go_sem] max2_int min2_int max_two min_two max_three min_three max_four min_four   -- for this text's walks alone
set_option linter.unusedVariables false
set_option linter.unusedSimpArgs false

/-! ### impl_CountCouples: function 26 -/
mutual
def impl_CountCouples.l0 : Nat → Int → List Int → Int → Int → Option (Int × Bool)
  | 0, _, _, _, _ => none
  | k + 1, x0, x4, x18, x19 => if x19 < x18 then (if 0 ≤ x0 then (if 0 ≤ (shl .i64 1 x0) then (if (shl .i64 1 x0 : Int).toNat ≤ 35184372088832 then (impl_CountCouples.l1 k x0 x19 (List.replicate (shl .i64 1 x0 : Int).toNat 0) x18 x19 x4 (x4.length : Int) 0) else (none)) else (none)) else (none)) else (if 0 ≤ x0 then (if 0 ≤ (wrap64 ((shl .i64 1 x0) - 1)) then (if (wrap64 ((shl .i64 1 x0) - 1)) < (x4.length : Int) then (some (rd x4 (wrap64 ((shl .i64 1 x0) - 1)), true)) else (none)) else (none)) else (none))
def impl_CountCouples.l1 : Nat → Int → Int → List Int → Int → Int → List Int → Int → Int → Option (Int × Bool)
  | 0, _, _, _, _, _, _, _, _ => none
  | k + 1, x0, x5, x6, x18, x19, x25, x26, x27 => if x27 < x26 then (if 0 ≤ x27 then (if x27 < (x25.length : Int) then (impl_CountCouples.l2 k x0 x5 x6 x27 (rd x25 x27) x18 x19 x25 x26 x27 x0 0) else (none)) else (none)) else (impl_CountCouples.l0 k x0 x6 x18 (wrap64 (x19 + 1)))
def impl_CountCouples.l2 : Nat → Int → Int → List Int → Int → Int → Int → Int → List Int → Int → Int → Int → Int → Option (Int × Bool)
  | 0, _, _, _, _, _, _, _, _, _, _, _, _ => none
  | k + 1, x0, x5, x6, x7, x8, x18, x19, x25, x26, x27, x32, x33 => if x33 < x32 then (if x8 > 0 then (if 0 ≤ x33 then (if (Go.bits .and .i64 (shr .i64 x7 x33) 1) = 0 then (if x33 = x5 then (impl_CountCouples.l2 k x0 x5 x6 x7 x8 x18 x19 x25 x26 x27 x32 (wrap64 (x33 + 1))) else (if x0 = 0 then (none) else (if x33 = (Int.tmod (wrap64 (x5 + 1)) x0) then (impl_CountCouples.l2 k x0 x5 x6 x7 x8 x18 x19 x25 x26 x27 x32 (wrap64 (x33 + 1))) else (if 0 ≤ (Go.bits .or .i64 x7 (shl .i64 1 x33)) then (if (Go.bits .or .i64 x7 (shl .i64 1 x33)) < (x6.length : Int) then (impl_CountCouples.l2 k x0 x5 (x6.set ((Go.bits .or .i64 x7 (shl .i64 1 x33)) : Int).toNat (wrap64 ((rd x6 (Go.bits .or .i64 x7 (shl .i64 1 x33))) + x8))) x7 x8 x18 x19 x25 x26 x27 x32 (wrap64 (x33 + 1))) else (none)) else (none))))) else (impl_CountCouples.l2 k x0 x5 x6 x7 x8 x18 x19 x25 x26 x27 x32 (wrap64 (x33 + 1)))) else (none)) else (impl_CountCouples.l2 k x0 x5 x6 x7 x8 x18 x19 x25 x26 x27 x32 (wrap64 (x33 + 1)))) else (impl_CountCouples.l1 k x0 x5 x6 x18 x19 x25 x26 (wrap64 (x27 + 1)))
end
def impl_CountCouples.f (k : Nat) (a0 : Int) : Option (Int × Bool) := (impl_within.f a0 2 10).bind fun t105 => (if t105 = true then (if 0 ≤ a0 then (if 0 ≤ (shl .i64 1 a0) then (if (shl .i64 1 a0 : Int).toNat ≤ 35184372088832 then ((some (List.replicate (shl .i64 1 a0 : Int).toNat 0 : List Int)).bind fun y106 => (if 0 < (y106.length : Int) then (impl_CountCouples.l0 k a0 (y106.set (0 : Int).toNat 1) a0 0) else (none))) else (none)) else (none)) else (none)) else (some (0, false)))
theorem impl_CountCouples.mono_l : ∀ k, (∀ y0 y1 y2 y3, LeO (impl_CountCouples.l0 k y0 y1 y2 y3) (impl_CountCouples.l0 (k + 1) y0 y1 y2 y3)) ∧ (∀ y0 y1 y2 y3 y4 y5 y6 y7, LeO (impl_CountCouples.l1 k y0 y1 y2 y3 y4 y5 y6 y7) (impl_CountCouples.l1 (k + 1) y0 y1 y2 y3 y4 y5 y6 y7)) ∧ (∀ y0 y1 y2 y3 y4 y5 y6 y7 y8 y9 y10 y11, LeO (impl_CountCouples.l2 k y0 y1 y2 y3 y4 y5 y6 y7 y8 y9 y10 y11) (impl_CountCouples.l2 (k + 1) y0 y1 y2 y3 y4 y5 y6 y7 y8 y9 y10 y11))
  | 0 => ⟨fun _ _ _ _ r h => by simp [impl_CountCouples.l0] at h, fun _ _ _ _ _ _ _ _ r h => by simp [impl_CountCouples.l1] at h, fun _ _ _ _ _ _ _ _ _ _ _ _ r h => by simp [impl_CountCouples.l2] at h⟩
  | k + 1 => by
    obtain ⟨ih0, ih1, ih2⟩ := impl_CountCouples.mono_l k
    refine ⟨?_, ?_, ?_⟩
    · intro y0 y1 y2 y3
      unfold impl_CountCouples.l0
      repeat' first
      | (with_reducible exact ih0 _ _ _ _)
      | (with_reducible exact ih1 _ _ _ _ _ _ _ _)
      | (with_reducible exact ih2 _ _ _ _ _ _ _ _ _ _ _ _)
      | (with_reducible exact LeO.refl _)
      | (with_reducible exact LeO.none _)
      | (with_reducible refine LeO.ite ?_ ?_)
      | (with_reducible refine LeO.bind ?_ (fun _ => ?_))
      | exact ih0 _ _ _ _
      | exact ih1 _ _ _ _ _ _ _ _
      | exact ih2 _ _ _ _ _ _ _ _ _ _ _ _
      | exact LeO.none _
      | refine LeO.ite ?_ ?_
      | refine LeO.bind ?_ (fun _ => ?_)
    · intro y0 y1 y2 y3 y4 y5 y6 y7
      unfold impl_CountCouples.l1
      repeat' first
      | (with_reducible exact ih0 _ _ _ _)
      | (with_reducible exact ih1 _ _ _ _ _ _ _ _)
      | (with_reducible exact ih2 _ _ _ _ _ _ _ _ _ _ _ _)
      | (with_reducible exact LeO.refl _)
      | (with_reducible exact LeO.none _)
      | (with_reducible refine LeO.ite ?_ ?_)
      | (with_reducible refine LeO.bind ?_ (fun _ => ?_))
      | exact ih0 _ _ _ _
      | exact ih1 _ _ _ _ _ _ _ _
      | exact ih2 _ _ _ _ _ _ _ _ _ _ _ _
      | exact LeO.none _
      | refine LeO.ite ?_ ?_
      | refine LeO.bind ?_ (fun _ => ?_)
    · intro y0 y1 y2 y3 y4 y5 y6 y7 y8 y9 y10 y11
      unfold impl_CountCouples.l2
      repeat' first
      | (with_reducible exact ih0 _ _ _ _)
      | (with_reducible exact ih1 _ _ _ _ _ _ _ _)
      | (with_reducible exact ih2 _ _ _ _ _ _ _ _ _ _ _ _)
      | (with_reducible exact LeO.refl _)
      | (with_reducible exact LeO.none _)
      | (with_reducible refine LeO.ite ?_ ?_)
      | (with_reducible refine LeO.bind ?_ (fun _ => ?_))
      | exact ih0 _ _ _ _
      | exact ih1 _ _ _ _ _ _ _ _
      | exact ih2 _ _ _ _ _ _ _ _ _ _ _ _
      | exact LeO.none _
      | refine LeO.ite ?_ ?_
      | refine LeO.bind ?_ (fun _ => ?_)
theorem impl_CountCouples.mono : ∀ a0 k, LeO (impl_CountCouples.f k a0) (impl_CountCouples.f (k + 1) a0) := by
  intro a0 k
  obtain ⟨ih0, ih1, ih2⟩ := impl_CountCouples.mono_l k
  unfold impl_CountCouples.f
  repeat' first
      | (with_reducible exact ih0 _ _ _ _)
      | (with_reducible exact ih1 _ _ _ _ _ _ _ _)
      | (with_reducible exact ih2 _ _ _ _ _ _ _ _ _ _ _ _)
      | (with_reducible exact LeO.refl _)
      | (with_reducible exact LeO.none _)
      | (with_reducible refine LeO.ite ?_ ?_)
      | (with_reducible refine LeO.bind ?_ (fun _ => ?_))
      | exact ih0 _ _ _ _
      | exact ih1 _ _ _ _ _ _ _ _
      | exact ih2 _ _ _ _ _ _ _ _ _ _ _ _
      | exact LeO.none _
      | refine LeO.ite ?_ ?_
      | refine LeO.bind ?_ (fun _ => ?_)
set_option maxHeartbeats 8000000 in
set_option maxRecDepth 100000 in
theorem impl_CountCouples.calls (k : Nat) (a0 : Int) (r1 : Int) (r2 : Bool) (w : World) (h : impl_CountCouples.f k a0 = some (r1, r2)) :
    Calls Try.prog 26 #[.int .i64 a0] w fun e w' => e = .returned (.tuple #[.int .i64 r1, .bool r2]) ∧ Below w.heap.size w w' := by
  have HB := Aside0.mk (Below.refl w.heap.size w)
  have H : ((impl_within.f a0 2 10).bind fun t105 => (if t105 = true then (if 0 ≤ a0 then (if 0 ≤ (shl .i64 1 a0) then (if (shl .i64 1 a0 : Int).toNat ≤ 35184372088832 then ((some (List.replicate (shl .i64 1 a0 : Int).toNat 0 : List Int)).bind fun y106 => (if 0 < (y106.length : Int) then (impl_CountCouples.l0 k a0 (y106.set (0 : Int).toNat 1) a0 0) else (none))) else (none)) else (none)) else (none)) else (some (0, false)))) = some (r1, r2) := h
  clear h
  replace H := Option.bind_eq_some_iff.mp H
  obtain ⟨t105, A20, H⟩ := H
  replace H : (if t105 = true then (if 0 ≤ a0 then (if 0 ≤ (shl .i64 1 a0) then (if (shl .i64 1 a0 : Int).toNat ≤ 35184372088832 then ((some (List.replicate (shl .i64 1 a0 : Int).toNat 0 : List Int)).bind fun y106 => (if 0 < (y106.length : Int) then (impl_CountCouples.l0 k a0 (y106.set (0 : Int).toNat 1) a0 0) else (none))) else (none)) else (none)) else (none)) else (some (0, false))) = some (r1, r2) := H
  have A2 := Aside0.mk A20
  clear A20
  by_cases c3 : t105 = true
  · subst c3
    have H1 : (if 0 ≤ a0 then (if 0 ≤ (shl .i64 1 a0) then (if (shl .i64 1 a0 : Int).toNat ≤ 35184372088832 then ((some (List.replicate (shl .i64 1 a0 : Int).toNat 0 : List Int)).bind fun y106 => (if 0 < (y106.length : Int) then (impl_CountCouples.l0 k a0 (y106.set (0 : Int).toNat 1) a0 0) else (none))) else (none)) else (none)) else (none)) = some (r1, r2) := by rw [if_pos rfl] at H; exact H
    clear H
    have H := H1
    clear H1
    by_cases c4 : 0 ≤ a0
    · rw [if_pos c4] at H
      have c4b0 := eq_true c4
      have c4b1 : decide (0 ≤ a0) = true := decide_eq_true c4
      clear c4
      obtain ⟨ji5, hji5⟩ : ∃ j_ : Int, (shl .i64 1 a0) = j_ := ⟨_, rfl⟩
      replace H : (if 0 ≤ (ji5) then (if (ji5 : Int).toNat ≤ 35184372088832 then ((some (List.replicate (ji5 : Int).toNat 0 : List Int)).bind fun y106 => (if 0 < (y106.length : Int) then (impl_CountCouples.l0 k a0 (y106.set (0 : Int).toNat 1) a0 0) else (none))) else (none)) else (none)) = some (r1, r2) := by first | (rw [hji5] at H; exact H) | (simp only [hji5] at H ⊢; exact H)
      (try rw [hji5] at A2)
      have hji5_ : (IntKind.i64.wrap (1 * 2 ^ min a0.toNat 64)) = ji5 := hji5
      have hji5z : a0 ≤ 64 → (IntKind.i64.wrap (1 * 2 ^ a0.toNat)) = ji5 := shl_small hji5
      have hji5u : (IntKind.i64.wrap (2 ^ min a0.toNat 64)) = ji5 := by have h_ := hji5_; rw [Int.one_mul] at h_; exact h_
      have hji5v : a0 ≤ 64 → (IntKind.i64.wrap (2 ^ a0.toNat)) = ji5 := fun hle_ => by have h_ := hji5z hle_; rw [Int.one_mul] at h_; exact h_
      have hji5y : (wrap64 (1 * 2 ^ min a0.toNat 64)) = ji5 := (i64_w _).symm.trans hji5_
      have hji5x : a0 ≤ 64 → (wrap64 (1 * 2 ^ a0.toNat)) = ji5 := fun h_ => (i64_w _).symm.trans (hji5z h_)
      by_cases c6 : 0 ≤ (ji5)
      · rw [if_pos c6] at H
        have c6b0 := eq_true c6
        have c6b1 : decide (0 ≤ (ji5)) = true := decide_eq_true c6
        clear c6
        by_cases c7 : (ji5 : Int).toNat ≤ 35184372088832
        · rw [if_pos c7] at H
          have c7b0 := eq_true c7
          have c7b1 : decide ((ji5 : Int).toNat ≤ 35184372088832) = true := decide_eq_true c7
          clear c7
          obtain ⟨y106, hy106⟩ : ∃ y_ : List Int, y_ = (List.replicate (ji5 : Int).toNat 0) := ⟨_, rfl⟩
          replace H : (if 0 < (y106.length : Int) then (impl_CountCouples.l0 k a0 (y106.set (0 : Int).toNat 1) a0 0) else (none)) = some (r1, r2) := by first | (rw [hy106]; with_reducible exact H) | (have H2_ := (Option.bind_some _ _).symm.trans H; rw [hy106]; with_reducible exact H2_) | (have H2_ := (Option.bind_some _ _).symm.trans H; with_reducible exact H2_) | with_reducible exact H | (rw [hy106]; exact H) | exact H
          have Ny106 := Aside0.mk hy106
          clear hy106
          by_cases c8 : 0 < (y106.length : Int)
          · rw [if_pos c8] at H
            have c8b0 : decide (0 < (y106.length : Int)) = true := decide_eq_true c8
            have c8b1 : decide (0 < y106.length) = true := decide_eq_true (by omega)
            clear c8
            obtain ⟨y109, hy109⟩ : ∃ y_ : List Int, y_ = (y106.set (0 : Int).toNat 1) := ⟨_, rfl⟩
            replace H : (impl_CountCouples.l0 k a0 y109 a0 0) = some (r1, r2) := by first | (rw [hy109]; with_reducible exact H) | (have H2_ := (Option.bind_some _ _).symm.trans H; rw [hy109]; with_reducible exact H2_) | (have H2_ := (Option.bind_some _ _).symm.trans H; with_reducible exact H2_) | with_reducible exact H | (rw [hy109]; exact H) | exact H
            have Ny109 := Aside0.mk hy109
            clear hy109
            have H' := Aside0.mk H
            clear H
            go_enter Try.func26, Try.ntmps26
            go_wp2_with (first | ((with_reducible refine gate_callee (f := 39) rfl ?_); refine goesL_ (some 11) rfl rfl Try.func39 (by kernel_rfl) rfl #[.int .i64 a0, .int .i64 2, .int .i64 10] rfl (by (try simp only [List.map_toArray, List.map_cons, List.map_nil]); first | done | rfl | (simp only [List.length_drop, List.length_take]; rfl)) ?_; (with_reducible refine (impl_within.calls a0 2 10 true _ A2.out).mono ?_); rintro e w' ⟨rfl, ⟨nd, rfl⟩⟩; refine ⟨_, rfl, ?_⟩) | ((with_reducible refine gate_dst (N := 15) rfl ?_); refine Kd.R_make (Kd.int .i64) _ 3 rfl (N := 15) rfl 27 _ _ rfl ji5 rfl rfl Try.underlying27 (.int .i64 0) 8 info3 rfl (by decide) (by omega) 0 (ok := fun _ => True) (okp := fun _ => True) rfl (fun _ hk => hk) trivial (of_decide_eq_true (by first | (with_reducible assumption) | assumption)) (Nat.le_trans (Nat.mul_le_mul_right _ (of_decide_eq_true (by first | (with_reducible assumption) | assumption) : ji5.toNat ≤ 35184372088832)) (by omega)) (Below.refl _ _) (Nat.le_refl _) ?_; intro v107 w10 ho11 hb hg_ hnew_; clear hg_ hnew_; (first | rw [← Ny106.out] at ho11 | (simp only [Int.reduceToNat] at ho11; rw [← Ny106.out] at ho11)); have n0_ := Aside0.mk (Kd.R_lower ho11 (below_size (by repeat (first | (with_reducible first | exact HB.out | apply below_alloc | apply pw_below_drewN | apply below_drew1) | exact HB.out)))); have n1_ := Aside0.mk (below_step (by repeat (first | (with_reducible first | exact HB.out | apply below_alloc | apply pw_below_drewN | apply below_drew1) | exact HB.out)) hb); clear HB; have HO108 := n0_; have HB := n1_; clear n0_ n1_; clear hb ho11; have p9 : 0 ≤ (0 : Int) := (by omega); have q9 : (0 : Int) < ((y106.length : Int) : Int) := of_decide_eq_true (by first | (with_reducible assumption) | assumption); have qi9 : (0 < y106.length) = True := eq_true (by omega); obtain ⟨go9, co9, eo9, gb9, gl9, cl9, HG9⟩ := Kd.R_form HO108.out (by omega); (first | cases eo9 | (injection eo9 with ea_ en_ ec_; (first | subst ea_ | (injection ea_ with ea_; subst ea_)); subst ec_; clear en_)); have GB9 := Aside0.mk gb9; have GG9 := Aside0.mk HG9; clear gb9 gl9 HG9; obtain ⟨hx9_0, hf9_0⟩ := Kd.R_celln 0 HO108.out (0 : Int) p9 q9; (try rw [show ((0 : Int)).toNat = 0 from rfl] at hx9_0); (try simp only [Nat.reduceMul, Nat.zero_mul, Nat.zero_add, Nat.reduceAdd] at hx9_0); (try rw [show ((0 : Int)).toNat = 0 from rfl] at hf9_0); (try simp only [Nat.reduceMul, Nat.zero_mul, Nat.zero_add, Nat.reduceAdd] at hf9_0); replace p9 := eq_true p9; replace q9 := eq_true q9; obtain ⟨hy12_, hz12_⟩ := Kd.R_celln 0 HO108.out (0 : Int) (by omega) (of_decide_eq_true (by first | (with_reducible assumption) | assumption)); (try simp only [Int.reduceToNat, Int.toNat_zero, Int.toNat_ofNat, Nat.reduceMul, Nat.zero_mul, Nat.zero_add] at hy12_ hz12_); (try rw [show ((0 : Int)).toNat = 0 from rfl] at hy12_); (try rw [show ((0 : Int)).toNat = 0 from rfl] at hz12_); have HP12 := Kd.R_putg HO108.out (0 : Int) 1) | ((with_reducible refine gate_store (t := 3) (p := 17) rfl ?_); refine store_event (t := 3) (p := 17) (v := ?vo_w13) (w1 := (w10.setCell ⟨go9, (0 : Int).toNat, none⟩ (.int .i64 1))) ?hg ?ho ?hn ?hr ?_; (case ho => rfl); (case hg => rfl); (case hn => rfl); (case hr => first | (go_simp; done) | (go_simp; rfl)); intro w13 hw; have hg : w10.grownBy w13 (some go9) := (by rw [hw]; exact HP12.2); have hp_ : Kd.R (Kd.int .i64) 3 w13 w.heap.size (fun _ => True) (.slice (some ⟨go9, 0, none⟩) y106.length co9) y109 := (by rw [hw, Ny109.out]; exact HP12.1); clear HP12; have n0_ := Aside0.mk (hp_); have n1_ := Aside0.mk ((by rw [hw]; exact below_set (HB.out) GB9.out : Below w.heap.size w w13)); clear HO108; clear HB; have HO108 := n0_; have HB := n1_; clear n0_ n1_; clear hg hw hp_))
            go_loopg [4, 19] k (fun kq v4 v19 w' => ∃ (x4_1 : List Int) (x19_1 : Int), v19 = .int .i64 x19_1 ∧ Aside0 (impl_CountCouples.l0 kq a0 x4_1 a0 x19_1 = some (r1, r2)) ∧ Aside0 (kq ≤ k) ∧ Aside0 (Kd.R (Kd.int .i64) 3 w' w.heap.size (fun _ => True) v4 x4_1) ∧ Aside0 (Below w.heap.size w w'))
            case atStart => exact ⟨(y109), (0), (by first | rfl | (simp; done) | (simp [*]; done)), H', ⟨Nat.le_refl _⟩, ⟨by (with_reducible repeat (first | apply Kd.R_alloc | apply Kd.R_drewN | apply Kd.R_drew)); exact HO108.out⟩, ⟨by repeat (first | (with_reducible first | exact HB.out | apply below_alloc | apply pw_below_drewN | apply below_drew1) | exact HB.out)⟩⟩
            case round =>
              clear H'
              try clear c2
              try clear p2
              try clear c3
              try clear c4
              try clear c4b0
              try clear c4b1
              try clear c6
              try clear c6b0
              try clear c6b1
              try clear p6
              try clear c7
              try clear c7b0
              try clear c7b1
              try clear c8
              try clear c8b0
              try clear c8b1
              try clear p9
              try clear q9
              try clear hx9
              try clear qi9
              try clear hf9
              try clear hx9_0
              try clear p9
              try clear q9
              obtain ⟨x4_1, x19_1, rfl, HA, HK1, HO_4, HB⟩ := hrel
              cases gk with
              | zero => exact absurd HA.out (by simp [impl_CountCouples.l0])
              | succ k1 =>
                have H := HA.out
                clear HA
                simp only [impl_CountCouples.l0] at H
                by_cases c14 : x19_1 < a0
                · rw [if_pos c14] at H
                  have c14b0 : decide (x19_1 < a0) = true := decide_eq_true c14
                  clear c14
                  by_cases c15 : 0 ≤ a0
                  · rw [if_pos c15] at H
                    have c15b0 := eq_true c15
                    have c15b1 : decide (0 ≤ a0) = true := decide_eq_true c15
                    clear c15
                    (try clear hji5_); (try clear hji5z); (try clear hji5u); (try clear hji5v); (try clear hji5y); (try clear hji5x); (try clear hji5p); (try clear hji5q); (try clear hji5r); (try clear hji5s); (try clear hji5w); (try clear hji5)
                    obtain ⟨ji16, hji16⟩ : ∃ j_ : Int, (shl .i64 1 a0) = j_ := ⟨_, rfl⟩
                    replace H : (if 0 ≤ (ji16) then (if (ji16 : Int).toNat ≤ 35184372088832 then (impl_CountCouples.l1 k1 a0 x19_1 (List.replicate (ji16 : Int).toNat 0) a0 x19_1 x4_1 (x4_1.length : Int) 0) else (none)) else (none)) = some (r1, r2) := by first | (rw [hji16] at H; exact H) | (simp only [hji16] at H ⊢; exact H)
                    have hji16_ : (IntKind.i64.wrap (1 * 2 ^ min a0.toNat 64)) = ji16 := hji16
                    have hji16z : a0 ≤ 64 → (IntKind.i64.wrap (1 * 2 ^ a0.toNat)) = ji16 := shl_small hji16
                    have hji16u : (IntKind.i64.wrap (2 ^ min a0.toNat 64)) = ji16 := by have h_ := hji16_; rw [Int.one_mul] at h_; exact h_
                    have hji16v : a0 ≤ 64 → (IntKind.i64.wrap (2 ^ a0.toNat)) = ji16 := fun hle_ => by have h_ := hji16z hle_; rw [Int.one_mul] at h_; exact h_
                    have hji16y : (wrap64 (1 * 2 ^ min a0.toNat 64)) = ji16 := (i64_w _).symm.trans hji16_
                    have hji16x : a0 ≤ 64 → (wrap64 (1 * 2 ^ a0.toNat)) = ji16 := fun h_ => (i64_w _).symm.trans (hji16z h_)
                    by_cases c17 : 0 ≤ (ji16)
                    · rw [if_pos c17] at H
                      have c17b0 := eq_true c17
                      have c17b1 : decide (0 ≤ (ji16)) = true := decide_eq_true c17
                      clear c17
                      by_cases c18 : (ji16 : Int).toNat ≤ 35184372088832
                      · rw [if_pos c18] at H
                        have c18b0 := eq_true c18
                        have c18b1 : decide ((ji16 : Int).toNat ≤ 35184372088832) = true := decide_eq_true c18
                        clear c18
                        obtain ⟨y111, hy111⟩ : ∃ y_ : List Int, y_ = (List.replicate (ji16 : Int).toNat 0) := ⟨_, rfl⟩
                        replace H : (impl_CountCouples.l1 k1 a0 x19_1 y111 a0 x19_1 x4_1 (x4_1.length : Int) 0) = some (r1, r2) := by first | (rw [hy111]; with_reducible exact H) | (have H2_ := (Option.bind_some _ _).symm.trans H; rw [hy111]; with_reducible exact H2_) | (have H2_ := (Option.bind_some _ _).symm.trans H; with_reducible exact H2_) | with_reducible exact H | (rw [hy111]; exact H) | exact H
                        have Ny111 := Aside0.mk hy111
                        clear hy111
                        have H' := Aside0.mk H
                        clear H
                        go_wp2_with (first | ((with_reducible refine gate_dst (N := 24) rfl ?_); refine Kd.R_make (Kd.int .i64) _ 3 rfl (N := 24) rfl 27 _ _ rfl ji16 rfl rfl Try.underlying27 (.int .i64 0) 8 info3 rfl (by decide) (by omega) 0 (ok := fun _ => True) (okp := fun _ => True) rfl (fun _ hk => hk) trivial (of_decide_eq_true (by first | (with_reducible assumption) | assumption)) (Nat.le_trans (Nat.mul_le_mul_right _ (of_decide_eq_true (by first | (with_reducible assumption) | assumption) : ji16.toNat ≤ 35184372088832)) (by omega)) (Below.refl _ _) (Nat.le_refl _) ?_; intro v112 w19 ho20 hb hg_ hnew_; clear hg_ hnew_; (first | rw [← Ny111.out] at ho20 | (simp only [Int.reduceToNat] at ho20; rw [← Ny111.out] at ho20)); have n0_ := Aside0.mk (Kd.R_elder' (by (with_reducible repeat (first | apply Kd.R_alloc | apply Kd.R_drewN | apply Kd.R_drew)); exact HO_4.out) (Kd.R_base ho20) hb); have n1_ := Aside0.mk (Kd.R_lower (Kd.R_new' ho20 (Kd.R_lt (by (with_reducible repeat (first | apply Kd.R_alloc | apply Kd.R_drewN | apply Kd.R_drew)); exact HO_4.out))) (below_size (by repeat (first | (with_reducible first | exact HB.out | apply below_alloc | apply pw_below_drewN | apply below_drew1) | exact HB.out)))); have n2_ := Aside0.mk (below_step (by repeat (first | (with_reducible first | exact HB.out | apply below_alloc | apply pw_below_drewN | apply below_drew1) | exact HB.out)) hb); clear HO_4; clear HB; have HO_4 := n0_; have HO113 := n1_; have HB := n2_; clear n0_ n1_ n2_; clear hb ho20; obtain ⟨Ao21, co21, eo21⟩ := Kd.R_slice HO_4.out; subst eo21))
                        go_loopg [27] k1 (fun kq v27 w' => ∃ (x6_2 : List Int) (x27_2 : Int), v27 = .int .i64 x27_2 ∧ Aside0 (impl_CountCouples.l1 kq a0 x19_1 x6_2 a0 x19_1 x4_1 (x4_1.length : Int) x27_2 = some (r1, r2)) ∧ Aside0 (kq ≤ k1) ∧ Aside0 (Kd.R (Kd.int .i64) 3 w' w.heap.size (fun k_ => some k_ ≠ ((.slice Ao21 x4_1.length co21) : Value).ownBlock) v112 x6_2) ∧ Aside0 (Kd.R (Kd.int .i64) 3 w' w.heap.size (fun k_ => some k_ ≠ (v112 : Value).ownBlock) (.slice Ao21 x4_1.length co21) x4_1) ∧ Aside0 (Below w.heap.size w w'))
                        case atStart => exact ⟨(y111), (0), (by first | rfl | (simp; done) | (simp [*]; done)), H', ⟨Nat.le_refl _⟩, ⟨by (with_reducible repeat (first | apply Kd.R_alloc | apply Kd.R_drewN | apply Kd.R_drew)); exact Kd.R_mono HO113.out (fun _ hk => hk.2)⟩, ⟨by (with_reducible repeat (first | apply Kd.R_alloc | apply Kd.R_drewN | apply Kd.R_drew)); exact Kd.R_mono HO_4.out (fun _ hk => hk.2)⟩, ⟨by repeat (first | (with_reducible first | exact HB.out | apply below_alloc | apply pw_below_drewN | apply below_drew1) | exact HB.out)⟩⟩
                        case round =>
                          clear H'
                          try clear c1
                          try clear c2
                          try clear p2
                          try clear c3
                          try clear c4
                          try clear c4b0
                          try clear c4b1
                          try clear c6
                          try clear c6b0
                          try clear c6b1
                          try clear p6
                          try clear c7
                          try clear c7b0
                          try clear c7b1
                          try clear c8
                          try clear c8b0
                          try clear c8b1
                          try clear p9
                          try clear q9
                          try clear hx9
                          try clear qi9
                          try clear hf9
                          try clear c14
                          try clear c14b0
                          try clear c15
                          try clear c15b0
                          try clear c15b1
                          try clear c17
                          try clear c17b0
                          try clear c17b1
                          try clear c18
                          try clear c18b0
                          try clear c18b1
                          try clear hx9_0
                          try clear p2
                          try clear p6
                          try clear p9
                          try clear q9
                          obtain ⟨x6_2, x27_2, rfl, HA, HK2, HO_6, HO_25, HB⟩ := hrel
                          cases gk with
                          | zero => exact absurd HA.out (by simp [impl_CountCouples.l1])
                          | succ k2 =>
                            have H := HA.out
                            clear HA
                            simp only [impl_CountCouples.l1] at H
                            by_cases c22 : x27_2 < (x4_1.length : Int)
                            · rw [if_pos c22] at H
                              have c22b0 : decide (x27_2 < (x4_1.length : Int)) = true := decide_eq_true c22
                              clear c22
                              by_cases c23 : 0 ≤ x27_2
                              · rw [if_pos c23] at H
                                have c23b0 : decide (0 ≤ x27_2) = true := decide_eq_true c23
                                clear c23
                                by_cases c24 : x27_2 < (x4_1.length : Int)
                                · rw [if_pos c24] at H
                                  have c24b0 : decide (x27_2 < (x4_1.length : Int)) = true := decide_eq_true c24
                                  clear c24
                                  have H' := Aside0.mk H
                                  clear H
                                  have p114 : 0 ≤ (x27_2 : Int) := of_decide_eq_true (by first | (with_reducible assumption) | assumption)
                                  have q114 : x27_2 < (x4_1.length : Int) := of_decide_eq_true (by first | (with_reducible assumption) | assumption)
                                  obtain ⟨ad114, e114, hx114_0⟩ := Kd.at_int (Kd.R_reads' HO_25.out).2.2 x27_2 p114 q114
                                  cases e114
                                  replace p114 := eq_true p114
                                  replace q114 := eq_true q114
                                  go_wp2
                                  go_loopg [33] k2 (fun kq v33 w' => ∃ (x6_3 : List Int) (x33_3 : Int), v33 = .int .i64 x33_3 ∧ Aside0 (impl_CountCouples.l2 kq a0 x19_1 x6_3 x27_2 (rd x4_1 x27_2) a0 x19_1 x4_1 (x4_1.length : Int) x27_2 a0 x33_3 = some (r1, r2)) ∧ Aside0 (kq ≤ k2) ∧ Aside0 (Kd.R (Kd.int .i64) 3 w' w.heap.size (fun k_ => some k_ ≠ ((.slice (some ad114) x4_1.length co21) : Value).ownBlock) v112 x6_3) ∧ Aside0 (Kd.R (Kd.int .i64) 3 w' w.heap.size (fun k_ => some k_ ≠ (v112 : Value).ownBlock) (.slice (some ad114) x4_1.length co21) x4_1) ∧ Aside0 (Below w.heap.size w w'))
                                  case atStart => exact ⟨(x6_2), (0), (by first | rfl | (simp; done) | (simp [*]; done)), H', ⟨Nat.le_refl _⟩, ⟨by (with_reducible repeat (first | apply Kd.R_alloc | apply Kd.R_drewN | apply Kd.R_drew)); exact HO_6.out⟩, ⟨by (with_reducible repeat (first | apply Kd.R_alloc | apply Kd.R_drewN | apply Kd.R_drew)); exact HO_25.out⟩, ⟨by repeat (first | (with_reducible first | exact HB.out | apply below_alloc | apply pw_below_drewN | apply below_drew1) | exact HB.out)⟩⟩
                                  case round =>
                                    clear H'
                                    try clear c1
                                    try clear p1
                                    try clear q1
                                    try clear hx1
                                    try clear c2
                                    try clear p2
                                    try clear c3
                                    try clear c4
                                    try clear c4b0
                                    try clear c4b1
                                    try clear c6
                                    try clear c6b0
                                    try clear c6b1
                                    try clear p6
                                    try clear c7
                                    try clear c7b0
                                    try clear c7b1
                                    try clear c8
                                    try clear c8b0
                                    try clear c8b1
                                    try clear p9
                                    try clear q9
                                    try clear hx9
                                    try clear qi9
                                    try clear hf9
                                    try clear p11
                                    try clear q11
                                    try clear hx11
                                    try clear c14
                                    try clear c14b0
                                    try clear c15
                                    try clear c15b0
                                    try clear c15b1
                                    try clear c17
                                    try clear c17b0
                                    try clear c17b1
                                    try clear c18
                                    try clear c18b0
                                    try clear c18b1
                                    try clear c22
                                    try clear c22b0
                                    try clear c23
                                    try clear c23b0
                                    try clear c24
                                    try clear c24b0
                                    try clear hx114_0
                                    try clear hx9_0
                                    try clear p114
                                    try clear p2
                                    try clear p6
                                    try clear p9
                                    try clear q114
                                    try clear q9
                                    obtain ⟨x6_3, x33_3, rfl, HA, HK3, HO_6, HO_25, HB⟩ := hrel
                                    cases gk with
                                    | zero => exact absurd HA.out (by simp [impl_CountCouples.l2])
                                    | succ k3 =>
                                      have H := HA.out
                                      clear HA
                                      simp only [impl_CountCouples.l2] at H
                                      by_cases c25 : x33_3 < a0
                                      · rw [if_pos c25] at H
                                        have c25b0 : decide (x33_3 < a0) = true := decide_eq_true c25
                                        clear c25
                                        by_cases c26 : (rd x4_1 x27_2) > 0
                                        · rw [if_pos c26] at H
                                          have c26b0 : decide (0 < (rd x4_1 x27_2)) = true := decide_eq_true c26
                                          clear c26
                                          by_cases c27 : 0 ≤ x33_3
                                          · rw [if_pos c27] at H
                                            have c27b0 := eq_true c27
                                            have c27b1 : decide (0 ≤ x33_3) = true := decide_eq_true c27
                                            clear c27
                                            obtain ⟨ji28, hji28⟩ : ∃ j_ : Int, (shr .i64 x27_2 x33_3) = j_ := ⟨_, rfl⟩
                                            replace H : (if (Go.bits .and .i64 (ji28) 1) = 0 then (if x33_3 = x19_1 then (impl_CountCouples.l2 k3 a0 x19_1 x6_3 x27_2 (rd x4_1 x27_2) a0 x19_1 x4_1 (x4_1.length : Int) x27_2 a0 (wrap64 (x33_3 + 1))) else (if a0 = 0 then (none) else (if x33_3 = (Int.tmod (wrap64 (x19_1 + 1)) a0) then (impl_CountCouples.l2 k3 a0 x19_1 x6_3 x27_2 (rd x4_1 x27_2) a0 x19_1 x4_1 (x4_1.length : Int) x27_2 a0 (wrap64 (x33_3 + 1))) else (if 0 ≤ (Go.bits .or .i64 x27_2 (shl .i64 1 x33_3)) then (if (Go.bits .or .i64 x27_2 (shl .i64 1 x33_3)) < (x6_3.length : Int) then (impl_CountCouples.l2 k3 a0 x19_1 (x6_3.set ((Go.bits .or .i64 x27_2 (shl .i64 1 x33_3)) : Int).toNat (wrap64 ((rd x6_3 (Go.bits .or .i64 x27_2 (shl .i64 1 x33_3))) + (rd x4_1 x27_2)))) x27_2 (rd x4_1 x27_2) a0 x19_1 x4_1 (x4_1.length : Int) x27_2 a0 (wrap64 (x33_3 + 1))) else (none)) else (none))))) else (impl_CountCouples.l2 k3 a0 x19_1 x6_3 x27_2 (rd x4_1 x27_2) a0 x19_1 x4_1 (x4_1.length : Int) x27_2 a0 (wrap64 (x33_3 + 1)))) = some (r1, r2) := by first | (rw [hji28] at H; exact H) | (simp only [hji28] at H ⊢; exact H)
                                            have hji28_ : (x27_2 / 2 ^ min x33_3.toNat 64) = ji28 := hji28
                                            have hji28z : x33_3 ≤ 64 → (x27_2 / 2 ^ x33_3.toNat) = ji28 := shr_small hji28
                                            by_cases c29 : (Go.bits .and .i64 (ji28) 1) = 0
                                            · rw [if_pos c29] at H
                                              have c29b0 : ((Go.bits .and .i64 (ji28) 1) == 0) = true := beq_iff_eq.mpr c29
                                              have c29b1 : ((Go.bits .and .i64 (ji28) 1) != 0) = false := bne_eq_false_iff_eq.mpr c29
                                              clear c29
                                              by_cases c30 : x33_3 = x19_1
                                              · rw [if_pos c30] at H
                                                have c30b0 : (x33_3 == x19_1) = true := beq_iff_eq.mpr c30
                                                have c30b1 : (x33_3 != x19_1) = false := bne_eq_false_iff_eq.mpr c30
                                                clear c30
                                                have H' := Aside0.mk H
                                                clear H
                                                go_wp2
                                                go_roundg k3
                                                case measure => have := HK1.out; have := HK2.out; have := HK3.out; omega
                                                case rel => exact ⟨(x6_3), (wrap64 (x33_3 + 1)), (by first | rfl | (simp; done) | (simp [*]; done)), H', ⟨by have := HK1.out; have := HK2.out; have := HK3.out; omega⟩, ⟨by (with_reducible repeat (first | apply Kd.R_alloc | apply Kd.R_drewN | apply Kd.R_drew)); exact HO_6.out⟩, ⟨by (with_reducible repeat (first | apply Kd.R_alloc | apply Kd.R_drewN | apply Kd.R_drew)); exact HO_25.out⟩, ⟨by repeat (first | (with_reducible first | exact HB.out | apply below_alloc | apply pw_below_drewN | apply below_drew1) | exact HB.out)⟩⟩
                                              · rw [if_neg c30] at H
                                                have c30b0 : (x33_3 == x19_1) = false := beq_eq_false_iff_ne.mpr c30
                                                have c30b1 : (x33_3 != x19_1) = true := bne_iff_ne.mpr c30
                                                by_cases c31 : a0 = 0
                                                · rw [if_pos c31] at H
                                                  exact absurd H (by simp)
                                                · rw [if_neg c31] at H
                                                  have c31b0 : (a0 == 0) = false := beq_eq_false_iff_ne.mpr c31
                                                  have c31b1 : (a0 != 0) = true := bne_iff_ne.mpr c31
                                                  by_cases c32 : x33_3 = (Int.tmod (wrap64 (x19_1 + 1)) a0)
                                                  · rw [if_pos c32] at H
                                                    have c32b0 : (x33_3 == (Int.tmod (wrap64 (x19_1 + 1)) a0)) = true := beq_iff_eq.mpr c32
                                                    have c32b1 : (x33_3 != (Int.tmod (wrap64 (x19_1 + 1)) a0)) = false := bne_eq_false_iff_eq.mpr c32
                                                    clear c32
                                                    have H' := Aside0.mk H
                                                    clear H
                                                    go_wp2
                                                    go_roundg k3
                                                    case measure => have := HK1.out; have := HK2.out; have := HK3.out; omega
                                                    case rel => exact ⟨(x6_3), (wrap64 (x33_3 + 1)), (by first | rfl | (simp; done) | (simp [*]; done)), H', ⟨by have := HK1.out; have := HK2.out; have := HK3.out; omega⟩, ⟨by (with_reducible repeat (first | apply Kd.R_alloc | apply Kd.R_drewN | apply Kd.R_drew)); exact HO_6.out⟩, ⟨by (with_reducible repeat (first | apply Kd.R_alloc | apply Kd.R_drewN | apply Kd.R_drew)); exact HO_25.out⟩, ⟨by repeat (first | (with_reducible first | exact HB.out | apply below_alloc | apply pw_below_drewN | apply below_drew1) | exact HB.out)⟩⟩
                                                  · rw [if_neg c32] at H
                                                    have c32b0 : (x33_3 == (Int.tmod (wrap64 (x19_1 + 1)) a0)) = false := beq_eq_false_iff_ne.mpr c32
                                                    have c32b1 : (x33_3 != (Int.tmod (wrap64 (x19_1 + 1)) a0)) = true := bne_iff_ne.mpr c32
                                                    have c33b0 := eq_true (of_decide_eq_true (by first | (with_reducible assumption) | assumption) : 0 ≤ x33_3)
                                                    obtain ⟨ji34, hji34⟩ : ∃ j_ : Int, (shl .i64 1 x33_3) = j_ := ⟨_, rfl⟩
                                                    replace H : (if 0 ≤ (Go.bits .or .i64 x27_2 (ji34)) then (if (Go.bits .or .i64 x27_2 (ji34)) < (x6_3.length : Int) then (impl_CountCouples.l2 k3 a0 x19_1 (x6_3.set ((Go.bits .or .i64 x27_2 (ji34)) : Int).toNat (wrap64 ((rd x6_3 (Go.bits .or .i64 x27_2 (ji34))) + (rd x4_1 x27_2)))) x27_2 (rd x4_1 x27_2) a0 x19_1 x4_1 (x4_1.length : Int) x27_2 a0 (wrap64 (x33_3 + 1))) else (none)) else (none)) = some (r1, r2) := by first | (rw [hji34] at H; exact H) | (simp only [hji34] at H ⊢; exact H)
                                                    have hji34_ : (IntKind.i64.wrap (1 * 2 ^ min x33_3.toNat 64)) = ji34 := hji34
                                                    have hji34z : x33_3 ≤ 64 → (IntKind.i64.wrap (1 * 2 ^ x33_3.toNat)) = ji34 := shl_small hji34
                                                    have hji34u : (IntKind.i64.wrap (2 ^ min x33_3.toNat 64)) = ji34 := by have h_ := hji34_; rw [Int.one_mul] at h_; exact h_
                                                    have hji34v : x33_3 ≤ 64 → (IntKind.i64.wrap (2 ^ x33_3.toNat)) = ji34 := fun hle_ => by have h_ := hji34z hle_; rw [Int.one_mul] at h_; exact h_
                                                    have hji34y : (wrap64 (1 * 2 ^ min x33_3.toNat 64)) = ji34 := (i64_w _).symm.trans hji34_
                                                    have hji34x : x33_3 ≤ 64 → (wrap64 (1 * 2 ^ x33_3.toNat)) = ji34 := fun h_ => (i64_w _).symm.trans (hji34z h_)
                                                    by_cases c35 : 0 ≤ (Go.bits .or .i64 x27_2 (ji34))
                                                    · rw [if_pos c35] at H
                                                      have c35b0 : decide (0 ≤ (Go.bits .or .i64 x27_2 (ji34))) = true := decide_eq_true c35
                                                      clear c35
                                                      by_cases c36 : (Go.bits .or .i64 x27_2 (ji34)) < (x6_3.length : Int)
                                                      · rw [if_pos c36] at H
                                                        have c36b0 : decide ((Go.bits .or .i64 x27_2 (ji34)) < (x6_3.length : Int)) = true := decide_eq_true c36
                                                        clear c36
                                                        obtain ⟨y116, hy116⟩ : ∃ y_ : List Int, y_ = (x6_3.set ((Go.bits .or .i64 x27_2 (ji34)) : Int).toNat (wrap64 ((rd x6_3 (Go.bits .or .i64 x27_2 (ji34))) + (rd x4_1 x27_2)))) := ⟨_, rfl⟩
                                                        replace H : (impl_CountCouples.l2 k3 a0 x19_1 y116 x27_2 (rd x4_1 x27_2) a0 x19_1 x4_1 (x4_1.length : Int) x27_2 a0 (wrap64 (x33_3 + 1))) = some (r1, r2) := by first | (rw [hy116]; with_reducible exact H) | (have H2_ := (Option.bind_some _ _).symm.trans H; rw [hy116]; with_reducible exact H2_) | (have H2_ := (Option.bind_some _ _).symm.trans H; with_reducible exact H2_) | with_reducible exact H | (rw [hy116]; exact H) | exact H
                                                        have Ny116 := Aside0.mk hy116
                                                        clear hy116
                                                        have H' := Aside0.mk H
                                                        clear H
                                                        obtain ⟨Ao38, co38, eo38⟩ := Kd.R_slice HO_6.out
                                                        subst eo38
                                                        have p115 : 0 ≤ ((Go.bits .or .i64 x27_2 (ji34)) : Int) := of_decide_eq_true (by first | (with_reducible assumption) | assumption)
                                                        have q115 : (Go.bits .or .i64 x27_2 (ji34)) < (x6_3.length : Int) := of_decide_eq_true (by first | (with_reducible assumption) | assumption)
                                                        obtain ⟨ad115, e115, hx115_0⟩ := Kd.at_int (Kd.R_reads' HO_6.out).2.2 (Go.bits .or .i64 x27_2 (ji34)) p115 q115
                                                        cases e115
                                                        replace p115 := eq_true p115
                                                        replace q115 := eq_true q115
                                                        have p37 : 0 ≤ ((Go.bits .or .i64 x27_2 (ji34)) : Int) := of_decide_eq_true (by first | (with_reducible assumption) | assumption)
                                                        have q37 : ((Go.bits .or .i64 x27_2 (ji34)) : Int) < ((x6_3.length : Int) : Int) := of_decide_eq_true (by first | (with_reducible assumption) | assumption)
                                                        obtain ⟨go37, co37, eo37, gb37, gl37, cl37, HG37⟩ := Kd.R_form HO_6.out (by omega)
                                                        (first | cases eo37 | (injection eo37 with ea_ en_ ec_; (first | subst ea_ | (injection ea_ with ea_; subst ea_)); subst ec_; clear en_))
                                                        have GB37 := Aside0.mk gb37
                                                        have GG37 := Aside0.mk HG37
                                                        clear gb37 gl37 HG37
                                                        (first | simp only [add_plain] at hx115_0 | skip)
                                                        obtain ⟨hx37_0, hf37_0⟩ := Kd.R_celln 0 HO_6.out ((Go.bits .or .i64 x27_2 (ji34)) : Int) p37 q37
                                                        replace p37 := eq_true p37
                                                        replace q37 := eq_true q37
                                                        have HP39 := Kd.R_putg HO_6.out ((Go.bits .or .i64 x27_2 (ji34)) : Int) (wrap64 ((rd x6_3 (Go.bits .or .i64 x27_2 (ji34))) + (rd x4_1 x27_2)))
                                                        go_wp2_with (first | ((with_reducible refine gate_store (t := 3) (p := 67) rfl ?_); refine store_event (t := 3) (p := 67) (v := ?vo_w40) (w1 := (wr.setCell ⟨go37, ((Go.bits .or .i64 x27_2 (ji34)) : Int).toNat, none⟩ (.int .i64 (wrap64 ((rd x6_3 (Go.bits .or .i64 x27_2 (ji34))) + (rd x4_1 x27_2)))))) ?hg ?ho ?hn ?hr ?_; (case ho => rfl); (case hg => rfl); (case hn => rfl); (case hr => first | (go_simp; done) | (go_simp; rfl)); intro w40 hw; have hg : wr.grownBy w40 (some go37) := (by rw [hw]; exact HP39.2); have hp_ : Kd.R (Kd.int .i64) 3 w40 w.heap.size (fun k_ => some k_ ≠ (.slice (some ad114) x4_1.length co21 : Value).ownBlock) (.slice (some ⟨go37, 0, none⟩) x6_3.length co38) y116 := (by rw [hw, Ny116.out]; exact HP39.1); clear HP39; have n0_ := Aside0.mk (hp_); have n1_ := Aside0.mk (Kd.R_after (v := (.slice (some ⟨go37, 0, none⟩) x6_3.length co38)) (v1 := (.slice (some ⟨go37, 0, none⟩) x6_3.length co38)) (ok := (fun _ => True)) (by (with_reducible repeat (first | apply Kd.R_alloc | apply Kd.R_drewN | apply Kd.R_drew)); exact Kd.R_mono HO_25.out (fun _ hk => ⟨trivial, hk⟩)) hg (.inl rfl)); have n2_ := Aside0.mk ((by rw [hw]; exact below_set (HB.out) GB37.out : Below w.heap.size w w40)); clear HO_6; clear HO_25; clear HB; have HO_6 := n0_; have HO_25 := n1_; have HB := n2_; clear n0_ n1_ n2_; clear hg hw hp_))
                                                        go_roundg k3
                                                        case measure => have := HK1.out; have := HK2.out; have := HK3.out; omega
                                                        case rel => exact ⟨(y116), (wrap64 (x33_3 + 1)), (by first | rfl | (simp; done) | (simp [*]; done)), H', ⟨by have := HK1.out; have := HK2.out; have := HK3.out; omega⟩, ⟨by (with_reducible repeat (first | apply Kd.R_alloc | apply Kd.R_drewN | apply Kd.R_drew)); exact HO_6.out⟩, ⟨by (with_reducible repeat (first | apply Kd.R_alloc | apply Kd.R_drewN | apply Kd.R_drew)); exact Kd.R_mono HO_25.out (fun _ hk => hk.2)⟩, ⟨by repeat (first | (with_reducible first | exact HB.out | apply below_alloc | apply pw_below_drewN | apply below_drew1) | exact HB.out)⟩⟩
                                                      · rw [if_neg c36] at H
                                                        exact absurd H (by simp)
                                                    · rw [if_neg c35] at H
                                                      exact absurd H (by simp)
                                            · rw [if_neg c29] at H
                                              have c29b0 : ((Go.bits .and .i64 (ji28) 1) == 0) = false := beq_eq_false_iff_ne.mpr c29
                                              have c29b1 : ((Go.bits .and .i64 (ji28) 1) != 0) = true := bne_iff_ne.mpr c29
                                              have H' := Aside0.mk H
                                              clear H
                                              go_wp2
                                              go_roundg k3
                                              case measure => have := HK1.out; have := HK2.out; have := HK3.out; omega
                                              case rel => exact ⟨(x6_3), (wrap64 (x33_3 + 1)), (by first | rfl | (simp; done) | (simp [*]; done)), H', ⟨by have := HK1.out; have := HK2.out; have := HK3.out; omega⟩, ⟨by (with_reducible repeat (first | apply Kd.R_alloc | apply Kd.R_drewN | apply Kd.R_drew)); exact HO_6.out⟩, ⟨by (with_reducible repeat (first | apply Kd.R_alloc | apply Kd.R_drewN | apply Kd.R_drew)); exact HO_25.out⟩, ⟨by repeat (first | (with_reducible first | exact HB.out | apply below_alloc | apply pw_below_drewN | apply below_drew1) | exact HB.out)⟩⟩
                                          · rw [if_neg c27] at H
                                            exact absurd H (by simp)
                                        · rw [if_neg c26] at H
                                          have c26b0 : decide (0 < (rd x4_1 x27_2)) = false := decide_eq_false c26
                                          clear c26
                                          have H' := Aside0.mk H
                                          clear H
                                          go_wp2
                                          go_roundg k3
                                          case measure => have := HK1.out; have := HK2.out; have := HK3.out; omega
                                          case rel => exact ⟨(x6_3), (wrap64 (x33_3 + 1)), (by first | rfl | (simp; done) | (simp [*]; done)), H', ⟨by have := HK1.out; have := HK2.out; have := HK3.out; omega⟩, ⟨by (with_reducible repeat (first | apply Kd.R_alloc | apply Kd.R_drewN | apply Kd.R_drew)); exact HO_6.out⟩, ⟨by (with_reducible repeat (first | apply Kd.R_alloc | apply Kd.R_drewN | apply Kd.R_drew)); exact HO_25.out⟩, ⟨by repeat (first | (with_reducible first | exact HB.out | apply below_alloc | apply pw_below_drewN | apply below_drew1) | exact HB.out)⟩⟩
                                      · rw [if_neg c25] at H
                                        have c25b0 : decide (x33_3 < a0) = false := decide_eq_false c25
                                        clear c25
                                        have H' := Aside0.mk H
                                        clear H
                                        go_wp2
                                        go_roundg k3
                                        case measure => have := HK1.out; have := HK2.out; have := HK3.out; omega
                                        case rel => exact ⟨(x6_3), (wrap64 (x27_2 + 1)), (by first | rfl | (simp; done) | (simp [*]; done)), H', ⟨by have := HK1.out; have := HK2.out; have := HK3.out; omega⟩, ⟨by (with_reducible repeat (first | apply Kd.R_alloc | apply Kd.R_drewN | apply Kd.R_drew)); exact HO_6.out⟩, ⟨by (with_reducible repeat (first | apply Kd.R_alloc | apply Kd.R_drewN | apply Kd.R_drew)); exact HO_25.out⟩, ⟨by repeat (first | (with_reducible first | exact HB.out | apply below_alloc | apply pw_below_drewN | apply below_drew1) | exact HB.out)⟩⟩
                                · rw [if_neg c24] at H
                                  exact absurd H (by simp)
                              · rw [if_neg c23] at H
                                exact absurd H (by simp)
                            · rw [if_neg c22] at H
                              have c22b0 : decide (x27_2 < (x4_1.length : Int)) = false := decide_eq_false c22
                              clear c22
                              have H' := Aside0.mk H
                              clear H
                              go_wp2
                              go_roundg k2
                              case measure => have := HK1.out; have := HK2.out; omega
                              case rel => exact ⟨(x6_2), (wrap64 (x19_1 + 1)), (by first | rfl | (simp; done) | (simp [*]; done)), H', ⟨by have := HK1.out; have := HK2.out; omega⟩, ⟨by (with_reducible repeat (first | apply Kd.R_alloc | apply Kd.R_drewN | apply Kd.R_drew)); exact Kd.R_mono HO_6.out (fun _ hk => trivial)⟩, ⟨by repeat (first | (with_reducible first | exact HB.out | apply below_alloc | apply pw_below_drewN | apply below_drew1) | exact HB.out)⟩⟩
                      · rw [if_neg c18] at H
                        exact absurd H (by simp)
                    · rw [if_neg c17] at H
                      exact absurd H (by simp)
                  · rw [if_neg c15] at H
                    exact absurd H (by simp)
                · rw [if_neg c14] at H
                  have c14b0 : decide (x19_1 < a0) = false := decide_eq_false c14
                  clear c14
                  by_cases c41 : 0 ≤ a0
                  · rw [if_pos c41] at H
                    have c41b0 := eq_true c41
                    have c41b1 : decide (0 ≤ a0) = true := decide_eq_true c41
                    clear c41
                    (try clear hji5_); (try clear hji5z); (try clear hji5u); (try clear hji5v); (try clear hji5y); (try clear hji5x); (try clear hji5p); (try clear hji5q); (try clear hji5r); (try clear hji5s); (try clear hji5w); (try clear hji5)
                    obtain ⟨ji42, hji42⟩ : ∃ j_ : Int, (shl .i64 1 a0) = j_ := ⟨_, rfl⟩
                    replace H : (if 0 ≤ (wrap64 ((ji42) - 1)) then (if (wrap64 ((ji42) - 1)) < (x4_1.length : Int) then (some (rd x4_1 (wrap64 ((ji42) - 1)), true)) else (none)) else (none)) = some (r1, r2) := by first | (rw [hji42] at H; exact H) | (simp only [hji42] at H ⊢; exact H)
                    have hji42_ : (IntKind.i64.wrap (1 * 2 ^ min a0.toNat 64)) = ji42 := hji42
                    have hji42z : a0 ≤ 64 → (IntKind.i64.wrap (1 * 2 ^ a0.toNat)) = ji42 := shl_small hji42
                    have hji42u : (IntKind.i64.wrap (2 ^ min a0.toNat 64)) = ji42 := by have h_ := hji42_; rw [Int.one_mul] at h_; exact h_
                    have hji42v : a0 ≤ 64 → (IntKind.i64.wrap (2 ^ a0.toNat)) = ji42 := fun hle_ => by have h_ := hji42z hle_; rw [Int.one_mul] at h_; exact h_
                    have hji42y : (wrap64 (1 * 2 ^ min a0.toNat 64)) = ji42 := (i64_w _).symm.trans hji42_
                    have hji42x : a0 ≤ 64 → (wrap64 (1 * 2 ^ a0.toNat)) = ji42 := fun h_ => (i64_w _).symm.trans (hji42z h_)
                    obtain ⟨ji43, hji43⟩ : ∃ j_ : Int, (wrap64 ((ji42) - 1)) = j_ := ⟨_, rfl⟩
                    replace H : (if 0 ≤ (ji43) then (if (ji43) < (x4_1.length : Int) then (some (rd x4_1 (ji43), true)) else (none)) else (none)) = some (r1, r2) := by first | (rw [hji43] at H; exact H) | (simp only [hji43] at H ⊢; exact H)
                    have hji43w : (IntKind.i64.wrap ((ji42) - 1)) = ji43 := (i64_w _).trans hji43
                    by_cases c44 : 0 ≤ (ji43)
                    · rw [if_pos c44] at H
                      have c44b0 : decide (0 ≤ (ji43)) = true := decide_eq_true c44
                      clear c44
                      by_cases c45 : (ji43) < (x4_1.length : Int)
                      · rw [if_pos c45] at H
                        have c45b0 : decide ((ji43) < (x4_1.length : Int)) = true := decide_eq_true c45
                        clear c45
                        simp only [Option.some.injEq, Prod.mk.injEq] at H
                        obtain ⟨rfl, rfl⟩ := H
                        obtain ⟨Ao46, co46, eo46⟩ := Kd.R_slice HO_4.out
                        subst eo46
                        have p110 : 0 ≤ ((ji43) : Int) := of_decide_eq_true (by first | (with_reducible assumption) | assumption)
                        have q110 : (ji43) < (x4_1.length : Int) := of_decide_eq_true (by first | (with_reducible assumption) | assumption)
                        obtain ⟨ad110, e110, hx110_0⟩ := Kd.at_int (Kd.R_reads' HO_4.out).2.2 (ji43) p110 q110
                        cases e110
                        replace p110 := eq_true p110
                        replace q110 := eq_true q110
                        go_wp2
                        go_ret2
                        exact ⟨by first | rfl | (simp [errW_none, errW_some] <;> rfl) | (simp only [← hji5, ← hji42, ← hji43]; first | rfl | (simp [errW_none, errW_some] <;> rfl)) | (simp [*, errW_none, errW_some] <;> rfl), by repeat (first | (with_reducible first | exact HB.out | apply below_alloc | apply pw_below_drewN | apply below_drew1) | exact HB.out)⟩
                      · rw [if_neg c45] at H
                        exact absurd H (by simp)
                    · rw [if_neg c44] at H
                      exact absurd H (by simp)
                  · rw [if_neg c41] at H
                    exact absurd H (by simp)
          · rw [if_neg c8] at H
            exact absurd H (by simp)
        · rw [if_neg c7] at H
          exact absurd H (by simp)
      · rw [if_neg c6] at H
        exact absurd H (by simp)
    · rw [if_neg c4] at H
      exact absurd H (by simp)
  · replace c3 := Bool.eq_false_iff.mpr c3
    subst c3
    have H1 : (some (0, false)) = some (r1, r2) := by rw [if_neg (show ¬ (false = true) by decide)] at H; exact H
    clear H
    have H := H1
    clear H1
    simp only [Option.some.injEq, Prod.mk.injEq] at H
    obtain ⟨rfl, rfl⟩ := H
    go_enter Try.func26, Try.ntmps26
    go_wp2_with (first | ((with_reducible refine gate_callee (f := 39) rfl ?_); refine goesL_ (some 11) rfl rfl Try.func39 (by kernel_rfl) rfl #[.int .i64 a0, .int .i64 2, .int .i64 10] rfl (by (try simp only [List.map_toArray, List.map_cons, List.map_nil]); first | done | rfl | (simp only [List.length_drop, List.length_take]; rfl)) ?_; (with_reducible refine (impl_within.calls a0 2 10 false _ A2.out).mono ?_); rintro e w' ⟨rfl, ⟨nd, rfl⟩⟩; refine ⟨_, rfl, ?_⟩))
    go_ret2
    exact ⟨by first | rfl | (simp [errW_none, errW_some] <;> rfl) | (simp [*, errW_none, errW_some] <;> rfl), by repeat (first | (with_reducible first | exact HB.out | apply below_alloc | apply pw_below_drewN | apply below_drew1) | exact HB.out)⟩

/-! ### laws_FnExactCountCouples: function 9 -/
def laws_FnExactCountCouples.f (k : Nat) (a0 : Int) : Option (Bool) := (spec_CountCouples.f k a0).bind fun bt117 => ((impl_CountCouples.f k a0).bind fun bt119 => (if bt119.1 = bt117.1 then (if (bt119.2 != bt117.2) = true then (some false) else (some true)) else (some false)))
theorem laws_FnExactCountCouples.mono : ∀ a0 k, LeO (laws_FnExactCountCouples.f k a0) (laws_FnExactCountCouples.f (k + 1) a0) := by
  intro a0 k
  unfold laws_FnExactCountCouples.f
  repeat' first
      | (with_reducible exact impl_CountCouples.mono _ _)
      | (with_reducible exact spec_CountCouples.mono _ _)
      | (with_reducible exact LeO.refl _)
      | (with_reducible exact LeO.none _)
      | (with_reducible refine LeO.ite ?_ ?_)
      | (with_reducible refine LeO.bind ?_ (fun _ => ?_))
      | exact impl_CountCouples.mono _ _
      | exact spec_CountCouples.mono _ _
      | exact LeO.none _
      | refine LeO.ite ?_ ?_
      | refine LeO.bind ?_ (fun _ => ?_)
set_option maxHeartbeats 8000000 in
set_option maxRecDepth 100000 in
theorem laws_FnExactCountCouples.calls (k : Nat) (a0 : Int) (r : Bool) (w : World) (h : laws_FnExactCountCouples.f k a0 = some r) :
    Calls Try.prog 9 #[.int .i64 a0] w fun e w' => e = .returned (.bool r) ∧ Below w.heap.size w w' := by
  have HB := Aside0.mk (Below.refl w.heap.size w)
  have H : ((spec_CountCouples.f k a0).bind fun bt117 => ((impl_CountCouples.f k a0).bind fun bt119 => (if bt119.1 = bt117.1 then (if (bt119.2 != bt117.2) = true then (some false) else (some true)) else (some false)))) = some r := h
  clear h
  replace H := Option.bind_eq_some_iff.mp H
  obtain ⟨⟨t117, t118⟩, A20, H⟩ := H
  replace H : ((impl_CountCouples.f k a0).bind fun bt119 => (if bt119.1 = t117 then (if (bt119.2 != t118) = true then (some false) else (some true)) else (some false))) = some r := H
  have A2 := Aside0.mk A20
  clear A20
  replace H := Option.bind_eq_some_iff.mp H
  obtain ⟨⟨t119, t120⟩, A30, H⟩ := H
  replace H : (if t119 = t117 then (if (t120 != t118) = true then (some false) else (some true)) else (some false)) = some r := H
  have A3 := Aside0.mk A30
  clear A30
  by_cases c4 : t119 = t117
  · rw [if_pos c4] at H
    have c4b0 : (t119 == t117) = true := beq_iff_eq.mpr c4
    have c4b1 : (t119 != t117) = false := bne_eq_false_iff_eq.mpr c4
    clear c4
    by_cases c5 : (t120 != t118) = true
    · rw [if_pos c5] at H
      have c5b0 : (t120 != t118) = true := c5
      (try (have c5b1 : decide (t120 = t118) = false := by simpa using c5))
      (try (have c5b2 : (t120 == t118) = false := by simpa using c5))
      (try (have c5b3 : ¬ (t120 = t118) := by simpa using c5))
      clear c5
      obtain rfl := Option.some.inj H
      go_enter Try.func9, Try.ntmps9
      go_wp2_with (first | ((with_reducible refine gate_callee (f := 25) rfl ?_); refine goesL_ (some 9) rfl rfl Try.func25 (by kernel_rfl) rfl #[.int .i64 a0] rfl (by (try simp only [List.map_toArray, List.map_cons, List.map_nil]); first | done | rfl | (simp only [List.length_drop, List.length_take]; rfl)) ?_; (with_reducible refine (spec_CountCouples.calls k a0 t117 t118 _ A2.out).mono ?_); rintro e w' ⟨rfl, ⟨nd, rfl⟩⟩; refine ⟨_, rfl, ?_⟩) | ((with_reducible refine gate_callee (f := 26) rfl ?_); refine goesL_ (some 14) rfl rfl Try.func26 (by kernel_rfl) rfl #[.int .i64 a0] rfl (by (try simp only [List.map_toArray, List.map_cons, List.map_nil]); first | done | rfl | (simp only [List.length_drop, List.length_take]; rfl)) ?_; (with_reducible refine (impl_CountCouples.calls k a0 t119 t120 _ A3.out).mono ?_); rintro e w6 ⟨rfl, hb⟩; refine ⟨_, rfl, ?_⟩; have n0_ := Aside0.mk (below_step (by repeat (first | (with_reducible first | exact HB.out | apply below_alloc | apply pw_below_drewN | apply below_drew1) | exact HB.out)) hb); clear HB; have HB := n0_; clear n0_; (try clear hb); (try clear hb2); (try clear hk); (try clear hi)))
      go_ret
      exact ⟨by first | rfl | (simp [errW_none, errW_some] <;> rfl) | (simp [*, errW_none, errW_some] <;> rfl), by repeat (first | (with_reducible first | exact HB.out | apply below_alloc | apply pw_below_drewN | apply below_drew1) | exact HB.out)⟩
    · rw [if_neg c5] at H
      have c5b0 : (t120 != t118) = false := by simpa using c5
      (try (have c5b1 : decide (t120 = t118) = true := by simpa using c5))
      (try (have c5b2 : (t120 == t118) = true := by simpa using c5))
      clear c5
      obtain rfl := Option.some.inj H
      go_enter Try.func9, Try.ntmps9
      go_wp2_with (first | ((with_reducible refine gate_callee (f := 25) rfl ?_); refine goesL_ (some 9) rfl rfl Try.func25 (by kernel_rfl) rfl #[.int .i64 a0] rfl (by (try simp only [List.map_toArray, List.map_cons, List.map_nil]); first | done | rfl | (simp only [List.length_drop, List.length_take]; rfl)) ?_; (with_reducible refine (spec_CountCouples.calls k a0 t117 t118 _ A2.out).mono ?_); rintro e w' ⟨rfl, ⟨nd, rfl⟩⟩; refine ⟨_, rfl, ?_⟩) | ((with_reducible refine gate_callee (f := 26) rfl ?_); refine goesL_ (some 14) rfl rfl Try.func26 (by kernel_rfl) rfl #[.int .i64 a0] rfl (by (try simp only [List.map_toArray, List.map_cons, List.map_nil]); first | done | rfl | (simp only [List.length_drop, List.length_take]; rfl)) ?_; (with_reducible refine (impl_CountCouples.calls k a0 t119 t120 _ A3.out).mono ?_); rintro e w7 ⟨rfl, hb⟩; refine ⟨_, rfl, ?_⟩; have n0_ := Aside0.mk (below_step (by repeat (first | (with_reducible first | exact HB.out | apply below_alloc | apply pw_below_drewN | apply below_drew1) | exact HB.out)) hb); clear HB; have HB := n0_; clear n0_; (try clear hb); (try clear hb2); (try clear hk); (try clear hi)))
      go_ret
      exact ⟨by first | rfl | (simp [errW_none, errW_some] <;> rfl) | (simp [*, errW_none, errW_some] <;> rfl), by repeat (first | (with_reducible first | exact HB.out | apply below_alloc | apply pw_below_drewN | apply below_drew1) | exact HB.out)⟩
  · rw [if_neg c4] at H
    have c4b0 : (t119 == t117) = false := beq_eq_false_iff_ne.mpr c4
    have c4b1 : (t119 != t117) = true := bne_iff_ne.mpr c4
    obtain rfl := Option.some.inj H
    go_enter Try.func9, Try.ntmps9
    go_wp2_with (first | ((with_reducible refine gate_callee (f := 25) rfl ?_); refine goesL_ (some 9) rfl rfl Try.func25 (by kernel_rfl) rfl #[.int .i64 a0] rfl (by (try simp only [List.map_toArray, List.map_cons, List.map_nil]); first | done | rfl | (simp only [List.length_drop, List.length_take]; rfl)) ?_; (with_reducible refine (spec_CountCouples.calls k a0 t117 t118 _ A2.out).mono ?_); rintro e w' ⟨rfl, ⟨nd, rfl⟩⟩; refine ⟨_, rfl, ?_⟩) | ((with_reducible refine gate_callee (f := 26) rfl ?_); refine goesL_ (some 14) rfl rfl Try.func26 (by kernel_rfl) rfl #[.int .i64 a0] rfl (by (try simp only [List.map_toArray, List.map_cons, List.map_nil]); first | done | rfl | (simp only [List.length_drop, List.length_take]; rfl)) ?_; (with_reducible refine (impl_CountCouples.calls k a0 t119 t120 _ A3.out).mono ?_); rintro e w8 ⟨rfl, hb⟩; refine ⟨_, rfl, ?_⟩; have n0_ := Aside0.mk (below_step (by repeat (first | (with_reducible first | exact HB.out | apply below_alloc | apply pw_below_drewN | apply below_drew1) | exact HB.out)) hb); clear HB; have HB := n0_; clear n0_; (try clear hb); (try clear hb2); (try clear hk); (try clear hi)))
    go_ret
    exact ⟨by first | rfl | (simp [errW_none, errW_some] <;> rfl) | (simp [*, errW_none, errW_some] <;> rfl), by repeat (first | (with_reducible first | exact HB.out | apply below_alloc | apply pw_below_drewN | apply below_drew1) | exact HB.out)⟩

/-- THE ONE PURE STATEMENT of laws_FnExactCountCouples: yours. -/
def laws_FnExactCountCouples.Pure : Prop := ∀ (a0 : Int), (Lit.int .i64 a0).wf = true → ∃ k, laws_FnExactCountCouples.f k a0 = some true
theorem laws_FnExactCountCouples.walk (P : laws_FnExactCountCouples.Pure) (a0 : Int) (w : World) (w0 : (Lit.int .i64 a0).wf = true) :
    Calls Try.prog 9 #[.int .i64 a0] w fun e w' => e = .returned (.bool true) ∧ Below w.heap.size w w' := by
  obtain ⟨k, h⟩ := P a0 w0
  refine (laws_FnExactCountCouples.calls k a0 true w h).mono ?_
  rintro e w' ⟨rfl, hd⟩
  exact ⟨rfl, hd⟩

end Go.Proofs.Ytljcbimhdoklbaa.R
