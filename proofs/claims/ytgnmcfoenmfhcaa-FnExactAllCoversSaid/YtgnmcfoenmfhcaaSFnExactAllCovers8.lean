/- Texts of this claim put together (8): words, what the functions compute, and plain facts. No conditions. -/
import Derived.Test.YtgnmcfoenmfhcaaSFnExactAllCovers4
import Derived.Test.YtgnmcfoenmfhcaaSFnExactAllCovers7
import Derived.Test.YtgnmcfoenmfhcaaSFnExactAllCovers6
import Derived.Test.YtgnmcfoenmfhcaaSFnExactAllCovers5
section
namespace Go.Proofs.Ytgnmcfoenmfhcaa.Q
open Go.RowKit Go.Proofs.YtgnmcfoenmfhcaaW.PrintWords Go.Proofs.YtgnmcfoenmfhcaaW.PrintLast Go.Proofs.YtgnmcfoenmfhcaaW.PrintMore
attribute [local go_sem] max2_int min2_int max_two min_two max_three min_three max_four min_four   -- for this text's walks alone
set_option linter.unusedVariables false
set_option linter.unusedSimpArgs false
mutual
def spec_lcChosen.j0 : Nat → Int → Int → List Int → Int → Option ((List (List Int)))
  | 0, _, _, _, _ => none
  | k + 1, x0, x1, x2, x7 => spec_lcChosen.l0 k x0 x1 x2 x7 ([] : List (List Int))
def spec_lcChosen.l0 : Nat → Int → Int → List Int → Int → List (List Int) → Option ((List (List Int)))
  | 0, _, _, _, _, _ => none
  | k + 1, x0, x1, x2, x7, x8 => if x7 < x0 then ((spec_l1Own.f x2).bind fun t108 => (if t108.length < 17592186044416 then ((spec_lcChosen.f k x0 x1 (t108 ++ [x7])).bind fun t114 => (if x8.length + t114.length < 5864062014805 then (spec_lcChosen.l0 k x0 x1 x2 (wrap64 (x7 + 1)) (x8 ++ t114)) else (none))) else (none))) else (some x8)
def spec_lcChosen.f : Nat → Int → Int → List Int → Option ((List (List Int)))
  | 0, _, _, _ => none
  | k + 1, a0, a1, l2 => if (l2.length : Int) = a1 then ((spec_l1Own.f l2).bind fun t101 => (some (([t101] : List (List Int))))) else (if (l2.length : Int) > 0 then (if 0 ≤ (wrap64 ((l2.length : Int) - 1)) then (if (wrap64 ((l2.length : Int) - 1)) < (l2.length : Int) then (spec_lcChosen.j0 k a0 a1 l2 (wrap64 ((rd l2 (wrap64 ((l2.length : Int) - 1))) + 1))) else (none)) else (none)) else (spec_lcChosen.j0 k a0 a1 l2 0))
end
theorem spec_lcChosen.mono_l : ∀ k, (∀ y0 y1 y2, LeO (spec_lcChosen.f k y0 y1 y2) (spec_lcChosen.f (k + 1) y0 y1 y2)) ∧ (∀ y0 y1 y2 y3, LeO (spec_lcChosen.j0 k y0 y1 y2 y3) (spec_lcChosen.j0 (k + 1) y0 y1 y2 y3)) ∧ (∀ y0 y1 y2 y3 y4, LeO (spec_lcChosen.l0 k y0 y1 y2 y3 y4) (spec_lcChosen.l0 (k + 1) y0 y1 y2 y3 y4))
  | 0 => ⟨fun _ _ _ r h => by simp [spec_lcChosen.f] at h, fun _ _ _ _ r h => by simp [spec_lcChosen.j0] at h, fun _ _ _ _ _ r h => by simp [spec_lcChosen.l0] at h⟩
  | k + 1 => by
    obtain ⟨ih0, ih1, ih2⟩ := spec_lcChosen.mono_l k
    refine ⟨?_, ?_, ?_⟩
    · intro y0 y1 y2
      unfold spec_lcChosen.f
      repeat' first
      | (with_reducible exact ih0 _ _ _)
      | (with_reducible exact ih1 _ _ _ _)
      | (with_reducible exact ih2 _ _ _ _ _)
      | (with_reducible exact LeO.refl _)
      | (with_reducible exact LeO.none _)
      | (with_reducible refine LeO.ite ?_ ?_)
      | (with_reducible refine LeO.bind ?_ (fun _ => ?_))
      | exact ih0 _ _ _
      | exact ih1 _ _ _ _
      | exact ih2 _ _ _ _ _
      | exact LeO.none _
      | refine LeO.ite ?_ ?_
      | refine LeO.bind ?_ (fun _ => ?_)
    · intro y0 y1 y2 y3
      unfold spec_lcChosen.j0
      repeat' first
      | (with_reducible exact ih0 _ _ _)
      | (with_reducible exact ih1 _ _ _ _)
      | (with_reducible exact ih2 _ _ _ _ _)
      | (with_reducible exact LeO.refl _)
      | (with_reducible exact LeO.none _)
      | (with_reducible refine LeO.ite ?_ ?_)
      | (with_reducible refine LeO.bind ?_ (fun _ => ?_))
      | exact ih0 _ _ _
      | exact ih1 _ _ _ _
      | exact ih2 _ _ _ _ _
      | exact LeO.none _
      | refine LeO.ite ?_ ?_
      | refine LeO.bind ?_ (fun _ => ?_)
    · intro y0 y1 y2 y3 y4
      unfold spec_lcChosen.l0
      repeat' first
      | (with_reducible exact ih0 _ _ _)
      | (with_reducible exact ih1 _ _ _ _)
      | (with_reducible exact ih2 _ _ _ _ _)
      | (with_reducible exact LeO.refl _)
      | (with_reducible exact LeO.none _)
      | (with_reducible refine LeO.ite ?_ ?_)
      | (with_reducible refine LeO.bind ?_ (fun _ => ?_))
      | exact ih0 _ _ _
      | exact ih1 _ _ _ _
      | exact ih2 _ _ _ _ _
      | exact LeO.none _
      | refine LeO.ite ?_ ?_
      | refine LeO.bind ?_ (fun _ => ?_)
theorem spec_lcChosen.mono : ∀ a0 a1 a2 k, LeO (spec_lcChosen.f k a0 a1 a2) (spec_lcChosen.f (k + 1) a0 a1 a2) := by
  intro a0 a1 a2 k
  obtain ⟨ih0, ih1, ih2⟩ := spec_lcChosen.mono_l k
  exact ih0 a0 a1 a2
set_option maxHeartbeats 8000000 in
set_option maxRecDepth 100000 in
theorem spec_lcChosen.calls (k : Nat) : ∀ (a0 : Int) (a1 : Int) (A2 : Option Addr) (c2 : Nat) (l2 : List Int) (r : List (List Int)) (w : World) (hr2 : Kd.C (Kd.int .i64) w A2 l2.length l2) (hc2 : l2.length ≤ c2) (h : spec_lcChosen.f k a0 a1 l2 = some r),
    Calls Try.prog 122 #[.int .i64 a0, .int .i64 a1, .slice A2 l2.length c2] w fun e w' => ∃ v0_ : Value, e = .returned (v0_) ∧ Kd.N (Kd.slice 3 (Kd.int .i64)) 24 w' w.heap.size (fun k_ => (w.heap.size ≤ k_)) v0_ r ∧ Below w.heap.size w w' := by
  induction k using Nat.strongRecOn with
  | _ k ih =>
  intro a0 a1 A2 c2 l2 r w hr2 hc2 h
  cases k with
  | zero => exact absurd h (by simp [spec_lcChosen.f])
  | succ k =>
  simp only [spec_lcChosen.f] at h
  have HR2 := Aside0.mk hr2
  have HC2 := Aside0.mk hc2
  clear hr2 hc2
  have HB := Aside0.mk (Below.refl w.heap.size w)
  have H : (if (l2.length : Int) = a1 then ((spec_l1Own.f l2).bind fun t101 => (some (([t101] : List (List Int))))) else (if (l2.length : Int) > 0 then (if 0 ≤ (wrap64 ((l2.length : Int) - 1)) then (if (wrap64 ((l2.length : Int) - 1)) < (l2.length : Int) then (spec_lcChosen.j0 k a0 a1 l2 (wrap64 ((rd l2 (wrap64 ((l2.length : Int) - 1))) + 1))) else (none)) else (none)) else (spec_lcChosen.j0 k a0 a1 l2 0))) = some r := h
  clear h
  by_cases c4 : (l2.length : Int) = a1
  · rw [if_pos c4] at H
    have c4b0 : ((l2.length : Int) == a1) = true := beq_iff_eq.mpr c4
    have c4b1 : ((l2.length : Int) != a1) = false := bne_eq_false_iff_eq.mpr c4
    clear c4
    replace H := Option.bind_eq_some_iff.mp H
    obtain ⟨t101, A50, H⟩ := H
    replace H : (some (([t101] : List (List Int)))) = some r := H
    have A5 := Aside0.mk A50
    clear A50
    obtain ⟨y104, hy104⟩ : ∃ y_ : List (List Int), y_ = (([t101] : List (List Int))) := ⟨_, rfl⟩
    replace H : (some y104) = some r := by first | (rw [hy104]; with_reducible exact H) | (have H2_ := (Option.bind_some _ _).symm.trans H; rw [hy104]; with_reducible exact H2_) | (have H2_ := (Option.bind_some _ _).symm.trans H; with_reducible exact H2_) | with_reducible exact H | (rw [hy104]; exact H) | exact H
    have Ny104 := Aside0.mk hy104
    clear hy104
    obtain rfl := Option.some.inj H
    go_enter Try.func122, Try.ntmps122
    go_wp2_with (first | ((with_reducible refine gate_callee (f := 92) rfl ?_); refine goesL_ (some 14) rfl rfl Try.func92 (by kernel_rfl) rfl #[.slice A2 l2.length c2] rfl (by (try simp only [List.map_toArray, List.map_cons, List.map_nil]); first | done | rfl | (simp only [List.length_drop, List.length_take]; rfl)) ?_; (with_reducible refine (spec_l1Own.calls _ _ l2 t101 _ ?side1 ?side2 A5.out).mono ?_); (case side1 => repeat (first | exact HR2.out | (with_reducible refine Kd.C_alloc ?_ _) | (with_reducible refine Kd.C_drewN ?_ _) | (with_reducible refine Kd.C_drew ?_))); (case side2 => exact HC2.out); rintro e w6 ⟨v102, rfl, ho0, hb⟩; refine ⟨_, rfl, ?_⟩; have n0_ := Aside0.mk (Kd.R_lower (Kd.R_newM (M := fun k_ => (w.heap.size ≤ k_)) ho0 (below_size (by repeat (first | (with_reducible first | exact HB.out | apply below_alloc | apply pw_below_drewN | apply below_drew1) | exact HB.out))) (fun k_ h_ => h_)) (below_size (by repeat (first | (with_reducible first | exact HB.out | apply below_alloc | apply pw_below_drewN | apply below_drew1) | exact HB.out)))); have n1_ := Aside0.mk (below_step (by repeat (first | (with_reducible first | exact HB.out | apply below_alloc | apply pw_below_drewN | apply below_drew1) | exact HB.out)) hb); clear HB; have HO103 := n0_; have HB := n1_; clear n0_ n1_; (try clear hb); (try clear hb2); (try clear hk); (try clear hi); (try clear ho0); obtain ⟨Ao7, co7, eo7⟩ := Kd.R_slice HO103.out; subst eo7) | ((with_reducible refine gate_dst (N := 15) rfl ?_); refine Kd.N_lit (Kd.slice 3 (Kd.int .i64)) _ 24 ?hg (N' := 15) ?hd (xs := ([t101] : List (List Int))) (inner := [.slice Ao7 t101.length co7]) (ok := (fun k_ => (w.heap.size ≤ k_))) (okp := (fun k_ => (w.heap.size ≤ k_))) ?hr ?hp (fun _ hk => hk) ((show ∀ k_, w6.heap.size ≤ k_ → (fun k_ => (w.heap.size ≤ k_)) k_ from fun k_ hk => (Nat.le_trans (below_size (by repeat (first | (with_reducible first | exact HB.out | apply below_alloc | apply pw_below_drewN | apply below_drew1) | exact HB.out))) hk)) _ (Nat.le_refl _)) (Below.refl _ _) (Nat.le_refl _) (by simp) ?_; (case hd => rfl); (case hg => rfl); (case hr => first | (go_simp; done) | (go_simp; rfl)); (case hp => exact (Reps.one (show Kd.FK (Kd.slice 3 (Kd.int .i64)) _ _ t101 [.slice Ao7 t101.length co7] from (Kd.FK_slice_mk (Kd.R_reads' (Kd.R_mono (ok' := (fun k_ => (w.heap.size ≤ k_))) (HO103.out) (fun k_ hk => hk.1))).2.1 (Kd.R_F (Kd.R_mono (ok' := (fun k_ => (w.heap.size ≤ k_))) (HO103.out) (fun k_ hk => hk.1))))) (Reps.none _ _))); intro v105 w8 ho9 hb hg_ hnew_; clear hg_ hnew_; (first | rw [← Ny104.out] at ho9 | (simp only [Int.reduceToNat] at ho9; rw [← Ny104.out] at ho9)); have n0_ := Aside0.mk (Kd.N_lower ho9 (below_size (by repeat (first | (with_reducible first | exact HB.out | apply below_alloc | apply pw_below_drewN | apply below_drew1) | exact HB.out)))); have n1_ := Aside0.mk (below_step (by repeat (first | (with_reducible first | exact HB.out | apply below_alloc | apply pw_below_drewN | apply below_drew1) | exact HB.out)) hb); clear HB; clear HO103; have HO106 := n0_; have HB := n1_; clear n0_ n1_; clear hb ho9))
    go_ret
    exact ⟨_, by first | rfl | (simp [errW_none, errW_some] <;> rfl) | (simp [*, errW_none, errW_some] <;> rfl), by (with_reducible repeat (first | apply Kd.N_alloc | apply Kd.N_drewN | apply Kd.N_drew)); exact HO106.out, by repeat (first | (with_reducible first | exact HB.out | apply below_alloc | apply pw_below_drewN | apply below_drew1) | exact HB.out)⟩
  · rw [if_neg c4] at H
    have c4b0 : ((l2.length : Int) == a1) = false := beq_eq_false_iff_ne.mpr c4
    have c4b1 : ((l2.length : Int) != a1) = true := bne_iff_ne.mpr c4
    have HC10 := Aside0.mk H
    clear H
    go_enter Try.func122, Try.ntmps122
    go_upto_if 18 with (fail)
    go_cut [7] (fun v7 wc => ∃ (kq : Nat) (x7_9 : Int), v7 = .int .i64 x7_9 ∧ Aside0 (spec_lcChosen.j0 kq a0 a1 l2 x7_9 = some r) ∧ Aside0 (kq ≤ k) ∧ Aside0 (Below w.heap.size w wc))
    case first =>
      have H := HC10.out
      clear HC10
      by_cases c11 : (l2.length : Int) > 0
      · rw [if_pos c11] at H
        have c11b0 : decide (0 < (l2.length : Int)) = true := decide_eq_true c11
        have c11b1 : decide (0 < l2.length) = true := decide_eq_true (by omega)
        clear c11
        (first | rw [c11b0] | rw [c11b1] | (simp only [i64_w, i32_w]; rw [c11b0]) | skip)
        obtain ⟨ji12, hji12⟩ : ∃ j_ : Int, (wrap64 ((l2.length : Int) - 1)) = j_ := ⟨_, rfl⟩
        replace H : (if 0 ≤ (ji12) then (if (ji12) < (l2.length : Int) then (spec_lcChosen.j0 k a0 a1 l2 (wrap64 ((rd l2 (ji12)) + 1))) else (none)) else (none)) = some r := by first | (rw [hji12] at H; exact H) | (simp only [hji12] at H ⊢; exact H)
        have hji12w : (IntKind.i64.wrap ((l2.length : Int) - 1)) = ji12 := (i64_w _).trans hji12
        by_cases c13 : 0 ≤ (ji12)
        · rw [if_pos c13] at H
          have c13b0 : decide (0 ≤ (ji12)) = true := decide_eq_true c13
          clear c13
          by_cases c14 : (ji12) < (l2.length : Int)
          · rw [if_pos c14] at H
            have c14b0 : decide ((ji12) < (l2.length : Int)) = true := decide_eq_true c14
            clear c14
            have H' := Aside0.mk H
            clear H
            have p107 : 0 ≤ ((ji12) : Int) := of_decide_eq_true (by first | (with_reducible assumption) | assumption)
            have q107 : (ji12) < (l2.length : Int) := of_decide_eq_true (by first | (with_reducible assumption) | assumption)
            obtain ⟨ad107, e107, hx107_0⟩ := Kd.at_int HR2.out (ji12) p107 q107
            cases e107
            replace hx107_0 := (HB.out.cell (World.block_lt_of_cell? w _ hx107_0)).trans hx107_0
            replace p107 := eq_true p107
            replace q107 := eq_true q107
            go_wp2
            go_meet
            case rel => exact ⟨_, (wrap64 ((rd l2 (ji12)) + 1)), (by first | rfl | (simp; done) | (simp only [← hji12] <;> (first | rfl | simp)) | (simp [*]; done)), H', ⟨by first | omega | exact Nat.le_refl _⟩, ⟨by repeat (first | (with_reducible first | exact HB.out | apply below_alloc | apply pw_below_drewN | apply below_drew1) | exact HB.out)⟩⟩
          · rw [if_neg c14] at H
            exact absurd H (by simp)
        · rw [if_neg c13] at H
          exact absurd H (by simp)
      · rw [if_neg c11] at H
        have c11b0 : decide (0 < (l2.length : Int)) = false := decide_eq_false c11
        have c11b1 : decide (0 < l2.length) = false := decide_eq_false (by omega)
        clear c11
        (first | rw [c11b0] | rw [c11b1] | (simp only [i64_w, i32_w]; rw [c11b0]) | skip)
        have H' := Aside0.mk H
        clear H
        go_wp2
        go_meet
        case rel => exact ⟨_, (0), (by first | rfl | (simp; done) | (simp [*]; done)), H', ⟨by first | omega | exact Nat.le_refl _⟩, ⟨by repeat (first | (with_reducible first | exact HB.out | apply below_alloc | apply pw_below_drewN | apply below_drew1) | exact HB.out)⟩⟩
    case rest =>
      clear HC10
      try clear c1
      try clear p1
      try clear q1
      try clear hx1
      try clear c2
      try clear p2
      try clear c4
      try clear c4b0
      try clear c4b1
      try clear p6
      try clear c9
      try clear p10
      try clear q10
      try clear hx10
      try clear c11
      try clear c11b0
      try clear c11b1
      try clear c12
      try clear c13
      try clear c13b0
      try clear c14
      try clear c14b0
      try clear hx107_0
      try clear p107
      try clear q107
      obtain ⟨kq, x7_9, rfl, HA, HJ9, HB⟩ := hcut
      cases kq with
      | zero => exact absurd HA.out (by simp [spec_lcChosen.j0])
      | succ kj9 =>
        have H := HA.out
        clear HA
        simp only [spec_lcChosen.j0] at H
        have H' := Aside0.mk H
        clear H
        go_wp2
        go_loopg [7, 8] kj9 (fun kq v7 v8 w' => ∃ (x7_2 : Int) (x8_2 : List (List Int)), v7 = .int .i64 x7_2 ∧ Aside0 (spec_lcChosen.l0 kq a0 a1 l2 x7_2 x8_2 = some r) ∧ Aside0 (kq ≤ kj9) ∧ Aside0 (Kd.N (Kd.slice 3 (Kd.int .i64)) 24 w' w.heap.size (fun k_ => (w.heap.size ≤ k_)) v8 x8_2) ∧ Aside0 (Below w.heap.size w w'))
        case atStart => exact ⟨(x7_9), (([] : List (List Int))), (by first | rfl | (simp; done) | (simp [*]; done)), H', ⟨Nat.le_refl _⟩, ⟨by first | exact Kd.S_nil _ _ _ _ _ | exact Kd.N_nil _ _ _ _ _ | exact Kd.V_nil _ _ _ _ _ | exact Kd.Q_nil _ _ _ _ _ | exact Kd.R_nil _ _ _ _ _⟩, ⟨by repeat (first | (with_reducible first | exact HB.out | apply below_alloc | apply pw_below_drewN | apply below_drew1) | exact HB.out)⟩⟩
        case round =>
          clear H'
          try clear c1
          try clear p1
          try clear q1
          try clear hx1
          try clear c2
          try clear p2
          try clear c4
          try clear c4b0
          try clear c4b1
          try clear p6
          try clear c9
          try clear p10
          try clear q10
          try clear hx10
          try clear c11
          try clear c11b0
          try clear c11b1
          try clear c12
          try clear c13
          try clear c13b0
          try clear c14
          try clear c14b0
          try clear hx107_0
          try clear p1
          try clear p10
          try clear p107
          try clear p2
          try clear p6
          try clear q1
          try clear q10
          try clear q107
          obtain ⟨x7_2, x8_2, rfl, HA, HK2, HO_8, HB⟩ := hrel
          cases gk with
          | zero => exact absurd HA.out (by simp [spec_lcChosen.l0])
          | succ k2 =>
            have H := HA.out
            clear HA
            simp only [spec_lcChosen.l0] at H
            by_cases c15 : x7_2 < a0
            · rw [if_pos c15] at H
              have c15b0 : decide (x7_2 < a0) = true := decide_eq_true c15
              clear c15
              replace H := Option.bind_eq_some_iff.mp H
              obtain ⟨t108, A160, H⟩ := H
              replace H : (if t108.length < 17592186044416 then ((spec_lcChosen.f k2 a0 a1 (t108 ++ [x7_2])).bind fun t114 => (if x8_2.length + t114.length < 5864062014805 then (spec_lcChosen.l0 k2 a0 a1 l2 (wrap64 (x7_2 + 1)) (x8_2 ++ t114)) else (none))) else (none)) = some r := H
              have A16 := Aside0.mk A160
              clear A160
              by_cases c17 : t108.length < 17592186044416
              · rw [if_pos c17] at H
                have LMc17 := Aside0.mk c17
                clear c17
                obtain ⟨y111, hy111⟩ : ∃ y_ : List Int, y_ = (t108 ++ [x7_2]) := ⟨_, rfl⟩
                replace H : ((spec_lcChosen.f k2 a0 a1 y111).bind fun t114 => (if x8_2.length + t114.length < 5864062014805 then (spec_lcChosen.l0 k2 a0 a1 l2 (wrap64 (x7_2 + 1)) (x8_2 ++ t114)) else (none))) = some r := by first | (rw [hy111]; with_reducible exact H) | (have H2_ := (Option.bind_some _ _).symm.trans H; rw [hy111]; with_reducible exact H2_) | (have H2_ := (Option.bind_some _ _).symm.trans H; with_reducible exact H2_) | with_reducible exact H | (rw [hy111]; exact H) | exact H
                have Ny111 := Aside0.mk hy111
                clear hy111
                replace H := Option.bind_eq_some_iff.mp H
                obtain ⟨t114, A180, H⟩ := H
                replace H : (if x8_2.length + t114.length < 5864062014805 then (spec_lcChosen.l0 k2 a0 a1 l2 (wrap64 (x7_2 + 1)) (x8_2 ++ t114)) else (none)) = some r := H
                have A18 := Aside0.mk A180
                clear A180
                by_cases c19 : x8_2.length + t114.length < 5864062014805
                · rw [if_pos c19] at H
                  have LMc19 := Aside0.mk c19
                  clear c19
                  obtain ⟨y117, hy117⟩ : ∃ y_ : List (List Int), y_ = (x8_2 ++ t114) := ⟨_, rfl⟩
                  replace H : (spec_lcChosen.l0 k2 a0 a1 l2 (wrap64 (x7_2 + 1)) y117) = some r := by first | (rw [hy117]; with_reducible exact H) | (have H2_ := (Option.bind_some _ _).symm.trans H; rw [hy117]; with_reducible exact H2_) | (have H2_ := (Option.bind_some _ _).symm.trans H; with_reducible exact H2_) | with_reducible exact H | (rw [hy117]; exact H) | exact H
                  have Ny117 := Aside0.mk hy117
                  clear hy117
                  have H' := Aside0.mk H
                  clear H
                  go_wp2_with (first | ((with_reducible refine gate_callee (f := 92) rfl ?_); refine goesL_ (some 35) rfl rfl Try.func92 (by kernel_rfl) rfl #[.slice A2 l2.length c2] rfl (by (try simp only [List.map_toArray, List.map_cons, List.map_nil]); first | done | rfl | (simp only [List.length_drop, List.length_take]; rfl)) ?_; (with_reducible refine (spec_l1Own.calls _ _ l2 t108 _ ?side1 ?side2 A16.out).mono ?_); (case side1 => repeat (first | exact (Kd.C_below HR2.out HB.out) | (with_reducible refine Kd.C_alloc ?_ _) | (with_reducible refine Kd.C_drewN ?_ _) | (with_reducible refine Kd.C_drew ?_))); (case side2 => exact HC2.out); rintro e w20 ⟨v109, rfl, ho0, hb⟩; refine ⟨_, rfl, ?_⟩; have n0_ := Aside0.mk (Kd.N_elder' (by (with_reducible repeat (first | apply Kd.N_alloc | apply Kd.N_drewN | apply Kd.N_drew)); exact HO_8.out) (Kd.R_base ho0) hb); have n1_ := Aside0.mk (Kd.R_lower (Kd.R_newM (M := fun k_ => (w.heap.size ≤ k_)) ho0 (below_size (by repeat (first | (with_reducible first | exact HB.out | apply below_alloc | apply pw_below_drewN | apply below_drew1) | exact HB.out))) (fun k_ h_ => h_)) (below_size (by repeat (first | (with_reducible first | exact HB.out | apply below_alloc | apply pw_below_drewN | apply below_drew1) | exact HB.out)))); have n2_ := Aside0.mk (below_step (by repeat (first | (with_reducible first | exact HB.out | apply below_alloc | apply pw_below_drewN | apply below_drew1) | exact HB.out)) hb); clear HO_8; clear HB; have HO_8 := n0_; have HO110 := n1_; have HB := n2_; clear n0_ n1_ n2_; (try clear hb); (try clear hb2); (try clear hk); (try clear hi); (try clear ho0)) | ((with_reducible refine gate_builtin (b := .append) (xs := #[.tmp 35, .tmp 37]) rfl ?_); at_builtin; refine Kd.R_append (Kd.int .i64) (w0 := w) w.heap.size rfl (.tmp 35) (.tmp 37) 24 3 (.int .i64 0) 8 rfl Try.underlying24 info3 rfl (by decide) (by omega) v109 t108 x7_2 [.int .i64 x7_2] (fun k_ => (w.heap.size ≤ k_)) (fun _ => False) rfl rfl ?aP (fun _ hk => hk.elim) ?aF ?aO ?aB ?aS ?aL ?_; (case aP => exact rfl); (case aB => exact (by repeat (first | (with_reducible first | exact HB.out | apply below_alloc | apply pw_below_drewN | apply below_drew1) | exact HB.out))); (case aF => exact (fun k_ hk => (Nat.le_trans (below_size (by repeat (first | (with_reducible first | exact HB.out | apply below_alloc | apply pw_below_drewN | apply below_drew1) | exact HB.out))) hk))); (case aO => exact (by (with_reducible repeat (first | apply Kd.R_alloc | apply Kd.R_drewN | apply Kd.R_drew)); exact Kd.R_mono HO110.out (fun _ hk => hk.1))); (case aS => exact (below_size (by repeat (first | (with_reducible first | exact HB.out | apply below_alloc | apply pw_below_drewN | apply below_drew1) | exact HB.out)))); (case aL => have := LMc17.out; omega); intro v112 w21 ho hb hg hat; rw [← Ny111.out] at ho; have n0_ := Aside0.mk (Kd.N_afterv (ok := (fun k_ => (w.heap.size ≤ k_))) (by (with_reducible repeat (first | apply Kd.N_alloc | apply Kd.N_drewN | apply Kd.N_drew)); exact HO_8.out) hg hat); have n1_ := Aside0.mk (hb); have n2_ := Aside0.mk (ho); clear HO_8; clear HB; clear HO110; have HO_8 := n0_; have HB := n1_; have HO113 := n2_; clear n0_ n1_ n2_; clear ho hb hg hat; obtain ⟨Ao22, co22, eo22⟩ := Kd.R_slice HO113.out; subst eo22) | ((with_reducible refine gate_callee (f := 122) rfl ?_); refine goesL_ (some 39) rfl rfl Try.func122 (by kernel_rfl) rfl #[.int .i64 a0, .int .i64 a1, .slice Ao22 y111.length co22] rfl (by (try simp only [List.map_toArray, List.map_cons, List.map_nil]); first | done | rfl | (simp only [List.length_drop, List.length_take]; rfl)) ?_; (with_reducible refine (ih k2 (by have := HJ9.out; have := HK2.out; omega) a0 a1 _ _ y111 t114 _ ?side1 ?side2 A18.out).mono ?_); (case side1 => repeat (first | exact (Kd.R_reads' HO113.out).2.2 | (with_reducible refine Kd.C_alloc ?_ _) | (with_reducible refine Kd.C_drewN ?_ _) | (with_reducible refine Kd.C_drew ?_))); (case side2 => exact (Kd.R_reads' HO113.out).2.1); rintro e w23 ⟨v115, rfl, ho0, hb⟩; refine ⟨_, rfl, ?_⟩; have n0_ := Aside0.mk (Kd.N_elder' (by (with_reducible repeat (first | apply Kd.N_alloc | apply Kd.N_drewN | apply Kd.N_drew)); exact HO_8.out) (Kd.N_base ho0) hb); have n1_ := Aside0.mk (Kd.R_below (by (with_reducible repeat (first | apply Kd.R_alloc | apply Kd.R_drewN | apply Kd.R_drew)); exact HO113.out) hb); have n2_ := Aside0.mk (Kd.N_lower (Kd.N_mono (ok' := fun k_ => (w.heap.size ≤ k_) ∧ some k_ ≠ (u8 : Value).ownBlock ∧ some k_ ≠ (.slice Ao22 y111.length co22 : Value).ownBlock) ho0 (fun k_ hk_ => ⟨(Nat.le_trans (below_size (by repeat (first | (with_reducible first | exact HB.out | apply below_alloc | apply pw_below_drewN | apply below_drew1) | exact HB.out))) hk_), (Kd.fresh' (Kd.N_lt (by (with_reducible repeat (first | apply Kd.N_alloc | apply Kd.N_drewN | apply Kd.N_drew)); exact HO_8.out)) k_ hk_), (Kd.fresh' (Kd.R_lt (by (with_reducible repeat (first | apply Kd.R_alloc | apply Kd.R_drewN | apply Kd.R_drew)); exact HO113.out)) k_ hk_)⟩)) (below_size (by repeat (first | (with_reducible first | exact HB.out | apply below_alloc | apply pw_below_drewN | apply below_drew1) | exact HB.out)))); have n3_ := Aside0.mk (below_step (by repeat (first | (with_reducible first | exact HB.out | apply below_alloc | apply pw_below_drewN | apply below_drew1) | exact HB.out)) hb); clear HO_8; clear HO113; clear HB; have HO_8 := n0_; have HO113 := n1_; have HO116 := n2_; have HB := n3_; clear n0_ n1_ n2_ n3_; (try clear hb); (try clear hb2); (try clear hk); (try clear hi); (try clear ho0); obtain ⟨Ao25, co25, eo25⟩ := Kd.N_slice HO116.out; subst eo25) | ((with_reducible refine gate_builtin (b := .append) (xs := #[.tmp 31, .tmp 39]) rfl ?_); at_builtin; refine Kd.N_append_rows (Kd.slice 3 (Kd.int .i64)) (w0 := w) w.heap.size rfl (.tmp 31) (.tmp 39) 61 24 (.slice none 0 0) 24 rfl Try.underlying61 info24 rfl (by decide) (by omega) u8 x8_2 t114 _ _ _ (fun k_ => (w.heap.size ≤ k_) ∧ some k_ ≠ (.slice Ao22 y111.length co22 : Value).ownBlock) (fun k_ => ((fun k_ => (w.heap.size ≤ k_) ∧ some k_ ≠ (.slice Ao22 y111.length co22 : Value).ownBlock)) k_ ∧ some k_ ≠ (u8 : Value).ownBlock) rfl rfl ?aO ?aR (fun _ hk => hk) ?aF ?aB ?aS ?aL ?_; (case aR => exact (by skip; exact Kd.N_F (Kd.N_mono (ok' := (fun k_ => ((fun k_ => (w.heap.size ≤ k_) ∧ some k_ ≠ (.slice Ao22 y111.length co22 : Value).ownBlock)) k_ ∧ some k_ ≠ (u8 : Value).ownBlock)) (HO116.out) (fun k_ hk => ⟨⟨hk.1, hk.2.2⟩, hk.2.1⟩)))); (case aB => exact (by repeat (first | (with_reducible first | exact HB.out | apply below_alloc | apply pw_below_drewN | apply below_drew1) | exact HB.out))); (case aF => exact (fun k_ hk => ⟨(Nat.le_trans (below_size (by repeat (first | (with_reducible first | exact HB.out | apply below_alloc | apply pw_below_drewN | apply below_drew1) | exact HB.out))) hk), Kd.fresh' (Kd.R_lt (by (with_reducible repeat (first | apply Kd.R_alloc | apply Kd.R_drewN | apply Kd.R_drew)); exact HO113.out)) k_ hk⟩)); (case aO => exact (by (with_reducible repeat (first | apply Kd.N_alloc | apply Kd.N_drewN | apply Kd.N_drew)); exact Kd.N_mono HO_8.out (fun _ hk => ⟨hk.1.1, hk.1.2⟩))); (case aS => exact (below_size (by repeat (first | (with_reducible first | exact HB.out | apply below_alloc | apply pw_below_drewN | apply below_drew1) | exact HB.out)))); (case aL => have := LMc19.out; omega); intro v118 w24 ho hb hg hat; rw [← Ny117.out] at ho; have n0_ := Aside0.mk (Kd.R_over' (by (with_reducible repeat (first | apply Kd.R_alloc | apply Kd.R_drewN | apply Kd.R_drew)); exact HO113.out) (Kd.N_typed (by (with_reducible repeat (first | apply Kd.N_alloc | apply Kd.N_drewN | apply Kd.N_drew)); exact HO_8.out)) (by decide) hg); have n1_ := Aside0.mk (Kd.N_afterv (ok := (fun k_ => (w.heap.size ≤ k_) ∧ some k_ ≠ (.slice Ao22 y111.length co22 : Value).ownBlock)) (by (with_reducible repeat (first | apply Kd.N_alloc | apply Kd.N_drewN | apply Kd.N_drew)); exact Kd.N_mono HO116.out (fun _ hk => ⟨⟨hk.1, hk.2.2⟩, hk.2.1⟩)) hg hat); have n2_ := Aside0.mk (hb); have n3_ := Aside0.mk (ho); clear HO113; clear HO116; clear HB; clear HO_8; have HO113 := n0_; have HO116 := n1_; have HB := n2_; have HO119 := n3_; clear n0_ n1_ n2_ n3_; clear ho hb hg hat))
                  go_roundg k2
                  case measure => have := HJ9.out; have := HK2.out; omega
                  case rel => exact ⟨(wrap64 (x7_2 + 1)), (y117), (by first | rfl | (simp; done) | (simp [*]; done)), H', ⟨by have := HJ9.out; have := HK2.out; omega⟩, ⟨by (with_reducible repeat (first | apply Kd.N_alloc | apply Kd.N_drewN | apply Kd.N_drew)); exact Kd.N_mono HO119.out (fun _ hk => hk.1)⟩, ⟨by repeat (first | (with_reducible first | exact HB.out | apply below_alloc | apply pw_below_drewN | apply below_drew1) | exact HB.out)⟩⟩
                · rw [if_neg c19] at H
                  exact absurd H (by simp)
              · rw [if_neg c17] at H
                exact absurd H (by simp)
            · rw [if_neg c15] at H
              have c15b0 : decide (x7_2 < a0) = false := decide_eq_false c15
              clear c15
              obtain rfl := Option.some.inj H
              go_wp2
              go_ret
              exact ⟨_, by first | rfl | (simp [errW_none, errW_some] <;> rfl) | (simp [*, errW_none, errW_some] <;> rfl), by (with_reducible repeat (first | apply Kd.N_alloc | apply Kd.N_drewN | apply Kd.N_drew)); exact HO_8.out, by repeat (first | (with_reducible first | exact HB.out | apply below_alloc | apply pw_below_drewN | apply below_drew1) | exact HB.out)⟩
end Go.Proofs.Ytgnmcfoenmfhcaa.Q
end
section
namespace Go.Proofs.Ytgnmcfoenmfhcaa.Q
open Go.RowKit Go.Proofs.YtgnmcfoenmfhcaaW.PrintWords Go.Proofs.YtgnmcfoenmfhcaaW.PrintLast Go.Proofs.YtgnmcfoenmfhcaaW.PrintMore
attribute [local go_sem] max2_int min2_int max_two min_two max_three min_three max_four min_four   -- for this text's walks alone
set_option linter.unusedVariables false
set_option linter.unusedSimpArgs false
def spec_lcSets.l0 : Nat → Int → List (List Int) → Int → Option ((List (List Int)))
  | 0, _, _, _ => none
  | k + 1, x0, x3, x4 => if x4 ≤ x0 then ((spec_lcChosen.f k x0 x4 ([] : List Int)).bind fun t101 => (if x3.length + t101.length < 5864062014805 then (spec_lcSets.l0 k x0 (x3 ++ t101) (wrap64 (x4 + 1))) else (none))) else (some x3)
def spec_lcSets.f (k : Nat) (a0 : Int) : Option ((List (List Int))) := spec_lcSets.l0 k a0 ([] : List (List Int)) 0
theorem spec_lcSets.mono_l : ∀ k, (∀ y0 y1 y2, LeO (spec_lcSets.l0 k y0 y1 y2) (spec_lcSets.l0 (k + 1) y0 y1 y2))
  | 0 => fun _ _ _ r h => by simp [spec_lcSets.l0] at h
  | k + 1 => by
    have ih0 := spec_lcSets.mono_l k
    · intro y0 y1 y2
      unfold spec_lcSets.l0
      repeat' first
      | (with_reducible exact ih0 _ _ _)
      | (with_reducible exact spec_lcChosen.mono _ _ _ _)
      | (with_reducible exact LeO.refl _)
      | (with_reducible exact LeO.none _)
      | (with_reducible refine LeO.ite ?_ ?_)
      | (with_reducible refine LeO.bind ?_ (fun _ => ?_))
      | exact ih0 _ _ _
      | exact spec_lcChosen.mono _ _ _ _
      | exact LeO.none _
      | refine LeO.ite ?_ ?_
      | refine LeO.bind ?_ (fun _ => ?_)
theorem spec_lcSets.mono : ∀ a0 k, LeO (spec_lcSets.f k a0) (spec_lcSets.f (k + 1) a0) := by
  intro a0 k
  have ih0 := spec_lcSets.mono_l k
  unfold spec_lcSets.f
  repeat' first
      | (with_reducible exact ih0 _ _ _)
      | (with_reducible exact spec_lcChosen.mono _ _ _ _)
      | (with_reducible exact LeO.refl _)
      | (with_reducible exact LeO.none _)
      | (with_reducible refine LeO.ite ?_ ?_)
      | (with_reducible refine LeO.bind ?_ (fun _ => ?_))
      | exact ih0 _ _ _
      | exact spec_lcChosen.mono _ _ _ _
      | exact LeO.none _
      | refine LeO.ite ?_ ?_
      | refine LeO.bind ?_ (fun _ => ?_)
set_option maxHeartbeats 8000000 in
set_option maxRecDepth 100000 in
theorem spec_lcSets.calls (k : Nat) (a0 : Int) (r : List (List Int)) (w : World) (h : spec_lcSets.f k a0 = some r) :
    Calls Try.prog 77 #[.int .i64 a0] w fun e w' => ∃ v0_ : Value, e = .returned (v0_) ∧ Kd.N (Kd.slice 3 (Kd.int .i64)) 24 w' w.heap.size (fun k_ => (w.heap.size ≤ k_)) v0_ r ∧ Below w.heap.size w w' := by
  have HB := Aside0.mk (Below.refl w.heap.size w)
  have H : (spec_lcSets.l0 k a0 ([] : List (List Int)) 0) = some r := h
  clear h
  have H' := Aside0.mk H
  clear H
  go_enter Try.func77, Try.ntmps77
  go_wp2
  go_loopg [3, 4] k (fun kq v3 v4 w' => ∃ (x3_1 : List (List Int)) (x4_1 : Int), v4 = .int .i64 x4_1 ∧ Aside0 (spec_lcSets.l0 kq a0 x3_1 x4_1 = some r) ∧ Aside0 (kq ≤ k) ∧ Aside0 (Kd.N (Kd.slice 3 (Kd.int .i64)) 24 w' w.heap.size (fun k_ => (w.heap.size ≤ k_)) v3 x3_1) ∧ Aside0 (Below w.heap.size w w'))
  case atStart => exact ⟨(([] : List (List Int))), (0), (by first | rfl | (simp; done) | (simp [*]; done)), H', ⟨Nat.le_refl _⟩, ⟨by first | exact Kd.S_nil _ _ _ _ _ | exact Kd.N_nil _ _ _ _ _ | exact Kd.V_nil _ _ _ _ _ | exact Kd.Q_nil _ _ _ _ _ | exact Kd.R_nil _ _ _ _ _⟩, ⟨by repeat (first | (with_reducible first | exact HB.out | apply below_alloc | apply pw_below_drewN | apply below_drew1) | exact HB.out)⟩⟩
  case round =>
    clear H'
    obtain ⟨x3_1, x4_1, rfl, HA, HK1, HO_3, HB⟩ := hrel
    cases gk with
    | zero => exact absurd HA.out (by simp [spec_lcSets.l0])
    | succ k1 =>
      have H := HA.out
      clear HA
      simp only [spec_lcSets.l0] at H
      by_cases c2 : x4_1 ≤ a0
      · rw [if_pos c2] at H
        have c2b0 : decide (x4_1 ≤ a0) = true := decide_eq_true c2
        clear c2
        replace H := Option.bind_eq_some_iff.mp H
        obtain ⟨t101, A30, H⟩ := H
        replace H : (if x3_1.length + t101.length < 5864062014805 then (spec_lcSets.l0 k1 a0 (x3_1 ++ t101) (wrap64 (x4_1 + 1))) else (none)) = some r := H
        have A3 := Aside0.mk A30
        clear A30
        by_cases c4 : x3_1.length + t101.length < 5864062014805
        · rw [if_pos c4] at H
          have LMc4 := Aside0.mk c4
          clear c4
          obtain ⟨y104, hy104⟩ : ∃ y_ : List (List Int), y_ = (x3_1 ++ t101) := ⟨_, rfl⟩
          replace H : (spec_lcSets.l0 k1 a0 y104 (wrap64 (x4_1 + 1))) = some r := by first | (rw [hy104]; with_reducible exact H) | (have H2_ := (Option.bind_some _ _).symm.trans H; rw [hy104]; with_reducible exact H2_) | (have H2_ := (Option.bind_some _ _).symm.trans H; with_reducible exact H2_) | with_reducible exact H | (rw [hy104]; exact H) | exact H
          have Ny104 := Aside0.mk hy104
          clear hy104
          have H' := Aside0.mk H
          clear H
          go_wp2_with (first | ((with_reducible refine gate_callee (f := 122) rfl ?_); refine goesL_ (some 13) rfl rfl Try.func122 (by kernel_rfl) rfl #[.int .i64 a0, .int .i64 x4_1, .slice none 0 0] rfl (by (try simp only [List.map_toArray, List.map_cons, List.map_nil]); first | done | rfl | (simp only [List.length_drop, List.length_take]; rfl)) ?_; (refine (spec_lcChosen.calls k1 a0 x4_1 _ _ ([] : List Int) t101 _ ?side1 ?side2 A3.out).mono ?_); (case side1 => exact Kd.C_nil _ _); (case side2 => exact Nat.le_refl _); rintro e w5 ⟨v102, rfl, ho0, hb⟩; refine ⟨_, rfl, ?_⟩; have n0_ := Aside0.mk (Kd.N_elder' (by (with_reducible repeat (first | apply Kd.N_alloc | apply Kd.N_drewN | apply Kd.N_drew)); exact HO_3.out) (Kd.N_base ho0) hb); have n1_ := Aside0.mk (Kd.N_lower (Kd.N_mono (ok' := fun k_ => (w.heap.size ≤ k_) ∧ some k_ ≠ (u3 : Value).ownBlock) ho0 (fun k_ hk_ => ⟨(Nat.le_trans (below_size (by repeat (first | (with_reducible first | exact HB.out | apply below_alloc | apply pw_below_drewN | apply below_drew1) | exact HB.out))) hk_), (Kd.fresh' (Kd.N_lt (by (with_reducible repeat (first | apply Kd.N_alloc | apply Kd.N_drewN | apply Kd.N_drew)); exact HO_3.out)) k_ hk_)⟩)) (below_size (by repeat (first | (with_reducible first | exact HB.out | apply below_alloc | apply pw_below_drewN | apply below_drew1) | exact HB.out)))); have n2_ := Aside0.mk (below_step (by repeat (first | (with_reducible first | exact HB.out | apply below_alloc | apply pw_below_drewN | apply below_drew1) | exact HB.out)) hb); clear HO_3; clear HB; have HO_3 := n0_; have HO103 := n1_; have HB := n2_; clear n0_ n1_ n2_; (try clear hb); (try clear hb2); (try clear hk); (try clear hi); (try clear ho0); obtain ⟨Ao7, co7, eo7⟩ := Kd.N_slice HO103.out; subst eo7) | ((with_reducible refine gate_builtin (b := .append) (xs := #[.tmp 10, .tmp 13]) rfl ?_); at_builtin; refine Kd.N_append_rows (Kd.slice 3 (Kd.int .i64)) (w0 := w) w.heap.size rfl (.tmp 10) (.tmp 13) 61 24 (.slice none 0 0) 24 rfl Try.underlying61 info24 rfl (by decide) (by omega) u3 x3_1 t101 _ _ _ (fun k_ => (w.heap.size ≤ k_)) (fun k_ => ((fun k_ => (w.heap.size ≤ k_))) k_ ∧ some k_ ≠ (u3 : Value).ownBlock) rfl rfl ?aO ?aR (fun _ hk => hk) ?aF ?aB ?aS ?aL ?_; (case aR => exact (by skip; exact Kd.N_F (Kd.N_mono (ok' := (fun k_ => ((fun k_ => (w.heap.size ≤ k_))) k_ ∧ some k_ ≠ (u3 : Value).ownBlock)) (HO103.out) (fun k_ hk => ⟨hk.1, hk.2⟩)))); (case aB => exact (by repeat (first | (with_reducible first | exact HB.out | apply below_alloc | apply pw_below_drewN | apply below_drew1) | exact HB.out))); (case aF => exact (fun k_ hk => (Nat.le_trans (below_size (by repeat (first | (with_reducible first | exact HB.out | apply below_alloc | apply pw_below_drewN | apply below_drew1) | exact HB.out))) hk))); (case aO => exact (by (with_reducible repeat (first | apply Kd.N_alloc | apply Kd.N_drewN | apply Kd.N_drew)); exact Kd.N_mono HO_3.out (fun _ hk => hk.1))); (case aS => exact (below_size (by repeat (first | (with_reducible first | exact HB.out | apply below_alloc | apply pw_below_drewN | apply below_drew1) | exact HB.out)))); (case aL => have := LMc4.out; omega); intro v105 w6 ho hb hg hat; rw [← Ny104.out] at ho; have n0_ := Aside0.mk (Kd.N_afterv (ok := (fun k_ => (w.heap.size ≤ k_))) (by (with_reducible repeat (first | apply Kd.N_alloc | apply Kd.N_drewN | apply Kd.N_drew)); exact HO103.out) hg hat); have n1_ := Aside0.mk (hb); have n2_ := Aside0.mk (ho); clear HO103; clear HB; clear HO_3; have HO103 := n0_; have HB := n1_; have HO106 := n2_; clear n0_ n1_ n2_; clear ho hb hg hat))
          go_roundg k1
          case measure => have := HK1.out; omega
          case rel => exact ⟨(y104), (wrap64 (x4_1 + 1)), (by first | rfl | (simp; done) | (simp [*]; done)), H', ⟨by have := HK1.out; omega⟩, ⟨by (with_reducible repeat (first | apply Kd.N_alloc | apply Kd.N_drewN | apply Kd.N_drew)); exact HO106.out⟩, ⟨by repeat (first | (with_reducible first | exact HB.out | apply below_alloc | apply pw_below_drewN | apply below_drew1) | exact HB.out)⟩⟩
        · rw [if_neg c4] at H
          exact absurd H (by simp)
      · rw [if_neg c2] at H
        have c2b0 : decide (x4_1 ≤ a0) = false := decide_eq_false c2
        clear c2
        obtain rfl := Option.some.inj H
        go_wp2
        go_ret
        exact ⟨_, by first | rfl | (simp [errW_none, errW_some] <;> rfl) | (simp [*, errW_none, errW_some] <;> rfl), by (with_reducible repeat (first | apply Kd.N_alloc | apply Kd.N_drewN | apply Kd.N_drew)); exact HO_3.out, by repeat (first | (with_reducible first | exact HB.out | apply below_alloc | apply pw_below_drewN | apply below_drew1) | exact HB.out)⟩
end Go.Proofs.Ytgnmcfoenmfhcaa.Q
end
section
namespace Go.Proofs.Ytgnmcfoenmfhcaa.RowSetsK
set_option linter.unusedVariables false
open Go.RowKit Go.Proofs Go.Sort Go.Proofs.Ytgnmcfoenmfhcaa.Q Go.Proofs.YtgnmcfoenmfhcaaW.PrintWords Go.Proofs.YtgnmcfoenmfhcaaW.PrintLast Go.Proofs.YtgnmcfoenmfhcaaW.PrintMore
open Go.Proofs.YtgnmcfoenmfhcaaL Go.Proofs.Ytgnmcfoenmfhcaa.LawK Go.Proofs.Ytgnmcfoenmfhcaa.BoardK Go.Proofs.Ytgnmcfoenmfhcaa.LinesK Go.Proofs.Ytgnmcfoenmfhcaa.SortM
def setsM (R : Nat) : List Nat := fullM.filter (fun m => decide (m < 2 ^ R))
theorem setsM_lt : ∀ R : Fin 7, ∀ m ∈ setsM R.val, m < 64 ∧ m < 2 ^ R.val := by decide +kernel
theorem setsM_pair : ∀ R : Fin 7, List.Pairwise (fun x y => rankM x < rankM y) (setsM R.val) := by decide +kernel
theorem iota_all : ∀ R : Fin 7, (iota 0 (2 ^ R.val)).all isMask = true := by decide +kernel
theorem setsM_perm : ∀ R : Fin 7, List.Perm ((iota 0 (2 ^ R.val)).map toF) ((setsM R.val).map fun (m : Nat) => toF (m : Int)) := by decide +kernel
theorem toF_nat {m : Nat} (h : m < 64) : (toF (m : Int)).val = m := by unfold toF; simp only []; omega
theorem sorted_all {R : Nat} (hR : R ≤ 6) : sortedM (iota 0 (2 ^ R)) = (setsM R).map fun (m : Nat) => (m : Int) := by
  have hp := setsM_perm ⟨R, by omega⟩
  have hq := setsM_pair ⟨R, by omega⟩
  have hl := setsM_lt ⟨R, by omega⟩
  simp only [] at hp hq hl
  have e : ((iota 0 (2 ^ R)).map toF).mergeSort (fun x y => !(ltOf cfM) y x) = (setsM R).map fun (m : Nat) => toF (m : Int) := by
    refine List.Perm.eq_of_pairwise (le := fun x y => (!(ltOf cfM) y x) = true) ?_ ?_ ?_ ((List.mergeSort_perm _ _).trans hp)
    · intro a b _ _ h1 h2
      exact totM a b (by simpa using h2) (by simpa using h1)
    · refine List.pairwise_mergeSort ?_ ?_ _
      · intro a b c h1 h2
        rw [ltM] at *
        simp at *
        omega
      · intro a b
        rw [ltM, ltM]
        simp
        omega
    · rw [List.pairwise_map]
      refine List.Pairwise.imp_of_mem ?_ hq
      intro a b ha hb h
      rw [ltM, toF_nat (hl a ha).1, toF_nat (hl b hb).1]
      simp
      omega
  unfold sortedM
  rw [e, List.map_map]
  apply List.map_congr_left
  intro m hm
  show ((toF (m : Int)).val : Int) = m
  rw [toF_nat (hl m hm).1]
theorem rowSets_l0 (X : List Int) (n : Nat) (hn : n ≤ 64) (hX : slices_SortFunc_int_int__at_impl_Board_rowSets_1.f (iota 0 n) = some X) : ∀ (d i : Nat), i + d = n → Ev (fun k => impl_Board_rowSets.l0 k (iota 0 i) (n : Int) i) X
  | 0, i, hi => by
    refine Ev.step (f := fun _ => some X) (fun k => ?_) (Ev.now _)
    rw [impl_Board_rowSets.l0, if_neg (by omega), show i = n by omega, hX]; rfl
  | d + 1, i, hi => by
    have w1 : wrap64 ((i : Int) + 1) = ((i + 1 : Nat) : Int) := by rw [w64 (by omega) (by omega)]; rfl
    have ih := rowSets_l0 X n hn hX d (i + 1) (by omega)
    rw [iota_snoc, Int.zero_add] at ih
    refine Ev.step (fun k => ?_) ih
    rw [impl_Board_rowSets.l0, if_pos (by omega), if_pos (by rw [iota_length]; omega), w1]
theorem rowSets {R : Nat} (hR : R ≤ 6) (c : Int) (l : List Int) : Ev (fun k => impl_Board_rowSets.f k R c l) ((setsM R).map fun (m : Nat) => (m : Int)) := by
  have hp : 2 ^ R ≤ 2 ^ 6 := Nat.pow_le_pow_right (by decide) hR
  have hp1 : 1 ≤ 2 ^ R := Nat.one_le_two_pow
  unfold impl_Board_rowSets.f
  have h := rowSets_l0 (sortedM (iota 0 (2 ^ R))) (2 ^ R) (by omega) (by
    unfold slices_SortFunc_int_int__at_impl_Board_rowSets_1.f
    rw [if_pos ⟨iota_all ⟨R, by omega⟩, by rw [iota_length]; omega, by rw [iota_length]; omega⟩]) (2 ^ R) 0 (by omega)
  rw [sorted_all hR] at h
  refine Ev.congr (fun k => ?_) h
  rw [if_pos (by omega), shl_one R (by omega)]
  rfl
theorem lcSets_all : ∀ R : Fin 7, spec_lcSets.f 40 (R.val : Int) = some ((setsM R.val).map listM) := by decide +kernel
theorem lcSets {R : Nat} (hR : R ≤ 6) : Ev (fun k => spec_lcSets.f k R) ((setsM R).map listM) := Ev.of (fun k => spec_lcSets.mono _ k) (lcSets_all ⟨R, by omega⟩)
theorem count {m : Nat} (hm : m < 64) : impl_count.f (m : Int) = some ((listM m).length : Int) := count_all ⟨m, hm⟩
end Go.Proofs.Ytgnmcfoenmfhcaa.RowSetsK
end
section
namespace Go.Proofs.Ytgnmcfoenmfhcaa.Q
open Go.RowKit Go.Proofs.YtgnmcfoenmfhcaaW.PrintWords Go.Proofs.YtgnmcfoenmfhcaaW.PrintLast Go.Proofs.YtgnmcfoenmfhcaaW.PrintMore
attribute [local go_sem] max2_int min2_int max_two min_two max_three min_three max_four min_four   -- for this text's walks alone
set_option linter.unusedVariables false
set_option linter.unusedSimpArgs false
mutual
def impl_Board_covers.l0 : Nat → Int → List (S49) → List Int → Int → Int → Int → Int → List Int → Option ((List (S49)))
  | 0, _, _, _, _, _, _, _, _ => none
  | k + 1, x3, x4, x11, x12, x13, x102000, x102001, x102002 => if x13 < x12 then (if 0 ≤ x13 then (if x13 < (x11.length : Int) then (if 0 ≤ x102000 then ((impl_Board_columns.f k x102000 x102001 x102002 (Go.bits .andNot .i64 (wrap64 ((shl .i64 1 x102000) - 1)) (rd x11 x13))).bind fun t109 => ((impl_count.f (rd x11 x13)).bind fun t110 => ((impl_count.f t109).bind fun t111 => (if (wrap64 (t110 + t111)) < x3 then (impl_Board_covers.j1 k (wrap64 (t110 + t111)) ([] : List (S49)) (rd x11 x13) t109 (wrap64 (t110 + t111)) x11 x12 x13 x102000 x102001 x102002) else (impl_Board_covers.j1 k x3 x4 (rd x11 x13) t109 (wrap64 (t110 + t111)) x11 x12 x13 x102000 x102001 x102002))))) else (none)) else (none)) else (none)) else (some x4)
def impl_Board_covers.j1 : Nat → Int → List (S49) → Int → Int → Int → List Int → Int → Int → Int → Int → List Int → Option ((List (S49)))
  | 0, _, _, _, _, _, _, _, _, _, _, _ => none
  | k + 1, x3, x4, x6, x7, x8, x11, x12, x13, x102000, x102001, x102002 => if x8 = x3 then ((impl_listOf.f k x6).bind fun t112 => ((impl_listOf.f k x7).bind fun t115 => (if x4.length < 2932031007402 then (impl_Board_covers.l0 k x3 (x4 ++ [(⟨t112, t115⟩ : S49)]) x11 x12 (wrap64 (x13 + 1)) x102000 x102001 x102002) else (none)))) else (impl_Board_covers.l0 k x3 x4 x11 x12 (wrap64 (x13 + 1)) x102000 x102001 x102002)
end
def impl_Board_covers.f (k : Nat) (a0_0 : Int) (a0_1 : Int) (l0_2 : List Int) : Option ((List (S49))) := (impl_Board_rowSets.f k a0_0 a0_1 l0_2).bind fun t105 => (impl_Board_covers.l0 k 12 (([] : List (S49))) t105 (t105.length : Int) 0 a0_0 a0_1 l0_2)
def impl_Board_covers.T5 : Bool × List (List Nat × List Nat) := (true, [([], []), ([], []), ([1], [1]), ([2], [2]), ([3], [3]), ([], []), ([4, 5], [4, 5]), ([0, 6], [0, 6]), ([7, 7, 0, 1, 2, 3, 4, 5, 6, 7], [7])])
def impl_Board_covers.B5 : List Nat := [0, 0, 2, 6, 14, 0, 62, 127, 255]
theorem impl_Board_covers.tab5 : rtab .any (opsOf Try.f113 5) = impl_Board_covers.T5 := by kernel_rfl
theorem impl_Board_covers.bits5 : waitsOk impl_Board_covers.T5.2 impl_Board_covers.B5 = true := by kernel_rfl
end Go.Proofs.Ytgnmcfoenmfhcaa.Q
end
section
namespace Go.Proofs.Ytgnmcfoenmfhcaa.Q
open Go.RowKit Go.Proofs.YtgnmcfoenmfhcaaW.PrintWords Go.Proofs.YtgnmcfoenmfhcaaW.PrintLast Go.Proofs.YtgnmcfoenmfhcaaW.PrintMore
attribute [local go_sem] max2_int min2_int max_two min_two max_three min_three max_four min_four   -- for this text's walks alone
set_option linter.unusedVariables false
set_option linter.unusedSimpArgs false
def spec_lcCovers.l0 : Nat → Int → List (S49) → List (List Int) → Int → Int → Int → Int → List Int → Option ((List (S49)))
  | 0, _, _, _, _, _, _, _, _ => none
  | k + 1, x3, x4, x12, x13, x14, x102000, x102001, x102002 => if x14 < x13 then (if 0 ≤ x14 then (if x14 < (x12.length : Int) then ((spec_lcColumns.f k x102000 x102001 x102002 (rd_L2 x12 x14) true).bind fun t107 => (if (wrap64 (((rd_L2 x12 x14).length : Int) + (t107.length : Int))) = x3 then (if x4.length < 2932031007402 then (spec_lcCovers.l0 k x3 (x4 ++ [(⟨rd_L2 x12 x14, t107⟩ : S49)]) x12 x13 (wrap64 (x14 + 1)) x102000 x102001 x102002) else (none)) else (spec_lcCovers.l0 k x3 x4 x12 x13 (wrap64 (x14 + 1)) x102000 x102001 x102002))) else (none)) else (none)) else (some x4)
def spec_lcCovers.f (k : Nat) (a0_0 : Int) (a0_1 : Int) (l0_2 : List Int) : Option ((List (S49))) := (spec_lcMost.f k a0_0 a0_1 l0_2 0 0).bind fun t102 => ((spec_lcSets.f k a0_0).bind fun t103 => (spec_lcCovers.l0 k t102 ([] : List (S49)) t103 (t103.length : Int) 0 a0_0 a0_1 l0_2))
set_option maxHeartbeats 8000000 in
set_option maxRecDepth 100000 in
theorem spec_lcCovers.calls (k : Nat) (a0_0 : Int) (a0_1 : Int) (A0_2 : Option Addr) (c0_2 : Nat) (l0_2 : List Int) (r : List (S49)) (w : World) (hr0_2 : Kd.C (Kd.int .i64) w A0_2 l0_2.length l0_2) (hc0_2 : l0_2.length ≤ c0_2) (h : spec_lcCovers.f k a0_0 a0_1 l0_2 = some r) :
    Calls Try.prog 112 #[.agg #[.int .i64 a0_0, .int .i64 a0_1, .slice A0_2 l0_2.length c0_2]] w fun e w' => ∃ v0_ : Value, e = .returned (v0_) ∧ Kd.N k49 49 w' w.heap.size (fun k_ => (w.heap.size ≤ k_)) v0_ r ∧ Below w.heap.size w w' := by
  have hu26 := Try.underlying26
  have hu49 := Try.underlying49
  have HR0_2 := Aside0.mk hr0_2
  have HC0_2 := Aside0.mk hc0_2
  clear hr0_2 hc0_2
  have HB := Aside0.mk (Below.refl w.heap.size w)
  have H : ((spec_lcMost.f k a0_0 a0_1 l0_2 0 0).bind fun t102 => ((spec_lcSets.f k a0_0).bind fun t103 => (spec_lcCovers.l0 k t102 ([] : List (S49)) t103 (t103.length : Int) 0 a0_0 a0_1 l0_2))) = some r := h
  clear h
  replace H := Option.bind_eq_some_iff.mp H
  obtain ⟨t102, A20, H⟩ := H
  replace H : ((spec_lcSets.f k a0_0).bind fun t103 => (spec_lcCovers.l0 k t102 ([] : List (S49)) t103 (t103.length : Int) 0 a0_0 a0_1 l0_2)) = some r := H
  have A2 := Aside0.mk A20
  clear A20
  replace H := Option.bind_eq_some_iff.mp H
  obtain ⟨t103, A30, H⟩ := H
  replace H : (spec_lcCovers.l0 k t102 ([] : List (S49)) t103 (t103.length : Int) 0 a0_0 a0_1 l0_2) = some r := H
  have A3 := Aside0.mk A30
  clear A30
  have H' := Aside0.mk H
  clear H
  go_enter Try.func112, Try.ntmps112
  go_wp2_with (first | ((with_reducible refine gate_dst (N := 1) rfl ?_); refine box_event ?hg (N := 1) ?hd (cs := #[.int .i64 a0_0, .int .i64 a0_1, .slice A0_2 l0_2.length c0_2]) (t := 26) ?hr ?_; (case hd => rfl); (case hg => rfl); (case hr => first | (go_simp; done) | (go_simp; rfl)); intro gb101 hg w4 hbox hb; have n0_ := Aside0.mk (below_step (by repeat (first | (with_reducible first | exact HB.out | apply below_alloc | apply pw_below_drewN | apply below_drew1) | exact HB.out)) hb); have n1_ := Aside0.mk (hbox); have n2_ := Aside0.mk ((by rw [hg]; exact (below_size (by repeat (first | (with_reducible first | exact HB.out | apply below_alloc | apply pw_below_drewN | apply below_drew1) | exact HB.out))) : w.heap.size ≤ gb101)); have n3_ := Aside0.mk ((by rw [hg]; exact (below_size (by repeat (first | (with_reducible first | exact HB.out | apply below_alloc | apply pw_below_drewN | apply below_drew1) | exact HB.out))) : w.heap.size ≤ gb101)); clear HB; have HB := n0_; have BK101 := n1_; have GW101 := n2_; have GE101 := n3_; clear n0_ n1_ n2_ n3_; clear hb hbox hg; have hcz5_0 : w4.cell? ⟨gb101, 0, none⟩ = some (.int .i64 a0_0) := (blk_cell BK101.out 0).trans rfl; have hcz5_1 : w4.cell? ⟨gb101, 1, none⟩ = some (.int .i64 a0_1) := (blk_cell BK101.out 1).trans rfl; have hcz5_2 : w4.cell? ⟨gb101, 2, none⟩ = some (.slice A0_2 l0_2.length c0_2) := (blk_cell BK101.out 2).trans rfl; have hfz5_0 := blk_frozen BK101.out 0; have hfz5_1 := blk_frozen BK101.out 1; have hfz5_2 := blk_frozen BK101.out 2) | ((with_reducible refine gate_callee (f := 132) rfl ?_); refine goesL_ (some 9) rfl rfl Try.func132 (by kernel_rfl) rfl #[.agg #[.int .i64 a0_0, .int .i64 a0_1, .slice A0_2 l0_2.length c0_2], .int .i64 0, .int .i64 0] rfl (by (try simp only [List.map_toArray, List.map_cons, List.map_nil]); first | done | rfl | (simp only [List.length_drop, List.length_take]; rfl)) ?_; (with_reducible refine (spec_lcMost.calls k a0_0 a0_1 _ _ l0_2 0 0 t102 _ ?side1 ?side2 A2.out).mono ?_); (case side1 => repeat (first | exact (Kd.C_below HR0_2.out HB.out) | (with_reducible refine Kd.C_alloc ?_ _) | (with_reducible refine Kd.C_drewN ?_ _) | (with_reducible refine Kd.C_drew ?_))); (case side2 => exact HC0_2.out); rintro e w6 ⟨rfl, hb⟩; refine ⟨_, rfl, ?_⟩; have n0_ := Aside0.mk (blk_below (g := gb101) (o := .cells #[.int .i64 a0_0, .int .i64 a0_1, .slice A0_2 l0_2.length c0_2] 26 (0, 0)) (by (with_reducible repeat (first | refine blk_drewN ?_ _ | refine blk_drew ?_ | refine blk_alloc ?_ _)); exact BK101.out) hb); have n1_ := Aside0.mk (below_step (by repeat (first | (with_reducible first | exact HB.out | apply below_alloc | apply pw_below_drewN | apply below_drew1 | refine below_set ?_ GE101.out) | exact HB.out)) hb); clear BK101; clear HB; have BK101 := n0_; have HB := n1_; clear n0_ n1_; (try clear hb); (try clear hb2); (try clear hk); (try clear hi); have hcz7_0 : w6.cell? ⟨gb101, 0, none⟩ = some (.int .i64 a0_0) := (blk_cell BK101.out 0).trans rfl; have hcz7_1 : w6.cell? ⟨gb101, 1, none⟩ = some (.int .i64 a0_1) := (blk_cell BK101.out 1).trans rfl; have hcz7_2 : w6.cell? ⟨gb101, 2, none⟩ = some (.slice A0_2 l0_2.length c0_2) := (blk_cell BK101.out 2).trans rfl; have hfz7_0 := blk_frozen BK101.out 0; have hfz7_1 := blk_frozen BK101.out 1; have hfz7_2 := blk_frozen BK101.out 2) | ((with_reducible refine gate_callee (f := 77) rfl ?_); refine goesL_ (some 12) rfl rfl Try.func77 (by kernel_rfl) rfl #[.int .i64 a0_0] rfl (by (try simp only [List.map_toArray, List.map_cons, List.map_nil]); first | done | rfl | (simp only [List.length_drop, List.length_take]; rfl)) ?_; (with_reducible refine (spec_lcSets.calls k a0_0 t103 _ A3.out).mono ?_); rintro e w8 ⟨v104, rfl, ho0, hb⟩; refine ⟨_, rfl, ?_⟩; have n0_ := Aside0.mk (Kd.N_lower (Kd.N_mono (ok' := fun k_ => (w.heap.size ≤ k_) ∧ k_ ≠ gb101) ho0 (fun k_ hk_ => ⟨(Nat.le_trans (below_size (by repeat (first | (with_reducible first | exact HB.out | apply below_alloc | apply pw_below_drewN | apply below_drew1 | refine below_set ?_ GE101.out) | exact HB.out))) hk_), (Kd.freshB (g := gb101) (o := .cells #[.int .i64 a0_0, .int .i64 a0_1, .slice A0_2 l0_2.length c0_2] 26 (0, 0)) (by (with_reducible repeat (first | refine blk_drewN ?_ _ | refine blk_drew ?_ | refine blk_alloc ?_ _)); exact BK101.out) k_ hk_)⟩)) (below_size (by repeat (first | (with_reducible first | exact HB.out | apply below_alloc | apply pw_below_drewN | apply below_drew1 | refine below_set ?_ GE101.out) | exact HB.out)))); have n1_ := Aside0.mk (blk_below (g := gb101) (o := .cells #[.int .i64 a0_0, .int .i64 a0_1, .slice A0_2 l0_2.length c0_2] 26 (0, 0)) (by (with_reducible repeat (first | refine blk_drewN ?_ _ | refine blk_drew ?_ | refine blk_alloc ?_ _)); exact BK101.out) hb); have n2_ := Aside0.mk (below_step (by repeat (first | (with_reducible first | exact HB.out | apply below_alloc | apply pw_below_drewN | apply below_drew1 | refine below_set ?_ GE101.out) | exact HB.out)) hb); clear BK101; clear HB; have HO105 := n0_; have BK101 := n1_; have HB := n2_; clear n0_ n1_ n2_; (try clear hb); (try clear hb2); (try clear hk); (try clear hi); (try clear ho0); obtain ⟨Ao9, co9, eo9⟩ := Kd.N_slice HO105.out; subst eo9))
  go_loopg [4, 14] k (fun kq v4 v14 w' => ∃ (x4_1 : List (S49)) (x14_1 : Int), v14 = .int .i64 x14_1 ∧ Aside0 (spec_lcCovers.l0 kq t102 x4_1 t103 (t103.length : Int) x14_1 a0_0 a0_1 l0_2 = some r) ∧ Aside0 (kq ≤ k) ∧ Aside0 (Kd.N k49 49 w' w.heap.size (fun k_ => (w.heap.size ≤ k_) ∧ some k_ ≠ ((.slice Ao9 t103.length co9) : Value).ownBlock ∧ k_ ≠ gb101) v4 x4_1) ∧ Aside0 (Kd.N (Kd.slice 3 (Kd.int .i64)) 24 w' w.heap.size (fun k_ => (w.heap.size ≤ k_) ∧ some k_ ≠ (v4 : Value).ownBlock ∧ k_ ≠ gb101) (.slice Ao9 t103.length co9) t103) ∧ Aside0 (w'.heap[gb101]? = some (.cells #[.int .i64 a0_0, .int .i64 a0_1, (.slice A0_2 l0_2.length c0_2)] 26 (0, 0))) ∧ Aside0 (Below w.heap.size w w'))
  case atStart => exact ⟨(([] : List (S49))), (0), (by first | rfl | (simp; done) | (simp [*]; done)), H', ⟨Nat.le_refl _⟩, ⟨by first | exact Kd.S_nil _ _ _ _ _ | exact Kd.N_nil _ _ _ _ _ | exact Kd.V_nil _ _ _ _ _ | exact Kd.Q_nil _ _ _ _ _ | exact Kd.R_nil _ _ _ _ _⟩, ⟨by (with_reducible repeat (first | apply Kd.N_alloc | apply Kd.N_drewN | apply Kd.N_drew)); exact Kd.N_mono HO105.out (fun _ hk => ⟨hk.1, ⟨(by simp [Value.ownBlock]), hk.2⟩⟩)⟩, ⟨by (with_reducible repeat (first | refine blk_drewN ?_ _ | refine blk_drew ?_ | refine blk_alloc ?_ _)); exact BK101.out⟩, ⟨by repeat (first | (with_reducible first | exact HB.out | apply below_alloc | apply pw_below_drewN | apply below_drew1 | refine below_set ?_ GE101.out) | exact HB.out)⟩⟩
  case round =>
    clear H'
    try clear c1
    try clear p2
    try clear c7
    try clear hcz5_0
    try clear hcz5_1
    try clear hcz5_2
    try clear hcz7_0
    try clear hcz7_1
    try clear hcz7_2
    try clear hfz5_0
    try clear hfz5_1
    try clear hfz5_2
    try clear hfz7_0
    try clear hfz7_1
    try clear hfz7_2
    obtain ⟨x4_1, x14_1, rfl, HA, HK1, HO_4, HO_12, BK101, HB⟩ := hrel
    cases gk with
    | zero => exact absurd HA.out (by simp [spec_lcCovers.l0])
    | succ k1 =>
      have H := HA.out
      clear HA
      simp only [spec_lcCovers.l0] at H
      by_cases c10 : x14_1 < (t103.length : Int)
      · rw [if_pos c10] at H
        have c10b0 : decide (x14_1 < (t103.length : Int)) = true := decide_eq_true c10
        clear c10
        by_cases c11 : 0 ≤ x14_1
        · rw [if_pos c11] at H
          have c11b0 : decide (0 ≤ x14_1) = true := decide_eq_true c11
          clear c11
          by_cases c12 : x14_1 < (t103.length : Int)
          · rw [if_pos c12] at H
            have c12b0 : decide (x14_1 < (t103.length : Int)) = true := decide_eq_true c12
            clear c12
            replace H := Option.bind_eq_some_iff.mp H
            obtain ⟨t107, A130, H⟩ := H
            replace H : (if (wrap64 (((rd_L2 t103 x14_1).length : Int) + (t107.length : Int))) = t102 then (if x4_1.length < 2932031007402 then (spec_lcCovers.l0 k1 t102 (x4_1 ++ [(⟨rd_L2 t103 x14_1, t107⟩ : S49)]) t103 (t103.length : Int) (wrap64 (x14_1 + 1)) a0_0 a0_1 l0_2) else (none)) else (spec_lcCovers.l0 k1 t102 x4_1 t103 (t103.length : Int) (wrap64 (x14_1 + 1)) a0_0 a0_1 l0_2)) = some r := H
            have A13 := Aside0.mk A130
            clear A130
            by_cases c14 : (wrap64 (((rd_L2 t103 x14_1).length : Int) + (t107.length : Int))) = t102
            · rw [if_pos c14] at H
              have c14b0 : ((wrap64 (((rd_L2 t103 x14_1).length : Int) + (t107.length : Int))) == t102) = true := beq_iff_eq.mpr c14
              have c14b1 : ((wrap64 (((rd_L2 t103 x14_1).length : Int) + (t107.length : Int))) != t102) = false := bne_eq_false_iff_eq.mpr c14
              clear c14
              by_cases c15 : x4_1.length < 2932031007402
              · rw [if_pos c15] at H
                have LMc15 := Aside0.mk c15
                clear c15
                obtain ⟨y110, hy110⟩ : ∃ y_ : List (S49), y_ = (x4_1 ++ [(⟨rd_L2 t103 x14_1, t107⟩ : S49)]) := ⟨_, rfl⟩
                replace H : (spec_lcCovers.l0 k1 t102 y110 t103 (t103.length : Int) (wrap64 (x14_1 + 1)) a0_0 a0_1 l0_2) = some r := by first | (rw [hy110]; with_reducible exact H) | (have H2_ := (Option.bind_some _ _).symm.trans H; rw [hy110]; with_reducible exact H2_) | (have H2_ := (Option.bind_some _ _).symm.trans H; with_reducible exact H2_) | with_reducible exact H | (rw [hy110]; exact H) | exact H
                have Ny110 := Aside0.mk hy110
                clear hy110
                have H' := Aside0.mk H
                clear H
                have p106 : 0 ≤ (x14_1 : Int) := of_decide_eq_true (by first | (with_reducible assumption) | assumption)
                have q106 : x14_1 < (t103.length : Int) := of_decide_eq_true (by first | (with_reducible assumption) | assumption)
                obtain ⟨ad106, A106_0, c106_0, e106, hx106_0, hl106_0, hi106_0⟩ := at_L2 (Kd.N_reads' HO_12.out).2.2 x14_1 p106 q106
                cases e106
                obtain ⟨ce106, hce106, hMe106, hcc106⟩ := Kd.N_get HO_12.out [] x14_1 p106 (by first | exact q106 | exact of_decide_eq_true (by first | (with_reducible assumption) | assumption) | (have e_ := (Kd.N_reads' HO_12.out).1; omega))
                obtain ⟨ua106_0, uc106_0, rfl, ul106_0, ge106_0⟩ := Kd.FK_slice_open hMe106
                have hv106_0 := hcc106 0 _ rfl
                rw [Nat.add_zero, show ((Kd.slice 3 (Kd.int .i64))).sz = 1 from rfl, Nat.mul_one] at hv106_0
                replace hv106_0 := Option.some.inj (hv106_0.symm.trans hx106_0)
                injection hv106_0 with hva_ hvn_ hvc_
                rw [hva_] at ge106_0
                rw [hvc_] at ul106_0
                have HL106_0 := Aside0.mk (show Kd.V (Kd.int .i64) 3 _ w.heap.size _ _ (rd_L2 t103 x14_1) from Kd.V_mk ul106_0 ge106_0)
                clear hva_ hvn_ hvc_ ge106_0 ul106_0
                clear hcc106 hce106
                have HR106_0 := Aside0.mk hi106_0
                have HC106_0 := Aside0.mk hl106_0
                clear hi106_0 hl106_0
                replace p106 := eq_true p106
                replace q106 := eq_true q106
                have hcz16_0 : wr.cell? ⟨gb101, 0, none⟩ = some (.int .i64 a0_0) := (blk_cell BK101.out 0).trans rfl
                have hcz16_1 : wr.cell? ⟨gb101, 1, none⟩ = some (.int .i64 a0_1) := (blk_cell BK101.out 1).trans rfl
                have hcz16_2 : wr.cell? ⟨gb101, 2, none⟩ = some (.slice A0_2 l0_2.length c0_2) := (blk_cell BK101.out 2).trans rfl
                have hfz16_0 := blk_frozen BK101.out 0
                have hfz16_1 := blk_frozen BK101.out 1
                have hfz16_2 := blk_frozen BK101.out 2
                go_wp2_with (first | ((with_reducible refine gate_callee (f := 78) rfl ?_); refine goesL_ (some 20) rfl rfl Try.func78 (by kernel_rfl) rfl #[.agg #[.int .i64 a0_0, .int .i64 a0_1, .slice A0_2 l0_2.length c0_2], .slice A106_0 (rd_L2 t103 x14_1).length c106_0, .bool true] rfl (by (try simp only [List.map_toArray, List.map_cons, List.map_nil]); first | done | rfl | (simp only [List.length_drop, List.length_take]; rfl)) ?_; (with_reducible refine (spec_lcColumns.calls k1 a0_0 a0_1 _ _ l0_2 _ _ (rd_L2 t103 x14_1) true t107 _ ?side1 ?side2 ?side3 ?side4 A13.out).mono ?_); (case side1 => repeat (first | exact (Kd.C_below HR0_2.out HB.out) | (with_reducible refine Kd.C_alloc ?_ _) | (with_reducible refine Kd.C_drewN ?_ _) | (with_reducible refine Kd.C_drew ?_))); (case side2 => exact HC0_2.out); (case side3 => repeat (first | exact (by repeat (first | (with_reducible exact HR106_0.out) | (with_reducible refine Kd.C_alloc ?_ _) | (with_reducible refine Kd.C_drewN ?_ _) | (with_reducible refine Kd.C_drew ?_) | exact HR106_0.out)) | (with_reducible refine Kd.C_alloc ?_ _) | (with_reducible refine Kd.C_drewN ?_ _) | (with_reducible refine Kd.C_drew ?_))); (case side4 => exact HC106_0.out); rintro e w17 ⟨v108, rfl, ho0, hb⟩; refine ⟨_, rfl, ?_⟩; have n0_ := Aside0.mk (Kd.N_elder' (by (with_reducible repeat (first | apply Kd.N_alloc | apply Kd.N_drewN | apply Kd.N_drew)); exact HO_4.out) (Kd.R_base ho0) hb); have n1_ := Aside0.mk (Kd.N_elder' (by (with_reducible repeat (first | apply Kd.N_alloc | apply Kd.N_drewN | apply Kd.N_drew)); exact HO_12.out) (Kd.R_base ho0) hb); have n2_ := Aside0.mk (Kd.V_elder' (by (with_reducible repeat (first | apply Kd.V_alloc | apply Kd.V_drewN | apply Kd.V_drew)); exact HL106_0.out) (Kd.R_base ho0) hb); have n3_ := Aside0.mk (Kd.R_lower (Kd.R_newM (M := fun k_ => (w.heap.size ≤ k_)) ho0 (below_size (by repeat (first | (with_reducible first | exact HB.out | apply below_alloc | apply pw_below_drewN | apply below_drew1 | refine below_set ?_ GE101.out) | exact HB.out))) (fun k_ h_ => h_)) (below_size (by repeat (first | (with_reducible first | exact HB.out | apply below_alloc | apply pw_below_drewN | apply below_drew1 | refine below_set ?_ GE101.out) | exact HB.out)))); have n4_ := Aside0.mk (blk_below (g := gb101) (o := .cells #[.int .i64 a0_0, .int .i64 a0_1, .slice A0_2 l0_2.length c0_2] 26 (0, 0)) (by (with_reducible repeat (first | refine blk_drewN ?_ _ | refine blk_drew ?_ | refine blk_alloc ?_ _)); exact BK101.out) hb); have n5_ := Aside0.mk (Kd.C_below (by repeat (first | (with_reducible exact HR106_0.out) | (with_reducible refine Kd.C_alloc ?_ _) | (with_reducible refine Kd.C_drewN ?_ _) | (with_reducible refine Kd.C_drew ?_) | exact HR106_0.out)) hb); have n6_ := Aside0.mk (below_step (by repeat (first | (with_reducible first | exact HB.out | apply below_alloc | apply pw_below_drewN | apply below_drew1 | refine below_set ?_ GE101.out) | exact HB.out)) hb); clear HO_4; clear HO_12; clear HL106_0; clear BK101; clear HR106_0; clear HB; have HO_4 := n0_; have HO_12 := n1_; have HL106_0 := n2_; have HO109 := n3_; have BK101 := n4_; have HR106_0 := n5_; have HB := n6_; clear n0_ n1_ n2_ n3_ n4_ n5_ n6_; (try clear hb); (try clear hb2); (try clear hk); (try clear hi); (try clear ho0); obtain ⟨Ao18, co18, eo18⟩ := Kd.R_slice HO109.out; subst eo18) | ((with_reducible refine gate_builtin (b := .append) (xs := #[.tmp 28, .tmp 32]) rfl ?_); at_builtin; refine Kd.N_append k49 (w0 := w) w.heap.size rfl (.tmp 28) (.tmp 32) 69 49 (.agg #[(.slice none 0 0), (.slice none 0 0)]) 48 rfl Try.underlying69 info49 rfl (by decide) (by omega) u4 x4_1 (⟨rd_L2 t103 x14_1, t107⟩ : S49) [.slice A106_0 (rd_L2 t103 x14_1).length c106_0, .slice Ao18 t107.length co18] (fun k_ => (w.heap.size ≤ k_) ∧ some k_ ≠ (.slice (some ad106) t103.length co9 : Value).ownBlock ∧ k_ ≠ gb101) (fun k_ => ((fun k_ => (w.heap.size ≤ k_) ∧ some k_ ≠ (.slice (some ad106) t103.length co9 : Value).ownBlock ∧ k_ ≠ gb101)) k_ ∧ some k_ ≠ (u4 : Value).ownBlock) rfl rfl ?aP (fun _ hk => hk) ?aF ?aO ?aB ?aS ?aL ?_; (case aP => exact (k49_mkF _ _ (⟨rd_L2 t103 x14_1, t107⟩ : S49) (Kd.V_reads' (Kd.V_mono (ok' := (fun k_ => ((fun k_ => (w.heap.size ≤ k_) ∧ some k_ ≠ (.slice (some ad106) t103.length co9 : Value).ownBlock ∧ k_ ≠ gb101)) k_ ∧ some k_ ≠ (u4 : Value).ownBlock)) (HL106_0.out) (fun k_ hk => ⟨⟨hk.1.1.1, ⟨hk.1.2, hk.1.1.2.2⟩⟩, hk.1.1.2.1⟩))).2.1 (Kd.V_F (Kd.V_mono (ok' := (fun k_ => ((fun k_ => (w.heap.size ≤ k_) ∧ some k_ ≠ (.slice (some ad106) t103.length co9 : Value).ownBlock ∧ k_ ≠ gb101)) k_ ∧ some k_ ≠ (u4 : Value).ownBlock)) (HL106_0.out) (fun k_ hk => ⟨⟨hk.1.1.1, ⟨hk.1.2, hk.1.1.2.2⟩⟩, hk.1.1.2.1⟩))) (Kd.R_reads' (Kd.R_mono (ok' := (fun k_ => ((fun k_ => (w.heap.size ≤ k_) ∧ some k_ ≠ (.slice (some ad106) t103.length co9 : Value).ownBlock ∧ k_ ≠ gb101)) k_ ∧ some k_ ≠ (u4 : Value).ownBlock)) (Kd.R_types (Kd.R_apart' (Kd.R_apart' (HO109.out) (Kd.N_typed HO_12.out) (by decide)) (Kd.N_typed HO_4.out) (by decide)) BK101.out (by decide)) (fun k_ hk => ⟨⟨hk.1.1.1.1, ⟨hk.1.1.2, hk.2⟩⟩, hk.1.2⟩))).2.1 (Kd.R_F (Kd.R_mono (ok' := (fun k_ => ((fun k_ => (w.heap.size ≤ k_) ∧ some k_ ≠ (.slice (some ad106) t103.length co9 : Value).ownBlock ∧ k_ ≠ gb101)) k_ ∧ some k_ ≠ (u4 : Value).ownBlock)) (Kd.R_types (Kd.R_apart' (Kd.R_apart' (HO109.out) (Kd.N_typed HO_12.out) (by decide)) (Kd.N_typed HO_4.out) (by decide)) BK101.out (by decide)) (fun k_ hk => ⟨⟨hk.1.1.1.1, ⟨hk.1.1.2, hk.2⟩⟩, hk.1.2⟩))))); (case aB => exact (by repeat (first | (with_reducible first | exact HB.out | apply below_alloc | apply pw_below_drewN | apply below_drew1 | refine below_set ?_ GE101.out) | exact HB.out))); (case aF => exact (fun k_ hk => ⟨(Nat.le_trans (below_size (by repeat (first | (with_reducible first | exact HB.out | apply below_alloc | apply pw_below_drewN | apply below_drew1 | refine below_set ?_ GE101.out) | exact HB.out))) hk), Kd.fresh' (Kd.N_lt (by (with_reducible repeat (first | apply Kd.N_alloc | apply Kd.N_drewN | apply Kd.N_drew)); exact HO_12.out)) k_ hk, Kd.freshB (g := gb101) (o := .cells #[.int .i64 a0_0, .int .i64 a0_1, .slice A0_2 l0_2.length c0_2] 26 (0, 0)) (by (with_reducible repeat (first | refine blk_drewN ?_ _ | refine blk_drew ?_ | refine blk_alloc ?_ _)); exact BK101.out) k_ hk⟩)); (case aO => exact (by (with_reducible repeat (first | apply Kd.N_alloc | apply Kd.N_drewN | apply Kd.N_drew)); exact Kd.N_mono HO_4.out (fun _ hk => ⟨hk.1.1, ⟨hk.1.2.1, hk.1.2.2⟩⟩))); (case aS => exact (below_size (by repeat (first | (with_reducible first | exact HB.out | apply below_alloc | apply pw_below_drewN | apply below_drew1 | refine below_set ?_ GE101.out) | exact HB.out)))); (case aL => have := LMc15.out; omega); intro v111 w19 ho hb hg hat; rw [← Ny110.out] at ho; have n0_ := Aside0.mk (Kd.N_afterv (ok := (fun k_ => (w.heap.size ≤ k_) ∧ some k_ ≠ (.slice Ao18 t107.length co18 : Value).ownBlock ∧ k_ ≠ gb101)) (by (with_reducible repeat (first | apply Kd.N_alloc | apply Kd.N_drewN | apply Kd.N_drew)); exact Kd.N_mono HO_12.out (fun _ hk => ⟨⟨hk.1.1, ⟨hk.2, hk.1.2.2⟩⟩, hk.1.2.1⟩)) hg hat); have n1_ := Aside0.mk (blk_grown (g := gb101) (o := .cells #[.int .i64 a0_0, .int .i64 a0_1, .slice A0_2 l0_2.length c0_2] 26 (0, 0)) (by (with_reducible repeat (first | refine blk_drewN ?_ _ | refine blk_drew ?_ | refine blk_alloc ?_ _)); exact BK101.out) hg (Kd.N_ne HO_4.out BK101.out (by decide))); have n2_ := Aside0.mk (Kd.V_afterv (ok := (fun k_ => (w.heap.size ≤ k_) ∧ some k_ ≠ (.slice (some ad106) t103.length co9 : Value).ownBlock ∧ some k_ ≠ (.slice Ao18 t107.length co18 : Value).ownBlock ∧ k_ ≠ gb101)) (by (with_reducible repeat (first | apply Kd.V_alloc | apply Kd.V_drewN | apply Kd.V_drew)); exact Kd.V_mono HL106_0.out (fun _ hk => ⟨⟨hk.1.1.1, ⟨hk.1.2, ⟨hk.2, hk.1.1.2.2⟩⟩⟩, hk.1.1.2.1⟩)) hg hat); have n3_ := Aside0.mk (hb); have n4_ := Aside0.mk (ho); clear HO_12; clear BK101; clear HL106_0; clear HB; clear HO_4; clear HO109; have HO_12 := n0_; have BK101 := n1_; have HL106_0 := n2_; have HB := n3_; have HO112 := n4_; clear n0_ n1_ n2_ n3_ n4_; clear ho hb hg hat))
                go_roundg k1
                case measure => have := HK1.out; omega
                case rel => exact ⟨(y110), (wrap64 (x14_1 + 1)), (by first | rfl | (simp; done) | (simp [*]; done)), H', ⟨by have := HK1.out; omega⟩, ⟨by (with_reducible repeat (first | apply Kd.N_alloc | apply Kd.N_drewN | apply Kd.N_drew)); exact HO112.out⟩, ⟨by (with_reducible repeat (first | apply Kd.N_alloc | apply Kd.N_drewN | apply Kd.N_drew)); exact Kd.N_mono HO_12.out (fun _ hk => ⟨hk.1.1, ⟨hk.2, hk.1.2.2⟩⟩)⟩, ⟨by (with_reducible repeat (first | refine blk_drewN ?_ _ | refine blk_drew ?_ | refine blk_alloc ?_ _)); exact BK101.out⟩, ⟨by repeat (first | (with_reducible first | exact HB.out | apply below_alloc | apply pw_below_drewN | apply below_drew1 | refine below_set ?_ GE101.out) | exact HB.out)⟩⟩
              · rw [if_neg c15] at H
                exact absurd H (by simp)
            · rw [if_neg c14] at H
              have c14b0 : ((wrap64 (((rd_L2 t103 x14_1).length : Int) + (t107.length : Int))) == t102) = false := beq_eq_false_iff_ne.mpr c14
              have c14b1 : ((wrap64 (((rd_L2 t103 x14_1).length : Int) + (t107.length : Int))) != t102) = true := bne_iff_ne.mpr c14
              have H' := Aside0.mk H
              clear H
              have p106 : 0 ≤ (x14_1 : Int) := of_decide_eq_true (by first | (with_reducible assumption) | assumption)
              have q106 : x14_1 < (t103.length : Int) := of_decide_eq_true (by first | (with_reducible assumption) | assumption)
              obtain ⟨ad106, A106_0, c106_0, e106, hx106_0, hl106_0, hi106_0⟩ := at_L2 (Kd.N_reads' HO_12.out).2.2 x14_1 p106 q106
              cases e106
              obtain ⟨ce106, hce106, hMe106, hcc106⟩ := Kd.N_get HO_12.out [] x14_1 p106 (by first | exact q106 | exact of_decide_eq_true (by first | (with_reducible assumption) | assumption) | (have e_ := (Kd.N_reads' HO_12.out).1; omega))
              obtain ⟨ua106_0, uc106_0, rfl, ul106_0, ge106_0⟩ := Kd.FK_slice_open hMe106
              have hv106_0 := hcc106 0 _ rfl
              rw [Nat.add_zero, show ((Kd.slice 3 (Kd.int .i64))).sz = 1 from rfl, Nat.mul_one] at hv106_0
              replace hv106_0 := Option.some.inj (hv106_0.symm.trans hx106_0)
              injection hv106_0 with hva_ hvn_ hvc_
              rw [hva_] at ge106_0
              rw [hvc_] at ul106_0
              have HL106_0 := Aside0.mk (show Kd.V (Kd.int .i64) 3 _ w.heap.size _ _ (rd_L2 t103 x14_1) from Kd.V_mk ul106_0 ge106_0)
              clear hva_ hvn_ hvc_ ge106_0 ul106_0
              clear hcc106 hce106
              have HR106_0 := Aside0.mk hi106_0
              have HC106_0 := Aside0.mk hl106_0
              clear hi106_0 hl106_0
              replace p106 := eq_true p106
              replace q106 := eq_true q106
              have hcz20_0 : wr.cell? ⟨gb101, 0, none⟩ = some (.int .i64 a0_0) := (blk_cell BK101.out 0).trans rfl
              have hcz20_1 : wr.cell? ⟨gb101, 1, none⟩ = some (.int .i64 a0_1) := (blk_cell BK101.out 1).trans rfl
              have hcz20_2 : wr.cell? ⟨gb101, 2, none⟩ = some (.slice A0_2 l0_2.length c0_2) := (blk_cell BK101.out 2).trans rfl
              have hfz20_0 := blk_frozen BK101.out 0
              have hfz20_1 := blk_frozen BK101.out 1
              have hfz20_2 := blk_frozen BK101.out 2
              go_wp2_with (first | ((with_reducible refine gate_callee (f := 78) rfl ?_); refine goesL_ (some 20) rfl rfl Try.func78 (by kernel_rfl) rfl #[.agg #[.int .i64 a0_0, .int .i64 a0_1, .slice A0_2 l0_2.length c0_2], .slice A106_0 (rd_L2 t103 x14_1).length c106_0, .bool true] rfl (by (try simp only [List.map_toArray, List.map_cons, List.map_nil]); first | done | rfl | (simp only [List.length_drop, List.length_take]; rfl)) ?_; (with_reducible refine (spec_lcColumns.calls k1 a0_0 a0_1 _ _ l0_2 _ _ (rd_L2 t103 x14_1) true t107 _ ?side1 ?side2 ?side3 ?side4 A13.out).mono ?_); (case side1 => repeat (first | exact (Kd.C_below HR0_2.out HB.out) | (with_reducible refine Kd.C_alloc ?_ _) | (with_reducible refine Kd.C_drewN ?_ _) | (with_reducible refine Kd.C_drew ?_))); (case side2 => exact HC0_2.out); (case side3 => repeat (first | exact (by repeat (first | (with_reducible exact HR106_0.out) | (with_reducible refine Kd.C_alloc ?_ _) | (with_reducible refine Kd.C_drewN ?_ _) | (with_reducible refine Kd.C_drew ?_) | exact HR106_0.out)) | (with_reducible refine Kd.C_alloc ?_ _) | (with_reducible refine Kd.C_drewN ?_ _) | (with_reducible refine Kd.C_drew ?_))); (case side4 => exact HC106_0.out); rintro e w21 ⟨v108, rfl, ho0, hb⟩; refine ⟨_, rfl, ?_⟩; have n0_ := Aside0.mk (Kd.N_elder' (by (with_reducible repeat (first | apply Kd.N_alloc | apply Kd.N_drewN | apply Kd.N_drew)); exact HO_4.out) (Kd.R_base ho0) hb); have n1_ := Aside0.mk (Kd.N_elder' (by (with_reducible repeat (first | apply Kd.N_alloc | apply Kd.N_drewN | apply Kd.N_drew)); exact HO_12.out) (Kd.R_base ho0) hb); have n2_ := Aside0.mk (Kd.V_elder' (by (with_reducible repeat (first | apply Kd.V_alloc | apply Kd.V_drewN | apply Kd.V_drew)); exact HL106_0.out) (Kd.R_base ho0) hb); have n3_ := Aside0.mk (Kd.R_lower (Kd.R_newM (M := fun k_ => (w.heap.size ≤ k_)) ho0 (below_size (by repeat (first | (with_reducible first | exact HB.out | apply below_alloc | apply pw_below_drewN | apply below_drew1 | refine below_set ?_ GE101.out) | exact HB.out))) (fun k_ h_ => h_)) (below_size (by repeat (first | (with_reducible first | exact HB.out | apply below_alloc | apply pw_below_drewN | apply below_drew1 | refine below_set ?_ GE101.out) | exact HB.out)))); have n4_ := Aside0.mk (blk_below (g := gb101) (o := .cells #[.int .i64 a0_0, .int .i64 a0_1, .slice A0_2 l0_2.length c0_2] 26 (0, 0)) (by (with_reducible repeat (first | refine blk_drewN ?_ _ | refine blk_drew ?_ | refine blk_alloc ?_ _)); exact BK101.out) hb); have n5_ := Aside0.mk (Kd.C_below (by repeat (first | (with_reducible exact HR106_0.out) | (with_reducible refine Kd.C_alloc ?_ _) | (with_reducible refine Kd.C_drewN ?_ _) | (with_reducible refine Kd.C_drew ?_) | exact HR106_0.out)) hb); have n6_ := Aside0.mk (below_step (by repeat (first | (with_reducible first | exact HB.out | apply below_alloc | apply pw_below_drewN | apply below_drew1 | refine below_set ?_ GE101.out) | exact HB.out)) hb); clear HO_4; clear HO_12; clear HL106_0; clear BK101; clear HR106_0; clear HB; have HO_4 := n0_; have HO_12 := n1_; have HL106_0 := n2_; have HO109 := n3_; have BK101 := n4_; have HR106_0 := n5_; have HB := n6_; clear n0_ n1_ n2_ n3_ n4_ n5_ n6_; (try clear hb); (try clear hb2); (try clear hk); (try clear hi); (try clear ho0); obtain ⟨Ao22, co22, eo22⟩ := Kd.R_slice HO109.out; subst eo22))
              go_roundg k1
              case measure => have := HK1.out; omega
              case rel => exact ⟨(x4_1), (wrap64 (x14_1 + 1)), (by first | rfl | (simp; done) | (simp [*]; done)), H', ⟨by have := HK1.out; omega⟩, ⟨by (with_reducible repeat (first | apply Kd.N_alloc | apply Kd.N_drewN | apply Kd.N_drew)); exact Kd.N_mono HO_4.out (fun _ hk => ⟨hk.1.1, ⟨hk.1.2.1, hk.1.2.2⟩⟩)⟩, ⟨by (with_reducible repeat (first | apply Kd.N_alloc | apply Kd.N_drewN | apply Kd.N_drew)); exact Kd.N_mono HO_12.out (fun _ hk => ⟨hk.1.1, ⟨hk.1.2.1, hk.1.2.2⟩⟩)⟩, ⟨by (with_reducible repeat (first | refine blk_drewN ?_ _ | refine blk_drew ?_ | refine blk_alloc ?_ _)); exact BK101.out⟩, ⟨by repeat (first | (with_reducible first | exact HB.out | apply below_alloc | apply pw_below_drewN | apply below_drew1 | refine below_set ?_ GE101.out) | exact HB.out)⟩⟩
          · rw [if_neg c12] at H
            exact absurd H (by simp)
        · rw [if_neg c11] at H
          exact absurd H (by simp)
      · rw [if_neg c10] at H
        have c10b0 : decide (x14_1 < (t103.length : Int)) = false := decide_eq_false c10
        clear c10
        obtain rfl := Option.some.inj H
        go_wp2
        go_ret
        exact ⟨_, by first | rfl | (simp [errW_none, errW_some] <;> rfl) | (simp [*, errW_none, errW_some] <;> rfl), by (with_reducible repeat (first | apply Kd.N_alloc | apply Kd.N_drewN | apply Kd.N_drew)); exact Kd.N_mono HO_4.out (fun _ hk => hk.1), by repeat (first | (with_reducible first | exact HB.out | apply below_alloc | apply pw_below_drewN | apply below_drew1 | refine below_set ?_ GE101.out) | exact HB.out)⟩
end Go.Proofs.Ytgnmcfoenmfhcaa.Q
end
section
namespace Go.Proofs.Ytgnmcfoenmfhcaa.CoversK
set_option linter.unusedVariables false
open Go.RowKit Go.Proofs.Ytgnmcfoenmfhcaa.Q Go.Proofs.YtgnmcfoenmfhcaaW.PrintWords Go.Proofs.YtgnmcfoenmfhcaaW.PrintLast Go.Proofs.YtgnmcfoenmfhcaaW.PrintMore
open Go.Proofs.YtgnmcfoenmfhcaaL Go.Proofs.Ytgnmcfoenmfhcaa.LawK Go.Proofs.Ytgnmcfoenmfhcaa.BoardK Go.Proofs.Ytgnmcfoenmfhcaa.LinesK Go.Proofs.Ytgnmcfoenmfhcaa.SortM Go.Proofs.Ytgnmcfoenmfhcaa.RowSetsK Go.Proofs.Ytgnmcfoenmfhcaa.Koenig Go.Proofs.Ytgnmcfoenmfhcaa.MostK
set_option maxRecDepth 20000 in
theorem andNot_all : ∀ a b : Fin 64, Go.bits .andNot .i64 (a.val : Int) (b.val : Int) = ((a.val &&& (63 ^^^ b.val) : Nat) : Int) := by decide +kernel
theorem andNot {a b : Nat} (ha : a < 64) (hb : b < 64) : Go.bits .andNot .i64 (a : Int) (b : Int) = ((a &&& (63 ^^^ b) : Nat) : Int) := andNot_all ⟨a, ha⟩ ⟨b, hb⟩
def comp (R m : Nat) : Nat := (2 ^ R - 1) &&& (63 ^^^ m)
theorem comp_lt {R m : Nat} : comp R m < 2 ^ R := by
  unfold comp
  have := Nat.two_pow_pos R
  exact Nat.lt_of_le_of_lt Nat.and_le_left (by omega)
set_option maxRecDepth 20000 in
theorem comp_all : ∀ R : Fin 7, ∀ m : Fin 64, ∀ i : Fin 6, (comp R.val m.val).testBit i.val = (decide (i.val < R.val) && !m.val.testBit i.val) := by decide +kernel
theorem comp_bit {R m : Nat} (hR : R ≤ 6) (hm : m < 64) {i : Nat} (hi : i < 6) : (comp R m).testBit i = (decide (i < R) && !m.testBit i) := comp_all ⟨R, by omega⟩ ⟨m, hm⟩ ⟨i, hi⟩
theorem bit_lt {m R i : Nat} (h : m < 2 ^ R) (hi : m.testBit i = true) : i < R := by
  by_cases hlt : i < R
  · exact hlt
  · rw [Nat.testBit_lt_two_pow (Nat.lt_of_lt_of_le h (Nat.pow_le_pow_right (by decide) (by omega)))] at hi; cases hi
def colM (l : List Int) (R m : Nat) : Nat := orM l (listM (comp R m))
def nM (l : List Int) (R m : Nat) : Nat := (listM m).length + (listM (colM l R m)).length
def cov (l : List Int) (R m : Nat) : S49 := ⟨listM m, listM (colM l R m)⟩
def stepC (l : List Int) (R : Nat) (st : Nat × List S49) (m : Nat) : Nat × List S49 :=
  if nM l R m < st.1 then (nM l R m, [cov l R m]) else if nM l R m = st.1 then (st.1, st.2 ++ [cov l R m]) else st
theorem fold_covers (l : List Int) (R v : Nat) : ∀ (S : List Nat) (a : Nat) (out : List S49), v ≤ a → (∀ m ∈ S, v ≤ nM l R m) → (v = a ∨ ∃ m ∈ S, nM l R m = v) →
    (S.foldl (stepC l R) (a, out)).2 = (if v = a then out else []) ++ (S.filter (fun m => decide (nM l R m = v))).map (cov l R)
  | [], a, out, h1, h2, h3 => by
    have : v = a := by
      rcases h3 with h | ⟨m, hm, _⟩
      · exact h
      · cases hm
    rw [if_pos this]; simp
  | m :: t, a, out, h1, h2, h3 => by
    have hm := h2 m (by simp)
    have ht : ∀ x ∈ t, v ≤ nM l R x := fun x hx => h2 x (by simp [hx])
    rw [List.foldl_cons, List.filter_cons]
    by_cases c1 : nM l R m < a
    · have e : stepC l R (a, out) m = (nM l R m, [cov l R m]) := by unfold stepC; rw [if_pos c1]
      rw [e, fold_covers l R v t (nM l R m) [cov l R m] hm ht ?_, if_neg (show ¬ v = a by omega)]
      · by_cases c2 : v = nM l R m
        · rw [if_pos c2, if_pos (decide_eq_true c2.symm)]; simp
        · rw [if_neg c2, if_neg (by simp; omega)]
      · rcases h3 with h | ⟨x, hx, he⟩
        · omega
        · rcases List.mem_cons.1 hx with rfl | hx
          · exact .inl he.symm
          · exact .inr ⟨x, hx, he⟩
    · by_cases c2 : nM l R m = a
      · have e : stepC l R (a, out) m = (a, out ++ [cov l R m]) := by unfold stepC; rw [if_neg c1, if_pos c2]
        rw [e, fold_covers l R v t a _ h1 ht ?_]
        · by_cases c3 : v = a
          · rw [if_pos c3, if_pos c3, if_pos (decide_eq_true (by omega))]; simp
          · rw [if_neg c3, if_neg c3, if_neg (by simp; omega)]
        · rcases h3 with h | ⟨x, hx, he⟩
          · exact .inl h
          · rcases List.mem_cons.1 hx with rfl | hx
            · exact .inl (by omega)
            · exact .inr ⟨x, hx, he⟩
      · have e : stepC l R (a, out) m = (a, out) := by unfold stepC; rw [if_neg c1, if_neg c2]
        have hne : ¬ decide (nM l R m = v) = true := by
          rw [decide_eq_true_eq]; omega
        have h4 : v = a ∨ ∃ m ∈ t, nM l R m = v := by
          rcases h3 with h | ⟨x, hx, he⟩
          · exact .inl h
          · rcases List.mem_cons.1 hx with rfl | hx
            · omega
            · exact .inr ⟨x, hx, he⟩
        rw [e, fold_covers l R v t a out h1 ht h4, if_neg hne]
set_option maxRecDepth 20000 in
theorem cnt_all : ∀ m : Fin 64, (listM m.val).length = cnt (fun i => m.val.testBit i) := by decide +kernel
theorem cell_far {l : List Int} {r c : Nat} (h : l.length ≤ r) : cell l r c = false := by
  unfold cell
  rw [gD_ge _ _ h]
  simp
theorem colM_lt {l : List Int} {R C m : Nat} (hC : C ≤ 6) (hb : ∀ i (hi : i < l.length), 0 ≤ l[i] ∧ l[i] < 2 ^ C) : colM l R m < 64 := by
  have h2 : colM l R m < 2 ^ C := orFrom_lt hb _ 0 (Nat.two_pow_pos C)
  have hp : 2 ^ C ≤ 2 ^ 6 := Nat.pow_le_pow_right (by decide) hC
  omega
theorem nM_kap {l : List Int} {R C m : Nat} (hlR : l.length = R) (hR : R ≤ 6) (hC : C ≤ 6) (hb : ∀ i (hi : i < l.length), 0 ≤ l[i] ∧ l[i] < 2 ^ C) (hm : m < 64) : nM l R m = kap (cell l) (fun r => !m.testBit r) := by
  unfold nM kap
  rw [cnt_all ⟨m, hm⟩, cnt_all ⟨colM l R m, colM_lt hC hb⟩]
  congr 1
  · refine cnt_congr fun x _ => ?_
    simp
  · refine cnt_congr fun c hc => ?_
    show (orM l (listM (comp R m))).testBit c = _
    rw [orM_bit, Bool.eq_iff_iff, List.any_eq_true, nb_iff]
    constructor
    · rintro ⟨x, hx, h⟩
      obtain ⟨h1, h2, h3⟩ := mem_listM.1 hx
      rw [comp_bit hR hm (by omega), Bool.and_eq_true] at h3
      exact ⟨x.toNat, by omega, h3.2, h⟩
    · rintro ⟨r, h1, h2, h3⟩
      have hr : r < R := by
        by_cases hr : r < R
        · exact hr
        · rw [cell_far (by omega)] at h3; cases h3
      refine ⟨(r : Int), mem_listM.2 ⟨by omega, by omega, ?_⟩, by rw [Int.toNat_natCast]; exact h3⟩
      rw [Int.toNat_natCast, comp_bit hR hm h1, h2, decide_eq_true hr]
      rfl
theorem mask_of (p : Nat → Bool) : ∀ n, ∃ m, m < 2 ^ n ∧ ∀ r, m.testBit r = (decide (r < n) && p r)
  | 0 => ⟨0, by decide, fun r => by simp⟩
  | n + 1 => by
    obtain ⟨m, h1, h2⟩ := mask_of p n
    by_cases hp : p n = true
    · refine ⟨m ||| 2 ^ n, Nat.or_lt_two_pow (Nat.lt_of_lt_of_le h1 (Nat.pow_le_pow_right (by decide) (by omega))) (Nat.pow_lt_pow_right (by decide) (by omega)), fun r => ?_⟩
      rw [Nat.testBit_or, h2, Nat.testBit_two_pow]
      by_cases e : r = n
      · subst e; simp [hp]
      · by_cases h : r < n
        · simp [h, show r < n + 1 by omega, show ¬ n = r by omega]
        · simp [h, show ¬ r < n + 1 by omega, show ¬ n = r by omega]
    · refine ⟨m, Nat.lt_of_lt_of_le h1 (Nat.pow_le_pow_right (by decide) (by omega)), fun r => ?_⟩
      rw [h2]
      by_cases e : r = n
      · subst e; simp at hp; simp [hp]
      · by_cases h : r < n
        · simp [h, show r < n + 1 by omega]
        · simp [h, show ¬ r < n + 1 by omega]
set_option maxRecDepth 20000 in
theorem setsM_all : ∀ R : Fin 7, ∀ m : Fin 64, m.val < 2 ^ R.val → m.val ∈ setsM R.val := by decide +kernel
theorem nM_min {l : List Int} {R C : Nat} (hlR : l.length = R) (hR : R ≤ 6) (hC : C ≤ 6) (hb : ∀ i (hi : i < l.length), 0 ≤ l[i] ∧ l[i] < 2 ^ C) : (∃ m ∈ setsM R, nM l R m = mostN l C R 0 0) ∧ ∀ m ∈ setsM R, mostN l C R 0 0 ≤ nM l R m := by
  obtain ⟨⟨S, hS⟩, hmin⟩ := most_min hlR hR hC hb
  have hlt := setsM_lt ⟨R, by omega⟩
  refine ⟨?_, fun m hm => by rw [nM_kap hlR hR hC hb (hlt m hm).1]; exact hmin _⟩
  obtain ⟨m, h1, h2⟩ := mask_of (fun r => !S r) R
  have hp : 2 ^ R ≤ 2 ^ 6 := Nat.pow_le_pow_right (by decide) hR
  refine ⟨m, setsM_all ⟨R, by omega⟩ ⟨m, by omega⟩ h1, ?_⟩
  rw [nM_kap hlR hR hC hb (by omega)]
  refine Nat.le_antisymm ?_ (hmin _)
  rw [← hS]
  unfold kap
  have e1 : nb (cell l) (fun r => !m.testBit r) = nb (cell l) S := by
    funext c
    rw [Bool.eq_iff_iff, nb_iff, nb_iff]
    constructor
    · rintro ⟨r, g1, g2, g3⟩
      have hr : r < R := by
        by_cases hr : r < R
        · exact hr
        · rw [cell_far (by omega)] at g3; cases g3
      refine ⟨r, g1, ?_, g3⟩
      rw [h2, decide_eq_true hr] at g2
      simpa using g2
    · rintro ⟨r, g1, g2, g3⟩
      refine ⟨r, g1, ?_, g3⟩
      rw [h2, g2]
      simp
  rw [e1]
  refine Nat.add_le_add_right (cnt_mono fun x hx h => ?_) _
  have h' : (!(!m.testBit x)) = true := h
  rw [h2] at h'
  simp at h'
  simp [h'.2]
def covs (l : List Int) (R C : Nat) : List S49 := ((setsM R).filter (fun m => decide (nM l R m = mostN l C R 0 0))).map (cov l R)
theorem covs_len (l : List Int) (R C : Nat) : (covs l R C).length ≤ 64 := by
  unfold covs
  rw [List.length_map]
  exact Nat.le_trans (List.length_filter_le _ _) (List.length_filter_le _ fullM)
theorem nM_le (l : List Int) (R m : Nat) : nM l R m ≤ 12 := by
  have h1 := listM_len m
  have h2 := listM_len (colM l R m)
  unfold nM
  omega
theorem covers_l0 {l : List Int} {R C : Nat} (hlR : l.length = R) (hR : R ≤ 6) (hC : C ≤ 6) (hb : ∀ i (hi : i < l.length), 0 ≤ l[i] ∧ l[i] < 2 ^ C) (S : List Nat) (hS : ∀ m ∈ S, m < 64 ∧ m < 2 ^ R) (hSl : S.length ≤ 64) : ∀ (d i a : Nat) (out : List S49), i + d = S.length → out.length ≤ i →
    Ev (fun k => impl_Board_covers.l0 k a out (S.map fun (m : Nat) => (m : Int)) ((S.map fun (m : Nat) => (m : Int)).length : Int) i R C l) ((S.drop i).foldl (stepC l R) (a, out)).2
  | 0, i, a, out, hi, ho => by
    refine Ev.step (f := fun _ => some out) (fun k => ?_) (evEq (Ev.now _) (by rw [List.drop_eq_nil_of_le (by omega)]; rfl))
    rw [impl_Board_covers.l0, if_neg (by rw [List.length_map]; omega)]
  | d + 1, i, a, out, hi, ho => by
    have w1 := Aside0.mk (show wrap64 ((i : Int) + 1) = ((i + 1 : Nat) : Int) from by rw [w64 (by omega) (by omega)]; rfl)
    have hi2 : i < S.length := by omega
    obtain ⟨h64, hmR⟩ := hS S[i] (List.getElem_mem hi2)
    have hc64 := colM_lt (m := S[i]) (R := R) hC hb
    have hlt : comp R S[i] < 2 ^ R := comp_lt
    have hp : 2 ^ R ≤ 2 ^ 6 := Nat.pow_le_pow_right (by decide) hR
    have hp1 := Nat.two_pow_pos R
    have w2 := Aside0.mk (show wrap64 (((2 ^ R : Nat) : Int) - 1) = ((2 ^ R - 1 : Nat) : Int) from by rw [w64 (by omega) (by omega)]; omega)
    have l1 := listM_len S[i]
    have l2 := listM_len (colM l R S[i])
    have w3 := Aside0.mk (show wrap64 (((listM S[i]).length : Int) + ((listM (colM l R S[i])).length : Int)) = ((nM l R S[i] : Nat) : Int) from by rw [w64 (by omega) (by omega)]; unfold nM; omega)
    have hn := nM_le l R S[i]
    rw [List.drop_eq_getElem_cons hi2, List.foldl_cons]
    refine Ev.step (f := fun k => (impl_Board_columns.f k R C l ((comp R S[i] : Nat) : Int)).bind fun t109 => (impl_count.f (S[i] : Nat)).bind fun t110 => (impl_count.f t109).bind fun t111 => if wrap64 (t110 + t111) < (a : Int) then impl_Board_covers.j1 k (wrap64 (t110 + t111)) [] (S[i] : Nat) t109 (wrap64 (t110 + t111)) (S.map fun (m : Nat) => (m : Int)) ((S.map fun (m : Nat) => (m : Int)).length : Int) i R C l else impl_Board_covers.j1 k a out (S[i] : Nat) t109 (wrap64 (t110 + t111)) (S.map fun (m : Nat) => (m : Int)) ((S.map fun (m : Nat) => (m : Int)).length : Int) i R C l) (fun k => ?_) ?_
    · rw [impl_Board_covers.l0, if_pos (by rw [List.length_map]; omega), if_pos (by omega), if_pos (by rw [List.length_map]; omega), if_pos (by omega), rd_lt _ i (by rw [List.length_map]; exact hi2), List.getElem_map, shl_one R (by omega), w2.out, andNot (by omega) h64]
      rfl
    · refine Ev.bind (columns (R : Int) (C : Int) hC hb (Nat.lt_of_lt_of_le hlt hp) (fun j hj => by have := bit_lt hlt hj; omega)) ?_
      refine Ev.congr (fun k => by rw [count h64, Option.bind_some, show orM l (listM (comp R S[i])) = colM l R S[i] from rfl, count hc64, Option.bind_some, w3.out]) ?_
      have hap : ∀ (a : Nat) (out : List S49), out.length ≤ i → Ev (fun k => impl_Board_covers.j1 k a out (S[i] : Nat) ((colM l R S[i] : Nat) : Int) ((nM l R S[i] : Nat) : Int) (S.map fun (m : Nat) => (m : Int)) ((S.map fun (m : Nat) => (m : Int)).length : Int) i R C l) ((S.drop (i + 1)).foldl (stepC l R) (if nM l R S[i] = a then (a, out ++ [cov l R S[i]]) else (a, out))).2 := by
        intro a out ho
        by_cases c : nM l R S[i] = a
        · rw [if_pos c]
          refine Ev.step (f := fun k => (impl_listOf.f k (S[i] : Nat)).bind fun t112 => (impl_listOf.f k ((colM l R S[i] : Nat) : Int)).bind fun t115 => impl_Board_covers.l0 k a (out ++ [(⟨t112, t115⟩ : S49)]) (S.map fun (m : Nat) => (m : Int)) ((S.map fun (m : Nat) => (m : Int)).length : Int) ((i + 1 : Nat) : Int) R C l) (fun k => ?_) ?_
          · rw [impl_Board_covers.j1, if_pos (by omega), w1.out]
            congr 1
            funext t
            congr 1
            funext t2
            rw [if_pos (by omega)]
          · exact Ev.bind (listOf h64) (Ev.bind (listOf hc64) (covers_l0 hlR hR hC hb S hS hSl d (i + 1) a _ (by omega) (by rw [List.length_append, List.length_singleton]; omega)))
        · rw [if_neg c]
          refine Ev.step (fun k => ?_) (covers_l0 hlR hR hC hb S hS hSl d (i + 1) a out (by omega) (by omega))
          rw [impl_Board_covers.j1, if_neg (by omega), w1.out]
      by_cases c1 : nM l R S[i] < a
      · have e : stepC l R (a, out) S[i] = (nM l R S[i], [cov l R S[i]]) := by unfold stepC; rw [if_pos c1]
        rw [e]
        have h := hap (nM l R S[i]) [] (by simp)
        rw [if_pos rfl] at h
        exact Ev.congr (fun k => by rw [if_pos (by omega)]) h
      · have e : stepC l R (a, out) S[i] = if nM l R S[i] = a then (a, out ++ [cov l R S[i]]) else (a, out) := by unfold stepC; rw [if_neg c1]
        rw [e]
        exact Ev.congr (fun k => by rw [if_neg (by omega)]) (hap a out ho)
theorem covers {l : List Int} {R C : Nat} (hlR : l.length = R) (hR : R ≤ 6) (hC : C ≤ 6) (hb : ∀ i (hi : i < l.length), 0 ≤ l[i] ∧ l[i] < 2 ^ C) : Ev (fun k => impl_Board_covers.f k R C l) (covs l R C) := by
  unfold impl_Board_covers.f
  refine Ev.bind (rowSets hR _ _) ?_
  have hlen : (setsM R).length ≤ 64 := List.length_filter_le _ fullM
  have h := covers_l0 hlR hR hC hb (setsM R) (setsM_lt ⟨R, by omega⟩) hlen (setsM R).length 0 12 [] (by omega) (by simp)
  refine evEq h ?_
  obtain ⟨h1, h2⟩ := nM_min hlR hR hC hb
  have hm := mostN_le l C R 0 0
  rw [List.drop_zero, fold_covers l R (mostN l C R 0 0) (setsM R) 12 [] (by omega) h2 (.inr h1), if_neg (by omega), List.nil_append]
  rfl
theorem colsS_comp {l : List Int} {R C m : Nat} (hlR : l.length = R) (hR : R ≤ 6) (hC : C ≤ 6) (hb : ∀ i (hi : i < l.length), 0 ≤ l[i] ∧ l[i] < 2 ^ C) (hm : m < 64) : colsS l (listM m) true R C = listM (colM l R m) := by
  unfold colM
  rw [colsS_mask hlR hR hC hb (fun i hi => bit_lt comp_lt hi)]
  unfold colsS
  congr 1
  funext x
  unfold reachFrom
  have e : ∀ (L : List Nat), (∀ r ∈ L, r < R) → L.any (fun r => (decide ((r : Int) ∈ listM m) != true) && cell l r x.toNat) = L.any (fun r => (decide ((r : Int) ∈ listM (comp R m)) != false) && cell l r x.toNat) := by
    intro L hL
    rw [Bool.eq_iff_iff, List.any_eq_true, List.any_eq_true]
    have h : ∀ r ∈ L, (decide ((r : Int) ∈ listM m) != true) = (decide ((r : Int) ∈ listM (comp R m)) != false) := by
      intro r hr
      have hrR := hL r hr
      have h1 : ((r : Int) ∈ listM (comp R m)) ↔ ¬ (r : Int) ∈ listM m := by
        rw [mem_listM, mem_listM, Int.toNat_natCast, comp_bit hR hm (by omega), decide_eq_true hrR, Bool.true_and]
        constructor
        · rintro ⟨_, _, g⟩ ⟨_, _, g2⟩
          rw [g2] at g; cases g
        · intro g
          refine ⟨by omega, by omega, ?_⟩
          cases e : m.testBit r with
          | false => rfl
          | true => exact absurd ⟨by omega, by omega, e⟩ g
      by_cases g : (r : Int) ∈ listM m
      · rw [decide_eq_true g, decide_eq_false (fun h2 => (h1.1 h2) g)]; rfl
      · rw [decide_eq_false g, decide_eq_true (h1.2 g)]; rfl
    constructor
    · rintro ⟨r, hr, g⟩; exact ⟨r, hr, by rw [← h r hr]; exact g⟩
    · rintro ⟨r, hr, g⟩; exact ⟨r, hr, by rw [h r hr]; exact g⟩
  exact e _ (fun r hr => by have := (List.mem_range'_1.1 hr).2; omega)
theorem lcCovers_l0 {l : List Int} {R C : Nat} (hlR : l.length = R) (hR : R ≤ 6) (hC : C ≤ 6) (hb : ∀ i (hi : i < l.length), 0 ≤ l[i] ∧ l[i] < 2 ^ C) (v : Nat) (S : List Nat) (hS : ∀ m ∈ S, m < 64 ∧ m < 2 ^ R) (hSl : S.length ≤ 64) : ∀ (d i : Nat) (out : List S49), i + d = S.length → out.length ≤ i →
    Ev (fun k => spec_lcCovers.l0 k v out (S.map listM) ((S.map listM).length : Int) i R C l) (out ++ ((S.drop i).filter (fun m => decide (nM l R m = v))).map (cov l R))
  | 0, i, out, hi, ho => by
    refine Ev.step (f := fun _ => some out) (fun k => ?_) (evEq (Ev.now _) (by rw [List.drop_eq_nil_of_le (by omega)]; simp))
    rw [spec_lcCovers.l0, if_neg (by rw [List.length_map]; omega)]
  | d + 1, i, out, hi, ho => by
    have w1 := Aside0.mk (show wrap64 ((i : Int) + 1) = ((i + 1 : Nat) : Int) from by rw [w64 (by omega) (by omega)]; rfl)
    have hi2 : i < S.length := by omega
    obtain ⟨h64, hmR⟩ := hS S[i] (List.getElem_mem hi2)
    have l1 := listM_len S[i]
    have l2 := listM_len (colM l R S[i])
    have w3 := Aside0.mk (show wrap64 (((listM S[i]).length : Int) + ((listM (colM l R S[i])).length : Int)) = ((nM l R S[i] : Nat) : Int) from by rw [w64 (by omega) (by omega)]; unfold nM; omega)
    have hrd : rd_L2 (S.map listM) (i : Int) = listM S[i] := by unfold rd_L2; rw [Int.toNat_natCast, gD_lt _ _ (by rw [List.length_map]; exact hi2), List.getElem_map]
    rw [List.drop_eq_getElem_cons hi2, List.filter_cons]
    refine Ev.step (f := fun k => (spec_lcColumns.f k R C l (listM S[i]) true).bind fun t107 => if wrap64 (((listM S[i]).length : Int) + (t107.length : Int)) = (v : Int) then spec_lcCovers.l0 k v (out ++ [(⟨listM S[i], t107⟩ : S49)]) (S.map listM) ((S.map listM).length : Int) ((i + 1 : Nat) : Int) R C l else spec_lcCovers.l0 k v out (S.map listM) ((S.map listM).length : Int) ((i + 1 : Nat) : Int) R C l) (fun k => ?_) ?_
    · rw [spec_lcCovers.l0, if_pos (by rw [List.length_map]; omega), if_pos (by omega), if_pos (by rw [List.length_map]; omega), hrd, w1.out]
      congr 1
      funext t
      rw [if_pos (show out.length < 2932031007402 by omega)]
    · refine Ev.bind (lcColumns R C hlR hR hC (fun i hi => by have := hb i hi; have := two_pow_six hC; omega) true (by omega)) ?_
      rw [colsS_comp hlR hR hC hb h64]
      refine Ev.congr (fun k => by rw [w3.out]) ?_
      by_cases c : nM l R S[i] = v
      · rw [if_pos (decide_eq_true c)]
        refine Ev.congr (fun k => by rw [if_pos (by omega)]) ?_
        refine evEq (lcCovers_l0 hlR hR hC hb v S hS hSl d (i + 1) (out ++ [cov l R S[i]]) (by omega) (by rw [List.length_append, List.length_singleton]; omega)) ?_
        simp
      · rw [if_neg (by simp; exact c)]
        refine Ev.congr (fun k => by rw [if_neg (by omega)]) ?_
        exact lcCovers_l0 hlR hR hC hb v S hS hSl d (i + 1) out (by omega) (by omega)
theorem lcCovers {l : List Int} {R C : Nat} (hlR : l.length = R) (hR : R ≤ 6) (hC : C ≤ 6) (hb : ∀ i (hi : i < l.length), 0 ≤ l[i] ∧ l[i] < 2 ^ C) : Ev (fun k => spec_lcCovers.f k R C l) (covs l R C) := by
  unfold spec_lcCovers.f
  have hp := two_pow_six hC
  refine Ev.bind (lcMost hlR hR hC (fun i hi => by have := hb i hi; omega)) (Ev.bind (lcSets hR) ?_)
  have hlen : (setsM R).length ≤ 64 := List.length_filter_le _ fullM
  have h := lcCovers_l0 hlR hR hC hb (mostN l C R 0 0) (setsM R) (setsM_lt ⟨R, by omega⟩) hlen (setsM R).length 0 [] (by omega) (by simp)
  exact h
end Go.Proofs.Ytgnmcfoenmfhcaa.CoversK
end
section
namespace Go.Proofs.Ytgnmcfoenmfhcaa.Q
open Go.RowKit Go.Proofs.YtgnmcfoenmfhcaaW.PrintWords Go.Proofs.YtgnmcfoenmfhcaaW.PrintLast Go.Proofs.YtgnmcfoenmfhcaaW.PrintMore
attribute [local go_sem] max2_int min2_int max_two min_two max_three min_three max_four min_four   -- for this text's walks alone
set_option linter.unusedVariables false
set_option linter.unusedSimpArgs false
def impl_AllCovers.f (k : Nat) (a0_0 : Int) (a0_1 : Int) (l0_2 : List Int) : Option ((List (S49)) × Bool) := (impl_IsBoard.f a0_0 a0_1 l0_2).bind fun t102 => (if t102 = true then ((impl_Board_covers.f k a0_0 a0_1 l0_2).bind fun t103 => (some (t103, true))) else (some (([] : List (S49)), false)))
end Go.Proofs.Ytgnmcfoenmfhcaa.Q
end
