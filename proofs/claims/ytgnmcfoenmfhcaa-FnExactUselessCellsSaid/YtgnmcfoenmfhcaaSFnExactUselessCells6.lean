/- Texts of this claim put together (6): words, what the functions compute, and plain facts. No conditions. -/
import Derived.Test.YtgnmcfoenmfhcaaSFnExactUselessCells4
import Derived.Test.YtgnmcfoenmfhcaaSFnExactUselessCells5
import Derived.Outline
import Derived.Lib.Hide
section
namespace Go.Proofs.Ytgnmcfoenmfhcaa.Q
open Go.RowKit Go.Proofs.YtgnmcfoenmfhcaaW.PrintWords Go.Proofs.YtgnmcfoenmfhcaaW.PrintLast Go.Proofs.YtgnmcfoenmfhcaaW.PrintMore
attribute [local go_sem] max2_int min2_int max_two min_two max_three min_three max_four min_four   -- for this text's walks alone
set_option linter.unusedVariables false
set_option linter.unusedSimpArgs false
end Go.Proofs.Ytgnmcfoenmfhcaa.Q
end
section
namespace Go.Proofs.Ytgnmcfoenmfhcaa.LinesK
set_option linter.unusedVariables false
open Go.RowKit Go.Proofs.Ytgnmcfoenmfhcaa.Q Go.Proofs.YtgnmcfoenmfhcaaW.PrintWords Go.Proofs.YtgnmcfoenmfhcaaW.PrintLast Go.Proofs.YtgnmcfoenmfhcaaW.PrintMore
open Go.Proofs.YtgnmcfoenmfhcaaL Go.Proofs.Ytgnmcfoenmfhcaa.LawK Go.Proofs.Ytgnmcfoenmfhcaa.BoardK Go.Proofs.Ytgnmcfoenmfhcaa.PermK
theorem evEq {α : Type} {g : Nat → Option α} {a b : α} (h : Ev g a) (e : a = b) : Ev g b := e ▸ h
theorem within_f (a b c : Int) : impl_within.f a b c = some (inR b c a) := by
  unfold impl_within.f inR
  by_cases h : b ≤ a
  · rw [if_pos h]; simp [h]
  · rw [if_neg h]; congr 1; exact (decide_eq_false (by omega)).symm
end Go.Proofs.Ytgnmcfoenmfhcaa.LinesK
end
section
namespace Go.Proofs.Ytgnmcfoenmfhcaa.Q
open Go.RowKit Go.Proofs.YtgnmcfoenmfhcaaW.PrintWords Go.Proofs.YtgnmcfoenmfhcaaW.PrintLast Go.Proofs.YtgnmcfoenmfhcaaW.PrintMore
attribute [local go_sem] max2_int min2_int max_two min_two max_three min_three max_four min_four   -- for this text's walks alone
set_option linter.unusedVariables false
set_option linter.unusedSimpArgs false
def spec_l1Most.f (a0 : Int) (a1 : Int) : Option (Int) := if a0 > a1 then (some a0) else (some a1)
set_option maxHeartbeats 8000000 in
set_option maxRecDepth 100000 in
theorem spec_l1Most.calls0 (a0 : Int) (a1 : Int) (r : Int) (w : World) (h : spec_l1Most.f a0 a1 = some r) :
    Calls Try.prog 79 #[.int .i64 a0, .int .i64 a1] w fun e w' => e = .returned (.int .i64 r) ∧ w = w' := by
  have H : (if a0 > a1 then (some a0) else (some a1)) = some r := h
  clear h
  by_cases c3 : a0 > a1
  · rw [if_pos c3] at H
    have c3b0 : decide (a1 < a0) = true := decide_eq_true c3
    clear c3
    obtain rfl := Option.some.inj H
    go_enter Try.func79, Try.ntmps79
    go_wp2
    go_ret
    exact ⟨by first | rfl | (simp; done) | (simp [*]; done), rfl⟩
  · rw [if_neg c3] at H
    have c3b0 : decide (a1 < a0) = false := decide_eq_false c3
    clear c3
    obtain rfl := Option.some.inj H
    go_enter Try.func79, Try.ntmps79
    go_wp2
    go_ret
    exact ⟨by first | rfl | (simp; done) | (simp [*]; done), rfl⟩
end Go.Proofs.Ytgnmcfoenmfhcaa.Q
end
section
namespace Go.Proofs.Ytgnmcfoenmfhcaa.Q
open Go.RowKit Go.Proofs.YtgnmcfoenmfhcaaW.PrintWords Go.Proofs.YtgnmcfoenmfhcaaW.PrintLast Go.Proofs.YtgnmcfoenmfhcaaW.PrintMore
attribute [local go_sem] max2_int min2_int max_two min_two max_three min_three max_four min_four   -- for this text's walks alone
set_option linter.unusedVariables false
set_option linter.unusedSimpArgs false
mutual
def spec_lcMost.l0 : Nat → Int → Int → Int → Int → Int → Int → List Int → Option (Int)
  | 0, _, _, _, _, _, _, _ => none
  | k + 1, x1, x2, x7, x8, x102000, x102001, x102002 => if x8 < x102001 then ((spec_boHas.f x102000 x102001 x102002 x1 x8).bind fun t103 => (if t103 = true then (if 0 ≤ x8 then (spec_lcMost.j1 k x1 x2 x7 x8 ((Int.tmod (shr .i64 x2 x8) 2) == 0) x102000 x102001 x102002) else (none)) else (spec_lcMost.j1 k x1 x2 x7 x8 false x102000 x102001 x102002))) else (some x7)
def spec_lcMost.j1 : Nat → Int → Int → Int → Int → Bool → Int → Int → List Int → Option (Int)
  | 0, _, _, _, _, _, _, _, _ => none
  | k + 1, x1, x2, x7, x8, x34, x102000, x102001, x102002 => if x34 = true then (if 0 ≤ x8 then ((spec_lcMost.f k x102000 x102001 x102002 (wrap64 (x1 + 1)) (Go.bits .or .i64 x2 (shl .i64 1 x8))).bind fun t104 => ((spec_l1Most.f x7 (wrap64 (1 + t104))).bind fun t105 => (spec_lcMost.l0 k x1 x2 t105 (wrap64 (x8 + 1)) x102000 x102001 x102002))) else (none)) else (spec_lcMost.l0 k x1 x2 x7 (wrap64 (x8 + 1)) x102000 x102001 x102002)
def spec_lcMost.f : Nat → Int → Int → List Int → Int → Int → Option (Int)
  | 0, _, _, _, _, _ => none
  | k + 1, a0_0, a0_1, l0_2, a1, a2 => if a1 = a0_0 then (some 0) else ((spec_lcMost.f k a0_0 a0_1 l0_2 (wrap64 (a1 + 1)) a2).bind fun t102 => (spec_lcMost.l0 k a1 a2 t102 0 a0_0 a0_1 l0_2))
end
def spec_lcMost.T8 : Bool × List (List Nat × List Nat) := (true, [([], []), ([], []), ([], []), ([2], [2]), ([], []), ([], []), ([5], [5]), ([4, 6], [4, 6]), ([1, 3, 7], [1, 3, 7]), ([8], [8]), ([0, 9, 8], [0, 9]), ([10, 10, 0, 1, 2, 3, 4, 5, 6, 7, 8, 9, 10], [0, 10])])
def spec_lcMost.B8 : List Nat := [0, 0, 0, 4, 0, 0, 32, 112, 254, 510, 1023, 2047]
theorem spec_lcMost.tab8 : rtab .any (opsOf Try.f132 8) = spec_lcMost.T8 := by kernel_rfl
theorem spec_lcMost.bits8 : waitsOk spec_lcMost.T8.2 spec_lcMost.B8 = true := by kernel_rfl
set_option maxHeartbeats 8000000 in
set_option maxRecDepth 100000 in
theorem spec_lcMost.calls (k : Nat) : ∀ (a0_0 : Int) (a0_1 : Int) (A0_2 : Option Addr) (c0_2 : Nat) (l0_2 : List Int) (a1 : Int) (a2 : Int) (r : Int) (w : World) (hr0_2 : Kd.C (Kd.int .i64) w A0_2 l0_2.length l0_2) (hc0_2 : l0_2.length ≤ c0_2) (h : spec_lcMost.f k a0_0 a0_1 l0_2 a1 a2 = some r),
    Calls Try.prog 132 #[.agg #[.int .i64 a0_0, .int .i64 a0_1, .slice A0_2 l0_2.length c0_2], .int .i64 a1, .int .i64 a2] w fun e w' => e = .returned (.int .i64 r) ∧ Below w.heap.size w w' := by
  induction k using Nat.strongRecOn with
  | _ k ih =>
  intro a0_0 a0_1 A0_2 c0_2 l0_2 a1 a2 r w hr0_2 hc0_2 h
  cases k with
  | zero => exact absurd h (by simp [spec_lcMost.f])
  | succ k =>
  simp only [spec_lcMost.f] at h
  have hu26 := Try.underlying26
  have HR0_2 := Aside0.mk hr0_2
  have HC0_2 := Aside0.mk hc0_2
  clear hr0_2 hc0_2
  have HB := Aside0.mk (Below.refl w.heap.size w)
  have H : (if a1 = a0_0 then (some 0) else ((spec_lcMost.f k a0_0 a0_1 l0_2 (wrap64 (a1 + 1)) a2).bind fun t102 => (spec_lcMost.l0 k a1 a2 t102 0 a0_0 a0_1 l0_2))) = some r := h
  clear h
  by_cases c4 : a1 = a0_0
  · rw [if_pos c4] at H
    have c4b0 : (a1 == a0_0) = true := beq_iff_eq.mpr c4
    have c4b1 : (a1 != a0_0) = false := bne_eq_false_iff_eq.mpr c4
    clear c4
    obtain rfl := Option.some.inj H
    go_enter Try.func132, Try.ntmps132
    go_wp2_with (first | ((with_reducible refine gate_dst (N := 3) rfl ?_); refine box_event ?hg (N := 3) ?hd (cs := #[.int .i64 a0_0, .int .i64 a0_1, .slice A0_2 l0_2.length c0_2]) (t := 26) ?hr ?_; (case hd => rfl); (case hg => rfl); (case hr => first | (go_simp; done) | (go_simp; rfl)); intro gb101 hg w5 hbox hb; have n0_ := Aside0.mk (below_step (by repeat (first | (with_reducible first | exact HB.out | apply below_alloc | apply pw_below_drewN | apply below_drew1) | exact HB.out)) hb); have n1_ := Aside0.mk (hbox); have n2_ := Aside0.mk ((by rw [hg]; exact (below_size (by repeat (first | (with_reducible first | exact HB.out | apply below_alloc | apply pw_below_drewN | apply below_drew1) | exact HB.out))) : w.heap.size ≤ gb101)); have n3_ := Aside0.mk ((by rw [hg]; exact (below_size (by repeat (first | (with_reducible first | exact HB.out | apply below_alloc | apply pw_below_drewN | apply below_drew1) | exact HB.out))) : w.heap.size ≤ gb101)); clear HB; have HB := n0_; have BK101 := n1_; have GW101 := n2_; have GE101 := n3_; clear n0_ n1_ n2_ n3_; clear hb hbox hg; have hcz6_0 : w5.cell? ⟨gb101, 0, none⟩ = some (.int .i64 a0_0) := (blk_cell BK101.out 0).trans rfl; have hcz6_1 : w5.cell? ⟨gb101, 1, none⟩ = some (.int .i64 a0_1) := (blk_cell BK101.out 1).trans rfl; have hcz6_2 : w5.cell? ⟨gb101, 2, none⟩ = some (.slice A0_2 l0_2.length c0_2) := (blk_cell BK101.out 2).trans rfl; have hfz6_0 := blk_frozen BK101.out 0; have hfz6_1 := blk_frozen BK101.out 1; have hfz6_2 := blk_frozen BK101.out 2))
    go_ret
    exact ⟨by first | rfl | (simp [errW_none, errW_some] <;> rfl) | (simp [*, errW_none, errW_some] <;> rfl), by repeat (first | (with_reducible first | exact HB.out | apply below_alloc | apply pw_below_drewN | apply below_drew1 | refine below_set ?_ GE101.out) | exact HB.out)⟩
  · rw [if_neg c4] at H
    have c4b0 : (a1 == a0_0) = false := beq_eq_false_iff_ne.mpr c4
    have c4b1 : (a1 != a0_0) = true := bne_iff_ne.mpr c4
    replace H := Option.bind_eq_some_iff.mp H
    obtain ⟨t102, A70, H⟩ := H
    replace H : (spec_lcMost.l0 k a1 a2 t102 0 a0_0 a0_1 l0_2) = some r := H
    have A7 := Aside0.mk A70
    clear A70
    have H' := Aside0.mk H
    clear H
    go_enter Try.func132, Try.ntmps132
    go_wp2_with (first | ((with_reducible refine gate_dst (N := 3) rfl ?_); refine box_event ?hg (N := 3) ?hd (cs := #[.int .i64 a0_0, .int .i64 a0_1, .slice A0_2 l0_2.length c0_2]) (t := 26) ?hr ?_; (case hd => rfl); (case hg => rfl); (case hr => first | (go_simp; done) | (go_simp; rfl)); intro gb101 hg w8 hbox hb; have n0_ := Aside0.mk (below_step (by repeat (first | (with_reducible first | exact HB.out | apply below_alloc | apply pw_below_drewN | apply below_drew1) | exact HB.out)) hb); have n1_ := Aside0.mk (hbox); have n2_ := Aside0.mk ((by rw [hg]; exact (below_size (by repeat (first | (with_reducible first | exact HB.out | apply below_alloc | apply pw_below_drewN | apply below_drew1) | exact HB.out))) : w.heap.size ≤ gb101)); have n3_ := Aside0.mk ((by rw [hg]; exact (below_size (by repeat (first | (with_reducible first | exact HB.out | apply below_alloc | apply pw_below_drewN | apply below_drew1) | exact HB.out))) : w.heap.size ≤ gb101)); clear HB; have HB := n0_; have BK101 := n1_; have GW101 := n2_; have GE101 := n3_; clear n0_ n1_ n2_ n3_; clear hb hbox hg; have hcz9_0 : w8.cell? ⟨gb101, 0, none⟩ = some (.int .i64 a0_0) := (blk_cell BK101.out 0).trans rfl; have hcz9_1 : w8.cell? ⟨gb101, 1, none⟩ = some (.int .i64 a0_1) := (blk_cell BK101.out 1).trans rfl; have hcz9_2 : w8.cell? ⟨gb101, 2, none⟩ = some (.slice A0_2 l0_2.length c0_2) := (blk_cell BK101.out 2).trans rfl; have hfz9_0 := blk_frozen BK101.out 0; have hfz9_1 := blk_frozen BK101.out 1; have hfz9_2 := blk_frozen BK101.out 2) | ((with_reducible refine gate_callee (f := 132) rfl ?_); refine goesL_ (some 17) rfl rfl Try.func132 (by kernel_rfl) rfl #[.agg #[.int .i64 a0_0, .int .i64 a0_1, .slice A0_2 l0_2.length c0_2], .int .i64 (wrap64 (a1 + 1)), .int .i64 a2] rfl (by (try simp only [List.map_toArray, List.map_cons, List.map_nil]); first | done | rfl | (simp only [List.length_drop, List.length_take]; rfl)) ?_; (with_reducible refine (ih k (by omega) a0_0 a0_1 _ _ l0_2 (wrap64 (a1 + 1)) a2 t102 _ ?side1 ?side2 A7.out).mono ?_); (case side1 => repeat (first | exact (Kd.C_below HR0_2.out HB.out) | (with_reducible refine Kd.C_alloc ?_ _) | (with_reducible refine Kd.C_drewN ?_ _) | (with_reducible refine Kd.C_drew ?_))); (case side2 => exact HC0_2.out); rintro e w10 ⟨rfl, hb⟩; refine ⟨_, rfl, ?_⟩; have n0_ := Aside0.mk (blk_below (g := gb101) (o := .cells #[.int .i64 a0_0, .int .i64 a0_1, .slice A0_2 l0_2.length c0_2] 26 (0, 0)) (by (with_reducible repeat (first | refine blk_drewN ?_ _ | refine blk_drew ?_ | refine blk_alloc ?_ _)); exact BK101.out) hb); have n1_ := Aside0.mk (below_step (by repeat (first | (with_reducible first | exact HB.out | apply below_alloc | apply pw_below_drewN | apply below_drew1 | refine below_set ?_ GE101.out) | exact HB.out)) hb); clear BK101; clear HB; have BK101 := n0_; have HB := n1_; clear n0_ n1_; (try clear hb); (try clear hb2); (try clear hk); (try clear hi)))
    go_loopg [7, 8] k (fun kq v7 v8 w' => ∃ (x7_1 : Int) (x8_1 : Int), v7 = .int .i64 x7_1 ∧ v8 = .int .i64 x8_1 ∧ Aside0 (spec_lcMost.l0 kq a1 a2 x7_1 x8_1 a0_0 a0_1 l0_2 = some r) ∧ Aside0 (kq ≤ k) ∧ Aside0 (w'.heap[gb101]? = some (.cells #[.int .i64 a0_0, .int .i64 a0_1, (.slice A0_2 l0_2.length c0_2)] 26 (0, 0))) ∧ Aside0 (Below w.heap.size w w'))
    case atStart => exact ⟨(t102), (0), (by first | rfl | (simp; done) | (simp [*]; done)), (by first | rfl | (simp; done) | (simp [*]; done)), H', ⟨Nat.le_refl _⟩, ⟨by (with_reducible repeat (first | refine blk_drewN ?_ _ | refine blk_drew ?_ | refine blk_alloc ?_ _)); exact BK101.out⟩, ⟨by repeat (first | (with_reducible first | exact HB.out | apply below_alloc | apply pw_below_drewN | apply below_drew1 | refine below_set ?_ GE101.out) | exact HB.out)⟩⟩
    case round =>
      clear H'
      try clear c1
      try clear p2
      try clear c4
      try clear c4b0
      try clear c4b1
      try clear p6
      try clear hcz6_0
      try clear hcz6_1
      try clear hcz6_2
      try clear hcz9_0
      try clear hcz9_1
      try clear hcz9_2
      try clear hfz6_0
      try clear hfz6_1
      try clear hfz6_2
      try clear hfz9_0
      try clear hfz9_1
      try clear hfz9_2
      obtain ⟨x7_1, x8_1, rfl, rfl, HA, HK1, BK101, HB⟩ := hrel
      cases gk with
      | zero => exact absurd HA.out (by simp [spec_lcMost.l0])
      | succ k1 =>
        have H := HA.out
        clear HA
        simp only [spec_lcMost.l0] at H
        by_cases c11 : x8_1 < a0_1
        · rw [if_pos c11] at H
          have c11b0 : decide (x8_1 < a0_1) = true := decide_eq_true c11
          clear c11
          have HC12 := Aside0.mk H
          clear H
          have hcz13_0 : wr.cell? ⟨gb101, 0, none⟩ = some (.int .i64 a0_0) := (blk_cell BK101.out 0).trans rfl
          have hcz13_1 : wr.cell? ⟨gb101, 1, none⟩ = some (.int .i64 a0_1) := (blk_cell BK101.out 1).trans rfl
          have hcz13_2 : wr.cell? ⟨gb101, 2, none⟩ = some (.slice A0_2 l0_2.length c0_2) := (blk_cell BK101.out 2).trans rfl
          have hfz13_0 := blk_frozen BK101.out 0
          have hfz13_1 := blk_frozen BK101.out 1
          have hfz13_2 := blk_frozen BK101.out 2
          go_upto_region 7 with (fail)
          go_cut [34] (fun v34 wc => ∃ (kq : Nat) (x34_11 : Bool), v34 = .bool x34_11 ∧ Aside0 (spec_lcMost.j1 kq a1 a2 x7_1 x8_1 x34_11 a0_0 a0_1 l0_2 = some r) ∧ Aside0 (kq ≤ k1) ∧ Aside0 (wc.heap[gb101]? = some (.cells #[.int .i64 a0_0, .int .i64 a0_1, (.slice A0_2 l0_2.length c0_2)] 26 (0, 0))) ∧ Aside0 (Below w.heap.size w wc))
          case first =>
            have H := HC12.out
            clear HC12
            replace H := Option.bind_eq_some_iff.mp H
            obtain ⟨t103, A140, H⟩ := H
            replace H : (if t103 = true then (if 0 ≤ x8_1 then (spec_lcMost.j1 k1 a1 a2 x7_1 x8_1 ((Int.tmod (shr .i64 a2 x8_1) 2) == 0) a0_0 a0_1 l0_2) else (none)) else (spec_lcMost.j1 k1 a1 a2 x7_1 x8_1 false a0_0 a0_1 l0_2)) = some r := H
            have A14 := Aside0.mk A140
            clear A140
            by_cases c15 : t103 = true
            · subst c15
              have H1 : (if 0 ≤ x8_1 then (spec_lcMost.j1 k1 a1 a2 x7_1 x8_1 ((Int.tmod (shr .i64 a2 x8_1) 2) == 0) a0_0 a0_1 l0_2) else (none)) = some r := by rw [if_pos rfl] at H; exact H
              clear H
              have H := H1
              clear H1
              by_cases c16 : 0 ≤ x8_1
              · rw [if_pos c16] at H
                have c16b0 := eq_true c16
                have c16b1 : decide (0 ≤ x8_1) = true := decide_eq_true c16
                clear c16
                obtain ⟨ji17, hji17⟩ : ∃ j_ : Int, (shr .i64 a2 x8_1) = j_ := ⟨_, rfl⟩
                replace H : (spec_lcMost.j1 k1 a1 a2 x7_1 x8_1 ((Int.tmod (ji17) 2) == 0) a0_0 a0_1 l0_2) = some r := by first | (rw [hji17] at H; exact H) | (simp only [hji17] at H ⊢; exact H)
                (try rw [hji17] at A14)
                have hji17_ : (a2 / 2 ^ min x8_1.toNat 64) = ji17 := hji17
                have hji17z : x8_1 ≤ 64 → (a2 / 2 ^ x8_1.toNat) = ji17 := shr_small hji17
                have H' := Aside0.mk H
                clear H
                have hcz18_0 : wr.cell? ⟨gb101, 0, none⟩ = some (.int .i64 a0_0) := (blk_cell BK101.out 0).trans rfl
                have hcz18_1 : wr.cell? ⟨gb101, 1, none⟩ = some (.int .i64 a0_1) := (blk_cell BK101.out 1).trans rfl
                have hcz18_2 : wr.cell? ⟨gb101, 2, none⟩ = some (.slice A0_2 l0_2.length c0_2) := (blk_cell BK101.out 2).trans rfl
                have hfz18_0 := blk_frozen BK101.out 0
                have hfz18_1 := blk_frozen BK101.out 1
                have hfz18_2 := blk_frozen BK101.out 2
                go_wp2_with (first | ((with_reducible refine gate_callee (f := 98) rfl ?_); refine goesL_ (some 27) rfl rfl Try.func98 (by kernel_rfl) rfl #[.agg #[.int .i64 a0_0, .int .i64 a0_1, .slice A0_2 l0_2.length c0_2], .int .i64 a1, .int .i64 x8_1] rfl (by (try simp only [List.map_toArray, List.map_cons, List.map_nil]); first | done | rfl | (simp only [List.length_drop, List.length_take]; rfl)) ?_; (with_reducible refine (spec_boHas.calls a0_0 a0_1 _ _ l0_2 a1 x8_1 true _ ?side1 ?side2 A14.out).mono ?_); (case side1 => repeat (first | exact (Kd.C_below HR0_2.out HB.out) | (with_reducible refine Kd.C_alloc ?_ _) | (with_reducible refine Kd.C_drewN ?_ _) | (with_reducible refine Kd.C_drew ?_))); (case side2 => exact HC0_2.out); rintro e w19 ⟨rfl, hb⟩; refine ⟨_, rfl, ?_⟩; have n0_ := Aside0.mk (blk_below (g := gb101) (o := .cells #[.int .i64 a0_0, .int .i64 a0_1, .slice A0_2 l0_2.length c0_2] 26 (0, 0)) (by (with_reducible repeat (first | refine blk_drewN ?_ _ | refine blk_drew ?_ | refine blk_alloc ?_ _)); exact BK101.out) hb); have n1_ := Aside0.mk (below_step (by repeat (first | (with_reducible first | exact HB.out | apply below_alloc | apply pw_below_drewN | apply below_drew1 | refine below_set ?_ GE101.out) | exact HB.out)) hb); clear BK101; clear HB; have BK101 := n0_; have HB := n1_; clear n0_ n1_; (try clear hb); (try clear hb2); (try clear hk); (try clear hi)))
                go_meet
                case rel => exact ⟨_, (((Int.tmod (ji17) 2) == 0)), (by first | rfl | (simp; done) | (simp only [← hji17] <;> (first | rfl | simp)) | (simp [*]; done)), H', ⟨by have := HK1.out; first | omega | exact Nat.le_refl _⟩, ⟨by (with_reducible repeat (first | refine blk_drewN ?_ _ | refine blk_drew ?_ | refine blk_alloc ?_ _)); exact BK101.out⟩, ⟨by repeat (first | (with_reducible first | exact HB.out | apply below_alloc | apply pw_below_drewN | apply below_drew1 | refine below_set ?_ GE101.out) | exact HB.out)⟩⟩
              · rw [if_neg c16] at H
                exact absurd H (by simp)
            · replace c15 := Bool.eq_false_iff.mpr c15
              subst c15
              have H1 : (spec_lcMost.j1 k1 a1 a2 x7_1 x8_1 false a0_0 a0_1 l0_2) = some r := by rw [if_neg (show ¬ (false = true) by decide)] at H; exact H
              clear H
              have H := H1
              clear H1
              have H' := Aside0.mk H
              clear H
              have hcz20_0 : wr.cell? ⟨gb101, 0, none⟩ = some (.int .i64 a0_0) := (blk_cell BK101.out 0).trans rfl
              have hcz20_1 : wr.cell? ⟨gb101, 1, none⟩ = some (.int .i64 a0_1) := (blk_cell BK101.out 1).trans rfl
              have hcz20_2 : wr.cell? ⟨gb101, 2, none⟩ = some (.slice A0_2 l0_2.length c0_2) := (blk_cell BK101.out 2).trans rfl
              have hfz20_0 := blk_frozen BK101.out 0
              have hfz20_1 := blk_frozen BK101.out 1
              have hfz20_2 := blk_frozen BK101.out 2
              go_wp2_with (first | ((with_reducible refine gate_callee (f := 98) rfl ?_); refine goesL_ (some 27) rfl rfl Try.func98 (by kernel_rfl) rfl #[.agg #[.int .i64 a0_0, .int .i64 a0_1, .slice A0_2 l0_2.length c0_2], .int .i64 a1, .int .i64 x8_1] rfl (by (try simp only [List.map_toArray, List.map_cons, List.map_nil]); first | done | rfl | (simp only [List.length_drop, List.length_take]; rfl)) ?_; (with_reducible refine (spec_boHas.calls a0_0 a0_1 _ _ l0_2 a1 x8_1 false _ ?side1 ?side2 A14.out).mono ?_); (case side1 => repeat (first | exact (Kd.C_below HR0_2.out HB.out) | (with_reducible refine Kd.C_alloc ?_ _) | (with_reducible refine Kd.C_drewN ?_ _) | (with_reducible refine Kd.C_drew ?_))); (case side2 => exact HC0_2.out); rintro e w21 ⟨rfl, hb⟩; refine ⟨_, rfl, ?_⟩; have n0_ := Aside0.mk (blk_below (g := gb101) (o := .cells #[.int .i64 a0_0, .int .i64 a0_1, .slice A0_2 l0_2.length c0_2] 26 (0, 0)) (by (with_reducible repeat (first | refine blk_drewN ?_ _ | refine blk_drew ?_ | refine blk_alloc ?_ _)); exact BK101.out) hb); have n1_ := Aside0.mk (below_step (by repeat (first | (with_reducible first | exact HB.out | apply below_alloc | apply pw_below_drewN | apply below_drew1 | refine below_set ?_ GE101.out) | exact HB.out)) hb); clear BK101; clear HB; have BK101 := n0_; have HB := n1_; clear n0_ n1_; (try clear hb); (try clear hb2); (try clear hk); (try clear hi)))
              go_meet
              case rel => exact ⟨_, (false), (by first | rfl | (simp; done) | (simp [*]; done)), H', ⟨by have := HK1.out; first | omega | exact Nat.le_refl _⟩, ⟨by (with_reducible repeat (first | refine blk_drewN ?_ _ | refine blk_drew ?_ | refine blk_alloc ?_ _)); exact BK101.out⟩, ⟨by repeat (first | (with_reducible first | exact HB.out | apply below_alloc | apply pw_below_drewN | apply below_drew1 | refine below_set ?_ GE101.out) | exact HB.out)⟩⟩
          case rest =>
            clear HC12
            try clear c1
            try clear p2
            try clear c4
            try clear c4b0
            try clear c4b1
            try clear p6
            try clear c9
            try clear c11
            try clear c11b0
            try clear c13
            try clear c15
            try clear c16
            try clear c16b0
            try clear c16b1
            try clear hcz13_0
            try clear hcz13_1
            try clear hcz13_2
            try clear hcz18_0
            try clear hcz18_1
            try clear hcz18_2
            try clear hcz20_0
            try clear hcz20_1
            try clear hcz20_2
            try clear hcz6_0
            try clear hcz6_1
            try clear hcz6_2
            try clear hcz9_0
            try clear hcz9_1
            try clear hcz9_2
            try clear hfz13_0
            try clear hfz13_1
            try clear hfz13_2
            try clear hfz18_0
            try clear hfz18_1
            try clear hfz18_2
            try clear hfz20_0
            try clear hfz20_1
            try clear hfz20_2
            try clear hfz6_0
            try clear hfz6_1
            try clear hfz6_2
            try clear hfz9_0
            try clear hfz9_1
            try clear hfz9_2
            try clear p2
            try clear p6
            obtain ⟨kq, x34_11, rfl, HA, HJ11, BK101, HB⟩ := hcut
            cases kq with
            | zero => exact absurd HA.out (by simp [spec_lcMost.j1])
            | succ kj11 =>
              have H := HA.out
              clear HA
              simp only [spec_lcMost.j1] at H
              by_cases c22 : x34_11 = true
              · subst c22
                have H1 : (if 0 ≤ x8_1 then ((spec_lcMost.f kj11 a0_0 a0_1 l0_2 (wrap64 (a1 + 1)) (Go.bits .or .i64 a2 (shl .i64 1 x8_1))).bind fun t104 => ((spec_l1Most.f x7_1 (wrap64 (1 + t104))).bind fun t105 => (spec_lcMost.l0 kj11 a1 a2 t105 (wrap64 (x8_1 + 1)) a0_0 a0_1 l0_2))) else (none)) = some r := by rw [if_pos rfl] at H; exact H
                clear H
                have H := H1
                clear H1
                by_cases c23 : 0 ≤ x8_1
                · rw [if_pos c23] at H
                  have c23b0 := eq_true c23
                  have c23b1 : decide (0 ≤ x8_1) = true := decide_eq_true c23
                  clear c23
                  obtain ⟨ji24, hji24⟩ : ∃ j_ : Int, (shl .i64 1 x8_1) = j_ := ⟨_, rfl⟩
                  replace H : ((spec_lcMost.f kj11 a0_0 a0_1 l0_2 (wrap64 (a1 + 1)) (Go.bits .or .i64 a2 (ji24))).bind fun t104 => ((spec_l1Most.f x7_1 (wrap64 (1 + t104))).bind fun t105 => (spec_lcMost.l0 kj11 a1 a2 t105 (wrap64 (x8_1 + 1)) a0_0 a0_1 l0_2))) = some r := by first | (rw [hji24] at H; exact H) | (simp only [hji24] at H ⊢; exact H)
                  have hji24_ : (IntKind.i64.wrap (1 * 2 ^ min x8_1.toNat 64)) = ji24 := hji24
                  have hji24z : x8_1 ≤ 64 → (IntKind.i64.wrap (1 * 2 ^ x8_1.toNat)) = ji24 := shl_small hji24
                  have hji24u : (IntKind.i64.wrap (2 ^ min x8_1.toNat 64)) = ji24 := by have h_ := hji24_; rw [Int.one_mul] at h_; exact h_
                  have hji24v : x8_1 ≤ 64 → (IntKind.i64.wrap (2 ^ x8_1.toNat)) = ji24 := fun hle_ => by have h_ := hji24z hle_; rw [Int.one_mul] at h_; exact h_
                  have hji24y : (wrap64 (1 * 2 ^ min x8_1.toNat 64)) = ji24 := (i64_w _).symm.trans hji24_
                  have hji24x : x8_1 ≤ 64 → (wrap64 (1 * 2 ^ x8_1.toNat)) = ji24 := fun h_ => (i64_w _).symm.trans (hji24z h_)
                  replace H := Option.bind_eq_some_iff.mp H
                  obtain ⟨t104, A250, H⟩ := H
                  replace H : ((spec_l1Most.f x7_1 (wrap64 (1 + t104))).bind fun t105 => (spec_lcMost.l0 kj11 a1 a2 t105 (wrap64 (x8_1 + 1)) a0_0 a0_1 l0_2)) = some r := H
                  have A25 := Aside0.mk A250
                  clear A250
                  replace H := Option.bind_eq_some_iff.mp H
                  obtain ⟨t105, A260, H⟩ := H
                  replace H : (spec_lcMost.l0 kj11 a1 a2 t105 (wrap64 (x8_1 + 1)) a0_0 a0_1 l0_2) = some r := H
                  have A26 := Aside0.mk A260
                  clear A260
                  have H' := Aside0.mk H
                  clear H
                  try go_wp2
                  have n0_ := Aside0.mk (blk_drew BK101.out)
                  have n1_ := Aside0.mk (below_drew1 HB.out)
                  clear BK101
                  clear HB
                  have BK101 := n0_
                  have HB := n1_
                  clear n0_ n1_
                  refine start_ (n := 12) (S := fun w' => w'.cell? ⟨gb101, 0, none⟩ = some (.int .i64 a0_0) ∧ w'.cell? ⟨gb101, 1, none⟩ = some (.int .i64 a0_1) ∧ w'.cell? ⟨gb101, 2, none⟩ = some (.slice A0_2 l0_2.length c0_2)) (ds := []) #[false, false, false, false, false, false, false, false, false, false, false, false] (by kernel_rfl) rfl rfl ⟨(blk_cell BK101.out 0).trans rfl, (blk_cell BK101.out 1).trans rfl, (blk_cell BK101.out 2).trans rfl⟩ (fun hHeld => ?_); refine with_tabW spec_lcMost.tab8 spec_lcMost.bits8 (fun HT_ HW_ => ?_)
                  generalize wc.drew = w27 at BK101 HB hHeld ⊢
                  refine pure_ (i := 0) (N := some 35) (v := ?_) (a' := ?_) #[true, false, false, false, false, false, false, false, false, false, false, false] rfl rfl (any_of HT_.out (by kernel_rfl)) (fun _ _ _ h => h) (Or.inl ⟨by rfl, ?_⟩) ?_ ?_
                  rotate_left
                  · intro w'
                    go_simp
                    with_reducible rfl
                  rotate_left
                  · simp only [Act.put, List.setIfInBounds_toArray, List.set_cons_zero, List.set_cons_succ, i64_w, i32_w]
                    rfl
                  refine pure_ (i := 2) (N := some 37) (v := ?_) (a' := ?_) #[true, false, true, false, false, false, false, false, false, false, false, false] rfl rfl (any_of HT_.out (by kernel_rfl)) (fun _ _ _ h => h) (Or.inl ⟨by rfl, ?_⟩) ?_ ?_
                  rotate_left
                  · intro w'
                    go_simp
                    with_reducible rfl
                  rotate_left
                  · simp only [Act.put, List.setIfInBounds_toArray, List.set_cons_zero, List.set_cons_succ, i64_w, i32_w]
                    rfl
                  refine pure_ (i := 3) (N := some 38) (v := ?_) (a' := ?_) #[true, false, true, true, false, false, false, false, false, false, false, false] rfl rfl (any_of HT_.out (by kernel_rfl)) (fun _ _ _ h => h) (Or.inl ⟨by rfl, ?_⟩) ?_ ?_
                  rotate_left
                  · intro w'
                    go_simp
                    with_reducible rfl
                  rotate_left
                  · simp only [Act.put, List.setIfInBounds_toArray, List.set_cons_zero, List.set_cons_succ, i64_w, i32_w]
                    rfl
                  refine pure_ (i := 4) (N := some 39) (v := ?_) (a' := ?_) #[true, false, true, true, true, false, false, false, false, false, false, false] rfl rfl (any_of HT_.out (by kernel_rfl)) (fun _ _ _ h => h) (Or.inl ⟨by rfl, ?_⟩) ?_ ?_
                  rotate_left
                  · intro w'
                    go_simp
                    with_reducible rfl
                  rotate_left
                  · simp only [Act.put, List.setIfInBounds_toArray, List.set_cons_zero, List.set_cons_succ, i64_w, i32_w]
                    rfl
                  refine pure_ (i := 5) (N := some 40) (v := ?_) (a' := ?_) #[true, false, true, true, true, true, false, false, false, false, false, false] rfl rfl (any_of HT_.out (by kernel_rfl)) (fun _ _ _ h => h) (Or.inl ⟨by rfl, ?_⟩) ?_ ?_
                  rotate_left
                  · intro w'
                    go_simp
                    with_reducible rfl
                  rotate_left
                  · simp only [Act.put, List.setIfInBounds_toArray, List.set_cons_zero, List.set_cons_succ, i64_w, i32_w]
                    rfl
                  refine pure_ (i := 6) (N := some 41) (v := ?_) (a' := ?_) #[true, false, true, true, true, true, true, false, false, false, false, false] rfl rfl (any_of HT_.out (by kernel_rfl)) (fun _ _ _ h => h) (Or.inl ⟨by rfl, ?_⟩) ?_ ?_
                  rotate_left
                  · intro w'
                    go_simp
                    with_reducible rfl
                  rotate_left
                  · simp only [Act.put, List.setIfInBounds_toArray, List.set_cons_zero, List.set_cons_succ, i64_w, i32_w]
                    rfl
                  refine pure_ (i := 7) (N := some 42) (v := ?_) (a' := ?_) #[true, false, true, true, true, true, true, true, false, false, false, false] rfl rfl (any_of HT_.out (by kernel_rfl)) (fun _ _ _ h => h) (Or.inl ⟨by rfl, ?_⟩) ?_ ?_
                  rotate_left
                  · intro w'
                    go_simp
                    with_reducible rfl
                  rotate_left
                  · simp only [Act.put, List.setIfInBounds_toArray, List.set_cons_zero, List.set_cons_succ, i64_w, i32_w]
                    rfl
                  refine take_ (i := 1) (N := some 36) (v := ?_) (a' := ?_) #[true, true, true, true, true, true, true, true, false, false, false, false] rfl rfl (take_ofW HT_.out HW_.out (by kernel_rfl)) (fun _ _ _ h => h) (Or.inl ⟨by rfl, ?_⟩) hHeld ?_ ?_
                  rotate_left
                  · rintro w' ⟨s0, s1, s2⟩
                    go_simp
                    with_reducible rfl
                  rotate_left
                  · simp only [Act.put, List.setIfInBounds_toArray, List.set_cons_zero, List.set_cons_succ, i64_w, i32_w]
                    rfl
                  refine one_ (i := 8) (N := some 43) #[true, true, true, true, true, true, true, true, true, false, false, false] rfl rfl (one_of HT_.out (by kernel_rfl)) (by decide) (fun K hK => ?_)
                  refine goes_ Try.func132 (by kernel_rfl) rfl #[.agg #[.int .i64 a0_0, .int .i64 a0_1, .slice A0_2 l0_2.length c0_2], .int .i64 (wrap64 (a1 + 1)), .int .i64 (Go.bits .or .i64 a2 (ji24))] (by rfl) rfl rfl (by (try simp only [List.map_toArray, List.map_cons, List.map_nil]); first | done | (simp only [hji24]; rfl) | rfl | (simp only [List.length_drop, List.length_take]; rfl)) ?_
                  with_reducible refine (ih kj11 (by have := HK1.out; have := HJ11.out; omega) a0_0 a0_1 _ _ l0_2 (wrap64 (a1 + 1)) (Go.bits .or .i64 a2 (ji24)) t104 _ ?side1 ?side2 A25.out).mono ?_
                  (case side1 => repeat (first | exact (Kd.C_below HR0_2.out HB.out) | (with_reducible refine Kd.C_alloc ?_ _) | (with_reducible refine Kd.C_drewN ?_ _) | (with_reducible refine Kd.C_drew ?_)))
                  (case side2 => exact HC0_2.out)
                  rintro e w28 ⟨rfl, hb⟩
                  refine ⟨_, rfl, ?_⟩
                  have n0_ := Aside0.mk (blk_below (g := gb101) (o := .cells #[.int .i64 a0_0, .int .i64 a0_1, .slice A0_2 l0_2.length c0_2] 26 (0, 0)) (by (with_reducible repeat (first | refine blk_drewN ?_ _ | refine blk_drew ?_ | refine blk_alloc ?_ _)); exact BK101.out) hb)
                  have n1_ := Aside0.mk (below_step (by repeat (first | (with_reducible first | exact HB.out | apply below_alloc | apply pw_below_drewN | apply below_drew1 | refine below_set ?_ GE101.out) | exact HB.out)) hb)
                  clear BK101
                  clear HB
                  have BK101 := n0_
                  have HB := n1_
                  clear n0_ n1_
                  (try clear hb)
                  (try clear hb2)
                  (try clear hk)
                  (try clear hi)
                  refine hK.out _ _ ⟨(blk_cell BK101.out 0).trans rfl, (blk_cell BK101.out 1).trans rfl, (blk_cell BK101.out 2).trans rfl⟩ (fun hHeld => ?_)
                  clear hK K
                  refine norm_ (a' := ?_) ?_ ?_
                  rotate_left
                  · show Act.put _ (some 43) _ = _
                    simp only [Act.put, List.setIfInBounds_toArray, List.set_cons_zero, List.set_cons_succ, i64_w, i32_w]
                    rfl
                  refine pure_ (i := 9) (N := some 44) (v := ?_) (a' := ?_) #[true, true, true, true, true, true, true, true, true, true, false, false] rfl rfl (any_of HT_.out (by kernel_rfl)) (fun _ _ _ h => h) (Or.inl ⟨by rfl, ?_⟩) ?_ ?_
                  rotate_left
                  · intro w'
                    go_simp
                    with_reducible rfl
                  rotate_left
                  · simp only [Act.put, List.setIfInBounds_toArray, List.set_cons_zero, List.set_cons_succ, i64_w, i32_w]
                    rfl
                  refine one_ (i := 10) (N := some 45) #[true, true, true, true, true, true, true, true, true, true, true, false] rfl rfl (one_of HT_.out (by kernel_rfl)) (by decide) (fun K hK => ?_)
                  refine goes_ Try.func79 (by kernel_rfl) rfl #[.int .i64 x7_1, .int .i64 (wrap64 (1 + t104))] (by rfl) rfl rfl (by (try simp only [List.map_toArray, List.map_cons, List.map_nil]); first | done | rfl | (simp only [List.length_drop, List.length_take]; rfl)) ?_
                  with_reducible refine (spec_l1Most.calls0 x7_1 (wrap64 (1 + t104)) t105 _ A26.out).mono ?_
                  rintro e w' ⟨rfl, rfl⟩
                  refine ⟨_, rfl, ?_⟩
                  refine hK.out _ _ ⟨(blk_cell BK101.out 0).trans rfl, (blk_cell BK101.out 1).trans rfl, (blk_cell BK101.out 2).trans rfl⟩ (fun hHeld => ?_)
                  clear hK K
                  refine norm_ (a' := ?_) ?_ ?_
                  rotate_left
                  · show Act.put _ (some 45) _ = _
                    simp only [Act.put, List.setIfInBounds_toArray, List.set_cons_zero, List.set_cons_succ, i64_w, i32_w]
                    rfl
                  refine pure_ (i := 11) (N := some 7) (v := ?_) (a' := ?_) #[true, true, true, true, true, true, true, true, true, true, true, true] rfl rfl (any_of HT_.out (by kernel_rfl)) (fun _ _ _ h => h) (Or.inl ⟨by rfl, ?_⟩) ?_ ?_
                  rotate_left
                  · intro w'
                    go_simp
                    with_reducible rfl
                  rotate_left
                  · simp only [Act.put, List.setIfInBounds_toArray, List.set_cons_zero, List.set_cons_succ, i64_w, i32_w]
                    rfl
                  refine done_ (done_of HT_.out (by kernel_rfl)) ?_
                  try go_wp2
                  go_roundg kj11
                  case measure => have := HK1.out; have := HJ11.out; omega
                  case rel => exact ⟨(t105), (wrap64 (x8_1 + 1)), (by first | rfl | (simp; done) | (simp [*]; done)), (by first | rfl | (simp; done) | (simp [*]; done)), H', ⟨by have := HK1.out; have := HJ11.out; omega⟩, ⟨by (with_reducible repeat (first | refine blk_drewN ?_ _ | refine blk_drew ?_ | refine blk_alloc ?_ _)); exact BK101.out⟩, ⟨by repeat (first | (with_reducible first | exact HB.out | apply below_alloc | apply pw_below_drewN | apply below_drew1 | refine below_set ?_ GE101.out) | exact HB.out)⟩⟩
                · rw [if_neg c23] at H
                  exact absurd H (by simp)
              · replace c22 := Bool.eq_false_iff.mpr c22
                subst c22
                have H1 : (spec_lcMost.l0 kj11 a1 a2 x7_1 (wrap64 (x8_1 + 1)) a0_0 a0_1 l0_2) = some r := by rw [if_neg (show ¬ (false = true) by decide)] at H; exact H
                clear H
                have H := H1
                clear H1
                have H' := Aside0.mk H
                clear H
                go_wp2
                go_roundg kj11
                case measure => have := HK1.out; have := HJ11.out; omega
                case rel => exact ⟨(x7_1), (wrap64 (x8_1 + 1)), (by first | rfl | (simp; done) | (simp [*]; done)), (by first | rfl | (simp; done) | (simp [*]; done)), H', ⟨by have := HK1.out; have := HJ11.out; omega⟩, ⟨by (with_reducible repeat (first | refine blk_drewN ?_ _ | refine blk_drew ?_ | refine blk_alloc ?_ _)); exact BK101.out⟩, ⟨by repeat (first | (with_reducible first | exact HB.out | apply below_alloc | apply pw_below_drewN | apply below_drew1 | refine below_set ?_ GE101.out) | exact HB.out)⟩⟩
        · rw [if_neg c11] at H
          have c11b0 : decide (x8_1 < a0_1) = false := decide_eq_false c11
          clear c11
          obtain rfl := Option.some.inj H
          have hcz29_0 : wr.cell? ⟨gb101, 0, none⟩ = some (.int .i64 a0_0) := (blk_cell BK101.out 0).trans rfl
          have hcz29_1 : wr.cell? ⟨gb101, 1, none⟩ = some (.int .i64 a0_1) := (blk_cell BK101.out 1).trans rfl
          have hcz29_2 : wr.cell? ⟨gb101, 2, none⟩ = some (.slice A0_2 l0_2.length c0_2) := (blk_cell BK101.out 2).trans rfl
          have hfz29_0 := blk_frozen BK101.out 0
          have hfz29_1 := blk_frozen BK101.out 1
          have hfz29_2 := blk_frozen BK101.out 2
          go_wp2
          go_ret
          exact ⟨by first | rfl | (simp [errW_none, errW_some] <;> rfl) | (simp [*, errW_none, errW_some] <;> rfl), by repeat (first | (with_reducible first | exact HB.out | apply below_alloc | apply pw_below_drewN | apply below_drew1 | refine below_set ?_ GE101.out) | exact HB.out)⟩
end Go.Proofs.Ytgnmcfoenmfhcaa.Q
end
section
namespace Go.Proofs.Ytgnmcfoenmfhcaa.MostK
set_option linter.unusedVariables false
open Go.RowKit Go.Proofs.Ytgnmcfoenmfhcaa.Q Go.Proofs.YtgnmcfoenmfhcaaW.PrintWords Go.Proofs.YtgnmcfoenmfhcaaW.PrintLast Go.Proofs.YtgnmcfoenmfhcaaW.PrintMore
open Go.Proofs.YtgnmcfoenmfhcaaL Go.Proofs.Ytgnmcfoenmfhcaa.LawK Go.Proofs.Ytgnmcfoenmfhcaa.BoardK Go.Proofs.Ytgnmcfoenmfhcaa.LinesK Go.Proofs.Ytgnmcfoenmfhcaa.Koenig
def mostN (l : List Int) (C : Nat) : Nat → Nat → Nat → Nat
  | 0, _, _ => 0
  | d + 1, r, used => (List.range' 0 C).foldl (fun a c => if (cell l r c && !used.testBit c) = true then (if a > 1 + mostN l C d (r + 1) (used ||| 2 ^ c) then a else 1 + mostN l C d (r + 1) (used ||| 2 ^ c)) else a) (mostN l C d (r + 1) used)
theorem foldl_inv {α β : Type} (P : β → Prop) (s : β → α → β) : ∀ (l : List α) (a : β), P a → (∀ a c, c ∈ l → P a → P (s a c)) → P (l.foldl s a)
  | [], a, h, _ => h
  | c :: t, a, h, hs => foldl_inv P s t (s a c) (hs a c (by simp) h) (fun a c hc => hs a c (by simp [hc]))
theorem mostN_le (l : List Int) (C : Nat) : ∀ d r used, mostN l C d r used ≤ d
  | 0, r, used => Nat.le_refl _
  | d + 1, r, used => by
    rw [mostN]
    refine foldl_inv (fun a => a ≤ d + 1) _ _ _ (Nat.le_succ_of_le (mostN_le l C d (r + 1) used)) ?_
    intro a c _ h
    have := mostN_le l C d (r + 1) (used ||| 2 ^ c)
    try simp only []
    split
    · split <;> omega
    · exact h
theorem foldl_base (p : Nat → Bool) (g : Nat → Nat) : ∀ (l : List Nat) (a : Nat), a ≤ l.foldl (fun a c => if p c = true then (if a > g c then a else g c) else a) a
  | [], a => Nat.le_refl _
  | c :: t, a => by
    rw [List.foldl_cons]
    refine Nat.le_trans ?_ (foldl_base p g t _)
    split
    · split <;> omega
    · exact Nat.le_refl _
theorem foldl_elem (p : Nat → Bool) (g : Nat → Nat) : ∀ (l : List Nat) (a : Nat) (c : Nat), c ∈ l → p c = true → g c ≤ l.foldl (fun a c => if p c = true then (if a > g c then a else g c) else a) a
  | [], a, c, h, _ => by cases h
  | x :: t, a, c, h, hp => by
    rw [List.foldl_cons]
    rcases List.mem_cons.1 h with rfl | h
    · refine Nat.le_trans ?_ (foldl_base p g t _)
      rw [if_pos hp]
      split <;> omega
    · exact foldl_elem p g t _ c h hp
structure From (G : Nat → Nat → Bool) (r used : Nat) (f : Nat → Option Nat) : Prop where
  m : Match G f
  far : ∀ q c, f q = some c → r ≤ q ∧ used.testBit c = false
theorem size_put {f : Nat → Option Nat} {r c : Nat} (hr : r < 6) (h : f r = none) : size (fun q => if q = r then some c else f q) = size f + 1 := by
  unfold size
  rw [← cnt_add (p := fun q => (f q).isSome) hr (by rw [h]; rfl)]
  refine cnt_congr fun x _ => ?_
  by_cases e : x = r
  · subst e; simp
  · simp [e]
theorem size_none : size (fun _ => none) = 0 := cnt_false
theorem size_congr {f g : Nat → Option Nat} (h : ∀ x, x < 6 → f x = g x) : size f = size g := cnt_congr fun x hx => by rw [h x hx]
theorem reach {l : List Int} {R C : Nat} (hR : R ≤ 6) (hC : C ≤ 6) : ∀ d r used, r + d = R → ∃ f, From (cell l) r used f ∧ size f = mostN l C d r used
  | 0, r, used, _ => ⟨fun _ => none, ⟨⟨fun r c h => (by cases h), fun r r' c h => (by cases h)⟩, fun q c h => (by cases h)⟩, size_none⟩
  | d + 1, r, used, hd => by
    rw [mostN]
    refine foldl_inv (fun a => ∃ f, From (cell l) r used f ∧ size f = a) _ _ _ ?_ ?_
    · obtain ⟨f, hf, hs⟩ := reach (l := l) hR hC d (r + 1) used (by omega)
      exact ⟨f, ⟨hf.m, fun q c h => by have := hf.far q c h; exact ⟨by omega, this.2⟩⟩, hs⟩
    · intro a c hc h
      try simp only []
      split
      · rename_i hg
        rw [Bool.and_eq_true] at hg
        split
        · exact h
        · obtain ⟨f, hf, hs⟩ := reach (l := l) hR hC d (r + 1) (used ||| 2 ^ c) (by omega)
          have hfr : f r = none := by
            cases e : f r with
            | none => rfl
            | some x => have := hf.far r x e; omega
          have hcC : c < C := by have := (List.mem_range'_1.1 hc).2; omega
          have hne : ∀ q x, f q = some x → x ≠ c := fun q x e h2 => by
            have := (hf.far q x e).2
            rw [h2, Nat.testBit_or, Nat.testBit_two_pow] at this
            simp at this
          refine ⟨fun q => if q = r then some c else f q, ⟨⟨fun q x e => ?_, fun q q' x e e' => ?_⟩, fun q x e => ?_⟩, by rw [size_put (by omega) hfr, hs]; omega⟩
          · try simp only [] at e
            split at e
            · rename_i hq; injection e with e; subst hq e; exact ⟨by omega, by omega, hg.1⟩
            · exact hf.m.edge q x e
          · try simp only [] at e e'
            split at e
            · rename_i hq
              injection e with e
              split at e'
              · rename_i hq'; omega
              · exact absurd e.symm (hne q' x e')
            · split at e'
              · injection e' with e'; exact absurd e'.symm (hne q x e)
              · exact hf.m.inj q q' x e e'
          · try simp only [] at e
            split at e
            · rename_i hq
              injection e with e
              subst hq e
              exact ⟨Nat.le_refl _, by simpa using hg.2⟩
            · have := hf.far q x e
              refine ⟨by omega, ?_⟩
              have h2 := this.2
              rw [Nat.testBit_or] at h2
              simp at h2
              exact h2.1
      · exact h
theorem bound {l : List Int} {R C : Nat} (hlR : l.length = R) (hR : R ≤ 6) (hC : C ≤ 6) (hb : ∀ i (hi : i < l.length), 0 ≤ l[i] ∧ l[i] < 2 ^ C) : ∀ d r used f, r + d = R → From (cell l) r used f → size f ≤ mostN l C d r used
  | 0, r, used, f, hd, hf => by
    have : size f = 0 := by
      rw [← size_none]
      refine size_congr fun x hx => ?_
      cases e : f x with
      | none => rfl
      | some c =>
        have h1 := (hf.far x c e).1
        have h2 := (hf.m.edge x c e).2.2
        unfold cell at h2
        rw [gD_ge _ _ (by omega)] at h2
        simp at h2
    omega
  | d + 1, r, used, f, hd, hf => by
    rw [mostN]
    cases e : f r with
    | none =>
      refine Nat.le_trans (bound hlR hR hC hb d (r + 1) used f (by omega) ⟨hf.m, fun q c h => ?_⟩) (foldl_base _ (fun c => 1 + mostN l C d (r + 1) (used ||| 2 ^ c)) _ _)
      have := hf.far q c h
      refine ⟨?_, this.2⟩
      by_cases hq : q = r
      · subst hq; rw [e] at h; cases h
      · omega
    | some c =>
      have he := hf.m.edge r c e
      have hu := (hf.far r c e).2
      have hcC : c < C := by
        by_cases h : c < C
        · exact h
        · have h2 := he.2.2
          unfold cell at h2
          by_cases hr : r < l.length
          · rw [gD_lt _ _ hr] at h2
            have := hb r hr
            have h3 : l[r].toNat < 2 ^ C := by
              have h4 : ((l[r].toNat : Nat) : Int) < ((2 ^ C : Nat) : Int) := by rw [Int.toNat_of_nonneg this.1]; exact_mod_cast this.2
              exact_mod_cast h4
            rw [Nat.testBit_lt_two_pow (Nat.lt_of_lt_of_le h3 (Nat.pow_le_pow_right (by decide) (by omega)))] at h2
            cases h2
          · rw [gD_ge _ _ (by omega)] at h2; simp at h2
      have hs : size f = size (fun q => if q = r then none else f q) + 1 := by
        rw [← size_put (f := fun q => if q = r then none else f q) (r := r) (c := c) he.1 (by simp)]
        refine size_congr fun x _ => ?_
        by_cases hx : x = r
        · subst hx; simp [e]
        · simp [hx]
      have ih := bound hlR hR hC hb d (r + 1) (used ||| 2 ^ c) (fun q => if q = r then none else f q) (by omega) ⟨⟨fun q x h => ?_, fun q q' x h h' => ?_⟩, fun q x h => ?_⟩
      · have h2 := foldl_elem (fun c => cell l r c && !used.testBit c) (fun c => 1 + mostN l C d (r + 1) (used ||| 2 ^ c)) (List.range' 0 C) (mostN l C d (r + 1) used) c (List.mem_range'_1.2 ⟨by omega, by omega⟩) (by rw [he.2.2, hu]; rfl)
        try simp only [] at h2
        omega
      · try simp only [] at h
        split at h
        · cases h
        · exact hf.m.edge q x h
      · try simp only [] at h h'
        split at h
        · cases h
        · split at h'
          · cases h'
          · exact hf.m.inj q q' x h h'
      · try simp only [] at h
        split at h
        · cases h
        · rename_i hq
          have := hf.far q x h
          refine ⟨by omega, ?_⟩
          rw [Nat.testBit_or, this.2, Nat.testBit_two_pow, Bool.false_or, decide_eq_false_iff_not]
          intro e2
          subst e2
          exact hq (hf.m.inj q r c h e)
theorem most_min {l : List Int} {R C : Nat} (hlR : l.length = R) (hR : R ≤ 6) (hC : C ≤ 6) (hb : ∀ i (hi : i < l.length), 0 ≤ l[i] ∧ l[i] < 2 ^ C) : (∃ S, kap (cell l) S = mostN l C R 0 0) ∧ ∀ S, mostN l C R 0 0 ≤ kap (cell l) S := by
  obtain ⟨f0, S0, hM, hs⟩ := koenig _ (cell l) rfl
  obtain ⟨f, hf, hfs⟩ := reach (l := l) (C := C) hR hC R 0 0 (by omega)
  have h1 := weak hf.m S0
  have h2 := bound hlR hR hC hb R 0 0 f0 (by omega) ⟨hM, fun q c _ => ⟨by omega, Nat.zero_testBit c⟩⟩
  refine ⟨⟨S0, by omega⟩, fun S => ?_⟩
  have h3 := weak hM S
  omega
theorem lcMost_l0 {l : List Int} {R C : Nat} (hlR : l.length = R) (hR : R ≤ 6) (hC : C ≤ 6) (hb : ∀ i (hi : i < l.length), 0 ≤ l[i] ∧ l[i] < 64) (r used d : Nat) (hr : r + (d + 1) = R) (hu : used < 64) (ih : ∀ used : Nat, used < 64 → Ev (fun k => spec_lcMost.f k R C l ((r + 1 : Nat) : Int) used) ((mostN l C d (r + 1) used : Nat) : Int)) :
    ∀ (e c a : Nat), c + e = C → a ≤ 7 → Ev (fun k => spec_lcMost.l0 k r used a c R C l) (((List.range' c e).foldl (fun a c => if (cell l r c && !used.testBit c) = true then (if a > 1 + mostN l C d (r + 1) (used ||| 2 ^ c) then a else 1 + mostN l C d (r + 1) (used ||| 2 ^ c)) else a) a : Nat) : Int)
  | 0, c, a, hc, ha => by
    refine Ev.step (f := fun _ => some (a : Int)) (fun k => ?_) (Ev.now _)
    rw [spec_lcMost.l0, if_neg (by omega)]
  | e + 1, c, a, hc, ha => by
    have w1 := Aside0.mk (show wrap64 ((c : Int) + 1) = ((c + 1 : Nat) : Int) from by rw [w64 (by omega) (by omega)]; rfl)
    have w2 := Aside0.mk (show wrap64 ((r : Int) + 1) = ((r + 1 : Nat) : Int) from by rw [w64 (by omega) (by omega)]; rfl)
    have hrl : r < l.length := by omega
    rw [List.range'_succ, List.foldl_cons]
    have hu2 : used ||| 2 ^ c < 64 := Nat.or_lt_two_pow (n := 6) hu (Nat.pow_lt_pow_right (by decide) (by omega))
    have hm := mostN_le l C d (r + 1) (used ||| 2 ^ c)
    have ihe := lcMost_l0 hlR hR hC hb r used d hr hu ih e (c + 1) (if (cell l r c && !used.testBit c) = true then (if a > 1 + mostN l C d (r + 1) (used ||| 2 ^ c) then a else 1 + mostN l C d (r + 1) (used ||| 2 ^ c)) else a) (by omega) (by split; split <;> omega; exact ha)
    by_cases hcell : cell l r c = true
    · by_cases hbit : used.testBit c = true
      · rw [hcell, hbit] at ihe ⊢
        refine Ev.step (f := fun k => spec_lcMost.j1 k r used a c false R C l) (fun k => ?_) ?_
        · rw [spec_lcMost.l0, if_pos (by omega), boHas_f (R : Int) (C : Int) hrl (hb r hrl).1 (hb r hrl).2 (by omega), Option.bind_some, if_pos hcell, if_pos (by omega), bit_mod _ _ (by omega), if_pos hbit]
          rfl
        · refine Ev.step (fun k => ?_) ihe
          rw [spec_lcMost.j1, if_neg (by simp), w1.out]
          rfl
      · have hbit2 : used.testBit c = false := by simpa using hbit
        rw [hcell, hbit2] at ihe ⊢
        refine Ev.step (f := fun k => spec_lcMost.j1 k r used a c true R C l) (fun k => ?_) ?_
        · rw [spec_lcMost.l0, if_pos (by omega), boHas_f (R : Int) (C : Int) hrl (hb r hrl).1 (hb r hrl).2 (by omega), Option.bind_some, if_pos hcell, if_pos (by omega), bit_mod _ _ (by omega), if_neg hbit]
          rfl
        · refine Ev.step (f := fun k => (spec_lcMost.f k R C l ((r + 1 : Nat) : Int) ((used ||| 2 ^ c : Nat) : Int)).bind fun t104 => (spec_l1Most.f a (wrap64 (1 + t104))).bind fun t105 => spec_lcMost.l0 k r used t105 ((c + 1 : Nat) : Int) R C l) (fun k => ?_) ?_
          · rw [spec_lcMost.j1, if_pos rfl, if_pos (by omega), w1.out, w2.out, shl_one c (by omega), or_nat _ _ (by omega) (by have : 2 ^ c < 2 ^ 6 := Nat.pow_lt_pow_right (by decide) (by omega); omega)]
          · refine Ev.bind (ih _ hu2) ?_
            refine Ev.congr (fun k => ?_) ihe
            rw [w64 (by omega) (by omega), spec_l1Most.f]
            by_cases h : a > 1 + mostN l C d (r + 1) (used ||| 2 ^ c)
            · rw [if_pos (by omega), Option.bind_some]
              simp [h]
            · rw [if_neg (by omega), Option.bind_some]
              simp [h]
    · have hcell2 : cell l r c = false := by simpa using hcell
      rw [hcell2] at ihe ⊢
      refine Ev.step (f := fun k => spec_lcMost.j1 k r used a c false R C l) (fun k => ?_) ?_
      · rw [spec_lcMost.l0, if_pos (by omega), boHas_f (R : Int) (C : Int) hrl (hb r hrl).1 (hb r hrl).2 (by omega), Option.bind_some, if_neg hcell]
      · refine Ev.step (fun k => ?_) ihe
        rw [spec_lcMost.j1, if_neg (by simp), w1.out]
        rfl
theorem lcMost_f {l : List Int} {R C : Nat} (hlR : l.length = R) (hR : R ≤ 6) (hC : C ≤ 6) (hb : ∀ i (hi : i < l.length), 0 ≤ l[i] ∧ l[i] < 64) : ∀ (d r used : Nat), r + d = R → used < 64 → Ev (fun k => spec_lcMost.f k R C l r used) ((mostN l C d r used : Nat) : Int)
  | 0, r, used, hr, hu => by
    refine Ev.step (f := fun _ => some 0) (fun k => ?_) (Ev.now _)
    rw [spec_lcMost.f, if_pos (by omega)]
  | d + 1, r, used, hr, hu => by
    have w2 := Aside0.mk (show wrap64 ((r : Int) + 1) = ((r + 1 : Nat) : Int) from by rw [w64 (by omega) (by omega)]; rfl)
    have ih := fun used hu => lcMost_f hlR hR hC hb d (r + 1) used (by omega) hu
    have hm := mostN_le l C d (r + 1) used
    refine Ev.step (f := fun k => (spec_lcMost.f k R C l ((r + 1 : Nat) : Int) used).bind fun t102 => spec_lcMost.l0 k r used t102 0 R C l) (fun k => ?_) ?_
    · rw [spec_lcMost.f, if_neg (by omega), w2.out]
    · refine Ev.bind (ih used hu) ?_
      exact lcMost_l0 hlR hR hC hb r used d hr hu ih C 0 _ (by omega) (by omega)
theorem lcMost {l : List Int} {R C : Nat} (hlR : l.length = R) (hR : R ≤ 6) (hC : C ≤ 6) (hb : ∀ i (hi : i < l.length), 0 ≤ l[i] ∧ l[i] < 64) : Ev (fun k => spec_lcMost.f k R C l 0 0) ((mostN l C R 0 0 : Nat) : Int) := lcMost_f hlR hR hC hb R 0 0 (by omega) (by decide)
end Go.Proofs.Ytgnmcfoenmfhcaa.MostK
end
section
namespace Go.Proofs.Ytgnmcfoenmfhcaa.Walk
set_option linter.unusedVariables false
open Go.RowKit Go.Proofs.YtgnmcfoenmfhcaaW.PrintWords Go.Proofs.YtgnmcfoenmfhcaaW.PrintLast Go.Proofs.YtgnmcfoenmfhcaaW.PrintMore
open Go.Proofs.YtgnmcfoenmfhcaaL Go.Proofs.Ytgnmcfoenmfhcaa.LawK Go.Proofs.Ytgnmcfoenmfhcaa.BoardK
theorem mem_iota {m : Int} {n : Nat} {x : Int} (h1 : m ≤ x) (h2 : x < m + n) : x ∈ iota m n := by
  have hi : (x - m).toNat < (iota m n).length := by rw [iota_length]; omega
  have := iota_get n m (x - m).toNat hi
  rw [show x = (iota m n)[(x - m).toNat] by rw [this]; omega]
  exact List.getElem_mem hi
def colWays (l : List Int) (r t : Nat) (pre : List Int) (next : Nat → List Int → List (List Int)) (c : Int) : List (List Int) :=
  if c < 0 then next t (pre ++ [c])
  else if cell l r c.toNat && !t.testBit c.toNat then next (t ||| 2 ^ c.toNat) (pre ++ [c]) else []
def waysFrom (l : List Int) (C : Nat) : Nat → Nat → Nat → List Int → List (List Int)
  | 0, _, _, pre => [pre]
  | d + 1, r, t, pre => (iota (-1) (C + 1)).flatMap (colWays l r t pre (waysFrom l C d (r + 1)))
theorem iota_cut : ∀ (j n : Nat) (m : Int), j < n → iota m n = iota m j ++ (m + j) :: iota (m + j + 1) (n - j - 1)
  | 0, n + 1, m, _ => by rw [iota, iota]; simp
  | j + 1, n + 1, m, h => by
    rw [iota, iota, iota_cut j n (m + 1) (by omega), List.cons_append]
    have e1 : m + 1 + (j : Int) = m + ((j + 1 : Nat) : Int) := by omega
    rw [e1, show n + 1 - (j + 1) - 1 = n - j - 1 by omega]
theorem ways_cut (l : List Int) (C d r t : Nat) (pre : List Int) (j : Nat) (hj : j < C + 1) {x : Int} (hx : x = -1 + j) :
    waysFrom l C (d + 1) r t pre = (iota (-1) j).flatMap (colWays l r t pre (waysFrom l C d (r + 1))) ++ (colWays l r t pre (waysFrom l C d (r + 1)) x ++ (iota (x + 1) (C + 1 - j - 1)).flatMap (colWays l r t pre (waysFrom l C d (r + 1)))) := by
  rw [waysFrom, iota_cut j (C + 1) (-1) hj, List.flatMap_append, List.flatMap_cons, hx]
theorem ways_len (l : List Int) (C : Nat) : ∀ (d r t : Nat) (pre : List Int), (waysFrom l C d r t pre).length ≤ (C + 1) ^ d
  | 0, r, t, pre => by simp [waysFrom]
  | d + 1, r, t, pre => by
    have hc : ∀ c, (colWays l r t pre (waysFrom l C d (r + 1)) c).length ≤ (C + 1) ^ d := by
      intro c
      unfold colWays
      split
      · exact ways_len l C d (r + 1) _ _
      · split
        · exact ways_len l C d (r + 1) _ _
        · exact Nat.zero_le _
    have hf : ∀ (n : Nat) (m : Int), ((iota m n).flatMap (colWays l r t pre (waysFrom l C d (r + 1)))).length ≤ n * (C + 1) ^ d := by
      intro n
      induction n with
      | zero => intro m; simp [iota]
      | succ n ih =>
        intro m
        rw [iota, List.flatMap_cons, List.length_append, Nat.succ_mul]
        have h1 := hc m
        have h2 := ih (m + 1)
        omega
    rw [waysFrom, Nat.pow_succ, Nat.mul_comm]
    exact hf (C + 1) (-1)
structure Blks where (b d a p g r : Nat)
structure Blks.Apart (k : Blks) : Prop where
  bd : k.b ≠ k.d
  ba : k.b ≠ k.a
  bp : k.b ≠ k.p
  bg : k.b ≠ k.g
  br : k.b ≠ k.r
  da : k.d ≠ k.a
  dp : k.d ≠ k.p
  dg : k.d ≠ k.g
  dr : k.d ≠ k.r
  ap : k.a ≠ k.p
  ag : k.a ≠ k.g
  ar : k.a ≠ k.r
  pg : k.p ≠ k.g
  pr : k.p ≠ k.r
  gr : k.g ≠ k.r
def Blks.has (k : Blks) (i : Nat) : Prop := i = k.b ∨ i = k.d ∨ i = k.a ∨ i = k.p ∨ i = k.g ∨ i = k.r
structure Still (S : Nat → Prop) (w w' : World) : Prop where
  kept : Kept w w' S
  os : w'.os = w.os
  tape : w'.tape = w.tape
  output : w'.output = w.output
theorem Still.refl (S : Nat → Prop) (w : World) : Still S w w := ⟨Kept.refl _ _, rfl, rfl, rfl⟩
theorem Still.of_below {S : Nat → Prop} {w w' : World} (h : Below w.heap.size w w') : Still S w w' := ⟨Kept.of_below h S, h.os, h.tape, h.output⟩
theorem Still.set {S : Nat → Prop} (w : World) {a : Addr} (h : S a.block) (v : Value) : Still S w (w.setCell a v) := ⟨Kept.setCell (Kept.refl _ _) (.inl h) v, rfl, rfl, rfl⟩
theorem Still.drewN {S : Nat → Prop} (w : World) (n : Nat) : Still S w (w.drewN n) := ⟨Kept.drewN (Kept.refl _ _) n, rfl, rfl, rfl⟩
theorem Still.trans {S : Nat → Prop} {a b c : World} (h : Still S a b) (k : Still S b c) : Still S a c := ⟨h.kept.then_ k.kept (fun _ hk => .inl hk), k.os.trans h.os, k.tape.trans h.tape, k.output.trans h.output⟩
theorem Still.below {S : Nat → Prop} {w0 w w' : World} (h : Below w0.heap.size w0 w) (k : Still S w w') (hS : ∀ i, S i → w0.heap.size ≤ i) : Below w0.heap.size w0 w' :=
  ⟨k.os.trans h.os, k.tape.trans h.tape, k.output.trans h.output, Nat.le_trans h.size k.kept.1, fun i hi => (k.kept.2 i (Nat.lt_of_lt_of_le hi h.size) (fun hs => by have := hS i hs; omega)).trans (h.block i hi)⟩
structure WSt (k : Blks) (Inv : List (List Int) → World → Prop) (RI CI : Int) (n cp : Nat) (l : List Int) (A0 : Option Addr) (c0 : Nat) (F : Value) (vis : List (List Int)) (ps : List Int) (w : World) : Prop where
  cB : w.heap[k.b]? = some (.cells #[.int .i64 RI, .int .i64 CI, .slice A0 l.length c0] 26 (0, 0))
  cD : w.heap[k.d]? = some (.cells #[F] 93 (0, 0))
  cA : Kd.R (Kd.int .i64) 3 w 0 (fun i => i = k.a) (.slice (some ⟨k.a, 0, none⟩) n cp) ps
  cP : w.heap[k.p]? = some (.cells #[.slice (some ⟨k.a, 0, none⟩) n cp] 24 (0, 0))
  cG : w.heap[k.g]? = some (.cells #[.bool true] 4 (0, 0))
  cR : w.heap[k.r]? = some (.cells #[.func (.func 160) #[] #[.pointer (some ⟨k.b, 0, none⟩), .pointer (some ⟨k.d, 0, none⟩), .pointer (some ⟨k.p, 0, none⟩), .pointer (some ⟨k.g, 0, none⟩), .pointer (some ⟨k.r, 0, none⟩)]] 129 (0, 0))
  inv : Inv vis w
section
variable {k : Blks} {Inv : List (List Int) → World → Prop} {RI CI : Int} {n cp : Nat} {l : List Int} {A0 : Option Addr} {c0 : Nat} {F : Value} {vis : List (List Int)} {ps : List Int} {w w' : World}
theorem WSt.below (hI : ∀ vis w w', Inv vis w → Still k.has w w' → Inv vis w') (h : WSt k Inv RI CI n cp l A0 c0 F vis ps w) (hb : Below w.heap.size w w') : WSt k Inv RI CI n cp l A0 c0 F vis ps w' :=
  ⟨blk_below h.cB hb, blk_below h.cD hb, Kd.R_below h.cA hb, blk_below h.cP hb, blk_below h.cG hb, blk_below h.cR hb, hI _ _ _ h.inv (Still.of_below hb)⟩
theorem WSt.drewN (hI : ∀ vis w w', Inv vis w → Still k.has w w' → Inv vis w') (h : WSt k Inv RI CI n cp l A0 c0 F vis ps w) (m : Nat) : WSt k Inv RI CI n cp l A0 c0 F vis ps (w.drewN m) :=
  h.below hI (pw_below_drewN (Below.refl _ _) m)
theorem WSt.setA (hI : ∀ vis w w', Inv vis w → Still k.has w w' → Inv vis w') (hk : k.Apart) (h : WSt k Inv RI CI n cp l A0 c0 F vis ps w) (i c : Int) : WSt k Inv RI CI n cp l A0 c0 F vis (ps.set i.toNat c) (w.setCell ⟨k.a, i.toNat, none⟩ (.int .i64 c)) :=
  ⟨blk_far h.cB hk.ba _, blk_far h.cD hk.da _, Kd.R_putn h.cA i c, blk_far h.cP hk.ap.symm _, blk_far h.cG hk.ag.symm _, blk_far h.cR hk.ar.symm _, hI _ _ _ h.inv (Still.set w (.inr (.inr (.inl rfl))) _)⟩
theorem WSt.setG (hI : ∀ vis w w', Inv vis w → Still k.has w w' → Inv vis w') (hk : k.Apart) (h : WSt k Inv RI CI n cp l A0 c0 F vis ps w) : WSt k Inv RI CI n cp l A0 c0 F vis ps (w.setCell ⟨k.g, 0, none⟩ (.bool true)) :=
  ⟨blk_far h.cB hk.bg _, blk_far h.cD hk.dg _, Kd.R_far h.cA (fun i hi => by rw [hi]; exact hk.ag) _, blk_far h.cP hk.pg _, blk_put h.cG 0 _ rfl, blk_far h.cR hk.gr.symm _, hI _ _ _ h.inv (Still.set w (.inr (.inr (.inr (.inr (.inl rfl))))) _)⟩
end
end Go.Proofs.Ytgnmcfoenmfhcaa.Walk
end
section
namespace Go.Proofs.Ytgnmcfoenmfhcaa.Q
open Go.RowKit Go.Proofs.YtgnmcfoenmfhcaaW.PrintWords Go.Proofs.YtgnmcfoenmfhcaaW.PrintLast Go.Proofs.YtgnmcfoenmfhcaaW.PrintMore
attribute [local go_sem] max2_int min2_int max_two min_two max_three min_three max_four min_four   -- for this text's walks alone
set_option linter.unusedVariables false
set_option linter.unusedSimpArgs false
def impl_rooks.l0 : Nat → Int → List Int → Int → Int → Option (Int)
  | 0, _, _, _, _ => none
  | k + 1, x3, x6, x7, x8 => if x8 < x7 then (if 0 ≤ x8 then (if x8 < (x6.length : Int) then (if (rd x6 x8) = (-1) then (impl_rooks.l0 k x3 x6 x7 (wrap64 (x8 + 1))) else (impl_rooks.l0 k (wrap64 (x3 + 1)) x6 x7 (wrap64 (x8 + 1)))) else (none)) else (none)) else (some x3)
def impl_rooks.f (k : Nat) (l0 : List Int) : Option (Int) := impl_rooks.l0 k 0 l0 (l0.length : Int) 0
set_option maxHeartbeats 8000000 in
set_option maxRecDepth 100000 in
theorem impl_rooks.calls (k : Nat) (A0 : Option Addr) (c0 : Nat) (l0 : List Int) (r : Int) (w : World) (hr0 : Kd.C (Kd.int .i64) w A0 l0.length l0) (hc0 : l0.length ≤ c0) (h : impl_rooks.f k l0 = some r) :
    Calls Try.prog 97 #[.slice A0 l0.length c0] w fun e w' => e = .returned (.int .i64 r) ∧ Drawn0 w w' := by
  have HR0 := Aside0.mk hr0
  have HC0 := Aside0.mk hc0
  clear hr0 hc0
  have H : (impl_rooks.l0 k 0 l0 (l0.length : Int) 0) = some r := h
  clear h
  have H' := Aside0.mk H
  clear H
  go_enter Try.func97, Try.ntmps97
  go_wp2
  go_loopg [3, 8] k (fun kq v3 v8 w' => ∃ (x3_1 : Int) (x8_1 : Int), v3 = .int .i64 x3_1 ∧ v8 = .int .i64 x8_1 ∧ Aside0 (impl_rooks.l0 kq x3_1 l0 (l0.length : Int) x8_1 = some r) ∧ Aside0 (kq ≤ k) ∧ Drawn0 w w')
  case atStart => exact ⟨(0), (0), (by first | rfl | (simp; done) | (simp [*]; done)), (by first | rfl | (simp; done) | (simp [*]; done)), H', ⟨Nat.le_refl _⟩, by repeat (first | exact Drawn0.refl _ | apply Drawn0.step)⟩
  case round =>
    clear H'
    obtain ⟨x3_1, x8_1, rfl, rfl, HA, HK1, ⟨m1, rfl⟩⟩ := hrel
    cases gk with
    | zero => exact absurd HA.out (by simp [impl_rooks.l0])
    | succ k1 =>
      have H := HA.out
      clear HA
      simp only [impl_rooks.l0] at H
      by_cases c2 : x8_1 < (l0.length : Int)
      · rw [if_pos c2] at H
        have c2b0 : decide (x8_1 < (l0.length : Int)) = true := decide_eq_true c2
        clear c2
        by_cases c3 : 0 ≤ x8_1
        · rw [if_pos c3] at H
          have c3b0 : decide (0 ≤ x8_1) = true := decide_eq_true c3
          clear c3
          by_cases c4 : x8_1 < (l0.length : Int)
          · rw [if_pos c4] at H
            have c4b0 : decide (x8_1 < (l0.length : Int)) = true := decide_eq_true c4
            clear c4
            by_cases c5 : (rd l0 x8_1) = (-1)
            · rw [if_pos c5] at H
              have c5b0 : ((rd l0 x8_1) == (-1)) = true := beq_iff_eq.mpr c5
              have c5b1 : ((rd l0 x8_1) != (-1)) = false := bne_eq_false_iff_eq.mpr c5
              clear c5
              have H' := Aside0.mk H
              clear H
              have p101 : 0 ≤ (x8_1 : Int) := of_decide_eq_true (by first | (with_reducible assumption) | assumption)
              have q101 : x8_1 < (l0.length : Int) := of_decide_eq_true (by first | (with_reducible assumption) | assumption)
              obtain ⟨ad101, e101, hx101_0⟩ := Kd.at_int HR0.out x8_1 p101 q101
              cases e101
              replace p101 := eq_true p101
              replace q101 := eq_true q101
              go_wp2
              go_roundg k1
              case measure => have := HK1.out; omega
              case rel => exact ⟨(x3_1), (wrap64 (x8_1 + 1)), (by first | rfl | (simp; done) | (simp [*]; done)), (by first | rfl | (simp; done) | (simp [*]; done)), H', ⟨by have := HK1.out; omega⟩, by repeat (first | exact Drawn0.refl _ | apply Drawn0.step)⟩
            · rw [if_neg c5] at H
              have c5b0 : ((rd l0 x8_1) == (-1)) = false := beq_eq_false_iff_ne.mpr c5
              have c5b1 : ((rd l0 x8_1) != (-1)) = true := bne_iff_ne.mpr c5
              have H' := Aside0.mk H
              clear H
              have p101 : 0 ≤ (x8_1 : Int) := of_decide_eq_true (by first | (with_reducible assumption) | assumption)
              have q101 : x8_1 < (l0.length : Int) := of_decide_eq_true (by first | (with_reducible assumption) | assumption)
              obtain ⟨ad101, e101, hx101_0⟩ := Kd.at_int HR0.out x8_1 p101 q101
              cases e101
              replace p101 := eq_true p101
              replace q101 := eq_true q101
              go_wp2
              go_roundg k1
              case measure => have := HK1.out; omega
              case rel => exact ⟨(wrap64 (x3_1 + 1)), (wrap64 (x8_1 + 1)), (by first | rfl | (simp; done) | (simp [*]; done)), (by first | rfl | (simp; done) | (simp [*]; done)), H', ⟨by have := HK1.out; omega⟩, by repeat (first | exact Drawn0.refl _ | apply Drawn0.step)⟩
          · rw [if_neg c4] at H
            exact absurd H (by simp)
        · rw [if_neg c3] at H
          exact absurd H (by simp)
      · rw [if_neg c2] at H
        have c2b0 : decide (x8_1 < (l0.length : Int)) = false := decide_eq_false c2
        clear c2
        obtain rfl := Option.some.inj H
        go_wp2
        go_ret
        exact ⟨by first | rfl | (simp; done) | (simp [*]; done), by repeat (first | exact Drawn0.refl _ | apply Drawn0.step)⟩
end Go.Proofs.Ytgnmcfoenmfhcaa.Q
end
section
namespace Go.Proofs.Ytgnmcfoenmfhcaa.Walk
set_option linter.unusedVariables false
open Go.RowKit Go.Proofs.YtgnmcfoenmfhcaaW.PrintWords Go.Proofs.YtgnmcfoenmfhcaaW.PrintLast Go.Proofs.YtgnmcfoenmfhcaaW.PrintMore
open Go.Proofs.YtgnmcfoenmfhcaaL Go.Proofs.Ytgnmcfoenmfhcaa.LawK Go.Proofs.Ytgnmcfoenmfhcaa.BoardK Go.Proofs.Ytgnmcfoenmfhcaa.Q
def rooksN (l : List Int) : Nat := l.countP (fun x => x != -1)
theorem rooks_l0 {l : List Int} (hl : l.length ≤ 1048576) : ∀ (d i n : Nat), i + d = l.length → n ≤ i → Ev (fun k => impl_rooks.l0 k n l (l.length : Int) i) ((n + rooksN (l.drop i) : Nat) : Int)
  | 0, i, n, hi, hn => by
    refine Ev.step (f := fun _ => some ((n + rooksN (l.drop i) : Nat) : Int)) (fun k => ?_) (Ev.now _)
    rw [impl_rooks.l0, if_neg (by omega), List.drop_eq_nil_of_le (by omega)]; rfl
  | d + 1, i, n, hi, hn => by
    have h1 : wrap64 ((i : Int) + 1) = ((i + 1 : Nat) : Int) := by rw [w64 (by omega) (by omega)]; rfl
    have h2 : wrap64 ((n : Int) + 1) = ((n + 1 : Nat) : Int) := by rw [w64 (by omega) (by omega)]; rfl
    have hi2 : i < l.length := by omega
    rw [List.drop_eq_getElem_cons hi2, rooksN, List.countP_cons]
    by_cases hx : l[i] = -1
    · have ih := rooks_l0 hl d (i + 1) n (by omega) (by omega)
      rw [rooksN] at ih
      rw [if_neg (by simp [hx]), Nat.add_zero]
      refine Ev.step (fun k => ?_) ih
      rw [impl_rooks.l0, if_pos (by omega), if_pos (by omega), if_pos (by omega), rd_lt _ _ hi2, if_pos hx, h1]
    · have ih := rooks_l0 hl d (i + 1) (n + 1) (by omega) (by omega)
      rw [rooksN] at ih
      rw [if_pos (by simpa using hx)]
      rw [show n + (List.countP (fun x => x != -1) (List.drop (i + 1) l) + 1) = n + 1 + List.countP (fun x => x != -1) (List.drop (i + 1) l) by omega]
      refine Ev.step (fun k => ?_) ih
      rw [impl_rooks.l0, if_pos (by omega), if_pos (by omega), if_pos (by omega), rd_lt _ _ hi2, if_neg hx, h1, h2]
theorem rooks_f {l : List Int} (hl : l.length ≤ 1048576) : ∃ k, impl_rooks.f k l = some (rooksN l : Int) := by
  have h := rooks_l0 hl l.length 0 0 (by omega) (by omega)
  rw [List.drop_zero, Nat.zero_add] at h
  exact h.rounds
end Go.Proofs.Ytgnmcfoenmfhcaa.Walk
end
section
namespace Go.Proofs.Ytgnmcfoenmfhcaa.MostK
set_option linter.unusedVariables false
open Go.RowKit Go.Proofs.Ytgnmcfoenmfhcaa.Q Go.Proofs.YtgnmcfoenmfhcaaW.PrintWords Go.Proofs.YtgnmcfoenmfhcaaW.PrintLast Go.Proofs.YtgnmcfoenmfhcaaW.PrintMore
open Go.Proofs.YtgnmcfoenmfhcaaL Go.Proofs.Ytgnmcfoenmfhcaa.LawK Go.Proofs.Ytgnmcfoenmfhcaa.BoardK Go.Proofs.Ytgnmcfoenmfhcaa.LinesK Go.Proofs.Ytgnmcfoenmfhcaa.Koenig Go.Proofs.Ytgnmcfoenmfhcaa.Walk
theorem rooks_none (pre : List Int) : rooksN (pre ++ [-1]) = rooksN pre := by
  unfold rooksN
  rw [List.countP_append]
  rfl
theorem rooks_some (pre : List Int) {c : Int} (h : c ≠ -1) : rooksN (pre ++ [c]) = rooksN pre + 1 := by
  unfold rooksN
  rw [List.countP_append, List.countP_singleton, if_pos (by simpa using h)]
theorem col_none (l : List Int) (r t : Nat) (pre : List Int) (next : Nat → List Int → List (List Int)) : colWays l r t pre next (-1) = next t (pre ++ [-1]) := by
  unfold colWays
  rw [if_pos (by omega)]
theorem col_some (l : List Int) (r t : Nat) (pre : List Int) (next : Nat → List Int → List (List Int)) (c : Nat) : colWays l r t pre next (c : Int) = if (cell l r c && !t.testBit c) = true then next (t ||| 2 ^ c) (pre ++ [(c : Int)]) else [] := by
  unfold colWays
  rw [if_neg (by omega), Int.toNat_natCast]
theorem mem_cols {C : Nat} {c : Int} : c ∈ iota (-1) (C + 1) ↔ c = -1 ∨ ∃ n : Nat, c = n ∧ n < C := by
  constructor
  · intro h
    obtain ⟨i, hi, e⟩ := List.mem_iff_getElem.1 h
    rw [iota_get] at e
    rw [iota_length] at hi
    by_cases h0 : i = 0
    · left; omega
    · right; exact ⟨i - 1, by omega, by omega⟩
  · rintro (rfl | ⟨n, rfl, hn⟩)
    · exact mem_iota (by omega) (by omega)
    · exact mem_iota (by omega) (by omega)
theorem ways_most (l : List Int) (C : Nat) : ∀ (d r t : Nat) (pre : List Int), (∀ q ∈ waysFrom l C d r t pre, rooksN q ≤ rooksN pre + mostN l C d r t) ∧ ∃ q ∈ waysFrom l C d r t pre, rooksN q = rooksN pre + mostN l C d r t
  | 0, r, t, pre => by
    rw [waysFrom, mostN]
    exact ⟨fun q hq => by rw [List.mem_singleton.1 hq]; exact Nat.le_refl _, pre, List.mem_singleton.2 rfl, rfl⟩
  | d + 1, r, t, pre => by
    have hbase := foldl_base (fun c => cell l r c && !t.testBit c) (fun c => 1 + mostN l C d (r + 1) (t ||| 2 ^ c)) (List.range' 0 C) (mostN l C d (r + 1) t)
    have helem := fun c => foldl_elem (fun c => cell l r c && !t.testBit c) (fun c => 1 + mostN l C d (r + 1) (t ||| 2 ^ c)) (List.range' 0 C) (mostN l C d (r + 1) t) c
    rw [waysFrom, mostN]
    constructor
    · intro q hq
      rw [List.mem_flatMap] at hq
      obtain ⟨c, hc, hq⟩ := hq
      rcases mem_cols.1 hc with rfl | ⟨n, rfl, hn⟩
      · rw [col_none] at hq
        have := (ways_most l C d (r + 1) t (pre ++ [-1])).1 q hq
        rw [rooks_none] at this
        exact Nat.le_trans this (Nat.add_le_add_left hbase _)
      · rw [col_some] at hq
        split at hq
        · rename_i hg
          have := (ways_most l C d (r + 1) (t ||| 2 ^ n) (pre ++ [(n : Int)])).1 q hq
          rw [rooks_some pre (by omega)] at this
          have h2 := helem n (List.mem_range'_1.2 ⟨by omega, by omega⟩) hg
          try simp only [] at h2
          refine Nat.le_trans this ?_
          rw [Nat.add_assoc]
          exact Nat.add_le_add_left h2 _
        · cases hq
    · refine foldl_inv (fun a => ∃ q ∈ (iota (-1) (C + 1)).flatMap (colWays l r t pre (waysFrom l C d (r + 1))), rooksN q = rooksN pre + a) _ _ _ ?_ ?_
      · obtain ⟨q, hq, e⟩ := (ways_most l C d (r + 1) t (pre ++ [-1])).2
        rw [rooks_none] at e
        exact ⟨q, List.mem_flatMap.2 ⟨-1, mem_cols.2 (.inl rfl), by rw [col_none]; exact hq⟩, e⟩
      · intro a c hc h
        try simp only []
        split
        · rename_i hg
          split
          · exact h
          · obtain ⟨q, hq, e⟩ := (ways_most l C d (r + 1) (t ||| 2 ^ c) (pre ++ [(c : Int)])).2
            rw [rooks_some pre (by omega)] at e
            refine ⟨q, List.mem_flatMap.2 ⟨(c : Int), mem_cols.2 (.inr ⟨c, rfl, by have := (List.mem_range'_1.1 hc).2; omega⟩), by rw [col_some, if_pos hg]; exact hq⟩, by omega⟩
        · exact h
theorem cell_bit {l : List Int} {C r c : Nat} (hb : ∀ i (hi : i < l.length), 0 ≤ l[i] ∧ l[i] < 2 ^ C) (h : cell l r c = true) : c < C := by
  by_cases hc : c < C
  · exact hc
  · unfold cell at h
    by_cases hr : r < l.length
    · rw [gD_lt _ _ hr] at h
      have := hb r hr
      have h3 : l[r].toNat < 2 ^ C := by
        have h4 : ((l[r].toNat : Nat) : Int) < ((2 ^ C : Nat) : Int) := by rw [Int.toNat_of_nonneg this.1]; exact_mod_cast this.2
        exact_mod_cast h4
      rw [Nat.testBit_lt_two_pow (Nat.lt_of_lt_of_le h3 (Nat.pow_le_pow_right (by decide) (by omega)))] at h
      cases h
    · rw [gD_ge _ _ (by omega)] at h; simp at h
theorem cnt_lt : ∀ C : Fin 7, cnt (fun c => decide (c < C.val)) = C.val := by decide
theorem most_cols {l : List Int} {R C : Nat} (hlR : l.length = R) (hR : R ≤ 6) (hC : C ≤ 6) (hb : ∀ i (hi : i < l.length), 0 ≤ l[i] ∧ l[i] < 2 ^ C) : mostN l C R 0 0 ≤ C := by
  have h := (most_min hlR hR hC hb).2 (fun _ => true)
  have h2 : kap (cell l) (fun _ => true) ≤ C := by
    unfold kap
    have e : (fun (r : Nat) => !true) = fun _ => false := rfl
    rw [e, cnt_false, Nat.zero_add]
    have h3 := cnt_lt ⟨C, by omega⟩
    simp only [] at h3
    rw [← h3]
    refine cnt_mono fun c _ hc => ?_
    obtain ⟨r, _, _, hg⟩ := nb_iff.1 hc
    exact decide_eq_true (cell_bit hb hg)
  omega
theorem ways_le {l : List Int} {R C : Nat} (hlR : l.length = R) (hR : R ≤ 6) (hC : C ≤ 6) (hb : ∀ i (hi : i < l.length), 0 ≤ l[i] ∧ l[i] < 2 ^ C) : ∀ q ∈ waysFrom l C R 0 0 [], (rooksN q : Int) ≤ min (R : Int) (C : Int) := by
  intro q hq
  have h := (ways_most l C R 0 0 []).1 q hq
  have h1 := mostN_le l C R 0 0
  have h2 := most_cols hlR hR hC hb
  have h3 : rooksN [] = 0 := rfl
  omega
end Go.Proofs.Ytgnmcfoenmfhcaa.MostK
end
section
namespace Go.Proofs.Ytgnmcfoenmfhcaa.AllK
set_option linter.unusedVariables false
open Go.RowKit Go.Proofs.Ytgnmcfoenmfhcaa.Q Go.Proofs.YtgnmcfoenmfhcaaW.PrintWords Go.Proofs.YtgnmcfoenmfhcaaW.PrintLast Go.Proofs.YtgnmcfoenmfhcaaW.PrintMore
open Go.Proofs.YtgnmcfoenmfhcaaL Go.Proofs.Ytgnmcfoenmfhcaa.LawK Go.Proofs.Ytgnmcfoenmfhcaa.BoardK Go.Proofs.Ytgnmcfoenmfhcaa.LinesK Go.Proofs.Ytgnmcfoenmfhcaa.Koenig Go.Proofs.Ytgnmcfoenmfhcaa.Walk Go.Proofs.Ytgnmcfoenmfhcaa.MostK
def key (c : Int) : Nat := if c = -1 then 6 else c.toNat
def rankB : List Int → Nat
  | [] => 0
  | c :: t => key c * 7 ^ t.length + rankB t
def okC (c : Int) : Bool := decide (-1 ≤ c ∧ c < 6)
theorem key_lt {c : Int} (h : okC c = true) : key c < 7 := by
  have := of_decide_eq_true h
  unfold key
  split <;> omega
theorem key_inj {c d : Int} (h : okC c = true) (h' : okC d = true) (e : key c = key d) : c = d := by
  have := of_decide_eq_true h
  have := of_decide_eq_true h'
  unfold key at e
  split at e <;> split at e <;> omega
theorem rank_lt : ∀ {l : List Int}, l.all okC = true → rankB l < 7 ^ l.length
  | [], _ => by simp [rankB]
  | c :: t, h => by
    rw [List.all_cons, Bool.and_eq_true] at h
    have h1 := key_lt h.1
    have h2 := rank_lt h.2
    rw [rankB, List.length_cons, Nat.pow_succ]
    have : key c * 7 ^ t.length ≤ 6 * 7 ^ t.length := Nat.mul_le_mul_right _ (by omega)
    omega
theorem rank_head {c d : Int} {s t : List Int} (hl : s.length = t.length) (hs : s.all okC = true) (h : key c < key d) : rankB (c :: s) < rankB (d :: t) := by
  have h1 := rank_lt hs
  rw [rankB, rankB, ← hl]
  have : (key c + 1) * 7 ^ s.length ≤ key d * 7 ^ s.length := Nat.mul_le_mul_right _ h
  rw [Nat.succ_mul] at this
  omega
theorem rank_app (pre s : List Int) : rankB (pre ++ s) = rankB pre * 7 ^ s.length + rankB s := by
  induction pre with
  | nil => simp [rankB]
  | cons c t ih => rw [List.cons_append, rankB, ih, rankB, List.length_append, Nat.pow_add, Nat.add_mul, ← Nat.mul_assoc, Nat.add_assoc]
theorem rank_inj : ∀ {s t : List Int}, s.length = t.length → s.all okC = true → t.all okC = true → rankB s = rankB t → s = t
  | [], [], _, _, _, _ => rfl
  | [], _ :: _, h, _, _, _ => by simp at h
  | _ :: _, [], h, _, _, _ => by simp at h
  | c :: s, d :: t, hl, hs, ht, h => by
    rw [List.length_cons, List.length_cons] at hl
    have hl : s.length = t.length := by omega
    have hs' := hs
    have ht' := ht
    rw [List.all_cons, Bool.and_eq_true] at hs ht
    rcases Nat.lt_trichotomy (key c) (key d) with e | e | e
    · have := rank_head hl hs.2 e; omega
    · have e2 := key_inj hs.1 ht.1 e
      subst e2
      rw [rankB, rankB, hl] at h
      rw [rank_inj hl hs.2 ht.2 (by omega)]
    · have := rank_head hl.symm ht.2 e; omega
def cmpB : List Int → List Int → Int
  | a :: s, b :: t => if a = b then cmpB s t else (key a : Int) - key b
  | _, _ => 0
theorem cmp_lt : ∀ {s t : List Int}, s.length = t.length → s.all okC = true → t.all okC = true → (cmpB s t < 0 ↔ rankB s < rankB t)
  | [], [], _, _, _ => by simp [cmpB]
  | [], _ :: _, h, _, _ => by simp at h
  | _ :: _, [], h, _, _ => by simp at h
  | c :: s, d :: t, hl, hs, ht => by
    rw [List.length_cons, List.length_cons] at hl
    have hl : s.length = t.length := by omega
    rw [List.all_cons, Bool.and_eq_true] at hs ht
    rw [cmpB]
    by_cases e : c = d
    · subst e
      rw [if_pos rfl, cmp_lt hl hs.2 ht.2, rankB, rankB, hl]
      omega
    · rw [if_neg e]
      have hk : key c ≠ key d := fun h => e (key_inj hs.1 ht.1 h)
      constructor
      · intro h
        exact rank_head hl hs.2 (by omega)
      · intro h
        rcases Nat.lt_or_gt_of_ne hk with e2 | e2
        · omega
        · have := rank_head hl.symm ht.2 e2; omega
def allS (l : List Int) (C : Nat) : Nat → Nat → Nat → List Int → Nat → List (List Int)
  | 0, _, _, pre, m => if m > 0 then [] else [pre]
  | d + 1, r, t, pre, m => if m > d + 1 then [] else (List.range' 0 C).flatMap (fun c => if (cell l r c && !t.testBit c && decide (m > 0)) = true then allS l C d (r + 1) (t ||| 2 ^ c) (pre ++ [(c : Int)]) (m - 1) else []) ++ allS l C d (r + 1) t (pre ++ [-1]) m
theorem ways_form {l : List Int} {C : Nat} (hC : C ≤ 6) : ∀ (d r t : Nat) (pre : List Int), ∀ q ∈ waysFrom l C d r t pre, ∃ s, q = pre ++ s ∧ s.length = d ∧ s.all okC = true
  | 0, r, t, pre, q, hq => by
    rw [waysFrom] at hq
    exact ⟨[], by rw [List.mem_singleton.1 hq, List.append_nil], rfl, rfl⟩
  | d + 1, r, t, pre, q, hq => by
    rw [waysFrom, List.mem_flatMap] at hq
    obtain ⟨c, hc, hq⟩ := hq
    have hco : okC c = true := by
      rcases mem_cols.1 hc with rfl | ⟨n, rfl, hn⟩
      · rfl
      · exact decide_eq_true ⟨by omega, by omega⟩
    have key : ∀ t', q ∈ waysFrom l C d (r + 1) t' (pre ++ [c]) → ∃ s, q = pre ++ s ∧ s.length = d + 1 ∧ s.all okC = true := by
      intro t' h
      obtain ⟨s, rfl, h2, h3⟩ := ways_form hC d (r + 1) t' (pre ++ [c]) q h
      exact ⟨c :: s, by rw [List.append_assoc]; rfl, by rw [List.length_cons, h2], by rw [List.all_cons, hco, h3]; rfl⟩
    rcases mem_cols.1 hc with rfl | ⟨n, rfl, hn⟩
    · rw [col_none] at hq
      exact key _ hq
    · rw [col_some] at hq
      split at hq
      · exact key _ hq
      · cases hq
theorem rooks_app (a b : List Int) : rooksN (a ++ b) = rooksN a + rooksN b := by
  unfold rooksN
  rw [List.countP_append]
theorem iota_range (m : Int) : ∀ n, iota m n = (List.range' 0 n).map (fun c : Nat => m + (c : Int)) := by
  intro n
  apply List.ext_getElem
  · rw [iota_length, List.length_map, List.length_range']
  · intro i h1 h2
    rw [iota_get, List.getElem_map, List.getElem_range']
    omega
theorem iota_cols (C : Nat) : iota (-1) (C + 1) = -1 :: (List.range' 0 C).map (fun c : Nat => (c : Int)) := by
  rw [iota, iota_range]
  congr 1
  apply List.map_congr_left
  intro c _
  omega
theorem flatMap_perm {α β : Type} {f g : α → List β} : ∀ (l : List α), (∀ x ∈ l, (f x).Perm (g x)) → (l.flatMap f).Perm (l.flatMap g)
  | [], _ => List.Perm.refl _
  | x :: t, h => by
    rw [List.flatMap_cons, List.flatMap_cons]
    exact List.Perm.append (h x (by simp)) (flatMap_perm t (fun y hy => h y (by simp [hy])))
theorem filter_flat {α β : Type} (p : β → Bool) (f : α → List β) : ∀ l : List α, (l.flatMap f).filter p = l.flatMap (fun x => (f x).filter p)
  | [] => rfl
  | x :: t => by rw [List.flatMap_cons, List.filter_append, filter_flat p f t, List.flatMap_cons]
theorem all_perm {l : List Int} {C : Nat} (hC : C ≤ 6) : ∀ (d r t : Nat) (pre : List Int) (m : Nat), ((waysFrom l C d r t pre).filter (fun p => decide (rooksN p = rooksN pre + m))).Perm (allS l C d r t pre m)
  | 0, r, t, pre, m => by
    rw [waysFrom, allS]
    by_cases h : m > 0
    · rw [if_pos h, List.filter_cons, if_neg (by simp; omega), List.filter_nil]
    · rw [if_neg h, List.filter_cons, if_pos (by simp; omega), List.filter_nil]
  | d + 1, r, t, pre, m => by
    rw [allS]
    by_cases h : m > d + 1
    · rw [if_pos h]
      have : (waysFrom l C (d + 1) r t pre).filter (fun p => decide (rooksN p = rooksN pre + m)) = [] := by
        rw [List.filter_eq_nil_iff]
        intro q hq
        have h1 := (ways_most l C (d + 1) r t pre).1 q hq
        have h2 := mostN_le l C (d + 1) r t
        simp
        omega
      rw [this]
    · rw [if_neg h, waysFrom, iota_cols, List.flatMap_cons, List.filter_append, col_none]
      refine List.Perm.trans List.perm_append_comm (List.Perm.append ?_ ?_)
      · rw [List.flatMap_map, filter_flat]
        refine flatMap_perm _ fun c hc => ?_
        rw [col_some]
        by_cases hg : (cell l r c && !t.testBit c) = true
        · rw [if_pos hg]
          by_cases hm : m > 0
          · rw [if_pos (by rw [hg, decide_eq_true hm]; rfl)]
            have ih := all_perm (l := l) hC d (r + 1) (t ||| 2 ^ c) (pre ++ [(c : Int)]) (m - 1)
            rw [rooks_some pre (by omega), show rooksN pre + 1 + (m - 1) = rooksN pre + m by omega] at ih
            exact ih
          · rw [if_neg (by rw [hg, decide_eq_false hm]; simp)]
            have : (waysFrom l C d (r + 1) (t ||| 2 ^ c) (pre ++ [(c : Int)])).filter (fun p => decide (rooksN p = rooksN pre + m)) = [] := by
              rw [List.filter_eq_nil_iff]
              intro q hq
              obtain ⟨s, rfl, _, _⟩ := ways_form hC _ _ _ _ q hq
              rw [rooks_app, rooks_some pre (by omega)]
              simp
              omega
            rw [this]
        · rw [if_neg hg, if_neg (by rw [Bool.eq_false_iff.2 hg]; simp)]
          exact List.Perm.refl _
      · have ih := all_perm (l := l) hC d (r + 1) t (pre ++ [-1]) m
        rw [rooks_none] at ih
        exact ih
theorem all_form {l : List Int} {C : Nat} (hC : C ≤ 6) {d r t : Nat} {pre : List Int} {m : Nat} {q : List Int} (h : q ∈ allS l C d r t pre m) : ∃ s, q = pre ++ s ∧ s.length = d ∧ s.all okC = true :=
  ways_form hC d r t pre q (List.mem_filter.1 ((all_perm hC d r t pre m).mem_iff.2 h)).1
theorem all_sorted {l : List Int} {C : Nat} (hC : C ≤ 6) : ∀ (d r t : Nat) (pre : List Int) (m : Nat), (allS l C d r t pre m).Pairwise (fun a b => rankB a < rankB b)
  | 0, r, t, pre, m => by
    rw [allS]
    split <;> simp
  | d + 1, r, t, pre, m => by
    rw [allS]
    split
    · exact List.Pairwise.nil
    · have below : ∀ (c c' : Int) (t t' : Nat) (m m' : Nat), key c < key c' → ∀ x ∈ allS l C d (r + 1) t (pre ++ [c]) m, ∀ y ∈ allS l C d (r + 1) t' (pre ++ [c']) m', rankB x < rankB y := by
        intro c c' t t' m m' hk x hx y hy
        obtain ⟨s, rfl, h1, h2⟩ := all_form hC hx
        obtain ⟨s', rfl, h3, h4⟩ := all_form hC hy
        have := rank_head (c := c) (d := c') (s := s) (t := s') (by omega) h2 hk
        rw [List.append_assoc, List.append_assoc, List.singleton_append, List.singleton_append, rank_app, rank_app, List.length_cons, List.length_cons, h1, h3]
        omega
      have kc : ∀ c : Nat, key (c : Int) = c := fun c => by unfold key; rw [if_neg (by omega)]; rfl
      rw [List.pairwise_append]
      refine ⟨?_, all_sorted hC d (r + 1) t (pre ++ [-1]) m, ?_⟩
      · rw [List.pairwise_flatMap]
        refine ⟨fun c hc => ?_, ?_⟩
        · split
          · exact all_sorted hC d (r + 1) _ _ _
          · exact List.Pairwise.nil
        · refine List.Pairwise.imp ?_ (List.pairwise_lt_range' (s := 0) (n := C) (step := 1))
          intro c c' hlt x hx y hy
          split at hx
          · split at hy
            · exact below c c' _ _ _ _ (by rw [kc, kc]; exact hlt) x hx y hy
            · cases hy
          · cases hx
      · intro x hx y hy
        rw [List.mem_flatMap] at hx
        obtain ⟨c, hc, hx⟩ := hx
        split at hx
        · refine below c (-1) _ _ _ _ ?_ x hx y hy
          rw [kc]
          have := (List.mem_range'_1.1 hc).2
          show c < 6
          omega
        · cases hx
def largestS (l : List Int) (C R : Nat) : List (List Int) := allS l C R 0 0 [] (mostN l C R 0 0)
def sortB (l : List (List Int)) : List (List Int) := l.mergeSort (fun a b => decide (rankB a ≤ rankB b))
theorem sortB_all {l : List Int} {C : Nat} (hC : C ≤ 6) {R m : Nat} {L : List (List Int)} (h : L.Perm (allS l C R 0 0 [] m)) : sortB L = allS l C R 0 0 [] m := by
  refine List.Perm.eq_of_pairwise (le := fun a b => rankB a ≤ rankB b) ?_ ?_ ((all_sorted hC R 0 0 [] m).imp (fun h => Nat.le_of_lt h)) ((List.mergeSort_perm _ _).trans h)
  · intro a b ha hb h1 h2
    have ha := (List.mergeSort_perm _ _).mem_iff.1 ha
    obtain ⟨s, rfl, h3, h4⟩ := all_form hC (h.mem_iff.1 ha)
    obtain ⟨s', rfl, h5, h6⟩ := all_form hC hb
    exact rank_inj (by omega) h4 h6 (by omega)
  · have := List.pairwise_mergeSort (le := fun a b => decide (rankB a ≤ rankB b)) (by intro a b c h1 h2; simp at *; omega) (by intro a b; simp; omega) L
    exact this.imp (fun h => of_decide_eq_true h)
theorem largest_ne {l : List Int} {C : Nat} (hC : C ≤ 6) (R : Nat) : largestS l C R ≠ [] := by
  obtain ⟨q, hq, e⟩ := (ways_most l C R 0 0 []).2
  have : q ∈ largestS l C R := (all_perm hC R 0 0 [] _).mem_iff.1 (List.mem_filter.2 ⟨hq, by simpa using e⟩)
  intro h
  rw [h] at this
  cases this
theorem largest_len {l : List Int} {C : Nat} (hC : C ≤ 6) {R : Nat} (hR : R ≤ 6) : (largestS l C R).length ≤ 117649 := by
  have h0 := (all_perm (l := l) hC R 0 0 [] (mostN l C R 0 0)).length_eq
  have h00 := List.length_filter_le (fun p => decide (rooksN p = rooksN [] + mostN l C R 0 0)) (waysFrom l C R 0 0 [])
  have h1 := ways_len l C R 0 0 []
  have h2 : (C + 1) ^ R ≤ 7 ^ 6 := Nat.le_trans (Nat.pow_le_pow_left (by omega) _) (Nat.pow_le_pow_right (by decide) hR)
  have h3 : (7 : Nat) ^ 6 = 117649 := by decide
  unfold largestS
  omega
theorem largest_row {l : List Int} {C : Nat} (hC : C ≤ 6) {R : Nat} : ∀ p ∈ largestS l C R, p.length = R ∧ p.all okC = true := by
  intro p hp
  obtain ⟨s, rfl, h1, h2⟩ := all_form hC hp
  exact ⟨h1, h2⟩
theorem largest_nodup {l : List Int} {C : Nat} (hC : C ≤ 6) (R : Nat) : (largestS l C R).Nodup := (all_sorted hC R 0 0 [] _).imp (fun h e => by rw [e] at h; exact Nat.lt_irrefl _ h)
end Go.Proofs.Ytgnmcfoenmfhcaa.AllK
end
section
namespace Go.Proofs.Ytgnmcfoenmfhcaa.Q
open Go.RowKit Go.Proofs.YtgnmcfoenmfhcaaW.PrintWords Go.Proofs.YtgnmcfoenmfhcaaW.PrintLast Go.Proofs.YtgnmcfoenmfhcaaW.PrintMore
attribute [local go_sem] max2_int min2_int max_two min_two max_three min_three max_four min_four   -- for this text's walks alone
set_option linter.unusedVariables false
set_option linter.unusedSimpArgs false
def spec_l1Own.f (l0 : List Int) : Option (List Int) := (some (([] : List Int) : List Int)).bind fun y101 => (if y101.length + l0.length < 17592186044416 then (some (y101 ++ l0)) else (none))
set_option maxHeartbeats 8000000 in
set_option maxRecDepth 100000 in
theorem spec_l1Own.calls (A0 : Option Addr) (c0 : Nat) (l0 : List Int) (r : List Int) (w : World) (hr0 : Kd.C (Kd.int .i64) w A0 l0.length l0) (hc0 : l0.length ≤ c0) (h : spec_l1Own.f l0 = some r) :
    Calls Try.prog 92 #[.slice A0 l0.length c0] w fun e w' => ∃ v0_ : Value, e = .returned (v0_) ∧ Kd.R (Kd.int .i64) 3 w' w.heap.size (fun _ => True) v0_ r ∧ Below w.heap.size w w' := by
  have HR0 := Aside0.mk hr0
  have HC0 := Aside0.mk hc0
  clear hr0 hc0
  have HB := Aside0.mk (Below.refl w.heap.size w)
  have H : ((some (([] : List Int) : List Int)).bind fun y101 => (if y101.length + l0.length < 17592186044416 then (some (y101 ++ l0)) else (none))) = some r := h
  clear h
  obtain ⟨y101, hy101⟩ : ∃ y_ : List Int, y_ = (([] : List Int)) := ⟨_, rfl⟩
  replace H : (if y101.length + l0.length < 17592186044416 then (some (y101 ++ l0)) else (none)) = some r := by first | (rw [hy101]; with_reducible exact H) | (have H2_ := (Option.bind_some _ _).symm.trans H; rw [hy101]; with_reducible exact H2_) | (have H2_ := (Option.bind_some _ _).symm.trans H; with_reducible exact H2_) | with_reducible exact H | (rw [hy101]; exact H) | exact H
  have Ny101 := Aside0.mk hy101
  clear hy101
  by_cases c2 : y101.length + l0.length < 17592186044416
  · rw [if_pos c2] at H
    have LMc2 := Aside0.mk c2
    clear c2
    obtain ⟨y104, hy104⟩ : ∃ y_ : List Int, y_ = (y101 ++ l0) := ⟨_, rfl⟩
    replace H : (some y104) = some r := by first | (rw [hy104]; with_reducible exact H) | (have H2_ := (Option.bind_some _ _).symm.trans H; rw [hy104]; with_reducible exact H2_) | (have H2_ := (Option.bind_some _ _).symm.trans H; with_reducible exact H2_) | with_reducible exact H | (rw [hy104]; exact H) | exact H
    have Ny104 := Aside0.mk hy104
    clear hy104
    obtain rfl := Option.some.inj H
    go_enter Try.func92, Try.ntmps92
    go_wp2_with (first | ((with_reducible refine gate_dst (N := 3) rfl ?_); refine Kd.R_lit (Kd.int .i64) _ 3 ?hg (N := 3) ?hd (xs := ([] : List Int)) (inner := []) (ok := fun _ => True) (okp := fun _ => True) ?hr ?hp (fun _ hk => hk) trivial (Below.refl _ _) (Nat.le_refl _) (by simp) ?_; (case hd => rfl); (case hg => rfl); (case hr => first | (go_simp; done) | (go_simp; rfl)); (case hp => exact (Reps.none _ _)); intro v102 w3 ho4 hb hg_ hnew_; clear hg_ hnew_; (first | rw [← Ny101.out] at ho4 | (simp only [Int.reduceToNat] at ho4; rw [← Ny101.out] at ho4)); have n0_ := Aside0.mk (Kd.R_lower ho4 (below_size (by repeat (first | (with_reducible first | exact HB.out | apply below_alloc | apply pw_below_drewN | apply below_drew1) | exact HB.out)))); have n1_ := Aside0.mk (below_step (by repeat (first | (with_reducible first | exact HB.out | apply below_alloc | apply pw_below_drewN | apply below_drew1) | exact HB.out)) hb); clear HB; have HO103 := n0_; have HB := n1_; clear n0_ n1_; clear hb ho4) | ((with_reducible refine gate_builtin (b := .append) (xs := #[.tmp 3, .tmp 4]) rfl ?_); at_builtin; refine Kd.R_append_rows (Kd.int .i64) (w0 := w) w.heap.size rfl (.tmp 3) (.tmp 4) 24 3 (.int .i64 0) 8 rfl Try.underlying24 info3 rfl (by decide) (by omega) v102 y101 l0 _ _ _ (fun _ => True) (fun _ => False) rfl rfl ?aO ?aR (fun _ _ h => h) (fun _ h => h.elim) ?aF ?aB ?aS ?aL ?_; (case aR => repeat (first | exact (Kd.C_below HR0.out HB.out) | (with_reducible refine Kd.C_alloc ?_ _) | (with_reducible refine Kd.C_drewN ?_ _) | (with_reducible refine Kd.C_drew ?_))); (case aB => exact (by repeat (first | (with_reducible first | exact HB.out | apply below_alloc | apply pw_below_drewN | apply below_drew1) | exact HB.out))); (case aF => exact (fun _ _ => trivial)); (case aO => exact (by (with_reducible repeat (first | apply Kd.R_alloc | apply Kd.R_drewN | apply Kd.R_drew)); exact HO103.out)); (case aS => exact (below_size (by repeat (first | (with_reducible first | exact HB.out | apply below_alloc | apply pw_below_drewN | apply below_drew1) | exact HB.out)))); (case aL => have := LMc2.out; omega); intro v105 w5 ho hb hg hat; rw [← Ny104.out] at ho; have n0_ := Aside0.mk (hb); have n1_ := Aside0.mk (ho); clear HB; clear HO103; have HB := n0_; have HO106 := n1_; clear n0_ n1_; clear ho hb hg hat))
    go_ret
    exact ⟨_, by first | rfl | (simp [errW_none, errW_some] <;> rfl) | (simp [*, errW_none, errW_some] <;> rfl), by (with_reducible repeat (first | apply Kd.R_alloc | apply Kd.R_drewN | apply Kd.R_drew)); exact HO106.out, by repeat (first | (with_reducible first | exact HB.out | apply below_alloc | apply pw_below_drewN | apply below_drew1) | exact HB.out)⟩
  · rw [if_neg c2] at H
    exact absurd H (by simp)
end Go.Proofs.Ytgnmcfoenmfhcaa.Q
end
