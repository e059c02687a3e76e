/- Texts of this claim put together (11): words, what the functions compute, and plain facts. No conditions. -/
import Derived.Test.YtgnmcfoenmfhcaaSFnRefusingRows4
import Derived.Test.YtgnmcfoenmfhcaaSFnRefusingRows7
import Derived.Test.YtgnmcfoenmfhcaaSFnRefusingRows8
import Derived.Test.YtgnmcfoenmfhcaaSFnRefusingRows10
import Derived.Test.YtgnmcfoenmfhcaaSFnRefusingRows5
import Derived.Test.YtgnmcfoenmfhcaaSFnRefusingRows6
import Derived.OpenShut
import Derived.Test.YtgnmcfoenmfhcaaSFnRefusingRows0
section
namespace Go.Proofs.Ytgnmcfoenmfhcaa.Q
open Go.RowKit Go.Proofs.YtgnmcfoenmfhcaaW.PrintWords Go.Proofs.YtgnmcfoenmfhcaaW.PrintLast Go.Proofs.YtgnmcfoenmfhcaaW.PrintMore
attribute [local go_sem] max2_int min2_int max_two min_two max_three min_three max_four min_four   -- for this text's walks alone
set_option linter.unusedVariables false
set_option linter.unusedSimpArgs false
def spec_ColumnsOf.f (k : Nat) (a0_0 : Int) (a0_1 : Int) (l0_2 : List Int) (l1 : List Int) : Option (List Int × Bool) := (spec_boGood.f k a0_0 a0_1 l0_2).bind fun t102 => (if t102 = true then ((spec_l1Rising.f k l1 0 (wrap64 (a0_0 - 1))).bind fun t103 => (if t103 = true then ((spec_lcColumns.f k a0_0 a0_1 l0_2 l1 false).bind fun t104 => (some (t104, true))) else (some (([] : List Int), false)))) else (some (([] : List Int), false)))
set_option maxHeartbeats 8000000 in
set_option maxRecDepth 100000 in
theorem spec_ColumnsOf.calls (k : Nat) (a0_0 : Int) (a0_1 : Int) (A0_2 : Option Addr) (c0_2 : Nat) (l0_2 : List Int) (A1 : Option Addr) (c1 : Nat) (l1 : List Int) (r1 : List Int) (r2 : Bool) (w : World) (hr0_2 : Kd.C (Kd.int .i64) w A0_2 l0_2.length l0_2) (hc0_2 : l0_2.length ≤ c0_2) (hr1 : Kd.C (Kd.int .i64) w A1 l1.length l1) (hc1 : l1.length ≤ c1) (h : spec_ColumnsOf.f k a0_0 a0_1 l0_2 l1 = some (r1, r2)) :
  Calls Try.prog 27 #[.agg #[.int .i64 a0_0, .int .i64 a0_1, .slice A0_2 l0_2.length c0_2], .slice A1 l1.length c1] w fun e w' => ∃ v0_ : Value, e = .returned (.tuple #[v0_, .bool r2]) ∧ Kd.R (Kd.int .i64) 3 w' w.heap.size (fun _ => True) v0_ r1 ∧ Below w.heap.size w w' := by
 have hu26 := Try.underlying26
 have HR0_2 := za hr0_2
 have HC0_2 := za hc0_2
 clear hr0_2 hc0_2
 have HR1 := za hr1
 have HC1 := za hc1
 clear hr1 hc1
 have HB := za (Below.refl w.heap.size w)
 have H : ((spec_boGood.f k a0_0 a0_1 l0_2).bind fun t102 => (if t102 = true then ((spec_l1Rising.f k l1 0 (wrap64 (a0_0 - 1))).bind fun t103 => (if t103 = true then ((spec_lcColumns.f k a0_0 a0_1 l0_2 l1 false).bind fun t104 => (some (t104, true))) else (some (([] : List Int), false)))) else (some (([] : List Int), false)))) = some (r1, r2) := h
 clear h
 replace H := Option.bind_eq_some_iff.mp H
 obtain ⟨t102, A30, H⟩ := H
 replace H : (if t102 = true then ((spec_l1Rising.f k l1 0 (wrap64 (a0_0 - 1))).bind fun t103 => (if t103 = true then ((spec_lcColumns.f k a0_0 a0_1 l0_2 l1 false).bind fun t104 => (some (t104, true))) else (some (([] : List Int), false)))) else (some (([] : List Int), false))) = some (r1, r2) := H
 have A3 := za A30
 clear A30
 by_cases c4 : t102 = true
 ·
  subst c4
  have H1 : ((spec_l1Rising.f k l1 0 (wrap64 (a0_0 - 1))).bind fun t103 => (if t103 = true then ((spec_lcColumns.f k a0_0 a0_1 l0_2 l1 false).bind fun t104 => (some (t104, true))) else (some (([] : List Int), false)))) = some (r1, r2) := by rw [if_pos rfl] at H; exact H
  clear H
  have H := H1
  clear H1
  replace H := Option.bind_eq_some_iff.mp H
  obtain ⟨t103, A50, H⟩ := H
  replace H : (if t103 = true then ((spec_lcColumns.f k a0_0 a0_1 l0_2 l1 false).bind fun t104 => (some (t104, true))) else (some (([] : List Int), false))) = some (r1, r2) := H
  have A5 := za A50
  clear A50
  by_cases c6 : t103 = true
  ·
   subst c6
   have H1 : ((spec_lcColumns.f k a0_0 a0_1 l0_2 l1 false).bind fun t104 => (some (t104, true))) = some (r1, r2) := by rw [if_pos rfl] at H; exact H
   clear H
   have H := H1
   clear H1
   replace H := Option.bind_eq_some_iff.mp H
   obtain ⟨t104, A70, H⟩ := H
   replace H : (some (t104, true)) = some (r1, r2) := H
   have A7 := za A70
   clear A70
   simp only [Option.some.injEq, Prod.mk.injEq] at H
   obtain ⟨rfl, rfl⟩ := H
   go_enter Try.func27, Try.ntmps27
   go_wp2_with (first | ((with_reducible refine gate_dst (N := 2) rfl ?_); refine box_event ?hg (N := 2) ?hd (cs := #[.int .i64 a0_0, .int .i64 a0_1, .slice A0_2 l0_2.length c0_2]) (t := 26) ?hr ?_; (case hd => rfl); (case hg => rfl); (case hr => first | (go_simp; done) | (go_simp; rfl)); intro gb101 hg w8 hbox hb; have n0_ := za (zv (by repeat (first | (with_reducible first | exact HB.out | apply zc | apply ze | apply zb) | exact HB.out)) hb); have n1_ := za (hbox); have n2_ := za ((by rw [hg]; exact (zn (by repeat (first | (with_reducible first | exact HB.out | apply zc | apply ze | apply zb) | exact HB.out))) : w.heap.size ≤ gb101)); have n3_ := za ((by rw [hg]; exact (zn (by repeat (first | (with_reducible first | exact HB.out | apply zc | apply ze | apply zb) | exact HB.out))) : w.heap.size ≤ gb101)); clear HB; have HB := n0_; have BK101 := n1_; have GW101 := n2_; have GE101 := n3_; clear n0_ n1_ n2_ n3_; clear hb hbox hg; have hcz9_0 : w8.cell? ⟨gb101, 0, none⟩ = some (.int .i64 a0_0) := (zg BK101.out 0).trans rfl; have hcz9_1 : w8.cell? ⟨gb101, 1, none⟩ = some (.int .i64 a0_1) := (zg BK101.out 1).trans rfl; have hcz9_2 : w8.cell? ⟨gb101, 2, none⟩ = some (.slice A0_2 l0_2.length c0_2) := (zg BK101.out 2).trans rfl; have hfz9_0 := zj BK101.out 0; have hfz9_1 := zj BK101.out 1; have hfz9_2 := zj BK101.out 2) | ((with_reducible refine zu (f := 76) rfl ?_); refine goesL_ (some 7) rfl rfl Try.func76 (by kernel_rfl) rfl #[.agg #[.int .i64 a0_0, .int .i64 a0_1, .slice A0_2 l0_2.length c0_2]] rfl (by (try simp only [List.map_toArray, List.map_cons, List.map_nil]); first | done | rfl | (simp only [List.length_drop, List.length_take]; rfl)) ?_; (with_reducible refine (spec_boGood.calls k a0_0 a0_1 _ _ l0_2 true _ ?side1 ?side2 A3.out).mono ?_); (case side1 => repeat (first | exact (zE HR0_2.out HB.out) | (with_reducible refine zw ?_ _) | (with_reducible refine zx ?_ _) | (with_reducible refine zy ?_))); (case side2 => exact HC0_2.out); rintro e w10 ⟨rfl, hb⟩; refine ⟨_, rfl, ?_⟩; have n0_ := za (zB (g := gb101) (o := .cells #[.int .i64 a0_0, .int .i64 a0_1, .slice A0_2 l0_2.length c0_2] 26 (0, 0)) (by (with_reducible repeat (first | refine zh ?_ _ | refine zf ?_ | refine zi ?_ _)); exact BK101.out) hb); have n1_ := za (zv (by repeat (first | (with_reducible first | exact HB.out | apply zc | apply ze | apply zb | refine zd ?_ GE101.out) | exact HB.out)) hb); clear BK101 HB; have BK101 := n0_; have HB := n1_; clear n0_ n1_; (try clear hb); (try clear hb2); (try clear hk); (try clear hi); have hcz11_0 : w10.cell? ⟨gb101, 0, none⟩ = some (.int .i64 a0_0) := (zg BK101.out 0).trans rfl; have hcz11_1 : w10.cell? ⟨gb101, 1, none⟩ = some (.int .i64 a0_1) := (zg BK101.out 1).trans rfl; have hcz11_2 : w10.cell? ⟨gb101, 2, none⟩ = some (.slice A0_2 l0_2.length c0_2) := (zg BK101.out 2).trans rfl; have hfz11_0 := zj BK101.out 0; have hfz11_1 := zj BK101.out 1; have hfz11_2 := zj BK101.out 2) | (go_at_call 86; (with_reducible refine (spec_l1Rising.calls k _ _ l1 0 (wrap64 (a0_0 - 1)) true _ ?side1 ?side2 A5.out).mono ?_); (case side1 => repeat (first | exact (zE HR1.out HB.out) | (with_reducible refine zw ?_ _) | (with_reducible refine zx ?_ _) | (with_reducible refine zy ?_))); (case side2 => exact HC1.out); rintro e w' ⟨rfl, ⟨nd, rfl⟩⟩) | ((with_reducible refine zu (f := 78) rfl ?_); refine goesL_ (some 19) rfl rfl Try.func78 (by kernel_rfl) rfl #[.agg #[.int .i64 a0_0, .int .i64 a0_1, .slice A0_2 l0_2.length c0_2], .slice A1 l1.length c1, .bool false] rfl (by (try simp only [List.map_toArray, List.map_cons, List.map_nil]); first | done | rfl | (simp only [List.length_drop, List.length_take]; rfl)) ?_; (with_reducible refine (spec_lcColumns.calls k a0_0 a0_1 _ _ l0_2 _ _ l1 false t104 _ ?side1 ?side2 ?side3 ?side4 A7.out).mono ?_); (case side1 => repeat (first | exact (zE HR0_2.out (by repeat (first | (with_reducible first | exact HB.out | apply zc | apply ze | apply zb | refine zd ?_ GE101.out) | exact HB.out))) | (with_reducible refine zw ?_ _) | (with_reducible refine zx ?_ _) | (with_reducible refine zy ?_))); (case side2 => exact HC0_2.out); (case side3 => repeat (first | exact (zE HR1.out (by repeat (first | (with_reducible first | exact HB.out | apply zc | apply ze | apply zb | refine zd ?_ GE101.out) | exact HB.out))) | (with_reducible refine zw ?_ _) | (with_reducible refine zx ?_ _) | (with_reducible refine zy ?_))); (case side4 => exact HC1.out); rintro e w12 ⟨v105, rfl, ho0, hb⟩; refine ⟨_, rfl, ?_⟩; have n0_ := za (Kd.R_lower ho0 (zn (by repeat (first | (with_reducible first | exact HB.out | apply zc | apply ze | apply zb | refine zd ?_ GE101.out) | exact HB.out)))); have n1_ := za (zB (g := gb101) (o := .cells #[.int .i64 a0_0, .int .i64 a0_1, .slice A0_2 l0_2.length c0_2] 26 (0, 0)) (by (with_reducible repeat (first | refine zh ?_ _ | refine zf ?_ | refine zi ?_ _)); exact BK101.out) hb); have n2_ := za (zv (by repeat (first | (with_reducible first | exact HB.out | apply zc | apply ze | apply zb | refine zd ?_ GE101.out) | exact HB.out)) hb); clear BK101 HB; have HO106 := n0_; have BK101 := n1_; have HB := n2_; clear n0_ n1_ n2_; (try clear hb); (try clear hb2); (try clear hk); (try clear hi); (try clear ho0)))
   go_ret2
   exact ⟨_, by first | rfl | (simp [errW_none, errW_some] <;> rfl) | (simp [*, errW_none, errW_some] <;> rfl), by (with_reducible repeat (first | apply zl | apply zm | apply zk)); exact HO106.out, by repeat (first | (with_reducible first | exact HB.out | apply zc | apply ze | apply zb | refine zd ?_ GE101.out) | exact HB.out)⟩
  ·
   replace c6 := Bool.eq_false_iff.mpr c6
   subst c6
   have H1 : (some (([] : List Int), false)) = some (r1, r2) := by rw [if_neg (show ¬ (false = true) by decide)] at H; exact H
   clear H
   have H := H1
   clear H1
   simp only [Option.some.injEq, Prod.mk.injEq] at H
   obtain ⟨rfl, rfl⟩ := H
   go_enter Try.func27, Try.ntmps27
   go_wp2_with (first | ((with_reducible refine gate_dst (N := 2) rfl ?_); refine box_event ?hg (N := 2) ?hd (cs := #[.int .i64 a0_0, .int .i64 a0_1, .slice A0_2 l0_2.length c0_2]) (t := 26) ?hr ?_; (case hd => rfl); (case hg => rfl); (case hr => first | (go_simp; done) | (go_simp; rfl)); intro gb101 hg w13 hbox hb; have n0_ := za (zv (by repeat (first | (with_reducible first | exact HB.out | apply zc | apply ze | apply zb) | exact HB.out)) hb); have n1_ := za (hbox); have n2_ := za ((by rw [hg]; exact (zn (by repeat (first | (with_reducible first | exact HB.out | apply zc | apply ze | apply zb) | exact HB.out))) : w.heap.size ≤ gb101)); have n3_ := za ((by rw [hg]; exact (zn (by repeat (first | (with_reducible first | exact HB.out | apply zc | apply ze | apply zb) | exact HB.out))) : w.heap.size ≤ gb101)); clear HB; have HB := n0_; have BK101 := n1_; have GW101 := n2_; have GE101 := n3_; clear n0_ n1_ n2_ n3_; clear hb hbox hg; have hcz14_0 : w13.cell? ⟨gb101, 0, none⟩ = some (.int .i64 a0_0) := (zg BK101.out 0).trans rfl; have hcz14_1 : w13.cell? ⟨gb101, 1, none⟩ = some (.int .i64 a0_1) := (zg BK101.out 1).trans rfl; have hcz14_2 : w13.cell? ⟨gb101, 2, none⟩ = some (.slice A0_2 l0_2.length c0_2) := (zg BK101.out 2).trans rfl; have hfz14_0 := zj BK101.out 0; have hfz14_1 := zj BK101.out 1; have hfz14_2 := zj BK101.out 2) | ((with_reducible refine zu (f := 76) rfl ?_); refine goesL_ (some 7) rfl rfl Try.func76 (by kernel_rfl) rfl #[.agg #[.int .i64 a0_0, .int .i64 a0_1, .slice A0_2 l0_2.length c0_2]] rfl (by (try simp only [List.map_toArray, List.map_cons, List.map_nil]); first | done | rfl | (simp only [List.length_drop, List.length_take]; rfl)) ?_; (with_reducible refine (spec_boGood.calls k a0_0 a0_1 _ _ l0_2 true _ ?side1 ?side2 A3.out).mono ?_); (case side1 => repeat (first | exact (zE HR0_2.out HB.out) | (with_reducible refine zw ?_ _) | (with_reducible refine zx ?_ _) | (with_reducible refine zy ?_))); (case side2 => exact HC0_2.out); rintro e w15 ⟨rfl, hb⟩; refine ⟨_, rfl, ?_⟩; have n0_ := za (zB (g := gb101) (o := .cells #[.int .i64 a0_0, .int .i64 a0_1, .slice A0_2 l0_2.length c0_2] 26 (0, 0)) (by (with_reducible repeat (first | refine zh ?_ _ | refine zf ?_ | refine zi ?_ _)); exact BK101.out) hb); have n1_ := za (zv (by repeat (first | (with_reducible first | exact HB.out | apply zc | apply ze | apply zb | refine zd ?_ GE101.out) | exact HB.out)) hb); clear BK101 HB; have BK101 := n0_; have HB := n1_; clear n0_ n1_; (try clear hb); (try clear hb2); (try clear hk); (try clear hi); have hcz16_0 : w15.cell? ⟨gb101, 0, none⟩ = some (.int .i64 a0_0) := (zg BK101.out 0).trans rfl; have hcz16_1 : w15.cell? ⟨gb101, 1, none⟩ = some (.int .i64 a0_1) := (zg BK101.out 1).trans rfl; have hcz16_2 : w15.cell? ⟨gb101, 2, none⟩ = some (.slice A0_2 l0_2.length c0_2) := (zg BK101.out 2).trans rfl; have hfz16_0 := zj BK101.out 0; have hfz16_1 := zj BK101.out 1; have hfz16_2 := zj BK101.out 2) | (go_at_call 86; (with_reducible refine (spec_l1Rising.calls k _ _ l1 0 (wrap64 (a0_0 - 1)) false _ ?side1 ?side2 A5.out).mono ?_); (case side1 => repeat (first | exact (zE HR1.out HB.out) | (with_reducible refine zw ?_ _) | (with_reducible refine zx ?_ _) | (with_reducible refine zy ?_))); (case side2 => exact HC1.out); rintro e w' ⟨rfl, ⟨nd, rfl⟩⟩))
   go_ret2
   exact ⟨_, by first | rfl | (simp [errW_none, errW_some] <;> rfl) | (simp [*, errW_none, errW_some] <;> rfl), by first | exact Kd.R_nil _ _ _ _ _ | exact Kd.N_nil _ _ _ _ _ | exact Kd.V_nil _ _ _ _ _ | exact Kd.Q_nil _ _ _ _ _ | exact Kd.S_nil _ _ _ _ _, by repeat (first | (with_reducible first | exact HB.out | apply zc | apply ze | apply zb | refine zd ?_ GE101.out) | exact HB.out)⟩
 ·
  replace c4 := Bool.eq_false_iff.mpr c4
  subst c4
  have H1 : (some (([] : List Int), false)) = some (r1, r2) := by rw [if_neg (show ¬ (false = true) by decide)] at H; exact H
  clear H
  have H := H1
  clear H1
  simp only [Option.some.injEq, Prod.mk.injEq] at H
  obtain ⟨rfl, rfl⟩ := H
  go_enter Try.func27, Try.ntmps27
  go_wp2_with (first | ((with_reducible refine gate_dst (N := 2) rfl ?_); refine box_event ?hg (N := 2) ?hd (cs := #[.int .i64 a0_0, .int .i64 a0_1, .slice A0_2 l0_2.length c0_2]) (t := 26) ?hr ?_; (case hd => rfl); (case hg => rfl); (case hr => first | (go_simp; done) | (go_simp; rfl)); intro gb101 hg w17 hbox hb; have n0_ := za (zv (by repeat (first | (with_reducible first | exact HB.out | apply zc | apply ze | apply zb) | exact HB.out)) hb); have n1_ := za (hbox); have n2_ := za ((by rw [hg]; exact (zn (by repeat (first | (with_reducible first | exact HB.out | apply zc | apply ze | apply zb) | exact HB.out))) : w.heap.size ≤ gb101)); have n3_ := za ((by rw [hg]; exact (zn (by repeat (first | (with_reducible first | exact HB.out | apply zc | apply ze | apply zb) | exact HB.out))) : w.heap.size ≤ gb101)); clear HB; have HB := n0_; have BK101 := n1_; have GW101 := n2_; have GE101 := n3_; clear n0_ n1_ n2_ n3_; clear hb hbox hg; have hcz18_0 : w17.cell? ⟨gb101, 0, none⟩ = some (.int .i64 a0_0) := (zg BK101.out 0).trans rfl; have hcz18_1 : w17.cell? ⟨gb101, 1, none⟩ = some (.int .i64 a0_1) := (zg BK101.out 1).trans rfl; have hcz18_2 : w17.cell? ⟨gb101, 2, none⟩ = some (.slice A0_2 l0_2.length c0_2) := (zg BK101.out 2).trans rfl; have hfz18_0 := zj BK101.out 0; have hfz18_1 := zj BK101.out 1; have hfz18_2 := zj BK101.out 2) | ((with_reducible refine zu (f := 76) rfl ?_); refine goesL_ (some 7) rfl rfl Try.func76 (by kernel_rfl) rfl #[.agg #[.int .i64 a0_0, .int .i64 a0_1, .slice A0_2 l0_2.length c0_2]] rfl (by (try simp only [List.map_toArray, List.map_cons, List.map_nil]); first | done | rfl | (simp only [List.length_drop, List.length_take]; rfl)) ?_; (with_reducible refine (spec_boGood.calls k a0_0 a0_1 _ _ l0_2 false _ ?side1 ?side2 A3.out).mono ?_); (case side1 => repeat (first | exact (zE HR0_2.out HB.out) | (with_reducible refine zw ?_ _) | (with_reducible refine zx ?_ _) | (with_reducible refine zy ?_))); (case side2 => exact HC0_2.out); rintro e w19 ⟨rfl, hb⟩; refine ⟨_, rfl, ?_⟩; have n0_ := za (zB (g := gb101) (o := .cells #[.int .i64 a0_0, .int .i64 a0_1, .slice A0_2 l0_2.length c0_2] 26 (0, 0)) (by (with_reducible repeat (first | refine zh ?_ _ | refine zf ?_ | refine zi ?_ _)); exact BK101.out) hb); have n1_ := za (zv (by repeat (first | (with_reducible first | exact HB.out | apply zc | apply ze | apply zb | refine zd ?_ GE101.out) | exact HB.out)) hb); clear BK101 HB; have BK101 := n0_; have HB := n1_; clear n0_ n1_; (try clear hb); (try clear hb2); (try clear hk); (try clear hi)))
  go_ret2
  exact ⟨_, by first | rfl | (simp [errW_none, errW_some] <;> rfl) | (simp [*, errW_none, errW_some] <;> rfl), by first | exact Kd.R_nil _ _ _ _ _ | exact Kd.N_nil _ _ _ _ _ | exact Kd.V_nil _ _ _ _ _ | exact Kd.Q_nil _ _ _ _ _ | exact Kd.S_nil _ _ _ _ _, by repeat (first | (with_reducible first | exact HB.out | apply zc | apply ze | apply zb | refine zd ?_ GE101.out) | exact HB.out)⟩
end Go.Proofs.Ytgnmcfoenmfhcaa.Q
end
section
namespace Go.Proofs.Ytgnmcfoenmfhcaa.Q
open Go.RowKit Go.Proofs.YtgnmcfoenmfhcaaW.PrintWords Go.Proofs.YtgnmcfoenmfhcaaW.PrintLast Go.Proofs.YtgnmcfoenmfhcaaW.PrintMore
attribute [local go_sem] max2_int min2_int max_two min_two max_three min_three max_four min_four   -- for this text's walks alone
set_option linter.unusedVariables false
set_option linter.unusedSimpArgs false
def laws_markBoard.f (k : Nat) (a0_0 : Int) (a0_1 : Int) (l0_2 : List Int) (a1 : Int) : Option (Int × List Int) := (laws_markIntS.f k l0_2 a1).bind fun bt102 => (some (bt102.1, bt102.2))
end Go.Proofs.Ytgnmcfoenmfhcaa.Q
end
section
namespace Go.Proofs.Ytgnmcfoenmfhcaa.Q
open Go.RowKit Go.Proofs.YtgnmcfoenmfhcaaW.PrintWords Go.Proofs.YtgnmcfoenmfhcaaW.PrintLast Go.Proofs.YtgnmcfoenmfhcaaW.PrintMore
attribute [local go_sem] max2_int min2_int max_two min_two max_three min_three max_four min_four   -- for this text's walks alone
set_option linter.unusedVariables false
set_option linter.unusedSimpArgs false
mutual
def laws_FnExactColumnsOf.j0 : Nat → List Int → List Int → Bool → List Int → List Int → Bool → Bool → Int → Int → List Int → Int → Int → List Int → Option (Bool)
 | 0, _, _, _, _, _, _, _, _, _, _, _, _, _ => none
 | k + 1, x1, x6, x7, x9, x10, x11, x51, x102000, x102001, x102002, x121000, x121001, x121002 => if x51 = true then (some false) else ((laws_toBoard.f k x102000 x102001 x102002).bind fun bt129 => ((laws_eqBoard.f k x121000 x121001 x121002 bt129.1 bt129.2.1 bt129.2.2).bind fun t134 => (if t134 = true then ((laws_toIntS.f k x1).bind fun t135 => ((laws_eqIntS.f k x9 t135).bind fun t138 => (if t138 = true then ((laws_markBoard.f k x121000 x121001 x121002 1).bind fun bt139 => ((laws_markIntS.f k x9 bt139.1).bind fun bt141 => (if bt141.1 < 0 then (laws_FnExactColumnsOf.j1 k x1 x6 x7 x10 true x102000 x102001 x102002) else ((laws_eqIntS.f k x10 x6).bind fun t143 => (if t143 = true then (laws_FnExactColumnsOf.j1 k x1 x6 x7 x10 (x11 != x7) x102000 x102001 x102002) else (laws_FnExactColumnsOf.j1 k x1 x6 x7 x10 true x102000 x102001 x102002)))))) else (some false)))) else (some false))))
def laws_FnExactColumnsOf.j1 : Nat → List Int → List Int → Bool → List Int → Bool → Int → Int → List Int → Option (Bool)
 | 0, _, _, _, _, _, _, _, _ => none
 | k + 1, x1, x6, x7, x10, x80, x102000, x102001, x102002 => if x80 = true then (some false) else ((laws_markIntS.f k x10 1).bind fun bt144 => ((laws_heldIntS.f k bt144.2 1).bind fun t146 => (if t146 < 0 then (some false) else (if t146 = bt144.1 then ((laws_toBoard.f k x102000 x102001 x102002).bind fun bt147 => ((laws_toIntS.f k x1).bind fun t152 => ((impl_ColumnsOf.f k bt147.1 bt147.2.1 bt147.2.2 t152).bind fun bt155 => ((laws_eqIntS.f k bt155.1 x6).bind fun t159 => (if t159 = true then (laws_FnExactColumnsOf.j2 k bt144.2 bt144.1 (bt155.2 != x7)) else (laws_FnExactColumnsOf.j2 k bt144.2 bt144.1 true)))))) else (some false)))))
def laws_FnExactColumnsOf.j2 : Nat → List Int → Int → Bool → Option (Bool)
 | 0, _, _, _ => none
 | k + 1, x10, x13, x108 => if x108 = true then (some false) else ((laws_heldIntS.f k x10 1).bind fun t160 => (if t160 < 0 then (some false) else (if t160 = x13 then (some true) else (some false))))
end
def laws_FnExactColumnsOf.f (k : Nat) (a0_0 : Int) (a0_1 : Int) (l0_2 : List Int) (l1 : List Int) : Option (Bool) := if (l1.length : Int) > 1048576 then (some true) else ((laws_szBoard.f a0_0 a0_1 l0_2 1048576).bind fun t102 => (if t102 < 0 then (some true) else ((laws_toBoard.f k a0_0 a0_1 l0_2).bind fun bt103 => ((laws_toIntS.f k l1).bind fun t108 => ((spec_ColumnsOf.f k bt103.1 bt103.2.1 bt103.2.2 t108).bind fun bt111 => ((laws_toBoard.f k a0_0 a0_1 l0_2).bind fun bt115 => ((laws_toIntS.f k l1).bind fun t121 => ((impl_ColumnsOf.f k bt115.1 bt115.2.1 bt115.2.2 t121).bind fun bt124 => ((laws_eqIntS.f k bt124.1 bt111.1).bind fun t128 => (if t128 = true then (laws_FnExactColumnsOf.j0 k l1 bt111.1 bt111.2 t121 bt124.1 bt124.2 (bt124.2 != bt111.2) a0_0 a0_1 l0_2 bt115.1 bt115.2.1 bt115.2.2) else (laws_FnExactColumnsOf.j0 k l1 bt111.1 bt111.2 t121 bt124.1 bt124.2 true a0_0 a0_1 l0_2 bt115.1 bt115.2.1 bt115.2.2)))))))))))
def laws_FnExactColumnsOf.Pure : Prop := ∀ (a0_0 : Int) (a0_1 : Int) (l0_2 : List Int) (l1 : List Int), (Lit.int .i64 a0_0).wf = true → (Lit.int .i64 a0_1).wf = true → l0_2.length ≤ maxLen → l0_2.length * 8 ≤ 140737488351232 → (∀ x ∈ l0_2, (Lit.int .i64 x).wf = true) → l1.length ≤ maxLen → l1.length * 8 ≤ 140737488351232 → (∀ x ∈ l1, (Lit.int .i64 x).wf = true) → ∃ k, laws_FnExactColumnsOf.f k a0_0 a0_1 l0_2 l1 = some true
end Go.Proofs.Ytgnmcfoenmfhcaa.Q
end
section
namespace Go.Proofs.Ytgnmcfoenmfhcaa.Pure
set_option linter.unusedVariables false
open Go.RowKit Go.Proofs.Ytgnmcfoenmfhcaa.Q Go.Proofs.YtgnmcfoenmfhcaaW.PrintWords Go.Proofs.YtgnmcfoenmfhcaaW.PrintLast Go.Proofs.YtgnmcfoenmfhcaaW.PrintMore
open Go.Proofs.YtgnmcfoenmfhcaaL Go.Proofs.Ytgnmcfoenmfhcaa.LawK Go.Proofs.Ytgnmcfoenmfhcaa.BoardK Go.Proofs.Ytgnmcfoenmfhcaa.LinesK
namespace ColumnsOfK
def ans (r c : Int) (l rows : List Int) : List Int × Bool := if (isBoardB r c l && risesB r 0 rows) = true then (colsS l rows false r.toNat c.toNat, true) else ([], false)
theorem impl_answer {r c : Int} {l rows : List Int} (hr : rows.length ≤ 1048576) : Ev (fun k => impl_ColumnsOf.f k r c l rows) (ans r c l rows) := by
  unfold impl_ColumnsOf.f ans
  refine Ev.congr (fun k => by rw [impl_IsBoard.f, Option.bind_some]) ?_
  by_cases hb : isBoardB r c l = true
  · obtain ⟨R, C, rfl, rfl, hlR, h1R, hR, h1C, hC, hbits⟩ := board_of hb
    refine Ev.congr (fun k => by rw [if_pos hb]) ?_
    refine Ev.bind (areSome (by omega) (by omega) (by omega)) ?_
    rw [hb, Bool.true_and]
    by_cases hs : risesB (R : Int) 0 rows = true
    · obtain ⟨m, hm, rfl, hmb⟩ := rises_mask (by omega) rows 0 (by omega) hs
      rw [if_pos hs, Int.toNat_natCast, Int.toNat_natCast, hs]
      refine Ev.step (fun k => by rw [impl_ColumnsOf.j0, if_neg (by simp)]) ?_
      refine Ev.bind (maskOf hm) (Ev.bind (columns (R : Int) (C : Int) hC hbits hm (fun i hi => by have := hmb i hi; omega)) (Ev.bind (a := listM (orM l (listM m))) ?_ ?_))
      · refine listOf ?_
        have h2 : orM l (listM m) < 2 ^ C := orFrom_lt hbits _ 0 (Nat.two_pow_pos C)
        have hp : 2 ^ C ≤ 2 ^ 6 := Nat.pow_le_pow_right (by decide) hC
        omega
      · rw [colsS_mask hlR hR hC hbits (fun i hi => by have := hmb i hi; omega)]
        exact Ev.now _
    · rw [if_neg hs]
      have hs2 : risesB (R : Int) 0 rows = false := by simpa using hs
      exact Ev.step (f := fun _ => some ([], false)) (fun k => by rw [impl_ColumnsOf.j0, hs2, if_pos (by rfl)]) (Ev.now _)
  · have hb2 : isBoardB r c l = false := by simpa using hb
    rw [hb2, Bool.false_and, if_neg (by simp)]
    refine Ev.congr (fun k => by rw [if_neg (by simp)]) ?_
    exact Ev.step (f := fun _ => some ([], false)) (fun k => by rw [impl_ColumnsOf.j0, if_pos rfl]) (Ev.now _)
theorem spec_answer {r c : Int} {l rows : List Int} (hl : l.length ≤ 1048576) (hr : rows.length ≤ 1048576) : Ev (fun k => spec_ColumnsOf.f k r c l rows) (ans r c l rows) := by
  unfold spec_ColumnsOf.f ans
  refine Ev.bind (boGood r c (by omega)) ?_
  by_cases hb : isBoardB r c l = true
  · obtain ⟨R, C, rfl, rfl, hlR, h1R, hR, h1C, hC, hbits⟩ := board_of hb
    refine Ev.congr (fun k => by rw [if_pos hb]) ?_
    refine Ev.bind (l1Rising (by omega) (by omega) (by omega)) ?_
    rw [hb, Bool.true_and]
    by_cases hs : risesB (R : Int) 0 rows = true
    · rw [if_pos hs, Int.toNat_natCast, Int.toNat_natCast]
      refine Ev.congr (fun k => by rw [if_pos hs]) ?_
      exact Ev.bind (lcColumns R C hlR hR hC (fun i hi => by have := hbits i hi; have := two_pow_six hC; omega) false (by omega)) (Ev.now _)
    · rw [if_neg hs]
      exact Ev.congr (fun k => by rw [if_neg hs]) (Ev.now _)
  · have hb2 : isBoardB r c l = false := by simpa using hb
    rw [hb2, Bool.false_and, if_neg (by simp)]
    exact Ev.congr (fun k => by rw [if_neg (by simp)]) (Ev.now _)
theorem ans_len (r c : Int) (l rows : List Int) : (ans r c l rows).1.length ≤ 1048576 := by
  unfold ans
  by_cases h : (isBoardB r c l && risesB r 0 rows) = true
  · rw [if_pos h]
    rw [Bool.and_eq_true] at h
    obtain ⟨R, C, rfl, rfl, hlR, h1R, hR, h1C, hC, hbits⟩ := board_of h.1
    have := List.length_filter_le (fun x => reachFrom l rows false x.toNat 0 R) (iota 0 C)
    rw [iota_length] at this
    show (colsS l rows false (R : Int).toNat (C : Int).toNat).length ≤ _
    rw [Int.toNat_natCast, Int.toNat_natCast]
    unfold colsS
    omega
  · rw [if_neg h]; simp
end ColumnsOfK
open ColumnsOfK
theorem FnExactColumnsOf : laws_FnExactColumnsOf.Pure := by
  intro r c l p _ _ _ hl8 _ hm2 _ _
  unfold laws_FnExactColumnsOf.f
  refine ends ?_
  by_cases hp : p.length ≤ 1048576
  · refine Ev.congr (fun k => by rw [if_neg (by omega), szBoard_f r c l hl8, Option.bind_some]) ?_
    by_cases hlb : l.length ≤ 1048576
    · have hn := ans_len r c l p
      refine Ev.congr (fun k => by rw [if_pos hlb, if_neg (by omega)]) ?_
      refine Ev.bind (toBoard r c hlb) (Ev.bind (toIntS hp) (Ev.bind (spec_answer hlb hp) (Ev.bind (toBoard r c hlb) (Ev.bind (toIntS hp) (Ev.bind (impl_answer hp) ?_)))))
      refine Ev.bind (eqIntS (by simp only []; omega)) ?_
      refine Ev.congr (fun k => by rw [if_pos (by simp)]) ?_
      refine Ev.step (fun k => by rw [laws_FnExactColumnsOf.j0, if_neg (by simp)]) ?_
      refine Ev.bind (toBoard r c hlb) (Ev.bind (eqBoard r c (by simp; omega)) ?_)
      refine Ev.congr (fun k => by rw [if_pos rfl]) ?_
      refine Ev.bind (toIntS hp) (Ev.bind (eqIntS (by omega)) ?_)
      refine Ev.congr (fun k => by rw [if_pos (by simp)]) ?_
      refine Ev.bind (a := (1 + (l.length : Int), iota 1 l.length)) (show Ev (fun k => laws_markBoard.f k r c l 1) (1 + (l.length : Int), iota 1 l.length) by unfold laws_markBoard.f; exact Ev.bind (markIntS l (by omega) (by omega)) (Ev.now _)) ?_
      refine Ev.bind (markIntS p (by simp only []; omega) (by simp only []; omega)) ?_
      refine Ev.congr (fun k => by rw [if_neg (by simp; omega)]) ?_
      refine Ev.bind (eqIntS (by simp only []; omega)) ?_
      refine Ev.congr (fun k => by rw [if_pos (by simp)]) ?_
      refine Ev.step (fun k => by rw [laws_FnExactColumnsOf.j1, if_neg (by simp)]) ?_
      refine Ev.bind (markIntS _ (by omega) (by simp only []; omega)) ?_
      refine Ev.bind (heldIntS _ (by omega) (by simp only []; omega)) ?_
      refine Ev.congr (fun k => by rw [if_neg (by omega), if_pos rfl]) ?_
      refine Ev.bind (toBoard r c hlb) (Ev.bind (toIntS hp) (Ev.bind (impl_answer hp) ?_))
      refine Ev.bind (eqIntS (by simp only []; omega)) ?_
      refine Ev.congr (fun k => by rw [if_pos (by simp)]) ?_
      refine Ev.step (fun k => by rw [laws_FnExactColumnsOf.j2, if_neg (by simp)]) ?_
      refine Ev.bind (heldIntS _ (by omega) (by simp only []; omega)) ?_
      exact Ev.congr (fun k => by rw [if_neg (by omega), if_pos rfl]) (Ev.now _)
    · exact Ev.congr (fun k => by rw [if_neg hlb, if_pos (by omega)]) (Ev.now _)
  · exact Ev.congr (fun k => by rw [if_pos (by omega)]) (Ev.now _)
end Go.Proofs.Ytgnmcfoenmfhcaa.Pure
end
section
namespace Go.Proofs.Ytgnmcfoenmfhcaa.DrawK
set_option linter.unusedVariables false
open Go.RowKit Go.Proofs.Ytgnmcfoenmfhcaa.Q Go.Proofs.YtgnmcfoenmfhcaaW.PrintWords Go.Proofs.YtgnmcfoenmfhcaaW.PrintLast Go.Proofs.YtgnmcfoenmfhcaaW.PrintMore
open Go.Proofs.YtgnmcfoenmfhcaaL Go.Proofs.Ytgnmcfoenmfhcaa.LawK Go.Proofs.Ytgnmcfoenmfhcaa.BoardK
def Run {α : Type} (g : Nat → Option α) (P : α → Prop) : Prop := ∃ a, Ev g a ∧ P a
theorem Run.now {α : Type} {a : α} {P : α → Prop} (h : P a) : Run (fun _ => some a) P := ⟨a, Ev.now a, h⟩
theorem Run.of {α : Type} {g : Nat → Option α} {a : α} {P : α → Prop} (h : Ev g a) (hp : P a) : Run g P := ⟨a, h, hp⟩
theorem Run.bind {α β : Type} {g : Nat → Option α} {h : Nat → α → Option β} {P : α → Prop} {Q : β → Prop} (h1 : Run g P) (h2 : ∀ a, P a → Run (fun k => h k a) Q) : Run (fun k => (g k).bind (h k)) Q := by
  obtain ⟨a, ha, hp⟩ := h1
  obtain ⟨b, hb, hq⟩ := h2 a hp
  exact ⟨b, Ev.bind ha hb, hq⟩
theorem Run.congr {α : Type} {g g' : Nat → Option α} {P : α → Prop} (e : ∀ k, g k = g' k) (h : Run g' P) : Run g P := by
  obtain ⟨a, ha, hp⟩ := h
  exact ⟨a, Ev.congr e ha, hp⟩
theorem Run.step {α : Type} {g f : Nat → Option α} {P : α → Prop} (e : ∀ k, g (k + 1) = f k) (h : Run f P) : Run g P := by
  obtain ⟨a, ha, hp⟩ := h
  exact ⟨a, Ev.step e ha, hp⟩
theorem Run.mono {α : Type} {g : Nat → Option α} {P Q : α → Prop} (h : Run g P) (hpq : ∀ a, P a → Q a) : Run g Q := by
  obtain ⟨a, ha, hp⟩ := h
  exact ⟨a, ha, hpq a hp⟩
theorem Run.ite {α : Type} {c : Prop} [Decidable c] {g g' : Nat → Option α} {P : α → Prop} (h1 : c → Run g P) (h2 : ¬ c → Run g' P) : Run (fun k => if c then g k else g' k) P := by
  by_cases h : c
  · exact Run.congr (fun k => if_pos h) (h1 h)
  · exact Run.congr (fun k => if_neg h) (h2 h)
def Bytes (l : List Int) : Prop := l.length ≤ 1048576 ∧ ∀ x ∈ l, 0 ≤ x ∧ x ≤ 255
def At (M : Nat) (a : Int) : Prop := 0 ≤ a ∧ a ≤ M ∧ M ≤ 1000000
theorem At.le {M N : Nat} {a : Int} (h : At M a) (hm : M ≤ N) (hn : N ≤ 1000000) : At N a := ⟨h.1, Int.le_trans h.2.1 (by omega), hn⟩
theorem wraps_u64 (n : Int) (h₀ : 0 ≤ n) (h₁ : n < 2 ^ 64) : IntKind.u64.wrap n = n := by rw [IntKind.wrap_u64]; omega
theorem wrap_u64_range (n : Int) : 0 ≤ IntKind.u64.wrap n ∧ IntKind.u64.wrap n < 2 ^ 64 := by rw [IntKind.wrap_u64]; omega
theorem and_255 {x : Int} (h0 : 0 ≤ x) (h1 : x < 2 ^ 64) : 0 ≤ Go.bits .and .u64 x 255 ∧ Go.bits .and .u64 x 255 ≤ 255 := by
  obtain ⟨a, rfl⟩ : ∃ a : Nat, x = a := ⟨x.toNat, by omega⟩
  have h := (bits_nat .u64 64 (by decide) wraps_u64 a 255 (by omega) (by decide)).1
  have h2 : Go.bits .and .u64 (a : Int) 255 = ((a &&& 255 : Nat) : Int) := h
  rw [h2]
  have : a &&& 255 ≤ 255 := Nat.and_le_right
  omega
theorem next_run {code : List Int} (hc : Bytes code) {M : Nat} {a s : Int} (ha : At M a) (hm : M + 1 ≤ 1000000) : ∃ v a' s', spec_l1Cur_next.f code a s = some (v, a', s') ∧ (0 ≤ v ∧ v ≤ 255) ∧ At (M + 1) a' := by
  obtain ⟨h0, h1, h2⟩ := ha
  have w1 := Aside0.mk (show wrap64 (a + 1) = a + 1 from w64 (by omega) (by omega))
  have hA : At (M + 1) (a + 1) := ⟨by omega, by omega, by omega⟩
  have hu : ∀ n : Int, (0 ≤ wrap64 (Go.bits .and .u64 (IntKind.u64.wrap n / 1099511627776) 255) ∧ wrap64 (Go.bits .and .u64 (IntKind.u64.wrap n / 1099511627776) 255) ≤ 255) := by
    intro n
    have h3 := wrap_u64_range n
    generalize IntKind.u64.wrap n = y at h3
    have h4 := and_255 (x := y / 1099511627776) (by omega) (by omega)
    generalize Go.bits .and .u64 (y / 1099511627776) 255 = z at h4
    rw [w64 (by omega) (by omega)]
    exact h4
  unfold spec_l1Cur_next.f
  rw [w1.out]
  by_cases c1 : a < (code.length : Int)
  · have hl := hc.1
    rw [if_pos c1, if_pos h0]
    have hx : 0 ≤ rd code a ∧ rd code a ≤ 255 := by
      unfold rd
      rw [gD_lt _ _ (by omega)]
      exact hc.2 _ (List.getElem_mem _)
    have hv : 0 ≤ wrap64 (rd code a) ∧ wrap64 (rd code a) ≤ 255 := by rw [w64 (by omega) (by omega)]; exact hx
    by_cases c2 : a + 1 ≤ (code.length : Int)
    · rw [if_pos c2]; exact ⟨_, _, _, rfl, hv, hA⟩
    · rw [if_neg c2]; exact ⟨_, _, _, rfl, hu _, hA⟩
  · rw [if_neg c1]
    by_cases c2 : a + 1 ≤ (code.length : Int)
    · rw [if_pos c2]; exact ⟨_, _, _, rfl, ⟨by omega, by omega⟩, hA⟩
    · rw [if_neg c2]; exact ⟨_, _, _, rfl, hu _, hA⟩
theorem pick_run {code : List Int} (hc : Bytes code) {M : Nat} {a s : Int} (ha : At M a) (hm : M + 2 ≤ 1000000) (n : Int) : ∃ v a' s', spec_l1Cur_pick.f code a s n = some (v, a', s') ∧ (0 ≤ v ∧ (v < n ∨ v = 0)) ∧ At (M + 2) a' := by
  unfold spec_l1Cur_pick.f
  by_cases c1 : n ≤ 1
  · rw [if_pos c1]; exact ⟨_, _, _, rfl, ⟨by omega, .inr rfl⟩, ha.le (by omega) hm⟩
  · rw [if_neg c1]
    obtain ⟨v, a1, s1, e1, hv, ha1⟩ := next_run hc (s := s) ha (by omega)
    rw [e1, Option.bind_some]
    by_cases c2 : n > 200
    · rw [if_pos c2]
      obtain ⟨v2, a2, s2, e2, hv2, ha2⟩ := next_run hc (s := s1) ha1 (by omega)
      try simp only []
      rw [e2, Option.bind_some, if_neg (by omega)]
      refine ⟨_, _, _, rfl, ?_, ha2⟩
      try simp only []
      rw [w64 (n := v * 256) (by omega) (by omega), w64 (by omega) (by omega)]
      exact ⟨Int.tmod_nonneg _ (by omega), .inl (Int.tmod_lt_of_pos _ (by omega))⟩
    · rw [if_neg c2, if_neg (by omega)]
      exact ⟨_, _, _, rfl, ⟨Int.tmod_nonneg _ hv.1, .inl (Int.tmod_lt_of_pos _ (by omega))⟩, ha1.le (by omega) (by omega)⟩
theorem one_run {code : List Int} (hc : Bytes code) {M : Nat} {a s : Int} (ha : At M a) (hm : M + 2 ≤ 1000000) (n : Int) : ∃ (v : Bool) (a' s' : Int), spec_l1Cur_one.f code a s n = some (v, a', s') ∧ At (M + 2) a' := by
  obtain ⟨v, a1, s1, e1, hv, ha1⟩ := pick_run hc (s := s) ha hm n
  unfold spec_l1Cur_one.f
  rw [e1, Option.bind_some]
  exact ⟨_, _, _, rfl, ha1⟩
theorem among_run {code : List Int} (hc : Bytes code) {M : Nat} {a s : Int} (ha : At M a) (hm : M + 2 ≤ 1000000) {l : List Int} (hl : l ≠ []) : ∃ v a' s', spec_l1Cur_among.f code a s l = some (v, a', s') ∧ v ∈ l ∧ At (M + 2) a' := by
  obtain ⟨v, a1, s1, e1, hv, ha1⟩ := pick_run hc (s := s) ha hm (l.length : Int)
  have hp : 0 < l.length := List.length_pos_iff.2 hl
  unfold spec_l1Cur_among.f
  rw [e1, Option.bind_some]
  try simp only []
  rw [if_pos hv.1, if_pos (by omega)]
  refine ⟨_, _, _, rfl, ?_, ha1⟩
  unfold rd
  rw [gD_lt _ _ (by omega)]
  exact List.getElem_mem _
theorem sides_run {code : List Int} (hc : Bytes code) {M : Nat} {a s : Int} (ha : At M a) (hm : M + 4 ≤ 1000000) : ∃ v a' s', spec_l1Cur_sides.f code a s = some (v, a', s') ∧ (1 ≤ v ∧ v ≤ 6) ∧ At (M + 4) a' := by
  unfold spec_l1Cur_sides.f
  obtain ⟨b, a1, s1, e1, ha1⟩ := one_run hc (s := s) ha (by omega) 8
  rw [e1, Option.bind_some]
  cases b with
  | true => exact ⟨_, _, _, rfl, ⟨by omega, by omega⟩, ha1.le (by omega) (by omega)⟩
  | false =>
    obtain ⟨v, a2, s2, e2, hv, ha2⟩ := pick_run hc (s := s1) ha1 (by omega) 5
    try simp only []
    rw [if_neg (by simp), e2, Option.bind_some]
    refine ⟨_, _, _, rfl, ?_, ha2⟩
    rw [w64 (by omega) (by omega)]
    omega
def Drawn (n M : Nat) (x : Int × Int × List Int × Int × Int) : Prop := x.2.2.1.length ≤ n ∧ At M x.2.2.2.1
def DrawnN (n M : Nat) (x : Int × Int × List Int × Int × Int) : Prop := x.2.2.1.length = n ∧ At M x.2.2.2.1
theorem boardOf_l0 {code : List Int} (hc : Bytes code) {C : Nat} (hC : C ≤ 6) (n : Nat) (hn : n ≤ 8) (r0 c0 : Int) : ∀ (d i M : Nat) (a s : Int) (l : List Int), i + d = n → l.length = n → At M a → M + 6 * d ≤ 1000000 → Run (fun k => spec_l1Cur_boardOf.l0 k (C : Int) (n : Int) (i : Int) code a s r0 c0 l) (DrawnN n (M + 6 * d))
  | 0, i, M, a, s, l, hi, hl, ha, hm => by
    refine Run.step (f := fun _ => some (r0, c0, l, a, s)) (fun k => ?_) (Run.now ⟨hl, by simpa using ha⟩)
    rw [spec_l1Cur_boardOf.l0, if_neg (by omega)]
  | d + 1, i, M, a, s, l, hi, hl, ha, hm => by
    have w1 := Aside0.mk (show wrap64 ((i : Int) + 1) = ((i + 1 : Nat) : Int) from by rw [w64 (by omega) (by omega)]; rfl)
    obtain ⟨v, a1, s1, e1, hv, ha1⟩ := pick_run hc (s := s) ha (by omega) (shl .i64 1 (C : Int))
    obtain ⟨b, a2, s2, e2, ha2⟩ := one_run hc (s := s1) ha1 (by omega) 3
    cases b with
    | true =>
      obtain ⟨v3, a3, s3, e3, hv3, ha3⟩ := pick_run hc (s := s2) ha2 (by omega) (wrap64 ((C : Int) + 1))
      refine Run.step (fun k => ?_) ((boardOf_l0 hc hC n hn r0 c0 d (i + 1) (M + 6) a3 s3 ((l.set (i : Int).toNat v).set (i : Int).toNat (wrap64 (shl .i64 1 v3 - 1))) (by omega) (by rw [List.length_set, List.length_set]; exact hl) ha3 (by omega)).mono (fun x hx => ⟨hx.1, hx.2.le (by omega) (by omega)⟩))
      rw [spec_l1Cur_boardOf.l0, if_pos (by omega), if_pos (by omega), e1, Option.bind_some, if_pos (by omega), if_pos (by omega), Option.bind_some, e2, Option.bind_some, if_pos rfl, e3, Option.bind_some, if_pos hv3.1, w1.out]
    | false =>
      refine Run.step (fun k => ?_) ((boardOf_l0 hc hC n hn r0 c0 d (i + 1) (M + 6) a2 s2 (l.set (i : Int).toNat v) (by omega) (by rw [List.length_set]; exact hl) (ha2.le (by omega) (by omega)) (by omega)).mono (fun x hx => ⟨hx.1, hx.2.le (by omega) (by omega)⟩))
      rw [spec_l1Cur_boardOf.l0, if_pos (by omega), if_pos (by omega), e1, Option.bind_some, if_pos (by omega), if_pos (by omega), Option.bind_some, e2, Option.bind_some, if_neg (by simp), w1.out]
theorem boardOf_run {code : List Int} (hc : Bytes code) {M : Nat} {a s r c : Int} (ha : At M a) (hm : M + 36 ≤ 1000000) (hr : 1 ≤ r ∧ r ≤ 6) (hcc : 1 ≤ c ∧ c ≤ 6) : Run (fun k => spec_l1Cur_boardOf.f k code a s r c) (fun x => (1 ≤ x.2.2.1.length ∧ x.2.2.1.length ≤ 6) ∧ At (M + 36) x.2.2.2.1) := by
  obtain ⟨R, rfl⟩ : ∃ R : Nat, r = R := ⟨r.toNat, by omega⟩
  obtain ⟨C, rfl⟩ : ∃ C : Nat, c = C := ⟨c.toNat, by omega⟩
  have he : spec_boEmpty.f (R : Int) (C : Int) = some ((R : Int), (C : Int), List.replicate R 0) := by unfold spec_boEmpty.f; rw [if_pos (by omega), if_pos (by omega), Int.toNat_natCast]
  unfold spec_l1Cur_boardOf.f
  have h := boardOf_l0 hc (C := C) (by omega) R (by omega) R C R 0 M a s (List.replicate R 0) (by omega) (by simp) ha (by omega)
  refine Run.congr (fun k => ?_) (h.mono (Q := fun x => (1 ≤ x.2.2.1.length ∧ x.2.2.1.length ≤ 6) ∧ At (M + 36) x.2.2.2.1) (fun x hx => ⟨by have := hx.1; omega, hx.2.le (by omega) (by omega)⟩))
  rw [he, Option.bind_some]
  try simp only [List.length_replicate]
  try rfl
theorem pick_R {code : List Int} (hc : Bytes code) {M : Nat} {a s : Int} (ha : At M a) (hm : M + 2 ≤ 1000000) (n : Int) : Run (fun _ => spec_l1Cur_pick.f code a s n) (fun x => (0 ≤ x.1 ∧ (x.1 < n ∨ x.1 = 0)) ∧ At (M + 2) x.2.1) := by
  obtain ⟨v, a1, s1, e1, hv, ha1⟩ := pick_run hc (s := s) ha hm n
  exact ⟨_, Ev.congr (fun _ => e1) (Ev.now _), hv, ha1⟩
theorem one_R {code : List Int} (hc : Bytes code) {M : Nat} {a s : Int} (ha : At M a) (hm : M + 2 ≤ 1000000) (n : Int) : Run (fun _ => spec_l1Cur_one.f code a s n) (fun x => At (M + 2) x.2.1) := by
  obtain ⟨v, a1, s1, e1, ha1⟩ := one_run hc (s := s) ha hm n
  exact ⟨_, Ev.congr (fun _ => e1) (Ev.now _), ha1⟩
theorem among_R {code : List Int} (hc : Bytes code) {M : Nat} {a s : Int} (ha : At M a) (hm : M + 2 ≤ 1000000) {l : List Int} (hl : l ≠ []) : Run (fun _ => spec_l1Cur_among.f code a s l) (fun x => x.1 ∈ l ∧ At (M + 2) x.2.1) := by
  obtain ⟨v, a1, s1, e1, hv, ha1⟩ := among_run hc (s := s) ha hm hl
  exact ⟨_, Ev.congr (fun _ => e1) (Ev.now _), hv, ha1⟩
theorem sides_R {code : List Int} (hc : Bytes code) {M : Nat} {a s : Int} (ha : At M a) (hm : M + 4 ≤ 1000000) : Run (fun _ => spec_l1Cur_sides.f code a s) (fun x => (1 ≤ x.1 ∧ x.1 ≤ 6) ∧ At (M + 4) x.2.1) := by
  obtain ⟨v, a1, s1, e1, hv, ha1⟩ := sides_run hc (s := s) ha hm
  exact ⟨_, Ev.congr (fun _ => e1) (Ev.now _), hv, ha1⟩
theorem board_run {code : List Int} (hc : Bytes code) {M : Nat} {a s : Int} (ha : At M a) (hm : M + 50 ≤ 1000000) : Run (fun k => spec_l1Cur_board.f k code a s) (Drawn 7 (M + 50)) := by
  unfold spec_l1Cur_board.f
  refine Run.bind (sides_R hc ha (by omega)) ?_
  rintro ⟨r, a1, s1⟩ ⟨hr, ha1⟩
  refine Run.bind (sides_R hc ha1 (by omega)) ?_
  rintro ⟨c, a2, s2⟩ ⟨hcc, ha2⟩
  refine Run.bind (boardOf_run hc ha2 (by omega) hr hcc) ?_
  rintro ⟨r1, c1, l, a3, s3⟩ ⟨hl, ha3⟩
  simp only [] at hl
  refine Run.bind (pick_R hc ha3 (by omega) 18) ?_
  rintro ⟨v, a4, s4⟩ ⟨hv, ha4⟩
  refine Run.ite (fun _ => ?_) (fun _ => Run.ite (fun _ => ?_) (fun _ => Run.ite (fun _ => ?_) (fun _ => Run.ite (fun _ => ?_) (fun _ => ?_))))
  · refine Run.bind (among_R hc ha4 (by omega) (by simp)) ?_
    rintro ⟨x, a5, s5⟩ ⟨hx, ha5⟩
    exact Run.now ⟨by simp only []; omega, ha5.le (by omega) (by omega)⟩
  · refine Run.bind (among_R hc ha4 (by omega) (by simp)) ?_
    rintro ⟨x, a5, s5⟩ ⟨hx, ha5⟩
    exact Run.now ⟨by simp only []; omega, ha5.le (by omega) (by omega)⟩
  · refine Run.bind (pick_R hc ha4 (by omega) (l.length : Int)) ?_
    rintro ⟨v5, a5, s5⟩ ⟨hv5, ha5⟩
    refine Run.bind (among_R hc ha5 (by omega) (by simp)) ?_
    rintro ⟨x, a6, s6⟩ ⟨hx, ha6⟩
    simp only [] at hv5
    have hlt : v5 < (l.length : Int) := by omega
    refine Run.congr (fun k => (if_pos hv5.1).trans (if_pos hlt)) (Run.now ⟨by simp only [List.length_set]; omega, ha6.le (by omega) (by omega)⟩)
  · exact Run.congr (fun k => if_pos (by simp only []; omega)) (Run.now ⟨by simp only [List.length_append, List.length_singleton]; omega, ha4.le (by omega) (by omega)⟩)
  · exact Run.now ⟨by simp only []; omega, ha4.le (by omega) (by omega)⟩
end Go.Proofs.Ytgnmcfoenmfhcaa.DrawK
end
section
namespace Go.Proofs.Ytgnmcfoenmfhcaa.DrawK
set_option linter.unusedVariables false
open Go.RowKit Go.Proofs.Ytgnmcfoenmfhcaa.Q Go.Proofs.YtgnmcfoenmfhcaaW.PrintWords Go.Proofs.YtgnmcfoenmfhcaaW.PrintLast Go.Proofs.YtgnmcfoenmfhcaaW.PrintMore
open Go.Proofs.YtgnmcfoenmfhcaaL Go.Proofs.Ytgnmcfoenmfhcaa.LawK Go.Proofs.Ytgnmcfoenmfhcaa.BoardK
theorem sparse_l1 {code : List Int} (hc : Bytes code) {C : Nat} (r0 : Int) (n i d : Nat) (hi : i < n) (hn : n ≤ 8) (next : ∀ (M : Nat) (a s : Int) (l : List Int), l.length = n → At M a → M + 20 * d ≤ 1000000 → Run (fun k => spec_l1Cur_sparse.l0 k (n : Int) ((i + 1 : Nat) : Int) code a s r0 (C : Int) l) (DrawnN n (M + 20 * d))) :
    ∀ (V M : Nat) (a s : Int) (l : List Int), V ≤ 4 → l.length = n → At M a → M + 2 * V + 20 * d ≤ 1000000 → Run (fun k => spec_l1Cur_sparse.l1 k (i : Int) (V : Int) (n : Int) (i : Int) code a s r0 (C : Int) l) (DrawnN n (M + 2 * V + 20 * d))
  | 0, M, a, s, l, hV, hl, ha, hm => by
    have w1 := Aside0.mk (show wrap64 ((i : Int) + 1) = ((i + 1 : Nat) : Int) from by rw [w64 (by omega) (by omega)]; rfl)
    refine Run.step (fun k => ?_) (next M a s l hl ha (by omega))
    rw [spec_l1Cur_sparse.l1, if_neg (by omega), w1.out]
  | V + 1, M, a, s, l, hV, hl, ha, hm => by
    have w1 := Aside0.mk (show wrap64 (((V + 1 : Nat) : Int) - 1) = (V : Int) from by rw [w64 (by omega) (by omega)]; omega)
    obtain ⟨v, a1, s1, e1, hv, ha1⟩ := pick_run hc (s := s) ha (by omega) (C : Int)
    refine Run.step (fun k => ?_) ((sparse_l1 hc (C := C) r0 n i d hi hn next V (M + 2) a1 s1 (l.set (i : Int).toNat (Go.bits .or .i64 (rd l (i : Int)) (shl .i64 1 v))) (by omega) (by rw [List.length_set]; exact hl) ha1 (by omega)).mono (fun x hx => ⟨hx.1, hx.2.le (by omega) (by omega)⟩))
    rw [spec_l1Cur_sparse.l1, if_pos (by omega), if_pos (by omega), if_pos (by omega), e1, Option.bind_some, if_pos hv.1, w1.out]
theorem sparse_l0 {code : List Int} (hc : Bytes code) {C : Nat} (r0 : Int) (n : Nat) (hn : n ≤ 8) : ∀ (d i M : Nat) (a s : Int) (l : List Int), i + d = n → l.length = n → At M a → M + 20 * d ≤ 1000000 → Run (fun k => spec_l1Cur_sparse.l0 k (n : Int) (i : Int) code a s r0 (C : Int) l) (DrawnN n (M + 20 * d))
  | 0, i, M, a, s, l, hi, hl, ha, hm => by
    refine Run.step (f := fun _ => some (r0, (C : Int), l, a, s)) (fun k => ?_) (Run.now ⟨hl, by simpa using ha⟩)
    rw [spec_l1Cur_sparse.l0, if_neg (by omega)]
  | d + 1, i, M, a, s, l, hi, hl, ha, hm => by
    obtain ⟨v, a1, s1, e1, hv, ha1⟩ := pick_run hc (s := s) ha (by omega) 4
    obtain ⟨V, rfl⟩ : ∃ V : Nat, v = V := ⟨v.toNat, by omega⟩
    have hV : V ≤ 3 := by omega
    refine Run.step (fun k => ?_) ((sparse_l1 hc (C := C) r0 n i d (by omega) hn (fun M' a' s' l' hl' ha' hm' => sparse_l0 hc (C := C) r0 n hn d (i + 1) M' a' s' l' (by omega) hl' ha' hm') V (M + 2) a1 s1 l (by omega) hl ha1 (by omega)).mono (fun x hx => ⟨hx.1, hx.2.le (by omega) (by omega)⟩))
    rw [spec_l1Cur_sparse.l0, if_pos (by omega), e1, Option.bind_some]
theorem sparse_run {code : List Int} (hc : Bytes code) {M : Nat} {a s : Int} (ha : At M a) (hm : M + 200 ≤ 1000000) : Run (fun k => spec_l1Cur_sparse.f k code a s) (Drawn 7 (M + 200)) := by
  unfold spec_l1Cur_sparse.f
  refine Run.bind (one_R hc ha (by omega) 5) ?_
  rintro ⟨b, a1, s1⟩ ha1
  refine Run.ite (fun _ => ?_) (fun _ => ?_)
  · refine Run.bind (board_run hc ha1 (by omega)) ?_
    rintro ⟨r1, c1, l, a3, s3⟩ ⟨hl, ha3⟩
    exact Run.now ⟨hl, ha3.le (by omega) (by omega)⟩
  · refine Run.bind (pick_R hc ha1 (by omega) 5) ?_
    rintro ⟨v, a2, s2⟩ ⟨hv, ha2⟩
    refine Run.bind (pick_R hc ha2 (by omega) 5) ?_
    rintro ⟨v3, a3, s3⟩ ⟨hv3, ha3⟩
    simp only [] at hv hv3
    obtain ⟨R, hR⟩ : ∃ R : Nat, wrap64 (1 + v) = R := ⟨(1 + v).toNat, by rw [w64 (by omega) (by omega)]; omega⟩
    obtain ⟨C, hC⟩ : ∃ C : Nat, wrap64 (1 + v3) = C := ⟨(1 + v3).toNat, by rw [w64 (by omega) (by omega)]; omega⟩
    have hR6 : R ≤ 6 := by rw [w64 (by omega) (by omega)] at hR; omega
    have he : spec_boEmpty.f (wrap64 (1 + v)) (wrap64 (1 + v3)) = some ((R : Int), (C : Int), List.replicate R 0) := by rw [hR, hC]; unfold spec_boEmpty.f; rw [if_pos (by omega), if_pos (by omega), Int.toNat_natCast]
    refine Run.bind (P := fun x => x = ((R : Int), (C : Int), List.replicate R 0)) ⟨_, Ev.congr (fun _ => he) (Ev.now _), rfl⟩ ?_
    rintro x rfl
    have h := sparse_l0 hc (C := C) R R (by omega) R 0 _ a3 s3 (List.replicate R 0) (by omega) (by simp) ha3 (by omega)
    refine Run.congr (fun k => ?_) (h.mono (Q := Drawn 7 (M + 200)) (fun x hx => ⟨by have := hx.1; omega, hx.2.le (by omega) (by omega)⟩))
    try simp only [List.length_replicate]
    try rfl
end Go.Proofs.Ytgnmcfoenmfhcaa.DrawK
end
section
namespace Go.Proofs.Ytgnmcfoenmfhcaa.DrawK
set_option linter.unusedVariables false
open Go.RowKit Go.Proofs.Ytgnmcfoenmfhcaa.Q Go.Proofs.YtgnmcfoenmfhcaaW.PrintWords Go.Proofs.YtgnmcfoenmfhcaaW.PrintLast Go.Proofs.YtgnmcfoenmfhcaaW.PrintMore
open Go.Proofs.YtgnmcfoenmfhcaaL Go.Proofs.Ytgnmcfoenmfhcaa.LawK
theorem kSame_l0 {a b : List Int} (hl : a.length ≤ 4611686018427387904) (h : a.length = b.length) : ∀ (d i : Nat), i + d = a.length → a.take i = b.take i → Ev (fun k => laws_kSame.l0 k a b (a.length : Int) i) (decide (a = b))
  | 0, i, hi, ht => by
    refine Ev.step (f := fun _ => some (decide (a = b))) (fun k => ?_) (Ev.now _)
    rw [laws_kSame.l0, if_neg (by omega)]
    rw [List.take_of_length_le (by omega), List.take_of_length_le (by omega)] at ht
    simp [ht]
  | d + 1, i, hi, ht => by
    have h1 : wrap64 ((i : Int) + 1) = ((i + 1 : Nat) : Int) := by rw [w64 (by omega) (by omega)]; rfl
    have hi2 : i < a.length := by omega
    by_cases e : a[i] = b[i]'(by omega)
    · refine Ev.step (fun k => ?_) (kSame_l0 hl h d (i + 1) (by omega) (by rw [List.take_succ_eq_append_getElem (by omega), List.take_succ_eq_append_getElem (by omega), ht, e]))
      rw [laws_kSame.l0, if_pos (by omega), if_pos (by omega), if_pos (by omega), if_pos (by omega), rd_lt _ _ hi2, rd_lt _ _ (by omega), if_pos e, h1]
    · have : a ≠ b := fun hab => e (by simp [hab])
      rw [decide_eq_false this]
      refine Ev.step (f := fun _ => some false) (fun k => ?_) (Ev.now _)
      rw [laws_kSame.l0, if_pos (by omega), if_pos (by omega), if_pos (by omega), if_pos (by omega), rd_lt _ _ hi2, rd_lt _ _ (by omega), if_neg e]
theorem kSame {a b : List Int} (hl : a.length ≤ 4611686018427387904) : Ev (fun k => laws_kSame.f k a b) (decide (a = b)) := by
  unfold laws_kSame.f
  by_cases h : a.length = b.length
  · exact Ev.congr (fun k => if_pos (by omega)) (kSame_l0 hl h a.length 0 (by omega) (by simp))
  · have : a ≠ b := fun hab => h (by simp [hab])
    rw [decide_eq_false this]
    exact Ev.congr (fun k => if_neg (by omega)) (Ev.now _)
theorem kSame_self {a : List Int} (hl : a.length ≤ 4611686018427387904) : Ev (fun k => laws_kSame.f k a a) true := by
  have := kSame (a := a) (b := a) hl
  rw [decide_eq_true rfl] at this
  exact this
theorem big_f (l0 l1 : List Int) (h1 : l1.length ≤ 4611686018427387904) : laws_big.f l0 l1 = some true ∨ laws_big.f l0 l1 = some false ∧ l0.length ≤ 1048576 ∧ l1.length ≤ 1048576 := by
  unfold laws_big.f
  by_cases h : (l0.length : Int) > 1048576
  · exact .inl (if_pos h)
  · rw [if_neg h, w64 (by omega) (by omega)]
    by_cases h2 : (l1.length : Int) > 1048576 - (l0.length : Int)
    · exact .inl (by rw [decide_eq_true h2])
    · exact .inr ⟨by rw [decide_eq_false h2], by omega, by omega⟩
theorem byte_of {x : Int} (h : (Lit.int .u8 x).wf = true) : 0 ≤ x ∧ x ≤ 255 := by
  simp [Lit.wf, IntKind.min, IntKind.max, IntKind.signed, IntKind.bits] at h
  omega
end Go.Proofs.Ytgnmcfoenmfhcaa.DrawK
end
section
namespace Go.Proofs.Ytgnmcfoenmfhcaa.MostK
set_option linter.unusedVariables false
open Go.RowKit Go.Proofs.Ytgnmcfoenmfhcaa.Q Go.Proofs.YtgnmcfoenmfhcaaW.PrintWords Go.Proofs.YtgnmcfoenmfhcaaW.PrintLast Go.Proofs.YtgnmcfoenmfhcaaW.PrintMore
open Go.Proofs.YtgnmcfoenmfhcaaL Go.Proofs.Ytgnmcfoenmfhcaa.LawK Go.Proofs.Ytgnmcfoenmfhcaa.BoardK Go.Proofs.Ytgnmcfoenmfhcaa.LinesK Go.Proofs.Ytgnmcfoenmfhcaa.Walk Go.Proofs.Ytgnmcfoenmfhcaa.NumK
theorem nums_fold (m : Nat) : ∀ (vis : List (List Int)) (out : List Int) (f : Nat → Nat), out.length = m → (∀ n, n < m → out[n]? = some ((f n : Nat) : Int)) → (∀ p ∈ vis, rooksN p < m) → (∀ n, f n + vis.length ≤ 4611686018427387904) →
    (vis.foldl (fun o p => o.set ((rooksN p : Nat) : Int).toNat (IntKind.i64.wrap (rdOf 0 o ((rooksN p : Nat) : Int) + 1))) out).length = m ∧ ∀ n, n < m → (vis.foldl (fun o p => o.set ((rooksN p : Nat) : Int).toNat (IntKind.i64.wrap (rdOf 0 o ((rooksN p : Nat) : Int) + 1))) out)[n]? = some ((f n + vis.countP (fun p => rooksN p == n) : Nat) : Int)
  | [], out, f, h1, h2, _, _ => ⟨h1, fun n hn => by rw [List.foldl_nil, h2 n hn]; simp⟩
  | p :: t, out, f, h1, h2, h3, h4 => by
    have hp := h3 p (by simp)
    have e : rdOf 0 out ((rooksN p : Nat) : Int) = ((f (rooksN p) : Nat) : Int) := by
      unfold rdOf
      rw [Int.toNat_natCast, List.getD_eq_getElem?_getD, h2 _ hp]
      rfl
    have h5 := h4 (rooksN p)
    rw [List.length_cons] at h5
    have ew : IntKind.i64.wrap (((f (rooksN p) : Nat) : Int) + 1) = ((f (rooksN p) + 1 : Nat) : Int) := by rw [wrap_i64', w64 (by omega) (by omega)]; rfl
    rw [List.foldl_cons, e, ew, Int.toNat_natCast]
    obtain ⟨g1, g2⟩ := nums_fold m t (out.set (rooksN p) ((f (rooksN p) + 1 : Nat) : Int)) (fun n => f n + if rooksN p = n then 1 else 0) (by rw [List.length_set]; exact h1) (fun n hn => by
      rw [List.getElem?_set]
      by_cases c : rooksN p = n
      · subst c
        rw [if_pos rfl, if_pos (by omega), if_pos rfl]
      · rw [if_neg c, if_neg c, h2 n hn]; rfl) (fun q hq => h3 q (by simp [hq])) (fun n => by
      have := h4 n
      rw [List.length_cons] at this
      split <;> omega)
    refine ⟨g1, fun n hn => ?_⟩
    rw [g2 n hn, List.countP_cons]
    congr 2
    by_cases c : rooksN p = n
    · rw [if_pos c, if_pos (by simpa using c)]; omega
    · rw [if_neg c, if_neg (by simpa using c)]; omega
theorem nums_get {m : Nat} {vis : List (List Int)} (h3 : ∀ p ∈ vis, rooksN p < m) (h4 : vis.length ≤ 4611686018427387904) : (numsF m vis).length = m ∧ ∀ n, n < m → (numsF m vis)[n]? = some ((vis.countP (fun p => rooksN p == n) : Nat) : Int) := by
  have h := nums_fold m vis (List.replicate m 0) (fun _ => 0) (by simp) (fun n hn => by rw [List.getElem?_replicate, if_pos hn]; rfl) h3 (fun n => by omega)
  simp only [Nat.zero_add] at h
  exact h
theorem trimmed {j : Nat} : ∀ (d : Nat) (xs : List Int), xs.length = j + 1 + d → xs.length ≤ 1048576 → (∀ (h : j < xs.length), xs[j] ≠ 0) → (∀ n (h : n < xs.length), j < n → xs[n] = 0) → Ev (fun k => impl_trimmed.l0 k xs) (xs.take (j + 1))
  | 0, xs, hl, h6, h1, h2 => by
    have w1 := Aside0.mk (show wrap64 ((xs.length : Int) - 1) = ((j : Nat) : Int) from by rw [w64 (by omega) (by omega)]; omega)
    refine Ev.step (f := fun _ => some xs) (fun k => ?_) (evEq (Ev.now _) (by rw [List.take_of_length_le (by omega)]))
    rw [impl_trimmed.l0, if_pos (by omega), w1.out, if_pos (by omega), if_pos (by omega), rd_lt _ _ (show j < xs.length by omega), if_neg (h1 (by omega))]
  | d + 1, xs, hl, h6, h1, h2 => by
    have w1 := Aside0.mk (show wrap64 ((xs.length : Int) - 1) = ((j + 1 + d : Nat) : Int) from by rw [w64 (by omega) (by omega)]; omega)
    have hlen : (xs.take (j + 1 + d)).length = j + 1 + d := by rw [List.length_take]; omega
    have ih := trimmed d (xs.take (j + 1 + d)) hlen (by omega) (fun h => by rw [List.getElem_take]; exact h1 (by omega)) (fun n h hj => by rw [List.getElem_take]; exact h2 n (by omega) hj)
    rw [List.take_take, Nat.min_eq_left (by omega)] at ih
    refine Ev.step (fun k => ?_) ih
    rw [impl_trimmed.l0, if_pos (by omega), w1.out, if_pos (by omega), if_pos (by omega), rd_lt _ _ (show j + 1 + d < xs.length by omega), if_pos (h2 _ _ (by omega)), if_pos (by omega), Int.toNat_natCast]
theorem most {l : List Int} {R C : Nat} (hb : isBoardB R C l = true) : Ev (fun k => impl_Board_most.f k R C l) ((mostN l C R 0 0 : Nat) : Int) := by
  obtain ⟨R', C', e1, e2, hlR, h1R, hR, h1C, hC, hbits⟩ := board_of hb
  have e1 : R' = R := by omega
  have e2 : C' = C := by omega
  subst e1 e2
  obtain ⟨M, hM⟩ : ∃ M, M = mostN l C' R' 0 0 := ⟨_, rfl⟩
  have hmr := mostN_le l C' R' 0 0
  have hmc := most_cols hlR hR hC hbits
  obtain ⟨m, hm⟩ : ∃ m, m = (min (R' : Int) (C' : Int) + 1).toNat := ⟨_, rfl⟩
  obtain ⟨vis, hvis⟩ : ∃ vis, vis = waysFrom l C' R' 0 0 [] := ⟨_, rfl⟩
  have hlt : ∀ p ∈ vis, rooksN p < m := fun p hp => by
    rw [hvis] at hp
    have := ways_le hlR hR hC hbits p hp
    omega
  have hvl : vis.length ≤ 4611686018427387904 := by
    have h1 := ways_len l C' R' 0 0 []
    rw [← hvis] at h1
    have h2 : (C' + 1) ^ R' ≤ 7 ^ 6 := Nat.le_trans (Nat.pow_le_pow_left (by omega) _) (Nat.pow_le_pow_right (by decide) hR)
    have h3 : (7 : Nat) ^ 6 = 117649 := by decide
    omega
  obtain ⟨hnl, hng⟩ := nums_get hlt hvl
  obtain ⟨hup, q, hq, hqe⟩ := ways_most l C' R' 0 0 []
  rw [← hvis] at hup hq
  have h0 : rooksN [] = 0 := rfl
  unfold impl_Board_most.f
  refine Ev.congr (fun k => by rw [impl_Board_numbers.f, if_pos hb, Option.bind_some, Int.toNat_natCast, hlR, ← hm, ← hvis]) ?_
  have hMm : M < m := by omega
  have htr := trimmed (j := M) (m - (M + 1)) (numsF m vis) (by omega) (by omega) (fun h => by
    have h2 := hng M hMm
    rw [List.getElem?_eq_getElem h] at h2
    rw [Option.some.inj h2]
    have : 0 < vis.countP (fun p => rooksN p == M) := List.countP_pos_iff.2 ⟨q, hq, by simp; omega⟩
    omega) (fun n h hj => by
    have h2 := hng n (by omega)
    rw [List.getElem?_eq_getElem h] at h2
    rw [Option.some.inj h2]
    have : vis.countP (fun p => rooksN p == n) = 0 := by
      rw [List.countP_eq_zero]
      intro p hp
      have := hup p hp
      simp
      omega
    omega)
  refine Ev.bind (show Ev (fun k => impl_trimmed.f k (numsF m vis)) _ from htr) ?_
  refine evEq (Ev.now (wrap64 ((((numsF m vis).take (M + 1)).length : Int) - 1))) ?_
  rw [List.length_take, hnl, Nat.min_eq_left (by omega), w64 (by omega) (by omega), ← hM]
  omega
end Go.Proofs.Ytgnmcfoenmfhcaa.MostK
end
