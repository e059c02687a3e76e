/- Texts of this claim put together (9): words, what the functions compute, and plain facts. No conditions. -/
import Derived.Test.YtgnmcfoenmfhcaaSFnRefusingRows4
import Derived.Test.YtgnmcfoenmfhcaaSFnRefusingRows7
import Derived.Test.YtgnmcfoenmfhcaaSFnRefusingRows8
import Derived.Outline
import Derived.Lib.Hide
import Derived.Test.YtgnmcfoenmfhcaaSFnRefusingRows0
section
namespace Go.Proofs.Ytgnmcfoenmfhcaa.Q
open Go.RowKit Go.Proofs.YtgnmcfoenmfhcaaW.PrintWords Go.Proofs.YtgnmcfoenmfhcaaW.PrintLast Go.Proofs.YtgnmcfoenmfhcaaW.PrintMore
attribute [local go_sem] max2_int min2_int max_two min_two max_three min_three max_four min_four   -- for this text's walks alone
set_option linter.unusedVariables false
set_option linter.unusedSimpArgs false
def spec_RefusingRows.l0 : Nat → List (List Int) → Int → Int → Int → Int → List Int → Option (List Int × Bool)
 | 0, _, _, _, _, _, _ => none
 | k + 1, x11, x12, x13, x102000, x102001, x102002 => if x13 < x12 then (if 0 ≤ x13 then (if x13 < (x11.length : Int) then ((spec_lcColumns.f k x102000 x102001 x102002 (rd_L2 x11 x13) false).bind fun t107 => (if (t107.length : Int) < ((rd_L2 x11 x13).length : Int) then (some (rd_L2 x11 x13, true)) else (spec_RefusingRows.l0 k x11 x12 (wrap64 (x13 + 1)) x102000 x102001 x102002))) else (none)) else (none)) else (some (([] : List Int), false))
def spec_RefusingRows.f (k : Nat) (a0_0 : Int) (a0_1 : Int) (l0_2 : List Int) : Option (List Int × Bool) := (spec_boGood.f k a0_0 a0_1 l0_2).bind fun t102 => (if t102 = true then ((spec_lcSets.f k a0_0).bind fun t103 => (spec_RefusingRows.l0 k t103 (t103.length : Int) 0 a0_0 a0_1 l0_2)) else (some (([] : List Int), false)))
set_option maxHeartbeats 8000000 in
set_option maxRecDepth 100000 in
theorem spec_RefusingRows.calls (k : Nat) (a0_0 : Int) (a0_1 : Int) (A0_2 : Option Addr) (c0_2 : Nat) (l0_2 : List Int) (r1 : List Int) (r2 : Bool) (w : World) (hr0_2 : Kd.C (Kd.int .i64) w A0_2 l0_2.length l0_2) (hc0_2 : l0_2.length ≤ c0_2) (h : spec_RefusingRows.f k a0_0 a0_1 l0_2 = some (r1, r2)) :
  Calls Try.prog 20 #[.agg #[.int .i64 a0_0, .int .i64 a0_1, .slice A0_2 l0_2.length c0_2]] w fun e w' => ∃ v0_ : Value, e = .returned (.tuple #[v0_, .bool r2]) ∧ Kd.V (Kd.int .i64) 3 w' w.heap.size (fun k_ => (w.heap.size ≤ k_)) v0_ r1 ∧ Below w.heap.size w w' := by
 have hu26 := Try.underlying26
 have HR0_2 := za hr0_2
 have HC0_2 := za hc0_2
 clear hr0_2 hc0_2
 have HB := za (Below.refl w.heap.size w)
 have H : ((spec_boGood.f k a0_0 a0_1 l0_2).bind fun t102 => (if t102 = true then ((spec_lcSets.f k a0_0).bind fun t103 => (spec_RefusingRows.l0 k t103 (t103.length : Int) 0 a0_0 a0_1 l0_2)) else (some (([] : List Int), false)))) = some (r1, r2) := h
 clear h
 replace H := Option.bind_eq_some_iff.mp H
 obtain ⟨t102, A20, H⟩ := H
 replace H : (if t102 = true then ((spec_lcSets.f k a0_0).bind fun t103 => (spec_RefusingRows.l0 k t103 (t103.length : Int) 0 a0_0 a0_1 l0_2)) else (some (([] : List Int), false))) = some (r1, r2) := H
 have A2 := za A20
 clear A20
 by_cases c3 : t102 = true
 ·
  subst c3
  have H1 : ((spec_lcSets.f k a0_0).bind fun t103 => (spec_RefusingRows.l0 k t103 (t103.length : Int) 0 a0_0 a0_1 l0_2)) = some (r1, r2) := by rw [if_pos rfl] at H; exact H
  clear H
  have H := H1
  clear H1
  replace H := Option.bind_eq_some_iff.mp H
  obtain ⟨t103, A40, H⟩ := H
  replace H : (spec_RefusingRows.l0 k t103 (t103.length : Int) 0 a0_0 a0_1 l0_2) = some (r1, r2) := H
  have A4 := za A40
  clear A40
  have H' := za H
  clear H
  go_enter Try.func20, Try.ntmps20
  go_wp2_with (first | ((with_reducible refine gate_dst (N := 1) rfl ?_); refine box_event ?hg (N := 1) ?hd (cs := #[.int .i64 a0_0, .int .i64 a0_1, .slice A0_2 l0_2.length c0_2]) (t := 26) ?hr ?_; (case hd => rfl); (case hg => rfl); (case hr => first | (go_simp; done) | (go_simp; rfl)); intro gb101 hg w5 hbox hb; have n0_ := za (zv (by repeat (first | (with_reducible first | exact HB.out | apply zc | apply ze | apply zb) | exact HB.out)) hb); have n1_ := za (hbox); have n2_ := za ((by rw [hg]; exact (zn (by repeat (first | (with_reducible first | exact HB.out | apply zc | apply ze | apply zb) | exact HB.out))) : w.heap.size ≤ gb101)); have n3_ := za ((by rw [hg]; exact (zn (by repeat (first | (with_reducible first | exact HB.out | apply zc | apply ze | apply zb) | exact HB.out))) : w.heap.size ≤ gb101)); clear HB; have HB := n0_; have BK101 := n1_; have GW101 := n2_; have GE101 := n3_; clear n0_ n1_ n2_ n3_; clear hb hbox hg; have hcz6_0 : w5.cell? ⟨gb101, 0, none⟩ = some (.int .i64 a0_0) := (zg BK101.out 0).trans rfl; have hcz6_1 : w5.cell? ⟨gb101, 1, none⟩ = some (.int .i64 a0_1) := (zg BK101.out 1).trans rfl; have hcz6_2 : w5.cell? ⟨gb101, 2, none⟩ = some (.slice A0_2 l0_2.length c0_2) := (zg BK101.out 2).trans rfl; have hfz6_0 := zj BK101.out 0; have hfz6_1 := zj BK101.out 1; have hfz6_2 := zj BK101.out 2) | ((with_reducible refine zu (f := 76) rfl ?_); refine goesL_ (some 7) rfl rfl Try.func76 (by kernel_rfl) rfl #[.agg #[.int .i64 a0_0, .int .i64 a0_1, .slice A0_2 l0_2.length c0_2]] rfl (by (try simp only [List.map_toArray, List.map_cons, List.map_nil]); first | done | rfl | (simp only [List.length_drop, List.length_take]; rfl)) ?_; (with_reducible refine (spec_boGood.calls k a0_0 a0_1 _ _ l0_2 true _ ?side1 ?side2 A2.out).mono ?_); (case side1 => repeat (first | exact (zE HR0_2.out HB.out) | (with_reducible refine zw ?_ _) | (with_reducible refine zx ?_ _) | (with_reducible refine zy ?_))); (case side2 => exact HC0_2.out); rintro e w7 ⟨rfl, hb⟩; refine ⟨_, rfl, ?_⟩; have n0_ := za (zB (g := gb101) (o := .cells #[.int .i64 a0_0, .int .i64 a0_1, .slice A0_2 l0_2.length c0_2] 26 (0, 0)) (by (with_reducible repeat (first | refine zh ?_ _ | refine zf ?_ | refine zi ?_ _)); exact BK101.out) hb); have n1_ := za (zv (by repeat (first | (with_reducible first | exact HB.out | apply zc | apply ze | apply zb | refine zd ?_ GE101.out) | exact HB.out)) hb); clear BK101 HB; have BK101 := n0_; have HB := n1_; clear n0_ n1_; (try clear hb); (try clear hb2); (try clear hk); (try clear hi); have hcz8_0 : w7.cell? ⟨gb101, 0, none⟩ = some (.int .i64 a0_0) := (zg BK101.out 0).trans rfl; have hcz8_1 : w7.cell? ⟨gb101, 1, none⟩ = some (.int .i64 a0_1) := (zg BK101.out 1).trans rfl; have hcz8_2 : w7.cell? ⟨gb101, 2, none⟩ = some (.slice A0_2 l0_2.length c0_2) := (zg BK101.out 2).trans rfl; have hfz8_0 := zj BK101.out 0; have hfz8_1 := zj BK101.out 1; have hfz8_2 := zj BK101.out 2) | ((with_reducible refine zu (f := 77) rfl ?_); refine goesL_ (some 11) rfl rfl Try.func77 (by kernel_rfl) rfl #[.int .i64 a0_0] rfl (by (try simp only [List.map_toArray, List.map_cons, List.map_nil]); first | done | rfl | (simp only [List.length_drop, List.length_take]; rfl)) ?_; (with_reducible refine (spec_lcSets.calls k a0_0 t103 _ A4.out).mono ?_); rintro e w9 ⟨v104, rfl, ho0, hb⟩; refine ⟨_, rfl, ?_⟩; have n0_ := za (Kd.N_lower (Kd.N_mono (ok' := fun k_ => (w.heap.size ≤ k_) ∧ k_ ≠ gb101) ho0 (fun k_ hk_ => ⟨(Nat.le_trans (zn (by repeat (first | (with_reducible first | exact HB.out | apply zc | apply ze | apply zb | refine zd ?_ GE101.out) | exact HB.out))) hk_), (Kd.freshB (g := gb101) (o := .cells #[.int .i64 a0_0, .int .i64 a0_1, .slice A0_2 l0_2.length c0_2] 26 (0, 0)) (by (with_reducible repeat (first | refine zh ?_ _ | refine zf ?_ | refine zi ?_ _)); exact BK101.out) k_ hk_)⟩)) (zn (by repeat (first | (with_reducible first | exact HB.out | apply zc | apply ze | apply zb | refine zd ?_ GE101.out) | exact HB.out)))); have n1_ := za (zB (g := gb101) (o := .cells #[.int .i64 a0_0, .int .i64 a0_1, .slice A0_2 l0_2.length c0_2] 26 (0, 0)) (by (with_reducible repeat (first | refine zh ?_ _ | refine zf ?_ | refine zi ?_ _)); exact BK101.out) hb); have n2_ := za (zv (by repeat (first | (with_reducible first | exact HB.out | apply zc | apply ze | apply zb | refine zd ?_ GE101.out) | exact HB.out)) hb); clear BK101 HB; have HO105 := n0_; have BK101 := n1_; have HB := n2_; clear n0_ n1_ n2_; (try clear hb); (try clear hb2); (try clear hk); (try clear hi); (try clear ho0); obtain ⟨Ao10, co10, eo10⟩ := Kd.N_slice HO105.out; subst eo10))
  go_loopg [13] k (fun kq v13 w' => ∃ (x13_1 : Int), v13 = .int .i64 x13_1 ∧ Aside0 (spec_RefusingRows.l0 kq t103 (t103.length : Int) x13_1 a0_0 a0_1 l0_2 = some (r1, r2)) ∧ Aside0 (kq ≤ k) ∧ Aside0 (Kd.N (Kd.slice 3 (Kd.int .i64)) 24 w' w.heap.size (fun k_ => (w.heap.size ≤ k_) ∧ k_ ≠ gb101) (.slice Ao10 t103.length co10) t103) ∧ Aside0 (w'.heap[gb101]? = some (.cells #[.int .i64 a0_0, .int .i64 a0_1, (.slice A0_2 l0_2.length c0_2)] 26 (0, 0))) ∧ Aside0 (Below w.heap.size w w'))
  case atStart => exact ⟨(0), (by first | rfl | (simp; done) | (simp [*]; done)), H', ⟨Nat.le_refl _⟩, ⟨by (with_reducible repeat (first | apply Kd.N_alloc | apply Kd.N_drewN | apply Kd.N_drew)); exact HO105.out⟩, ⟨by (with_reducible repeat (first | refine zh ?_ _ | refine zf ?_ | refine zi ?_ _)); exact BK101.out⟩, ⟨by repeat (first | (with_reducible first | exact HB.out | apply zc | apply ze | apply zb | refine zd ?_ GE101.out) | exact HB.out)⟩⟩
  case round =>
   clear H'
   try clear c2
   try clear p2
   try clear c3
   try clear c7
   try clear hcz6_0
   try clear hcz6_1
   try clear hcz6_2
   try clear hcz8_0
   try clear hcz8_1
   try clear hcz8_2
   try clear hfz6_0
   try clear hfz6_1
   try clear hfz6_2
   try clear hfz8_0
   try clear hfz8_1
   try clear hfz8_2
   obtain ⟨x13_1, rfl, HA, HK1, HO_11, BK101, HB⟩ := hrel
   cases gk with
   | zero => exact absurd HA.out (by simp [spec_RefusingRows.l0])
   | succ k1 =>
    have H := HA.out
    clear HA
    simp only [spec_RefusingRows.l0] at H
    by_cases c11 : x13_1 < (t103.length : Int)
    ·
     rw [if_pos c11] at H
     have c11b0 : decide (x13_1 < (t103.length : Int)) = true := decide_eq_true c11
     clear c11
     by_cases c12 : 0 ≤ x13_1
     ·
      rw [if_pos c12] at H
      have c12b0 : decide (0 ≤ x13_1) = true := decide_eq_true c12
      clear c12
      by_cases c13 : x13_1 < (t103.length : Int)
      ·
       rw [if_pos c13] at H
       have c13b0 : decide (x13_1 < (t103.length : Int)) = true := decide_eq_true c13
       clear c13
       replace H := Option.bind_eq_some_iff.mp H
       obtain ⟨t107, A140, H⟩ := H
       replace H : (if (t107.length : Int) < ((rd_L2 t103 x13_1).length : Int) then (some (rd_L2 t103 x13_1, true)) else (spec_RefusingRows.l0 k1 t103 (t103.length : Int) (wrap64 (x13_1 + 1)) a0_0 a0_1 l0_2)) = some (r1, r2) := H
       have A14 := za A140
       clear A140
       by_cases c15 : (t107.length : Int) < ((rd_L2 t103 x13_1).length : Int)
       ·
        rw [if_pos c15] at H
        have c15b0 : decide ((t107.length : Int) < ((rd_L2 t103 x13_1).length : Int)) = true := decide_eq_true c15
        have c15b1 : decide (t107.length < (rd_L2 t103 x13_1).length) = true := decide_eq_true (Int.ofNat_lt.mp c15)
        clear c15
        simp only [Option.some.injEq, Prod.mk.injEq] at H
        obtain ⟨rfl, rfl⟩ := H
        have p106 : 0 ≤ (x13_1 : Int) := of_decide_eq_true (by first | (with_reducible assumption) | assumption)
        have q106 : x13_1 < (t103.length : Int) := of_decide_eq_true (by first | (with_reducible assumption) | assumption)
        obtain ⟨ad106, A106_0, c106_0, e106, hx106_0, hl106_0, hi106_0⟩ := at_L2 (Kd.N_reads' HO_11.out).2.2 x13_1 p106 q106
        cases e106
        obtain ⟨ce106, hce106, hMe106, hcc106⟩ := Kd.N_get HO_11.out [] x13_1 p106 (by first | exact q106 | exact of_decide_eq_true (by first | (with_reducible assumption) | assumption) | (have e_ := (Kd.N_reads' HO_11.out).1; omega))
        obtain ⟨ua106_0, uc106_0, rfl, ul106_0, ge106_0⟩ := Kd.FK_slice_open hMe106
        have hv106_0 := hcc106 0 _ rfl
        rw [Nat.add_zero, show ((Kd.slice 3 (Kd.int .i64))).sz = 1 from rfl, Nat.mul_one] at hv106_0
        replace hv106_0 := Option.some.inj (hv106_0.symm.trans hx106_0)
        injection hv106_0 with hva_ hvn_ hvc_
        rw [hva_] at ge106_0
        rw [hvc_] at ul106_0
        have HL106_0 := za (show Kd.V (Kd.int .i64) 3 _ w.heap.size _ _ (rd_L2 t103 x13_1) from Kd.V_mk ul106_0 ge106_0)
        clear hva_ hvn_ hvc_ ge106_0 ul106_0
        clear hcc106 hce106
        have HR106_0 := za hi106_0
        have HC106_0 := za hl106_0
        clear hi106_0 hl106_0
        replace p106 := eq_true p106
        replace q106 := eq_true q106
        have hcz16_0 : wr.cell? ⟨gb101, 0, none⟩ = some (.int .i64 a0_0) := (zg BK101.out 0).trans rfl
        have hcz16_1 : wr.cell? ⟨gb101, 1, none⟩ = some (.int .i64 a0_1) := (zg BK101.out 1).trans rfl
        have hcz16_2 : wr.cell? ⟨gb101, 2, none⟩ = some (.slice A0_2 l0_2.length c0_2) := (zg BK101.out 2).trans rfl
        have hfz16_0 := zj BK101.out 0
        have hfz16_1 := zj BK101.out 1
        have hfz16_2 := zj BK101.out 2
        go_wp2_with (first | ((with_reducible refine zu (f := 78) rfl ?_); refine goesL_ (some 19) rfl rfl Try.func78 (by kernel_rfl) rfl #[.agg #[.int .i64 a0_0, .int .i64 a0_1, .slice A0_2 l0_2.length c0_2], .slice A106_0 (rd_L2 t103 x13_1).length c106_0, .bool false] rfl (by (try simp only [List.map_toArray, List.map_cons, List.map_nil]); first | done | rfl | (simp only [List.length_drop, List.length_take]; rfl)) ?_; (with_reducible refine (spec_lcColumns.calls k1 a0_0 a0_1 _ _ l0_2 _ _ (rd_L2 t103 x13_1) false t107 _ ?side1 ?side2 ?side3 ?side4 A14.out).mono ?_); (case side1 => repeat (first | exact (zE HR0_2.out HB.out) | (with_reducible refine zw ?_ _) | (with_reducible refine zx ?_ _) | (with_reducible refine zy ?_))); (case side2 => exact HC0_2.out); (case side3 => repeat (first | exact (by repeat (first | (with_reducible exact HR106_0.out) | (with_reducible refine zw ?_ _) | (with_reducible refine zx ?_ _) | (with_reducible refine zy ?_) | exact HR106_0.out)) | (with_reducible refine zw ?_ _) | (with_reducible refine zx ?_ _) | (with_reducible refine zy ?_))); (case side4 => exact HC106_0.out); rintro e w17 ⟨v108, rfl, ho0, hb⟩; refine ⟨_, rfl, ?_⟩; have n0_ := za (Kd.N_elder' (by (with_reducible repeat (first | apply Kd.N_alloc | apply Kd.N_drewN | apply Kd.N_drew)); exact HO_11.out) (Kd.R_base ho0) hb); have n1_ := za (Kd.V_elder' (by (with_reducible repeat (first | apply Kd.V_alloc | apply Kd.V_drewN | apply Kd.V_drew)); exact HL106_0.out) (Kd.R_base ho0) hb); have n2_ := za (Kd.R_lower (Kd.R_newM (M := fun k_ => (w.heap.size ≤ k_)) ho0 (zn (by repeat (first | (with_reducible first | exact HB.out | apply zc | apply ze | apply zb | refine zd ?_ GE101.out) | exact HB.out))) (fun k_ h_ => h_)) (zn (by repeat (first | (with_reducible first | exact HB.out | apply zc | apply ze | apply zb | refine zd ?_ GE101.out) | exact HB.out)))); have n3_ := za (zB (g := gb101) (o := .cells #[.int .i64 a0_0, .int .i64 a0_1, .slice A0_2 l0_2.length c0_2] 26 (0, 0)) (by (with_reducible repeat (first | refine zh ?_ _ | refine zf ?_ | refine zi ?_ _)); exact BK101.out) hb); have n4_ := za (zE (by repeat (first | (with_reducible exact HR106_0.out) | (with_reducible refine zw ?_ _) | (with_reducible refine zx ?_ _) | (with_reducible refine zy ?_) | exact HR106_0.out)) hb); have n5_ := za (zv (by repeat (first | (with_reducible first | exact HB.out | apply zc | apply ze | apply zb | refine zd ?_ GE101.out) | exact HB.out)) hb); clear HO_11 HL106_0; clear BK101 HR106_0 HB; have HO_11 := n0_; have HL106_0 := n1_; have HO109 := n2_; have BK101 := n3_; have HR106_0 := n4_; have HB := n5_; clear n0_ n1_ n2_ n3_ n4_ n5_; (try clear hb); (try clear hb2); (try clear hk); (try clear hi); (try clear ho0); obtain ⟨Ao18, co18, eo18⟩ := Kd.R_slice HO109.out; subst eo18))
        go_ret2
        exact ⟨_, by first | rfl | (simp [errW_none, errW_some] <;> rfl) | (simp [*, errW_none, errW_some] <;> rfl), by (with_reducible repeat (first | apply Kd.V_alloc | apply Kd.V_drewN | apply Kd.V_drew)); exact Kd.V_mono HL106_0.out (fun _ hk => hk.1.1.1), by repeat (first | (with_reducible first | exact HB.out | apply zc | apply ze | apply zb | refine zd ?_ GE101.out) | exact HB.out)⟩
       ·
        rw [if_neg c15] at H
        have c15b0 : decide ((t107.length : Int) < ((rd_L2 t103 x13_1).length : Int)) = false := decide_eq_false c15
        have c15b1 : decide (t107.length < (rd_L2 t103 x13_1).length) = false := decide_eq_false (fun h => c15 (Int.ofNat_lt.mpr h))
        clear c15
        have H' := za H
        clear H
        have p106 : 0 ≤ (x13_1 : Int) := of_decide_eq_true (by first | (with_reducible assumption) | assumption)
        have q106 : x13_1 < (t103.length : Int) := of_decide_eq_true (by first | (with_reducible assumption) | assumption)
        obtain ⟨ad106, A106_0, c106_0, e106, hx106_0, hl106_0, hi106_0⟩ := at_L2 (Kd.N_reads' HO_11.out).2.2 x13_1 p106 q106
        cases e106
        obtain ⟨ce106, hce106, hMe106, hcc106⟩ := Kd.N_get HO_11.out [] x13_1 p106 (by first | exact q106 | exact of_decide_eq_true (by first | (with_reducible assumption) | assumption) | (have e_ := (Kd.N_reads' HO_11.out).1; omega))
        obtain ⟨ua106_0, uc106_0, rfl, ul106_0, ge106_0⟩ := Kd.FK_slice_open hMe106
        have hv106_0 := hcc106 0 _ rfl
        rw [Nat.add_zero, show ((Kd.slice 3 (Kd.int .i64))).sz = 1 from rfl, Nat.mul_one] at hv106_0
        replace hv106_0 := Option.some.inj (hv106_0.symm.trans hx106_0)
        injection hv106_0 with hva_ hvn_ hvc_
        rw [hva_] at ge106_0
        rw [hvc_] at ul106_0
        have HL106_0 := za (show Kd.V (Kd.int .i64) 3 _ w.heap.size _ _ (rd_L2 t103 x13_1) from Kd.V_mk ul106_0 ge106_0)
        clear hva_ hvn_ hvc_ ge106_0 ul106_0
        clear hcc106 hce106
        have HR106_0 := za hi106_0
        have HC106_0 := za hl106_0
        clear hi106_0 hl106_0
        replace p106 := eq_true p106
        replace q106 := eq_true q106
        have hcz19_0 : wr.cell? ⟨gb101, 0, none⟩ = some (.int .i64 a0_0) := (zg BK101.out 0).trans rfl
        have hcz19_1 : wr.cell? ⟨gb101, 1, none⟩ = some (.int .i64 a0_1) := (zg BK101.out 1).trans rfl
        have hcz19_2 : wr.cell? ⟨gb101, 2, none⟩ = some (.slice A0_2 l0_2.length c0_2) := (zg BK101.out 2).trans rfl
        have hfz19_0 := zj BK101.out 0
        have hfz19_1 := zj BK101.out 1
        have hfz19_2 := zj BK101.out 2
        go_wp2_with (first | ((with_reducible refine zu (f := 78) rfl ?_); refine goesL_ (some 19) rfl rfl Try.func78 (by kernel_rfl) rfl #[.agg #[.int .i64 a0_0, .int .i64 a0_1, .slice A0_2 l0_2.length c0_2], .slice A106_0 (rd_L2 t103 x13_1).length c106_0, .bool false] rfl (by (try simp only [List.map_toArray, List.map_cons, List.map_nil]); first | done | rfl | (simp only [List.length_drop, List.length_take]; rfl)) ?_; (with_reducible refine (spec_lcColumns.calls k1 a0_0 a0_1 _ _ l0_2 _ _ (rd_L2 t103 x13_1) false t107 _ ?side1 ?side2 ?side3 ?side4 A14.out).mono ?_); (case side1 => repeat (first | exact (zE HR0_2.out HB.out) | (with_reducible refine zw ?_ _) | (with_reducible refine zx ?_ _) | (with_reducible refine zy ?_))); (case side2 => exact HC0_2.out); (case side3 => repeat (first | exact (by repeat (first | (with_reducible exact HR106_0.out) | (with_reducible refine zw ?_ _) | (with_reducible refine zx ?_ _) | (with_reducible refine zy ?_) | exact HR106_0.out)) | (with_reducible refine zw ?_ _) | (with_reducible refine zx ?_ _) | (with_reducible refine zy ?_))); (case side4 => exact HC106_0.out); rintro e w20 ⟨v108, rfl, ho0, hb⟩; refine ⟨_, rfl, ?_⟩; have n0_ := za (Kd.N_elder' (by (with_reducible repeat (first | apply Kd.N_alloc | apply Kd.N_drewN | apply Kd.N_drew)); exact HO_11.out) (Kd.R_base ho0) hb); have n1_ := za (Kd.V_elder' (by (with_reducible repeat (first | apply Kd.V_alloc | apply Kd.V_drewN | apply Kd.V_drew)); exact HL106_0.out) (Kd.R_base ho0) hb); have n2_ := za (Kd.R_lower (Kd.R_newM (M := fun k_ => (w.heap.size ≤ k_)) ho0 (zn (by repeat (first | (with_reducible first | exact HB.out | apply zc | apply ze | apply zb | refine zd ?_ GE101.out) | exact HB.out))) (fun k_ h_ => h_)) (zn (by repeat (first | (with_reducible first | exact HB.out | apply zc | apply ze | apply zb | refine zd ?_ GE101.out) | exact HB.out)))); have n3_ := za (zB (g := gb101) (o := .cells #[.int .i64 a0_0, .int .i64 a0_1, .slice A0_2 l0_2.length c0_2] 26 (0, 0)) (by (with_reducible repeat (first | refine zh ?_ _ | refine zf ?_ | refine zi ?_ _)); exact BK101.out) hb); have n4_ := za (zE (by repeat (first | (with_reducible exact HR106_0.out) | (with_reducible refine zw ?_ _) | (with_reducible refine zx ?_ _) | (with_reducible refine zy ?_) | exact HR106_0.out)) hb); have n5_ := za (zv (by repeat (first | (with_reducible first | exact HB.out | apply zc | apply ze | apply zb | refine zd ?_ GE101.out) | exact HB.out)) hb); clear HO_11 HL106_0; clear BK101 HR106_0 HB; have HO_11 := n0_; have HL106_0 := n1_; have HO109 := n2_; have BK101 := n3_; have HR106_0 := n4_; have HB := n5_; clear n0_ n1_ n2_ n3_ n4_ n5_; (try clear hb); (try clear hb2); (try clear hk); (try clear hi); (try clear ho0); obtain ⟨Ao21, co21, eo21⟩ := Kd.R_slice HO109.out; subst eo21))
        go_roundg k1
        case measure => have := HK1.out; omega
        case rel => exact ⟨(wrap64 (x13_1 + 1)), (by first | rfl | (simp; done) | (simp [*]; done)), H', ⟨by have := HK1.out; omega⟩, ⟨by (with_reducible repeat (first | apply Kd.N_alloc | apply Kd.N_drewN | apply Kd.N_drew)); exact Kd.N_mono HO_11.out (fun _ hk => ⟨hk.1.1, hk.1.2⟩)⟩, ⟨by (with_reducible repeat (first | refine zh ?_ _ | refine zf ?_ | refine zi ?_ _)); exact BK101.out⟩, ⟨by repeat (first | (with_reducible first | exact HB.out | apply zc | apply ze | apply zb | refine zd ?_ GE101.out) | exact HB.out)⟩⟩
      ·
       rw [if_neg c13] at H
       exact absurd H (by simp)
     ·
      rw [if_neg c12] at H
      exact absurd H (by simp)
    ·
     rw [if_neg c11] at H
     have c11b0 : decide (x13_1 < (t103.length : Int)) = false := decide_eq_false c11
     clear c11
     simp only [Option.some.injEq, Prod.mk.injEq] at H
     obtain ⟨rfl, rfl⟩ := H
     go_wp2
     go_ret2
     exact ⟨.slice none 0 0, by first | rfl | (simp [errW_none, errW_some] <;> rfl) | (simp [*, errW_none, errW_some] <;> rfl), Kd.V_nil _ _ _ _ _, by repeat (first | (with_reducible first | exact HB.out | apply zc | apply ze | apply zb | refine zd ?_ GE101.out) | exact HB.out)⟩
 ·
  replace c3 := Bool.eq_false_iff.mpr c3
  subst c3
  have H1 : (some (([] : List Int), false)) = some (r1, r2) := by rw [if_neg (show ¬ (false = true) by decide)] at H; exact H
  clear H
  have H := H1
  clear H1
  simp only [Option.some.injEq, Prod.mk.injEq] at H
  obtain ⟨rfl, rfl⟩ := H
  go_enter Try.func20, Try.ntmps20
  go_wp2_with (first | ((with_reducible refine gate_dst (N := 1) rfl ?_); refine box_event ?hg (N := 1) ?hd (cs := #[.int .i64 a0_0, .int .i64 a0_1, .slice A0_2 l0_2.length c0_2]) (t := 26) ?hr ?_; (case hd => rfl); (case hg => rfl); (case hr => first | (go_simp; done) | (go_simp; rfl)); intro gb101 hg w22 hbox hb; have n0_ := za (zv (by repeat (first | (with_reducible first | exact HB.out | apply zc | apply ze | apply zb) | exact HB.out)) hb); have n1_ := za (hbox); have n2_ := za ((by rw [hg]; exact (zn (by repeat (first | (with_reducible first | exact HB.out | apply zc | apply ze | apply zb) | exact HB.out))) : w.heap.size ≤ gb101)); have n3_ := za ((by rw [hg]; exact (zn (by repeat (first | (with_reducible first | exact HB.out | apply zc | apply ze | apply zb) | exact HB.out))) : w.heap.size ≤ gb101)); clear HB; have HB := n0_; have BK101 := n1_; have GW101 := n2_; have GE101 := n3_; clear n0_ n1_ n2_ n3_; clear hb hbox hg; have hcz23_0 : w22.cell? ⟨gb101, 0, none⟩ = some (.int .i64 a0_0) := (zg BK101.out 0).trans rfl; have hcz23_1 : w22.cell? ⟨gb101, 1, none⟩ = some (.int .i64 a0_1) := (zg BK101.out 1).trans rfl; have hcz23_2 : w22.cell? ⟨gb101, 2, none⟩ = some (.slice A0_2 l0_2.length c0_2) := (zg BK101.out 2).trans rfl; have hfz23_0 := zj BK101.out 0; have hfz23_1 := zj BK101.out 1; have hfz23_2 := zj BK101.out 2) | ((with_reducible refine zu (f := 76) rfl ?_); refine goesL_ (some 7) rfl rfl Try.func76 (by kernel_rfl) rfl #[.agg #[.int .i64 a0_0, .int .i64 a0_1, .slice A0_2 l0_2.length c0_2]] rfl (by (try simp only [List.map_toArray, List.map_cons, List.map_nil]); first | done | rfl | (simp only [List.length_drop, List.length_take]; rfl)) ?_; (with_reducible refine (spec_boGood.calls k a0_0 a0_1 _ _ l0_2 false _ ?side1 ?side2 A2.out).mono ?_); (case side1 => repeat (first | exact (zE HR0_2.out HB.out) | (with_reducible refine zw ?_ _) | (with_reducible refine zx ?_ _) | (with_reducible refine zy ?_))); (case side2 => exact HC0_2.out); rintro e w24 ⟨rfl, hb⟩; refine ⟨_, rfl, ?_⟩; have n0_ := za (zB (g := gb101) (o := .cells #[.int .i64 a0_0, .int .i64 a0_1, .slice A0_2 l0_2.length c0_2] 26 (0, 0)) (by (with_reducible repeat (first | refine zh ?_ _ | refine zf ?_ | refine zi ?_ _)); exact BK101.out) hb); have n1_ := za (zv (by repeat (first | (with_reducible first | exact HB.out | apply zc | apply ze | apply zb | refine zd ?_ GE101.out) | exact HB.out)) hb); clear BK101 HB; have BK101 := n0_; have HB := n1_; clear n0_ n1_; (try clear hb); (try clear hb2); (try clear hk); (try clear hi)))
  go_ret2
  exact ⟨.slice none 0 0, by first | rfl | (simp [errW_none, errW_some] <;> rfl) | (simp [*, errW_none, errW_some] <;> rfl), Kd.V_nil _ _ _ _ _, by repeat (first | (with_reducible first | exact HB.out | apply zc | apply ze | apply zb | refine zd ?_ GE101.out) | exact HB.out)⟩
end Go.Proofs.Ytgnmcfoenmfhcaa.Q
end
section
namespace Go.Proofs.Ytgnmcfoenmfhcaa.Q
open Go.RowKit Go.Proofs.YtgnmcfoenmfhcaaW.PrintWords Go.Proofs.YtgnmcfoenmfhcaaW.PrintLast Go.Proofs.YtgnmcfoenmfhcaaW.PrintMore
attribute [local go_sem] max2_int min2_int max_two min_two max_three min_three max_four min_four   -- for this text's walks alone
set_option linter.unusedVariables false
set_option linter.unusedSimpArgs false
def spec_l1Most.f (a0 : Int) (a1 : Int) : Option (Int) := if a0 > a1 then (some a0) else (some a1)
set_option maxHeartbeats 8000000 in
set_option maxRecDepth 100000 in
theorem spec_l1Most.calls (a0 : Int) (a1 : Int) (r : Int) (w : World) (h : spec_l1Most.f a0 a1 = some r) :
  Calls Try.prog 79 #[.int .i64 a0, .int .i64 a1] w fun e w' => e = .returned (.int .i64 r) ∧ Drawn0 w w' := by
 have H : (if a0 > a1 then (some a0) else (some a1)) = some r := h
 clear h
 by_cases c3 : a0 > a1
 ·
  rw [if_pos c3] at H
  have c3b0 : decide (a1 < a0) = true := decide_eq_true c3
  clear c3
  obtain rfl := Option.some.inj H
  go_enter Try.func79, Try.ntmps79
  go_wp2
  go_ret
  exact ⟨by first | rfl | (simp; done) | (simp [*]; done), by repeat (first | exact Drawn0.refl _ | apply Drawn0.step)⟩
 ·
  rw [if_neg c3] at H
  have c3b0 : decide (a1 < a0) = false := decide_eq_false c3
  clear c3
  obtain rfl := Option.some.inj H
  go_enter Try.func79, Try.ntmps79
  go_wp2
  go_ret
  exact ⟨by first | rfl | (simp; done) | (simp [*]; done), by repeat (first | exact Drawn0.refl _ | apply Drawn0.step)⟩
end Go.Proofs.Ytgnmcfoenmfhcaa.Q
end
section
namespace Go.Proofs.Ytgnmcfoenmfhcaa.Q
open Go.RowKit Go.Proofs.YtgnmcfoenmfhcaaW.PrintWords Go.Proofs.YtgnmcfoenmfhcaaW.PrintLast Go.Proofs.YtgnmcfoenmfhcaaW.PrintMore
attribute [local go_sem] max2_int min2_int max_two min_two max_three min_three max_four min_four   -- for this text's walks alone
set_option linter.unusedVariables false
set_option linter.unusedSimpArgs false
def spec_LackOf.l0 : Nat → Int → List (List Int) → Int → Int → Int → Int → List Int → Option (Int × Bool)
 | 0, _, _, _, _, _, _, _ => none
 | k + 1, x4, x12, x13, x14, x102000, x102001, x102002 => if x14 < x13 then (if 0 ≤ x14 then (if x14 < (x12.length : Int) then ((spec_lcColumns.f k x102000 x102001 x102002 (rd_L2 x12 x14) false).bind fun t107 => ((spec_l1Most.f x4 (wrap64 (((rd_L2 x12 x14).length : Int) - (t107.length : Int)))).bind fun t110 => (spec_LackOf.l0 k t110 x12 x13 (wrap64 (x14 + 1)) x102000 x102001 x102002))) else (none)) else (none)) else (some (x4, true))
def spec_LackOf.f (k : Nat) (a0_0 : Int) (a0_1 : Int) (l0_2 : List Int) : Option (Int × Bool) := (spec_boGood.f k a0_0 a0_1 l0_2).bind fun t102 => (if t102 = true then ((spec_lcSets.f k a0_0).bind fun t103 => (spec_LackOf.l0 k 0 t103 (t103.length : Int) 0 a0_0 a0_1 l0_2)) else (some (0, false)))
set_option maxHeartbeats 8000000 in
set_option maxRecDepth 100000 in
theorem spec_LackOf.calls (k : Nat) (a0_0 : Int) (a0_1 : Int) (A0_2 : Option Addr) (c0_2 : Nat) (l0_2 : List Int) (r1 : Int) (r2 : Bool) (w : World) (hr0_2 : Kd.C (Kd.int .i64) w A0_2 l0_2.length l0_2) (hc0_2 : l0_2.length ≤ c0_2) (h : spec_LackOf.f k a0_0 a0_1 l0_2 = some (r1, r2)) :
  Calls Try.prog 22 #[.agg #[.int .i64 a0_0, .int .i64 a0_1, .slice A0_2 l0_2.length c0_2]] w fun e w' => e = .returned (.tuple #[.int .i64 r1, .bool r2]) ∧ Below w.heap.size w w' := by
 have hu26 := Try.underlying26
 have HR0_2 := za hr0_2
 have HC0_2 := za hc0_2
 clear hr0_2 hc0_2
 have HB := za (Below.refl w.heap.size w)
 have H : ((spec_boGood.f k a0_0 a0_1 l0_2).bind fun t102 => (if t102 = true then ((spec_lcSets.f k a0_0).bind fun t103 => (spec_LackOf.l0 k 0 t103 (t103.length : Int) 0 a0_0 a0_1 l0_2)) else (some (0, false)))) = some (r1, r2) := h
 clear h
 replace H := Option.bind_eq_some_iff.mp H
 obtain ⟨t102, A20, H⟩ := H
 replace H : (if t102 = true then ((spec_lcSets.f k a0_0).bind fun t103 => (spec_LackOf.l0 k 0 t103 (t103.length : Int) 0 a0_0 a0_1 l0_2)) else (some (0, false))) = some (r1, r2) := H
 have A2 := za A20
 clear A20
 by_cases c3 : t102 = true
 ·
  subst c3
  have H1 : ((spec_lcSets.f k a0_0).bind fun t103 => (spec_LackOf.l0 k 0 t103 (t103.length : Int) 0 a0_0 a0_1 l0_2)) = some (r1, r2) := by rw [if_pos rfl] at H; exact H
  clear H
  have H := H1
  clear H1
  replace H := Option.bind_eq_some_iff.mp H
  obtain ⟨t103, A40, H⟩ := H
  replace H : (spec_LackOf.l0 k 0 t103 (t103.length : Int) 0 a0_0 a0_1 l0_2) = some (r1, r2) := H
  have A4 := za A40
  clear A40
  have H' := za H
  clear H
  go_enter Try.func22, Try.ntmps22
  go_wp2_with (first | ((with_reducible refine gate_dst (N := 1) rfl ?_); refine box_event ?hg (N := 1) ?hd (cs := #[.int .i64 a0_0, .int .i64 a0_1, .slice A0_2 l0_2.length c0_2]) (t := 26) ?hr ?_; (case hd => rfl); (case hg => rfl); (case hr => first | (go_simp; done) | (go_simp; rfl)); intro gb101 hg w5 hbox hb; have n0_ := za (zv (by repeat (first | (with_reducible first | exact HB.out | apply zc | apply ze | apply zb) | exact HB.out)) hb); have n1_ := za (hbox); have n2_ := za ((by rw [hg]; exact (zn (by repeat (first | (with_reducible first | exact HB.out | apply zc | apply ze | apply zb) | exact HB.out))) : w.heap.size ≤ gb101)); have n3_ := za ((by rw [hg]; exact (zn (by repeat (first | (with_reducible first | exact HB.out | apply zc | apply ze | apply zb) | exact HB.out))) : w.heap.size ≤ gb101)); clear HB; have HB := n0_; have BK101 := n1_; have GW101 := n2_; have GE101 := n3_; clear n0_ n1_ n2_ n3_; clear hb hbox hg; have hcz6_0 : w5.cell? ⟨gb101, 0, none⟩ = some (.int .i64 a0_0) := (zg BK101.out 0).trans rfl; have hcz6_1 : w5.cell? ⟨gb101, 1, none⟩ = some (.int .i64 a0_1) := (zg BK101.out 1).trans rfl; have hcz6_2 : w5.cell? ⟨gb101, 2, none⟩ = some (.slice A0_2 l0_2.length c0_2) := (zg BK101.out 2).trans rfl; have hfz6_0 := zj BK101.out 0; have hfz6_1 := zj BK101.out 1; have hfz6_2 := zj BK101.out 2) | ((with_reducible refine zu (f := 76) rfl ?_); refine goesL_ (some 8) rfl rfl Try.func76 (by kernel_rfl) rfl #[.agg #[.int .i64 a0_0, .int .i64 a0_1, .slice A0_2 l0_2.length c0_2]] rfl (by (try simp only [List.map_toArray, List.map_cons, List.map_nil]); first | done | rfl | (simp only [List.length_drop, List.length_take]; rfl)) ?_; (with_reducible refine (spec_boGood.calls k a0_0 a0_1 _ _ l0_2 true _ ?side1 ?side2 A2.out).mono ?_); (case side1 => repeat (first | exact (zE HR0_2.out HB.out) | (with_reducible refine zw ?_ _) | (with_reducible refine zx ?_ _) | (with_reducible refine zy ?_))); (case side2 => exact HC0_2.out); rintro e w7 ⟨rfl, hb⟩; refine ⟨_, rfl, ?_⟩; have n0_ := za (zB (g := gb101) (o := .cells #[.int .i64 a0_0, .int .i64 a0_1, .slice A0_2 l0_2.length c0_2] 26 (0, 0)) (by (with_reducible repeat (first | refine zh ?_ _ | refine zf ?_ | refine zi ?_ _)); exact BK101.out) hb); have n1_ := za (zv (by repeat (first | (with_reducible first | exact HB.out | apply zc | apply ze | apply zb | refine zd ?_ GE101.out) | exact HB.out)) hb); clear BK101 HB; have BK101 := n0_; have HB := n1_; clear n0_ n1_; (try clear hb); (try clear hb2); (try clear hk); (try clear hi); have hcz8_0 : w7.cell? ⟨gb101, 0, none⟩ = some (.int .i64 a0_0) := (zg BK101.out 0).trans rfl; have hcz8_1 : w7.cell? ⟨gb101, 1, none⟩ = some (.int .i64 a0_1) := (zg BK101.out 1).trans rfl; have hcz8_2 : w7.cell? ⟨gb101, 2, none⟩ = some (.slice A0_2 l0_2.length c0_2) := (zg BK101.out 2).trans rfl; have hfz8_0 := zj BK101.out 0; have hfz8_1 := zj BK101.out 1; have hfz8_2 := zj BK101.out 2) | ((with_reducible refine zu (f := 77) rfl ?_); refine goesL_ (some 12) rfl rfl Try.func77 (by kernel_rfl) rfl #[.int .i64 a0_0] rfl (by (try simp only [List.map_toArray, List.map_cons, List.map_nil]); first | done | rfl | (simp only [List.length_drop, List.length_take]; rfl)) ?_; (with_reducible refine (spec_lcSets.calls k a0_0 t103 _ A4.out).mono ?_); rintro e w9 ⟨v104, rfl, ho0, hb⟩; refine ⟨_, rfl, ?_⟩; have n0_ := za (Kd.N_lower (Kd.N_mono (ok' := fun k_ => k_ ≠ gb101) ho0 (fun k_ hk_ => (Kd.freshB (g := gb101) (o := .cells #[.int .i64 a0_0, .int .i64 a0_1, .slice A0_2 l0_2.length c0_2] 26 (0, 0)) (by (with_reducible repeat (first | refine zh ?_ _ | refine zf ?_ | refine zi ?_ _)); exact BK101.out) k_ hk_))) (zn (by repeat (first | (with_reducible first | exact HB.out | apply zc | apply ze | apply zb | refine zd ?_ GE101.out) | exact HB.out)))); have n1_ := za (zB (g := gb101) (o := .cells #[.int .i64 a0_0, .int .i64 a0_1, .slice A0_2 l0_2.length c0_2] 26 (0, 0)) (by (with_reducible repeat (first | refine zh ?_ _ | refine zf ?_ | refine zi ?_ _)); exact BK101.out) hb); have n2_ := za (zv (by repeat (first | (with_reducible first | exact HB.out | apply zc | apply ze | apply zb | refine zd ?_ GE101.out) | exact HB.out)) hb); clear BK101 HB; have HO105 := n0_; have BK101 := n1_; have HB := n2_; clear n0_ n1_ n2_; (try clear hb); (try clear hb2); (try clear hk); (try clear hi); (try clear ho0); obtain ⟨Ao10, co10, eo10⟩ := Kd.N_slice HO105.out; subst eo10))
  go_loopg [4, 14] k (fun kq v4 v14 w' => ∃ (x4_1 : Int) (x14_1 : Int), v4 = .int .i64 x4_1 ∧ v14 = .int .i64 x14_1 ∧ Aside0 (spec_LackOf.l0 kq x4_1 t103 (t103.length : Int) x14_1 a0_0 a0_1 l0_2 = some (r1, r2)) ∧ Aside0 (kq ≤ k) ∧ Aside0 (Kd.N (Kd.slice 3 (Kd.int .i64)) 24 w' w.heap.size (fun k_ => k_ ≠ gb101) (.slice Ao10 t103.length co10) t103) ∧ Aside0 (w'.heap[gb101]? = some (.cells #[.int .i64 a0_0, .int .i64 a0_1, (.slice A0_2 l0_2.length c0_2)] 26 (0, 0))) ∧ Aside0 (Below w.heap.size w w'))
  case atStart => exact ⟨(0), (0), (by first | rfl | (simp; done) | (simp [*]; done)), (by first | rfl | (simp; done) | (simp [*]; done)), H', ⟨Nat.le_refl _⟩, ⟨by (with_reducible repeat (first | apply Kd.N_alloc | apply Kd.N_drewN | apply Kd.N_drew)); exact HO105.out⟩, ⟨by (with_reducible repeat (first | refine zh ?_ _ | refine zf ?_ | refine zi ?_ _)); exact BK101.out⟩, ⟨by repeat (first | (with_reducible first | exact HB.out | apply zc | apply ze | apply zb | refine zd ?_ GE101.out) | exact HB.out)⟩⟩
  case round =>
   clear H'
   try clear c2
   try clear p2
   try clear c3
   try clear c7
   try clear hcz6_0
   try clear hcz6_1
   try clear hcz6_2
   try clear hcz8_0
   try clear hcz8_1
   try clear hcz8_2
   try clear hfz6_0
   try clear hfz6_1
   try clear hfz6_2
   try clear hfz8_0
   try clear hfz8_1
   try clear hfz8_2
   obtain ⟨x4_1, x14_1, rfl, rfl, HA, HK1, HO_12, BK101, HB⟩ := hrel
   cases gk with
   | zero => exact absurd HA.out (by simp [spec_LackOf.l0])
   | succ k1 =>
    have H := HA.out
    clear HA
    simp only [spec_LackOf.l0] at H
    by_cases c11 : x14_1 < (t103.length : Int)
    ·
     rw [if_pos c11] at H
     have c11b0 : decide (x14_1 < (t103.length : Int)) = true := decide_eq_true c11
     clear c11
     by_cases c12 : 0 ≤ x14_1
     ·
      rw [if_pos c12] at H
      have c12b0 : decide (0 ≤ x14_1) = true := decide_eq_true c12
      clear c12
      by_cases c13 : x14_1 < (t103.length : Int)
      ·
       rw [if_pos c13] at H
       have c13b0 : decide (x14_1 < (t103.length : Int)) = true := decide_eq_true c13
       clear c13
       replace H := Option.bind_eq_some_iff.mp H
       obtain ⟨t107, A140, H⟩ := H
       replace H : ((spec_l1Most.f x4_1 (wrap64 (((rd_L2 t103 x14_1).length : Int) - (t107.length : Int)))).bind fun t110 => (spec_LackOf.l0 k1 t110 t103 (t103.length : Int) (wrap64 (x14_1 + 1)) a0_0 a0_1 l0_2)) = some (r1, r2) := H
       have A14 := za A140
       clear A140
       replace H := Option.bind_eq_some_iff.mp H
       obtain ⟨t110, A150, H⟩ := H
       replace H : (spec_LackOf.l0 k1 t110 t103 (t103.length : Int) (wrap64 (x14_1 + 1)) a0_0 a0_1 l0_2) = some (r1, r2) := H
       have A15 := za A150
       clear A150
       have H' := za H
       clear H
       have p106 : 0 ≤ (x14_1 : Int) := of_decide_eq_true (by first | (with_reducible assumption) | assumption)
       have q106 : x14_1 < (t103.length : Int) := of_decide_eq_true (by first | (with_reducible assumption) | assumption)
       obtain ⟨ad106, A106_0, c106_0, e106, hx106_0, hl106_0, hi106_0⟩ := at_L2 (Kd.N_reads' HO_12.out).2.2 x14_1 p106 q106
       cases e106
       obtain ⟨ce106, hce106, hMe106, hcc106⟩ := Kd.N_get HO_12.out [] x14_1 p106 (by first | exact q106 | exact of_decide_eq_true (by first | (with_reducible assumption) | assumption) | (have e_ := (Kd.N_reads' HO_12.out).1; omega))
       obtain ⟨ua106_0, uc106_0, rfl, ul106_0, ge106_0⟩ := Kd.FK_slice_open hMe106
       have hv106_0 := hcc106 0 _ rfl
       rw [Nat.add_zero, show ((Kd.slice 3 (Kd.int .i64))).sz = 1 from rfl, Nat.mul_one] at hv106_0
       replace hv106_0 := Option.some.inj (hv106_0.symm.trans hx106_0)
       injection hv106_0 with hva_ hvn_ hvc_
       rw [hva_] at ge106_0
       rw [hvc_] at ul106_0
       have HL106_0 := za (show Kd.V (Kd.int .i64) 3 _ w.heap.size _ _ (rd_L2 t103 x14_1) from Kd.V_mk ul106_0 ge106_0)
       clear hva_ hvn_ hvc_ ge106_0 ul106_0
       clear hcc106 hce106
       have HR106_0 := za hi106_0
       have HC106_0 := za hl106_0
       clear hi106_0 hl106_0
       replace p106 := eq_true p106
       replace q106 := eq_true q106
       have hcz16_0 : wr.cell? ⟨gb101, 0, none⟩ = some (.int .i64 a0_0) := (zg BK101.out 0).trans rfl
       have hcz16_1 : wr.cell? ⟨gb101, 1, none⟩ = some (.int .i64 a0_1) := (zg BK101.out 1).trans rfl
       have hcz16_2 : wr.cell? ⟨gb101, 2, none⟩ = some (.slice A0_2 l0_2.length c0_2) := (zg BK101.out 2).trans rfl
       have hfz16_0 := zj BK101.out 0
       have hfz16_1 := zj BK101.out 1
       have hfz16_2 := zj BK101.out 2
       go_wp2_with (first | ((with_reducible refine zu (f := 78) rfl ?_); refine goesL_ (some 23) rfl rfl Try.func78 (by kernel_rfl) rfl #[.agg #[.int .i64 a0_0, .int .i64 a0_1, .slice A0_2 l0_2.length c0_2], .slice A106_0 (rd_L2 t103 x14_1).length c106_0, .bool false] rfl (by (try simp only [List.map_toArray, List.map_cons, List.map_nil]); first | done | rfl | (simp only [List.length_drop, List.length_take]; rfl)) ?_; (with_reducible refine (spec_lcColumns.calls k1 a0_0 a0_1 _ _ l0_2 _ _ (rd_L2 t103 x14_1) false t107 _ ?side1 ?side2 ?side3 ?side4 A14.out).mono ?_); (case side1 => repeat (first | exact (zE HR0_2.out HB.out) | (with_reducible refine zw ?_ _) | (with_reducible refine zx ?_ _) | (with_reducible refine zy ?_))); (case side2 => exact HC0_2.out); (case side3 => repeat (first | exact (by repeat (first | (with_reducible exact HR106_0.out) | (with_reducible refine zw ?_ _) | (with_reducible refine zx ?_ _) | (with_reducible refine zy ?_) | exact HR106_0.out)) | (with_reducible refine zw ?_ _) | (with_reducible refine zx ?_ _) | (with_reducible refine zy ?_))); (case side4 => exact HC106_0.out); rintro e w17 ⟨v108, rfl, ho0, hb⟩; refine ⟨_, rfl, ?_⟩; have n0_ := za (Kd.N_elder' (by (with_reducible repeat (first | apply Kd.N_alloc | apply Kd.N_drewN | apply Kd.N_drew)); exact HO_12.out) (Kd.R_base ho0) hb); have n1_ := za (Kd.V_elder' (by (with_reducible repeat (first | apply Kd.V_alloc | apply Kd.V_drewN | apply Kd.V_drew)); exact HL106_0.out) (Kd.R_base ho0) hb); have n2_ := za (Kd.R_lower ho0 (zn (by repeat (first | (with_reducible first | exact HB.out | apply zc | apply ze | apply zb | refine zd ?_ GE101.out) | exact HB.out)))); have n3_ := za (zB (g := gb101) (o := .cells #[.int .i64 a0_0, .int .i64 a0_1, .slice A0_2 l0_2.length c0_2] 26 (0, 0)) (by (with_reducible repeat (first | refine zh ?_ _ | refine zf ?_ | refine zi ?_ _)); exact BK101.out) hb); have n4_ := za (zE (by repeat (first | (with_reducible exact HR106_0.out) | (with_reducible refine zw ?_ _) | (with_reducible refine zx ?_ _) | (with_reducible refine zy ?_) | exact HR106_0.out)) hb); have n5_ := za (zv (by repeat (first | (with_reducible first | exact HB.out | apply zc | apply ze | apply zb | refine zd ?_ GE101.out) | exact HB.out)) hb); clear HO_12 HL106_0; clear BK101 HR106_0 HB; have HO_12 := n0_; have HL106_0 := n1_; have HO109 := n2_; have BK101 := n3_; have HR106_0 := n4_; have HB := n5_; clear n0_ n1_ n2_ n3_ n4_ n5_; (try clear hb); (try clear hb2); (try clear hk); (try clear hi); (try clear ho0); obtain ⟨Ao18, co18, eo18⟩ := Kd.R_slice HO109.out; subst eo18) | ((with_reducible refine zu (f := 79) rfl ?_); refine goesL_ (some 26) rfl rfl Try.func79 (by kernel_rfl) rfl #[.int .i64 x4_1, .int .i64 (wrap64 (((rd_L2 t103 x14_1).length : Int) - (t107.length : Int)))] rfl (by (try simp only [List.map_toArray, List.map_cons, List.map_nil]); first | done | rfl | (simp only [List.length_drop, List.length_take]; rfl)) ?_; (with_reducible refine (spec_l1Most.calls x4_1 (wrap64 (((rd_L2 t103 x14_1).length : Int) - (t107.length : Int))) t110 _ A15.out).mono ?_); rintro e w' ⟨rfl, ⟨nd, rfl⟩⟩; refine ⟨_, rfl, ?_⟩))
       go_roundg k1
       case measure => have := HK1.out; omega
       case rel => exact ⟨(t110), (wrap64 (x14_1 + 1)), (by first | rfl | (simp; done) | (simp [*]; done)), (by first | rfl | (simp; done) | (simp [*]; done)), H', ⟨by have := HK1.out; omega⟩, ⟨by (with_reducible repeat (first | apply Kd.N_alloc | apply Kd.N_drewN | apply Kd.N_drew)); exact Kd.N_mono HO_12.out (fun _ hk => hk.1)⟩, ⟨by (with_reducible repeat (first | refine zh ?_ _ | refine zf ?_ | refine zi ?_ _)); exact BK101.out⟩, ⟨by repeat (first | (with_reducible first | exact HB.out | apply zc | apply ze | apply zb | refine zd ?_ GE101.out) | exact HB.out)⟩⟩
      ·
       rw [if_neg c13] at H
       exact absurd H (by simp)
     ·
      rw [if_neg c12] at H
      exact absurd H (by simp)
    ·
     rw [if_neg c11] at H
     have c11b0 : decide (x14_1 < (t103.length : Int)) = false := decide_eq_false c11
     clear c11
     simp only [Option.some.injEq, Prod.mk.injEq] at H
     obtain ⟨rfl, rfl⟩ := H
     go_wp2
     go_ret2
     exact ⟨by first | rfl | (simp [errW_none, errW_some] <;> rfl) | (simp [*, errW_none, errW_some] <;> rfl), by repeat (first | (with_reducible first | exact HB.out | apply zc | apply ze | apply zb | refine zd ?_ GE101.out) | exact HB.out)⟩
 ·
  replace c3 := Bool.eq_false_iff.mpr c3
  subst c3
  have H1 : (some (0, false)) = some (r1, r2) := by rw [if_neg (show ¬ (false = true) by decide)] at H; exact H
  clear H
  have H := H1
  clear H1
  simp only [Option.some.injEq, Prod.mk.injEq] at H
  obtain ⟨rfl, rfl⟩ := H
  go_enter Try.func22, Try.ntmps22
  go_wp2_with (first | ((with_reducible refine gate_dst (N := 1) rfl ?_); refine box_event ?hg (N := 1) ?hd (cs := #[.int .i64 a0_0, .int .i64 a0_1, .slice A0_2 l0_2.length c0_2]) (t := 26) ?hr ?_; (case hd => rfl); (case hg => rfl); (case hr => first | (go_simp; done) | (go_simp; rfl)); intro gb101 hg w19 hbox hb; have n0_ := za (zv (by repeat (first | (with_reducible first | exact HB.out | apply zc | apply ze | apply zb) | exact HB.out)) hb); have n1_ := za (hbox); have n2_ := za ((by rw [hg]; exact (zn (by repeat (first | (with_reducible first | exact HB.out | apply zc | apply ze | apply zb) | exact HB.out))) : w.heap.size ≤ gb101)); have n3_ := za ((by rw [hg]; exact (zn (by repeat (first | (with_reducible first | exact HB.out | apply zc | apply ze | apply zb) | exact HB.out))) : w.heap.size ≤ gb101)); clear HB; have HB := n0_; have BK101 := n1_; have GW101 := n2_; have GE101 := n3_; clear n0_ n1_ n2_ n3_; clear hb hbox hg; have hcz20_0 : w19.cell? ⟨gb101, 0, none⟩ = some (.int .i64 a0_0) := (zg BK101.out 0).trans rfl; have hcz20_1 : w19.cell? ⟨gb101, 1, none⟩ = some (.int .i64 a0_1) := (zg BK101.out 1).trans rfl; have hcz20_2 : w19.cell? ⟨gb101, 2, none⟩ = some (.slice A0_2 l0_2.length c0_2) := (zg BK101.out 2).trans rfl; have hfz20_0 := zj BK101.out 0; have hfz20_1 := zj BK101.out 1; have hfz20_2 := zj BK101.out 2) | ((with_reducible refine zu (f := 76) rfl ?_); refine goesL_ (some 8) rfl rfl Try.func76 (by kernel_rfl) rfl #[.agg #[.int .i64 a0_0, .int .i64 a0_1, .slice A0_2 l0_2.length c0_2]] rfl (by (try simp only [List.map_toArray, List.map_cons, List.map_nil]); first | done | rfl | (simp only [List.length_drop, List.length_take]; rfl)) ?_; (with_reducible refine (spec_boGood.calls k a0_0 a0_1 _ _ l0_2 false _ ?side1 ?side2 A2.out).mono ?_); (case side1 => repeat (first | exact (zE HR0_2.out HB.out) | (with_reducible refine zw ?_ _) | (with_reducible refine zx ?_ _) | (with_reducible refine zy ?_))); (case side2 => exact HC0_2.out); rintro e w21 ⟨rfl, hb⟩; refine ⟨_, rfl, ?_⟩; have n0_ := za (zB (g := gb101) (o := .cells #[.int .i64 a0_0, .int .i64 a0_1, .slice A0_2 l0_2.length c0_2] 26 (0, 0)) (by (with_reducible repeat (first | refine zh ?_ _ | refine zf ?_ | refine zi ?_ _)); exact BK101.out) hb); have n1_ := za (zv (by repeat (first | (with_reducible first | exact HB.out | apply zc | apply ze | apply zb | refine zd ?_ GE101.out) | exact HB.out)) hb); clear BK101 HB; have BK101 := n0_; have HB := n1_; clear n0_ n1_; (try clear hb); (try clear hb2); (try clear hk); (try clear hi)))
  go_ret2
  exact ⟨by first | rfl | (simp [errW_none, errW_some] <;> rfl) | (simp [*, errW_none, errW_some] <;> rfl), by repeat (first | (with_reducible first | exact HB.out | apply zc | apply ze | apply zb | refine zd ?_ GE101.out) | exact HB.out)⟩
end Go.Proofs.Ytgnmcfoenmfhcaa.Q
end
section
namespace Go.Proofs.Ytgnmcfoenmfhcaa.Q
open Go.RowKit Go.Proofs.YtgnmcfoenmfhcaaW.PrintWords Go.Proofs.YtgnmcfoenmfhcaaW.PrintLast Go.Proofs.YtgnmcfoenmfhcaaW.PrintMore
attribute [local go_sem] max2_int min2_int max_two min_two max_three min_three max_four min_four   -- for this text's walks alone
set_option linter.unusedVariables false
set_option linter.unusedSimpArgs false
def impl_trimmed.l0 : Nat → List Int → Option (List Int)
 | 0, _ => none
 | k + 1, x0 => if (x0.length : Int) > 0 then (if 0 ≤ (wrap64 ((x0.length : Int) - 1)) then (if (wrap64 ((x0.length : Int) - 1)) < (x0.length : Int) then (if (rd x0 (wrap64 ((x0.length : Int) - 1))) = 0 then (if (wrap64 ((x0.length : Int) - 1)) ≤ (x0.length : Int) then (impl_trimmed.l0 k (x0.take ((wrap64 ((x0.length : Int) - 1)) : Int).toNat)) else (none)) else (some x0)) else (none)) else (none)) else (some x0)
def impl_trimmed.f (k : Nat) (l0 : List Int) : Option (List Int) := impl_trimmed.l0 k l0
set_option maxHeartbeats 8000000 in
set_option maxRecDepth 100000 in
theorem impl_trimmed.calls (k : Nat) (P0_ : Nat → Prop) (A0 : Option Addr) (c0 : Nat) (l0 : List Int) (r : List Int) (w : World) (hs0 : Kd.V (Kd.int .i64) 3 w w.heap.size (fun k_ => P0_ k_) (.slice A0 l0.length c0) l0) (h : impl_trimmed.f k l0 = some r) :
  Calls Try.prog 123 #[.slice A0 l0.length c0] w fun e w' => ∃ v0_ : Value, e = .returned (v0_) ∧ Kd.V (Kd.int .i64) 3 w' w.heap.size (fun k_ => (P0_ k_ ∨ w.heap.size ≤ k_)) v0_ r ∧ Below w.heap.size w w' := by
 have HO0 := za (show Kd.V (Kd.int .i64) 3 w w.heap.size (fun k_ => (P0_ k_ ∨ w.heap.size ≤ k_)) (.slice A0 l0.length c0) l0 from Kd.V_mono hs0 (fun k_ hk => .inl hk))
 have HB := za (Below.refl w.heap.size w)
 have H : (impl_trimmed.l0 k l0) = some r := h
 clear h
 have H' := za H
 clear H
 go_enter Try.func123, Try.ntmps123
 go_wp2
 go_loopg [0] k (fun kq v0 w' => ∃ (x0_1 : List Int), Aside0 (impl_trimmed.l0 kq x0_1 = some r) ∧ Aside0 (kq ≤ k) ∧ Aside0 (Kd.V (Kd.int .i64) 3 w' w.heap.size (fun k_ => (P0_ k_ ∨ w.heap.size ≤ k_)) v0 x0_1) ∧ Aside0 (Below w.heap.size w w'))
 case atStart => exact ⟨(l0), H', ⟨Nat.le_refl _⟩, ⟨by (with_reducible repeat (first | apply Kd.V_alloc | apply Kd.V_drewN | apply Kd.V_drew)); exact HO0.out⟩, ⟨by repeat (first | (with_reducible first | exact HB.out | apply zc | apply ze | apply zb) | exact HB.out)⟩⟩
 case round =>
  clear H'
  try clear c1
  obtain ⟨x0_1, HA, HK1, HO_0, HB⟩ := hrel
  cases gk with
  | zero => exact absurd HA.out (by simp [impl_trimmed.l0])
  | succ k1 =>
   have H := HA.out
   clear HA
   simp only [impl_trimmed.l0] at H
   by_cases c2 : (x0_1.length : Int) > 0
   ·
    rw [if_pos c2] at H
    have c2b0 : decide (0 < (x0_1.length : Int)) = true := decide_eq_true c2
    have c2b1 : decide (0 < x0_1.length) = true := decide_eq_true (by omega)
    clear c2
    obtain ⟨ji3, hji3⟩ : ∃ j_ : Int, (wrap64 ((x0_1.length : Int) - 1)) = j_ := ⟨_, rfl⟩
    replace H : (if 0 ≤ (ji3) then (if (ji3) < (x0_1.length : Int) then (if (rd x0_1 (ji3)) = 0 then (if (ji3) ≤ (x0_1.length : Int) then (impl_trimmed.l0 k1 (x0_1.take ((ji3) : Int).toNat)) else (none)) else (some x0_1)) else (none)) else (none)) = some r := by first | (rw [hji3] at H; exact H) | (simp only [hji3] at H ⊢; exact H)
    have hji3w : (IntKind.i64.wrap ((x0_1.length : Int) - 1)) = ji3 := (i64_w _).trans hji3
    by_cases c4 : 0 ≤ (ji3)
    ·
     rw [if_pos c4] at H
     have c4b0 : decide (0 ≤ (ji3)) = true := decide_eq_true c4
     clear c4
     by_cases c5 : (ji3) < (x0_1.length : Int)
     ·
      rw [if_pos c5] at H
      have c5b0 : decide ((ji3) < (x0_1.length : Int)) = true := decide_eq_true c5
      clear c5
      by_cases c6 : (rd x0_1 (ji3)) = 0
      ·
       rw [if_pos c6] at H
       have c6b0 : ((rd x0_1 (ji3)) == 0) = true := beq_iff_eq.mpr c6
       have c6b1 : ((rd x0_1 (ji3)) != 0) = false := bne_eq_false_iff_eq.mpr c6
       clear c6
       have c7b0 := eq_true (of_decide_eq_true (by first | (with_reducible assumption) | assumption) : 0 ≤ (ji3))
       by_cases c8 : (ji3) ≤ (x0_1.length : Int)
       ·
        rw [if_pos c8] at H
        have c8b0 := eq_true c8
        have c8b1 : decide ((ji3) ≤ (x0_1.length : Int)) = true := decide_eq_true c8
        clear c8
        obtain ⟨y102, hy102⟩ : ∃ y_ : List Int, y_ = (x0_1.take ((ji3) : Int).toNat) := ⟨_, rfl⟩
        replace H : (impl_trimmed.l0 k1 y102) = some r := by first | (rw [hy102]; with_reducible exact H) | (have H2_ := (Option.bind_some _ _).symm.trans H; rw [hy102]; with_reducible exact H2_) | (have H2_ := (Option.bind_some _ _).symm.trans H; with_reducible exact H2_) | with_reducible exact H | (rw [hy102]; exact H) | exact H
        have Ny102 := za hy102
        clear hy102
        have H' := za H
        clear H
        obtain ⟨Ao9, co9, eo9⟩ := Kd.V_slice HO_0.out
        subst eo9
        have p101 : 0 ≤ ((ji3) : Int) := of_decide_eq_true (by first | (with_reducible assumption) | assumption)
        have q101 : (ji3) < (x0_1.length : Int) := of_decide_eq_true (by first | (with_reducible assumption) | assumption)
        obtain ⟨ad101, e101, hx101_0⟩ := Kd.at_int (Kd.V_reads' HO_0.out).2.2 (ji3) p101 q101
        cases e101
        replace p101 := eq_true p101
        replace q101 := eq_true q101
        have q10 : ((ji3) : Int) ≤ ((x0_1.length : Int) : Int) := of_decide_eq_true (by first | (with_reducible assumption) | assumption)
        obtain ⟨i010, hi010, _, hsz10, _⟩ := info_parts info3
        have hroom10 : x0_1.length ≤ co9 := (Kd.V_reads' HO_0.out).2.1
        have hC10 : Kd.F (Kd.int .i64) _ _ (some ad101) x0_1.length x0_1 := (Kd.V_at (base := w.heap.size) HO_0.out).2.2
        have hcut10 := cut_to (P := Try.prog) 24 3 .i64 Try.underlying24 hi010 (some ad101) x0_1.length co9 (ji3) (of_decide_eq_true (by first | (with_reducible assumption) | assumption)) q10 hroom10
        have hr10 := Kd.F_take (m := ((ji3) : Int).toNat) hC10 (by omega)
        have hy10 : y102.length = ((ji3) : Int).toNat := (by rw [Ny102.out, List.length_take]; omega)
        rw [← Ny102.out] at hr10
        rw [← hy10] at hcut10
        have HO106 := za (show Kd.V (Kd.int .i64) 3 _ w.heap.size _ (.slice (some ad101) y102.length co9) y102 from Kd.V_mk (by omega) hr10)
        have HC106 := za (show y102.length ≤ co9 from by omega)
        clear hr10 hC10 hroom10 hi010 hsz10
        have KY10 := za hy10
        clear hy10
        replace q10 := eq_true q10
        go_wp2
        go_roundg k1
        case measure => have := HK1.out; omega
        case rel => exact ⟨(y102), H', ⟨by have := HK1.out; omega⟩, ⟨by (with_reducible repeat (first | apply Kd.V_alloc | apply Kd.V_drewN | apply Kd.V_drew)); exact HO106.out⟩, ⟨by repeat (first | (with_reducible first | exact HB.out | apply zc | apply ze | apply zb) | exact HB.out)⟩⟩
       ·
        rw [if_neg c8] at H
        exact absurd H (by simp)
      ·
       rw [if_neg c6] at H
       have c6b0 : ((rd x0_1 (ji3)) == 0) = false := beq_eq_false_iff_ne.mpr c6
       have c6b1 : ((rd x0_1 (ji3)) != 0) = true := bne_iff_ne.mpr c6
       obtain rfl := Option.some.inj H
       obtain ⟨Ao11, co11, eo11⟩ := Kd.V_slice HO_0.out
       subst eo11
       have p101 : 0 ≤ ((ji3) : Int) := of_decide_eq_true (by first | (with_reducible assumption) | assumption)
       have q101 : (ji3) < (x0_1.length : Int) := of_decide_eq_true (by first | (with_reducible assumption) | assumption)
       obtain ⟨ad101, e101, hx101_0⟩ := Kd.at_int (Kd.V_reads' HO_0.out).2.2 (ji3) p101 q101
       cases e101
       replace p101 := eq_true p101
       replace q101 := eq_true q101
       go_wp2
       go_ret
       exact ⟨_, by first | rfl | (simp [errW_none, errW_some] <;> rfl) | (simp only [← hji3]; first | rfl | (simp [errW_none, errW_some] <;> rfl)) | (simp [*, errW_none, errW_some] <;> rfl), by (with_reducible repeat (first | apply Kd.V_alloc | apply Kd.V_drewN | apply Kd.V_drew)); exact HO_0.out, by repeat (first | (with_reducible first | exact HB.out | apply zc | apply ze | apply zb) | exact HB.out)⟩
     ·
      rw [if_neg c5] at H
      exact absurd H (by simp)
    ·
     rw [if_neg c4] at H
     exact absurd H (by simp)
   ·
    rw [if_neg c2] at H
    have c2b0 : decide (0 < (x0_1.length : Int)) = false := decide_eq_false c2
    have c2b1 : decide (0 < x0_1.length) = false := decide_eq_false (by omega)
    clear c2
    obtain rfl := Option.some.inj H
    obtain ⟨Ao12, co12, eo12⟩ := Kd.V_slice HO_0.out
    subst eo12
    go_wp2
    go_ret
    exact ⟨_, by first | rfl | (simp [errW_none, errW_some] <;> rfl) | (simp [*, errW_none, errW_some] <;> rfl), by (with_reducible repeat (first | apply Kd.V_alloc | apply Kd.V_drewN | apply Kd.V_drew)); exact HO_0.out, by repeat (first | (with_reducible first | exact HB.out | apply zc | apply ze | apply zb) | exact HB.out)⟩
end Go.Proofs.Ytgnmcfoenmfhcaa.Q
end
section
namespace Go.Proofs.Ytgnmcfoenmfhcaa.Walk
set_option linter.unusedVariables false
open Go.RowKit Go.Proofs.YtgnmcfoenmfhcaaW.PrintWords Go.Proofs.YtgnmcfoenmfhcaaW.PrintLast Go.Proofs.YtgnmcfoenmfhcaaW.PrintMore
open Go.Proofs.YtgnmcfoenmfhcaaL Go.Proofs.Ytgnmcfoenmfhcaa.LawK Go.Proofs.Ytgnmcfoenmfhcaa.BoardK
theorem mem_iota {m : Int} {n : Nat} {x : Int} (h1 : m ≤ x) (h2 : x < m + n) : x ∈ iota m n := by
  have hi : (x - m).toNat < (iota m n).length := by rw [iota_length]; omega
  have := iota_get n m (x - m).toNat hi
  rw [show x = (iota m n)[(x - m).toNat] by rw [this]; omega]
  exact List.getElem_mem hi
def colWays (l : List Int) (r t : Nat) (pre : List Int) (next : Nat → List Int → List (List Int)) (c : Int) : List (List Int) :=
  if c < 0 then next t (pre ++ [c])
  else if cell l r c.toNat && !t.testBit c.toNat then next (t ||| 2 ^ c.toNat) (pre ++ [c]) else []
def waysFrom (l : List Int) (C : Nat) : Nat → Nat → Nat → List Int → List (List Int)
  | 0, _, _, pre => [pre]
  | d + 1, r, t, pre => (iota (-1) (C + 1)).flatMap (colWays l r t pre (waysFrom l C d (r + 1)))
theorem iota_cut : ∀ (j n : Nat) (m : Int), j < n → iota m n = iota m j ++ (m + j) :: iota (m + j + 1) (n - j - 1)
  | 0, n + 1, m, _ => by rw [iota, iota]; simp
  | j + 1, n + 1, m, h => by
    rw [iota, iota, iota_cut j n (m + 1) (by omega), List.cons_append]
    have e1 : m + 1 + (j : Int) = m + ((j + 1 : Nat) : Int) := by omega
    rw [e1, show n + 1 - (j + 1) - 1 = n - j - 1 by omega]
theorem ways_cut (l : List Int) (C d r t : Nat) (pre : List Int) (j : Nat) (hj : j < C + 1) {x : Int} (hx : x = -1 + j) :
    waysFrom l C (d + 1) r t pre = (iota (-1) j).flatMap (colWays l r t pre (waysFrom l C d (r + 1))) ++ (colWays l r t pre (waysFrom l C d (r + 1)) x ++ (iota (x + 1) (C + 1 - j - 1)).flatMap (colWays l r t pre (waysFrom l C d (r + 1)))) := by
  rw [waysFrom, iota_cut j (C + 1) (-1) hj, List.flatMap_append, List.flatMap_cons, hx]
theorem ways_len (l : List Int) (C : Nat) : ∀ (d r t : Nat) (pre : List Int), (waysFrom l C d r t pre).length ≤ (C + 1) ^ d
  | 0, r, t, pre => by simp [waysFrom]
  | d + 1, r, t, pre => by
    have hc : ∀ c, (colWays l r t pre (waysFrom l C d (r + 1)) c).length ≤ (C + 1) ^ d := by
      intro c
      unfold colWays
      split
      · exact ways_len l C d (r + 1) _ _
      · split
        · exact ways_len l C d (r + 1) _ _
        · exact Nat.zero_le _
    have hf : ∀ (n : Nat) (m : Int), ((iota m n).flatMap (colWays l r t pre (waysFrom l C d (r + 1)))).length ≤ n * (C + 1) ^ d := by
      intro n
      induction n with
      | zero => intro m; simp [iota]
      | succ n ih =>
        intro m
        rw [iota, List.flatMap_cons, List.length_append, Nat.succ_mul]
        have h1 := hc m
        have h2 := ih (m + 1)
        omega
    rw [waysFrom, Nat.pow_succ, Nat.mul_comm]
    exact hf (C + 1) (-1)
structure Blks where (b d a p g r : Nat)
structure Blks.Apart (k : Blks) : Prop where
  bd : k.b ≠ k.d
  ba : k.b ≠ k.a
  bp : k.b ≠ k.p
  bg : k.b ≠ k.g
  br : k.b ≠ k.r
  da : k.d ≠ k.a
  dp : k.d ≠ k.p
  dg : k.d ≠ k.g
  dr : k.d ≠ k.r
  ap : k.a ≠ k.p
  ag : k.a ≠ k.g
  ar : k.a ≠ k.r
  pg : k.p ≠ k.g
  pr : k.p ≠ k.r
  gr : k.g ≠ k.r
def Blks.has (k : Blks) (i : Nat) : Prop := i = k.b ∨ i = k.d ∨ i = k.a ∨ i = k.p ∨ i = k.g ∨ i = k.r
structure Still (S : Nat → Prop) (w w' : World) : Prop where
  kept : Kept w w' S
  os : w'.os = w.os
  tape : w'.tape = w.tape
  output : w'.output = w.output
theorem Still.refl (S : Nat → Prop) (w : World) : Still S w w := ⟨Kept.refl _ _, rfl, rfl, rfl⟩
theorem Still.of_below {S : Nat → Prop} {w w' : World} (h : Below w.heap.size w w') : Still S w w' := ⟨Kept.of_below h S, h.os, h.tape, h.output⟩
theorem Still.set {S : Nat → Prop} (w : World) {a : Addr} (h : S a.block) (v : Value) : Still S w (w.setCell a v) := ⟨Kept.setCell (Kept.refl _ _) (.inl h) v, rfl, rfl, rfl⟩
theorem Still.drewN {S : Nat → Prop} (w : World) (n : Nat) : Still S w (w.drewN n) := ⟨Kept.drewN (Kept.refl _ _) n, rfl, rfl, rfl⟩
theorem Still.trans {S : Nat → Prop} {a b c : World} (h : Still S a b) (k : Still S b c) : Still S a c := ⟨h.kept.then_ k.kept (fun _ hk => .inl hk), k.os.trans h.os, k.tape.trans h.tape, k.output.trans h.output⟩
theorem Still.below {S : Nat → Prop} {w0 w w' : World} (h : Below w0.heap.size w0 w) (k : Still S w w') (hS : ∀ i, S i → w0.heap.size ≤ i) : Below w0.heap.size w0 w' :=
  ⟨k.os.trans h.os, k.tape.trans h.tape, k.output.trans h.output, Nat.le_trans h.size k.kept.1, fun i hi => (k.kept.2 i (Nat.lt_of_lt_of_le hi h.size) (fun hs => by have := hS i hs; omega)).trans (h.block i hi)⟩
structure WSt (k : Blks) (Inv : List (List Int) → World → Prop) (RI CI : Int) (n cp : Nat) (l : List Int) (A0 : Option Addr) (c0 : Nat) (F : Value) (vis : List (List Int)) (ps : List Int) (w : World) : Prop where
  cB : w.heap[k.b]? = some (.cells #[.int .i64 RI, .int .i64 CI, .slice A0 l.length c0] 26 (0, 0))
  cD : w.heap[k.d]? = some (.cells #[F] 93 (0, 0))
  cA : Kd.R (Kd.int .i64) 3 w 0 (fun i => i = k.a) (.slice (some ⟨k.a, 0, none⟩) n cp) ps
  cP : w.heap[k.p]? = some (.cells #[.slice (some ⟨k.a, 0, none⟩) n cp] 24 (0, 0))
  cG : w.heap[k.g]? = some (.cells #[.bool true] 4 (0, 0))
  cR : w.heap[k.r]? = some (.cells #[.func (.func 160) #[] #[.pointer (some ⟨k.b, 0, none⟩), .pointer (some ⟨k.d, 0, none⟩), .pointer (some ⟨k.p, 0, none⟩), .pointer (some ⟨k.g, 0, none⟩), .pointer (some ⟨k.r, 0, none⟩)]] 129 (0, 0))
  inv : Inv vis w
section
variable {k : Blks} {Inv : List (List Int) → World → Prop} {RI CI : Int} {n cp : Nat} {l : List Int} {A0 : Option Addr} {c0 : Nat} {F : Value} {vis : List (List Int)} {ps : List Int} {w w' : World}
theorem WSt.below (hI : ∀ vis w w', Inv vis w → Still k.has w w' → Inv vis w') (h : WSt k Inv RI CI n cp l A0 c0 F vis ps w) (hb : Below w.heap.size w w') : WSt k Inv RI CI n cp l A0 c0 F vis ps w' :=
  ⟨blk_below h.cB hb, blk_below h.cD hb, Kd.R_below h.cA hb, blk_below h.cP hb, blk_below h.cG hb, blk_below h.cR hb, hI _ _ _ h.inv (Still.of_below hb)⟩
theorem WSt.drewN (hI : ∀ vis w w', Inv vis w → Still k.has w w' → Inv vis w') (h : WSt k Inv RI CI n cp l A0 c0 F vis ps w) (m : Nat) : WSt k Inv RI CI n cp l A0 c0 F vis ps (w.drewN m) :=
  h.below hI (pw_below_drewN (Below.refl _ _) m)
theorem WSt.setA (hI : ∀ vis w w', Inv vis w → Still k.has w w' → Inv vis w') (hk : k.Apart) (h : WSt k Inv RI CI n cp l A0 c0 F vis ps w) (i c : Int) : WSt k Inv RI CI n cp l A0 c0 F vis (ps.set i.toNat c) (w.setCell ⟨k.a, i.toNat, none⟩ (.int .i64 c)) :=
  ⟨blk_far h.cB hk.ba _, blk_far h.cD hk.da _, Kd.R_putn h.cA i c, blk_far h.cP hk.ap.symm _, blk_far h.cG hk.ag.symm _, blk_far h.cR hk.ar.symm _, hI _ _ _ h.inv (Still.set w (.inr (.inr (.inl rfl))) _)⟩
theorem WSt.setG (hI : ∀ vis w w', Inv vis w → Still k.has w w' → Inv vis w') (hk : k.Apart) (h : WSt k Inv RI CI n cp l A0 c0 F vis ps w) : WSt k Inv RI CI n cp l A0 c0 F vis ps (w.setCell ⟨k.g, 0, none⟩ (.bool true)) :=
  ⟨blk_far h.cB hk.bg _, blk_far h.cD hk.dg _, Kd.R_far h.cA (fun i hi => by rw [hi]; exact hk.ag) _, blk_far h.cP hk.pg _, blk_put h.cG 0 _ rfl, blk_far h.cR hk.gr.symm _, hI _ _ _ h.inv (Still.set w (.inr (.inr (.inr (.inr (.inl rfl))))) _)⟩
end
end Go.Proofs.Ytgnmcfoenmfhcaa.Walk
end
section
namespace Go.Proofs.Ytgnmcfoenmfhcaa.WalkNum
set_option linter.unusedVariables false
open Go.RowKit Go.Proofs.YtgnmcfoenmfhcaaW.PrintWords Go.Proofs.YtgnmcfoenmfhcaaW.PrintLast Go.Proofs.YtgnmcfoenmfhcaaW.PrintMore
open Go.Proofs.YtgnmcfoenmfhcaaL Go.Proofs.Ytgnmcfoenmfhcaa.LawK Go.Proofs.Ytgnmcfoenmfhcaa.BoardK Go.Proofs.Ytgnmcfoenmfhcaa.Walk Go.Proofs.Ytgnmcfoenmfhcaa.Q
theorem run_store_func {P : Program} {w : World} {a : Addr} {m : Mode} (f : Fn) (xs : Array Value) (ys : Array Value) : (store a (.func f xs ys) m).run P w = stored P w a (.func f xs ys) m := run_store P w a _ m rfl
attribute [local go_sem] run_store_func
section
variable (k : Blks) (hk : k.Apart) (Inv : List (List Int) → World → Prop) (hI : ∀ vis w w', Inv vis w → Still k.has w w' → Inv vis w') (R C : Nat) (RI CI : Int) (hRI : RI = R) (hCI : CI = C) (l : List Int) (A0 : Option Addr) (c0 cp : Nat) (hc0 : l.length ≤ c0) (cc1 : Value)
  (hL : ∀ vis w, Inv vis w → Kd.C (Kd.int .i64) w A0 l.length l)
  (hl : l.length = R) (hR : R ≤ 6) (hC : C ≤ 6) (hb : ∀ i (hi : i < l.length), 0 ≤ l[i] ∧ l[i] < 2 ^ C)
  (P : List (List Int) → List Int → Prop) (hdo : ∀ vis ps w, ps.length = R → P vis ps → WSt k Inv RI CI R cp l A0 c0 (.func (.func 143) #[] #[cc1]) vis ps w →
    Calls Try.prog 143 #[.slice (some ⟨k.a, 0, none⟩) R cp, cc1] w fun e w' => e = .returned (.bool true) ∧ WSt k Inv RI CI R cp l A0 c0 (.func (.func 143) #[] #[cc1]) (vis ++ [ps]) ps w')
include hk hI hRI hCI hc0 hL hl hR hC hb hdo
set_option maxHeartbeats 4000000 in
set_option maxRecDepth 100000 in
theorem row_calls : ∀ (d r t : Nat) (rI tI : Int), rI = r → tI = t → r + d = R → t < 64 → ∀ vis ps w, ps.length = R → (∀ a q b, waysFrom l C d r t (ps.take r) = a ++ q :: b → P (vis ++ a) q) → WSt k Inv RI CI R cp l A0 c0 (.func (.func 143) #[] #[cc1]) vis ps w →
  Calls Try.prog 160 #[.int .i64 rI, .int .i64 tI, .pointer (some ⟨k.b, 0, none⟩), .pointer (some ⟨k.d, 0, none⟩), .pointer (some ⟨k.p, 0, none⟩), .pointer (some ⟨k.g, 0, none⟩), .pointer (some ⟨k.r, 0, none⟩)] w fun e w' => e = .returned (.tuple #[]) ∧
   ∃ ps', ps'.length = R ∧ ps'.take r = ps.take r ∧ WSt k Inv RI CI R cp l A0 c0 (.func (.func 143) #[] #[cc1]) (vis ++ waysFrom l C d r t (ps.take r)) ps' w'
 | 0, r, t, rI, tI, hr, ht, hrd, ht6, vis, ps, w, hps, hPP, hst => by
  have hP0 : P vis ps := by have := hPP [] ps [] (by rw [waysFrom, List.take_of_length_le (by omega)]; rfl); rwa [List.append_nil] at this
  have CX := Lib.hid (fun W (h : Aside0 (WSt k Inv RI CI R cp l A0 c0 (.func (.func 143) #[] #[cc1]) vis ps W)) => hdo vis ps W hps hP0 h.out)
  have MV := Lib.hid (fun W (h : Aside0 (WSt k Inv RI CI R cp l A0 c0 (.func (.func 143) #[] #[cc1]) (vis ++ [ps]) ps W)) => h.out.setG hI hk)
  have e0 : (rI == RI) = true := beq_iff_eq.mpr (by omega)
  have e1 := za (show ps.take r = ps from List.take_of_length_le (by omega))
  have hz1 : w.cell? ⟨k.b, 0, none⟩ = some (.int .i64 RI) := (zg hst.cB 0).trans rfl
  have hz2 : w.cell? ⟨k.d, 0, none⟩ = some (.func (.func 143) #[] #[cc1]) := (zg hst.cD 0).trans rfl
  have hz3 : w.cell? ⟨k.p, 0, none⟩ = some (.slice (some ⟨k.a, 0, none⟩) R cp) := (zg hst.cP 0).trans rfl
  have HS := za hst
  have HP := za hps
  have hu24 := Try.underlying26
  clear hdo hst hps hr ht hrd ht6 hRI hCI hk hI hL hl hR hC hb hc0 hPP hP0
  go_enter Try.func160, Try.ntmps160
  go_wp2_with (first | (go_at_call 143; (refine (CX.out _ HS).mono ?_); rintro e w2 ⟨rfl, hs2⟩; have hz4 : w2.cell? ⟨k.g, 0, none⟩ = some (.bool true) := (zg hs2.cG 0).trans rfl; have hf4 := zj hs2.cG 0; have HS2 := za hs2; clear hs2))
  first | go_end0 | ((try simp only [Exit.inBlock, Exit.then]); refine bodyPost_ret (results_none rfl _ _ _) rfl ?_)
  refine ⟨rfl, ps, HP.out, rfl, ?_⟩
  rw [e1.out]
  exact MV.out _ HS2
 | d + 1, r, t, rI, tI, hr, ht, hrd, ht6, vis, ps, w, hps, hPP, hst => by
  have IH := Lib.hid (fun (t' : Nat) (tI' : Int) (h2 : tI' = (t' : Int)) (h3 : t' < 64) vis ps W (h4 : ps.length = R) (h5 : ∀ a q b, waysFrom l C d (r + 1) t' (ps.take (r + 1)) = a ++ q :: b → P (vis ++ a) q) (h : WSt k Inv RI CI R cp l A0 c0 (.func (.func 143) #[] #[cc1]) vis ps W) => row_calls d (r + 1) t' (wrap64 (rI + 1)) tI' (by rw [hr, w64 (by omega) (by omega)]; rfl) h2 (by omega) h3 vis ps W h4 h5 h)
  have MVB := Lib.hid (fun vis ps W W' (h : WSt k Inv RI CI R cp l A0 c0 (.func (.func 143) #[] #[cc1]) vis ps W) (hb : Below W.heap.size W W') => h.below hI hb)
  have MVA := Lib.hid (fun vis ps W (h : WSt k Inv RI CI R cp l A0 c0 (.func (.func 143) #[] #[cc1]) vis ps W) (i c : Int) => h.setA hI hk i c)
  have HL := Lib.hid (fun vis ps W (h : WSt k Inv RI CI R cp l A0 c0 (.func (.func 143) #[] #[cc1]) vis ps W) => hL vis W h.inv)
  have HASF := Lib.hid (fun (j : Nat) (hj : j ≤ 64) => has_f RI CI (l := l) (i := r) (j := j) (by omega) (hb r (by omega)).1 (by have := (hb r (by omega)).2; have := two_pow_six hC; omega) hj)
  have e0 : (rI == RI) = false := beq_eq_false_iff_ne.mpr (by omega)
  have z1 : w.cell? ⟨k.b, 0, none⟩ = some (.int .i64 RI) := (zg hst.cB 0).trans rfl
  have HS := za hst
  have HP := za hps
  have HR := za hr
  have HT := za ht
  have HT6 := za ht6
  have HRD := za hrd
  have HCI := za hCI
  have HC0 := za hc0
  have HC6 := za hC
  have HR6 := za hR
  have hu24 := Try.underlying26
  obtain ⟨pre, hpre⟩ : ∃ pre, pre = ps.take r := ⟨_, rfl⟩
  rw [← hpre] at hPP ⊢
  have HPP := za hPP
  have HPRE := za hpre
  have plt := eq_true (show 0 ≤ rI by omega)
  have plt2 := eq_true (show rI < (R : Int) by omega)
  clear hdo hst hps hr ht hrd ht6 hRI hCI hk hI hL hl hR hC hb hc0 hpre hPP row_calls
  go_enter Try.func160, Try.ntmps160
  go_wp2
  go_loopg [9] (C + 1) (fun kq v9 w' => ∃ (x9 : Int), v9 = .int .i64 x9 ∧ Aside0 (∃ (j : Nat) (ps' : List Int), x9 = -1 + j ∧ j + kq = C + 1 ∧ ps'.length = R ∧ ps'.take r = pre ∧ WSt k Inv RI CI R cp l A0 c0 (.func (.func 143) #[] #[cc1]) (vis ++ (iota (-1) j).flatMap (colWays l r t pre (waysFrom l C d (r + 1)))) ps' w'))
  case atStart => exact ⟨-1, rfl, ⟨0, ps, by omega, by omega, HP.out, HPRE.out.symm, by simpa [iota] using HS.out⟩⟩
  case round =>
   clear z1
   obtain ⟨x9, rfl, HX⟩ := hrel
   obtain ⟨j, qs, hx, hj, hql, hqt, hs⟩ := HX.out
   clear HX
   have HX := za hx
   have HQL := za hql
   have HQT := za hqt
   have HS2 := za hs
   have HJ := za hj
   have z1 : wr.cell? ⟨k.b, 1, none⟩ = some (.int .i64 CI) := (zg hs.cB 1).trans rfl
   have z2 : wr.cell? ⟨k.g, 0, none⟩ = some (.bool true) := (zg hs.cG 0).trans rfl
   have z3 : wr.cell? ⟨k.b, 0, none⟩ = some (.int .i64 RI) := (zg hs.cB 0).trans rfl
   have z4 : wr.cell? ⟨k.b, 2, none⟩ = some (.slice A0 l.length c0) := (zg hs.cB 2).trans rfl
   clear hx hj hql hqt hs
   by_cases c1 : x9 < CI
   ·
    have c1b : decide (x9 < CI) = true := decide_eq_true c1
    cases gk with
    | zero => exact absurd c1 (by have := HX.out; have := HJ.out; have := HCI.out; omega)
    | succ k1 =>
     have EW := za (show wrap64 (x9 + 1) = -1 + ((j + 1 : Nat) : Int) by have := HX.out; have := HJ.out; have := HC6.out; rw [w64 (by omega) (by omega)]; omega)
     have EJ := za (show j + 1 + k1 = C + 1 by have := HJ.out; omega)
     have ES := za (show (iota (-1) (j + 1)).flatMap (colWays l r t pre (waysFrom l C d (r + 1))) = (iota (-1) j).flatMap (colWays l r t pre (waysFrom l C d (r + 1))) ++ colWays l r t pre (waysFrom l C d (r + 1)) x9 by rw [iota_snoc, List.flatMap_append, HX.out]; simp)
     have C1 := za c1
     clear c1
     by_cases c2 : 0 ≤ x9
     ·
      have c2b : decide (0 ≤ x9) = true := decide_eq_true c2
      have c2e := eq_true c2
      obtain ⟨xn, hxn⟩ : ∃ xn : Nat, x9 = xn := ⟨x9.toNat, by omega⟩
      have HXN := za hxn
      have HX6 := za (show xn < 6 by have := C1.out; have := HCI.out; have := HC6.out; omega)
      have A1 := za (show impl_Board_has.f RI CI l rI x9 = some (cell l r xn) by rw [HR.out, hxn]; exact HASF.out xn (by have := HX6.out; omega))
      obtain ⟨sh, hsh⟩ : ∃ s : Int, shr .i64 tI x9 = s := ⟨_, rfl⟩
      have hsh1 : (tI / 2 ^ min x9.toNat 64) = sh := hsh
      have BT : Go.bits .and .i64 sh 1 = if t.testBit xn then 1 else 0 := by rw [← hsh, HT.out, hxn]; exact bit_and t xn (by have := HT6.out; omega) (by have := HX6.out; omega)
      clear c2 hxn
      by_cases c3 : cell l r xn = true
      ·
       rw [c3] at A1
       by_cases c4 : t.testBit xn = true
       ·
        have c4b : (Go.bits .and .i64 sh 1 == 1) = true := by rw [BT, if_pos c4]; rfl
        have NIL := za (show colWays l r t pre (waysFrom l C d (r + 1)) x9 = [] by have := HXN.out; unfold colWays; rw [if_neg (by omega), if_neg (by rw [HXN.out]; simp [c4])])
        clear c3 c4 BT hsh
        go_wp2_with (first | (go_at_call 100; (refine (impl_Board_has.calls RI CI _ _ l rI x9 true _ ?side1 ?side2 A1.out).mono ?_); (case side1 => exact HL.out _ _ _ HS2.out); (case side2 => exact HC0.out); rintro e w2 ⟨rfl, hb2⟩; have HS3 := za (MVB.out _ _ _ _ HS2.out hb2); clear hb2))
        go_roundg k1
        case measure => omega
        case rel => exact ⟨wrap64 (x9 + 1), (by first | rfl | (simp; done)), ⟨j + 1, qs, EW.out, EJ.out, HQL.out, HQT.out, by rw [ES.out, NIL.out, List.append_nil]; exact HS3.out⟩⟩
       ·
        have c4b : (Go.bits .and .i64 sh 1 == 1) = false := by rw [BT, if_neg c4]; rfl
        have c4f : t.testBit xn = false := by simpa using c4
        have ONE := za (show colWays l r t pre (waysFrom l C d (r + 1)) x9 = waysFrom l C d (r + 1) (t ||| 2 ^ xn) (pre ++ [x9]) by have := HXN.out; unfold colWays; rw [if_neg (by omega), HXN.out, Int.toNat_natCast, if_pos (by rw [c3, c4f]; rfl)])
        obtain ⟨ji, hji⟩ : ∃ s : Int, shl .i64 1 x9 = s := ⟨_, rfl⟩
        have hji_ : (IntKind.i64.wrap (1 * 2 ^ min x9.toNat 64)) = ji := hji
        have hjiu : (IntKind.i64.wrap (2 ^ min x9.toNat 64)) = ji := by have h_ := hji_; rw [Int.one_mul] at h_; exact h_
        have p2x := Nat.pow_le_pow_right (show 0 < 2 by decide) (show xn ≤ 5 by have := HX6.out; omega)
        have OR := za (show Go.bits .or .i64 tI ji = ((t ||| 2 ^ xn : Nat) : Int) by rw [← hji, HT.out, HXN.out, shl_one xn (by have := HX6.out; omega)]; exact or_nat _ _ (by have := HT6.out; omega) (by omega))
        have OR6 := za (show t ||| 2 ^ xn < 64 from Nat.or_lt_two_pow (n := 6) HT6.out (by omega))
        clear c3 c4 c4f BT hsh hji p2x
        have HRT := za (show rI.toNat = r by rw [HR.out]; rfl)
        have HPT := za (show (qs.set rI.toNat x9).take (r + 1) = pre ++ [x9] by have hrl : r < qs.length := (by have := HQL.out; have := HRD.out; omega); rw [HRT.out, List.take_add_one, List.take_set_of_le (Nat.le_refl _), HQT.out]; simp [hrl])
        have NXT := za (show ∀ a q b, waysFrom l C d (r + 1) (t ||| 2 ^ xn) ((qs.set rI.toNat x9).take (r + 1)) = a ++ q :: b → P ((vis ++ (iota (-1) j).flatMap (colWays l r t pre (waysFrom l C d (r + 1)))) ++ a) q from fun a q b hq => by rw [HPT.out, ← ONE.out] at hq; rw [List.append_assoc]; exact HPP.out _ q (b ++ (iota (x9 + 1) (C + 1 - j - 1)).flatMap (colWays l r t pre (waysFrom l C d (r + 1)))) (by rw [ways_cut l C d r t pre j (by have := HX.out; have := C1.out; have := HCI.out; omega) HX.out, hq, List.append_assoc, List.append_assoc]; rfl))
        go_wp2_with (first | (go_at_call 100; (refine (impl_Board_has.calls RI CI _ _ l rI x9 true _ ?side1 ?side2 A1.out).mono ?_); (case side1 => exact HL.out _ _ _ HS2.out); (case side2 => exact HC0.out); rintro e w2 ⟨rfl, hb2⟩; have HS3 := za (MVB.out _ _ _ _ HS2.out hb2); clear hb2; have z5 : w2.cell? ⟨k.p, 0, none⟩ = some (.slice (some ⟨k.a, 0, none⟩) R cp) := (zg HS3.out.cP 0).trans rfl; obtain ⟨z6, f6⟩ := Kd.R_celln 0 HS3.out.cA rI (of_eq_true plt) (of_eq_true plt2)) | ((with_reducible refine gate_store (t := 3) (p := 46) rfl ?_); refine store_event (t := 3) (p := 46) (v := ?vo) (w1 := (w2.setCell ⟨k.a, rI.toNat, none⟩ (.int .i64 x9))) ?hg ?ho ?hn ?hr ?_; (case ho => rfl); (case hg => rfl); (case hn => rfl); (case hr => first | (go_simp; done) | (go_simp; rfl)); intro w4 hw; have HS4 := za (by rw [hw]; exact MVA.out _ _ _ HS3.out rI x9 : WSt k Inv RI CI R cp l A0 c0 (.func (.func 143) #[] #[cc1]) (vis ++ (iota (-1) j).flatMap (colWays l r t pre (waysFrom l C d (r + 1)))) (qs.set rI.toNat x9) w4); clear hw; have z7 : w4.cell? ⟨k.r, 0, none⟩ = _ := (zg HS4.out.cR 0).trans rfl) | (go_at_call 160; (refine (IH.out (t ||| 2 ^ xn) _ OR.out OR6.out _ (qs.set rI.toNat x9) _ (by rw [List.length_set]; exact HQL.out) NXT.out HS4.out).mono ?_); rintro e w5 ⟨rfl, hex⟩; have HE := za hex; clear hex))
        go_roundg k1
        case measure => omega
        case rel =>
         obtain ⟨qs2, hl2, ht2, hs5⟩ := HE.out
         have hrt := HRT.out
         have hrl : r < qs.length := by have := HQL.out; have := HRD.out; omega
         have hpt := HPT.out
         refine ⟨wrap64 (x9 + 1), (by first | rfl | (simp; done)), ⟨j + 1, qs2, EW.out, EJ.out, hl2, ?_, ?_⟩⟩
         ·
          have h3 := congrArg (List.take r) ht2
          rw [List.take_take, List.take_take, Nat.min_eq_left (by omega), hrt, List.take_set_of_le (Nat.le_refl _), HQT.out] at h3
          exact h3
         ·
          rw [hpt, List.append_assoc] at hs5
          rw [ES.out, ONE.out]
          exact hs5
      ·
       have c3f : cell l r xn = false := by simpa using c3
       rw [c3f] at A1
       have NIL := za (show colWays l r t pre (waysFrom l C d (r + 1)) x9 = [] by have := HXN.out; unfold colWays; rw [if_neg (by omega), if_neg (by rw [HXN.out]; simp [c3f])])
       clear c3 c3f BT hsh
       go_wp2_with (first | (go_at_call 100; (refine (impl_Board_has.calls RI CI _ _ l rI x9 false _ ?side1 ?side2 A1.out).mono ?_); (case side1 => exact HL.out _ _ _ HS2.out); (case side2 => exact HC0.out); rintro e w2 ⟨rfl, hb2⟩; have HS3 := za (MVB.out _ _ _ _ HS2.out hb2); clear hb2))
       go_roundg k1
       case measure => omega
       case rel => exact ⟨wrap64 (x9 + 1), (by first | rfl | (simp; done)), ⟨j + 1, qs, EW.out, EJ.out, HQL.out, HQT.out, by rw [ES.out, NIL.out, List.append_nil]; exact HS3.out⟩⟩
     ·
      have c2b : decide (0 ≤ x9) = false := decide_eq_false c2
      have ONE := za (show colWays l r t pre (waysFrom l C d (r + 1)) x9 = waysFrom l C d (r + 1) t (pre ++ [x9]) by unfold colWays; rw [if_pos (by omega)])
      clear c2
      have z5 : wr.cell? ⟨k.p, 0, none⟩ = some (.slice (some ⟨k.a, 0, none⟩) R cp) := (zg HS2.out.cP 0).trans rfl
      obtain ⟨z6, f6⟩ := Kd.R_celln 0 HS2.out.cA rI (of_eq_true plt) (of_eq_true plt2)
      have HRT := za (show rI.toNat = r by rw [HR.out]; rfl)
      have HPT := za (show (qs.set rI.toNat x9).take (r + 1) = pre ++ [x9] by have hrl : r < qs.length := (by have := HQL.out; have := HRD.out; omega); rw [HRT.out, List.take_add_one, List.take_set_of_le (Nat.le_refl _), HQT.out]; simp [hrl])
      have NXT := za (show ∀ a q b, waysFrom l C d (r + 1) t ((qs.set rI.toNat x9).take (r + 1)) = a ++ q :: b → P ((vis ++ (iota (-1) j).flatMap (colWays l r t pre (waysFrom l C d (r + 1)))) ++ a) q from fun a q b hq => by rw [HPT.out, ← ONE.out] at hq; rw [List.append_assoc]; exact HPP.out _ q (b ++ (iota (x9 + 1) (C + 1 - j - 1)).flatMap (colWays l r t pre (waysFrom l C d (r + 1)))) (by rw [ways_cut l C d r t pre j (by have := HX.out; have := C1.out; have := HCI.out; omega) HX.out, hq, List.append_assoc, List.append_assoc]; rfl))
      go_wp2_with (first | ((with_reducible refine gate_store (t := 3) (p := 46) rfl ?_); refine store_event (t := 3) (p := 46) (v := ?vo) (w1 := (wr.setCell ⟨k.a, rI.toNat, none⟩ (.int .i64 x9))) ?hg ?ho ?hn ?hr ?_; (case ho => rfl); (case hg => rfl); (case hn => rfl); (case hr => first | (go_simp; done) | (go_simp; rfl)); intro w4 hw; have HS4 := za (by rw [hw]; exact MVA.out _ _ _ HS2.out rI x9 : WSt k Inv RI CI R cp l A0 c0 (.func (.func 143) #[] #[cc1]) (vis ++ (iota (-1) j).flatMap (colWays l r t pre (waysFrom l C d (r + 1)))) (qs.set rI.toNat x9) w4); clear hw; have z7 : w4.cell? ⟨k.r, 0, none⟩ = _ := (zg HS4.out.cR 0).trans rfl) | (go_at_call 160; (refine (IH.out t _ HT.out HT6.out _ (qs.set rI.toNat x9) _ (by rw [List.length_set]; exact HQL.out) NXT.out HS4.out).mono ?_); rintro e w5 ⟨rfl, hex⟩; have HE := za hex; clear hex))
      go_roundg k1
      case measure => omega
      case rel =>
       obtain ⟨qs2, hl2, ht2, hs5⟩ := HE.out
       have hrt := HRT.out
       have hrl : r < qs.length := by have := HQL.out; have := HRD.out; omega
       have hpt := HPT.out
       refine ⟨wrap64 (x9 + 1), (by first | rfl | (simp; done)), ⟨j + 1, qs2, EW.out, EJ.out, hl2, ?_, ?_⟩⟩
       ·
        have h3 := congrArg (List.take r) ht2
        rw [List.take_take, List.take_take, Nat.min_eq_left (by omega), hrt, List.take_set_of_le (Nat.le_refl _), HQT.out] at h3
        exact h3
       ·
        rw [hpt, List.append_assoc] at hs5
        rw [ES.out, ONE.out]
        exact hs5
   ·
    have c1b : decide (x9 < CI) = false := decide_eq_false c1
    have FIN := za (show j = C + 1 by have := HX.out; have := HJ.out; have := HCI.out; omega)
    clear c1
    go_wp2
    first | go_end0 | ((try simp only [Exit.inBlock, Exit.then]); refine bodyPost_ret (results_none rfl _ _ _) rfl ?_)
    exact ⟨rfl, qs, HQL.out, HQT.out, by have := HS2.out; rw [FIN.out] at this; exact this⟩
end
section
variable (Inv : (Nat → Prop) → List (List Int) → World → Prop) (hI : ∀ S vis w w', Inv S vis w → Still S w w' → Inv S vis w') (R C : Nat) (RI CI : Int) (hRI : RI = R) (hCI : CI = C) (l : List Int) (A0 : Option Addr) (c0 : Nat) (hc0 : l.length ≤ c0) (cc1 : Value)
  (hL : ∀ S vis w, Inv S vis w → Kd.C (Kd.int .i64) w A0 l.length l)
  (hl : l.length = R) (h1R : 1 ≤ R) (hR : R ≤ 6) (hC : C ≤ 6) (hb : ∀ i (hi : i < l.length), 0 ≤ l[i] ∧ l[i] < 2 ^ C) (w0 : World)
  (h0 : ∀ S w, (∀ i, S i → w0.heap.size ≤ i) → Below w0.heap.size w0 w → Inv S [] w)
  (hdo : ∀ S vis ps w a cp, (∀ i, S i → w0.heap.size ≤ i) → (∀ i, S i → i < w.heap.size) → ps.length = R → (∃ b, waysFrom l C R 0 0 [] = vis ++ ps :: b) → S a → Kd.C (Kd.int .i64) w (some ⟨a, 0, none⟩) R ps → R ≤ cp → Inv S vis w →
    Calls Try.prog 143 #[.slice (some ⟨a, 0, none⟩) R cp, cc1] w fun e w' => e = .returned (.bool true) ∧ Inv S (vis ++ [ps]) w' ∧ (∀ i, S i → i < w.heap.size → w'.heap[i]? = w.heap[i]?))
include hI hRI hCI hc0 hL hl h1R hR hC hb h0 hdo
set_option maxHeartbeats 4000000 in
set_option maxRecDepth 100000 in
theorem walk_calls : Calls Try.prog 142 #[.agg #[.int .i64 RI, .int .i64 CI, .slice A0 l.length c0], .func (.func 143) #[] #[cc1]] w0 fun e w' => e = .returned (.tuple #[]) ∧ ∃ S, (∀ i, S i → w0.heap.size ≤ i) ∧ Inv S (waysFrom l C R 0 0 []) w' := by
 have KEY : ∀ (k : Blks) (cp : Nat) W, k.Apart → (∀ i, k.has i → w0.heap.size ≤ i) → R ≤ cp → WSt k (Inv k.has) RI CI R cp l A0 c0 (.func (.func 143) #[] #[cc1]) [] (List.replicate R 0) W →
   Calls Try.prog 160 #[.int .i64 0, .int .i64 0, .pointer (some ⟨k.b, 0, none⟩), .pointer (some ⟨k.d, 0, none⟩), .pointer (some ⟨k.p, 0, none⟩), .pointer (some ⟨k.g, 0, none⟩), .pointer (some ⟨k.r, 0, none⟩)] W fun e w' => e = .returned (.tuple #[]) ∧ ∃ S, (∀ i, S i → w0.heap.size ≤ i) ∧ Inv S (waysFrom l C R 0 0 []) w' := by
  intro k cp W hk hS hcp hst
  have := row_calls k hk (Inv k.has) (hI k.has) R C RI CI hRI hCI l A0 c0 cp hc0 cc1 (hL k.has) hl hR hC hb (fun vis q => ∃ b, waysFrom l C R 0 0 [] = vis ++ q :: b) (fun vis ps w hps hmem hs => by
   obtain ⟨_, _, hC'⟩ := zA hs.cA
   rw [hps] at hC'
   have hlt : k.a < w.heap.size := by obtain ⟨cells, hc⟩ := Kd.R_typed hs.cA k.a rfl; exact blk_lt hc
   have hSlt : ∀ i, k.has i → i < w.heap.size := by
    rintro i (rfl | rfl | rfl | rfl | rfl | rfl)
    ·
     exact blk_lt hs.cB
    ·
     exact blk_lt hs.cD
    ·
     exact hlt
    ·
     exact blk_lt hs.cP
    ·
     exact blk_lt hs.cG
    ·
     exact blk_lt hs.cR
   refine (hdo k.has vis ps w k.a cp hS hSlt hps hmem (.inr (.inr (.inl rfl))) hC' hcp hs.inv).mono ?_
   rintro e w' ⟨rfl, hi, hkeep⟩
   refine ⟨rfl, (hkeep _ (.inl rfl) (blk_lt hs.cB)).trans hs.cB, (hkeep _ (.inr (.inl rfl)) (blk_lt hs.cD)).trans hs.cD, Kd.R_step hs.cA (fun i hi _ => by subst hi; exact hkeep _ (.inr (.inr (.inl rfl))) hlt), (hkeep _ (.inr (.inr (.inr (.inl rfl)))) (blk_lt hs.cP)).trans hs.cP, (hkeep _ (.inr (.inr (.inr (.inr (.inl rfl))))) (blk_lt hs.cG)).trans hs.cG, (hkeep _ (.inr (.inr (.inr (.inr (.inr rfl))))) (blk_lt hs.cR)).trans hs.cR, hi⟩)
   R 0 0 0 0 rfl rfl (by omega) (by omega) [] (List.replicate R 0) W (by simp) (fun a q b hq => ⟨b, by simpa using hq⟩) hst
  refine this.mono ?_
  rintro e w' ⟨rfl, ps', _, _, hw⟩
  exact ⟨rfl, k.has, hS, by simpa using hw.inv⟩
 have KX := Lib.hid KEY
 have H0 := Lib.hid h0
 have hu24 := Try.underlying26
 have p1 := za (show 0 ≤ RI by omega)
 have p2 := za (show RI.toNat * 8 ≤ 281474976710656 by omega)
 have p3 := za (show RI.toNat = R by omega)
 have p4 := za h1R
 clear KEY h0 hdo hb hC hR hl hL hc0 hCI hRI hI h1R
 go_enter Try.func142, Try.ntmps142
 go_wp2_with (first
  | ((with_reducible refine gate_dst (N := 2) rfl ?_); refine box_event ?hg (N := 2) ?hd (cs := #[.int .i64 RI, .int .i64 CI, .slice A0 l.length c0]) (t := 26) ?hr ?_; (case hd => rfl); (case hg => rfl); (case hr => first | (go_simp; done) | (go_simp; rfl)); intro gb hg w1 hbox hb; have G1 := za hg; have K1 := za hbox; have B1 := za hb; clear hg hbox hb; have z1 : w1.cell? ⟨gb, 0, none⟩ = some (.int .i64 RI) := (zg K1.out 0).trans rfl)
  | ((with_reducible refine gate_dst (N := 3) rfl ?_); refine box_event ?hg (N := 3) ?hd (cs := #[.func (.func 143) #[] #[cc1]]) (t := 93) ?hr ?_; (case hd => rfl); (case hg => rfl); (case hr => first | (go_simp; done) | (go_simp; rfl)); intro gd hg w2 hbox hb; have G2 := za hg; have K2 := za hbox; have B2 := za hb; clear hg hbox hb; have z2 : w2.cell? ⟨gb, 0, none⟩ = some (.int .i64 RI) := (zg (zB K1.out B2.out) 0).trans rfl)
  | ((with_reducible refine gate_dst (N := 9) rfl ?_); refine Kd.R_make (Kd.int .i64) (w0 := w2) w2.heap.size 3 rfl (N := 9) rfl 24 _ _ rfl RI rfl rfl Try.underlying24 (.int .i64 0) 8 info3 rfl (by decide) (by omega) 0 (ok := fun _ => True) (okp := fun _ => True) rfl (fun _ hk => hk) trivial p1.out p2.out (Below.refl _ _) (Nat.le_refl _) ?_; intro v3 w3 ho3 hb hg_ hnew_; clear hg_ hnew_; rw [p3.out] at ho3; obtain ⟨ga, cp, hv3, hga, hga2, cells3, hc3⟩ := Kd.R_form ho3 (by rw [List.length_replicate]; exact p4.out); rw [List.length_replicate] at hv3; subst hv3; have G3 := za (And.intro hga hga2); have K3 := za hc3; clear hga hga2 hc3; have B3 := za hb; have O3 := za ho3; clear hb ho3)
  | ((with_reducible refine gate_dst (N := 4) rfl ?_); refine box_event ?hg (N := 4) ?hd (cs := #[.slice none 0 0]) (t := 24) ?hr ?_; (case hd => rfl); (case hg => rfl); (case hr => first | (go_simp; done) | (go_simp; rfl)); intro gp hg w4 hbox hb; have G4 := za hg; have K4 := za hbox; have B4 := za hb; clear hg hbox hb)
  | ((with_reducible refine gate_dst (N := 5) rfl ?_); refine box_event ?hg (N := 5) ?hd (cs := #[.bool false]) (t := 4) ?hr ?_; (case hd => rfl); (case hg => rfl); (case hr => first | (go_simp; done) | (go_simp; rfl)); intro gg hg w5 hbox hb; have G5 := za hg; have K5 := za hbox; have B5 := za hb; clear hg hbox hb; have y1 : w5.cell? ⟨gp, 0, none⟩ = some (.slice none 0 0) := (zg (zB K4.out B5.out) 0).trans rfl; have f1 : w5.frozen? ⟨gp, 0, none⟩ = false := zj (zB K4.out B5.out) 0)
  | ((with_reducible refine gate_store (t := 24) (p := 4) rfl ?_); refine store_event (t := 24) (p := 4) (v := ?vo) (w1 := (w5.setCell ⟨gp, 0, none⟩ (.slice (some ⟨ga, 0, none⟩) R cp))) ?hg ?ho ?hn ?hr ?_; (case ho => rfl); (case hg => rfl); (case hn => rfl); (case hr => first | (go_simp; done) | (go_simp; rfl)); intro w6 hw; have E6 := za hw; clear hw; have N65 := za (show gg ≠ gp by rw [G5.out]; exact Nat.ne_of_gt (blk_lt K4.out)); have K56 := za (show w6.heap[gg]? = some (.cells #[.bool false] 4 (0, 0)) by rw [E6.out]; exact blk_far K5.out N65.out _); have y2 : w6.cell? ⟨gg, 0, none⟩ = some (.bool false) := (zg K56.out 0).trans rfl; have f2 : w6.frozen? ⟨gg, 0, none⟩ = false := zj K56.out 0)
  | ((with_reducible refine gate_dst (N := 6) rfl ?_); refine box_event ?hg (N := 6) ?hd (cs := #[.nilFunc]) (t := 129) ?hr ?_; (case hd => rfl); (case hg => rfl); (case hr => first | (go_simp; done) | (go_simp; rfl)); intro gr hg w8 hbox hb; have G8 := za hg; have K8 := za hbox; have B8 := za hb; clear hg hbox hb; have y3 : w8.cell? ⟨gr, 0, none⟩ = some .nilFunc := (zg K8.out 0).trans rfl; have f3 : w8.frozen? ⟨gr, 0, none⟩ = false := zj K8.out 0)
  | (go_at_call 160; (refine (KX.out ⟨gb, gd, ga, gp, gg, gr⟩ cp _ ?sa ?ss ?sc ?sw).mono ?_); (case sa => (have o1 := blk_lt K1.out; have o2 := G2.out; have o3 := blk_lt K2.out; have o4 := G3.out; have o5 := G4.out; have o6 := blk_lt K4.out; have o7 := G5.out; have o8 := blk_lt K5.out; have o9 : w6.heap.size = w5.heap.size := (by rw [E6.out]; simp [World.setCell]); have o10 : (w6.setCell ⟨gg, 0, none⟩ (.bool true)).heap.size = w6.heap.size := (by simp [World.setCell]); have o11 := G8.out; have o12 := G1.out; constructor <;> (try simp only []) <;> omega)); (case ss => (have o1 := blk_lt K1.out; have o2 := G2.out; have o3 := blk_lt K2.out; have o4 := G3.out; have o5 := G4.out; have o6 := blk_lt K4.out; have o7 := G5.out; have o8 := blk_lt K5.out; have o9 : w6.heap.size = w5.heap.size := (by rw [E6.out]; simp [World.setCell]); have o10 : (w6.setCell ⟨gg, 0, none⟩ (.bool true)).heap.size = w6.heap.size := (by simp [World.setCell]); have o11 := G8.out; have o12 := G1.out; rintro i (rfl | rfl | rfl | rfl | rfl | rfl) <;> (try simp only []) <;> omega)); (case sc => exact (zA O3.out).2.1); (case sw => (have o1 := blk_lt K1.out; have o2 := G2.out; have o3 := blk_lt K2.out; have o4 := G3.out; have o5 := G4.out; have o6 := blk_lt K4.out; have o7 := G5.out; have o8 := blk_lt K5.out; have o9 : w6.heap.size = w5.heap.size := (by rw [E6.out]; simp [World.setCell]); have o10 : (w6.setCell ⟨gg, 0, none⟩ (.bool true)).heap.size = w6.heap.size := (by simp [World.setCell]); have o11 := G8.out; have o12 := G1.out; have q1 := zB (zB (zB (zB K1.out B2.out) B3.out) B4.out) B5.out; have q2 := zB (zB (zB K2.out B3.out) B4.out) B5.out; have q3 := Kd.R_below (Kd.R_below (zz (Kd.R_lower (Kd.R_tight rfl O3.out) (Nat.zero_le _)) (fun i hi => (by simpa [Value.ownBlock] using hi : i = ga))) B4.out) B5.out; have q4 := zB K4.out B5.out; have e1 : gb ≠ gp := (by omega); have e2 : gd ≠ gp := (by omega); have e3 : ga ≠ gp := (by omega); have e4 : gb ≠ gg := (by omega); have e5 : gd ≠ gg := (by omega); have e6 : ga ≠ gg := (by omega); have e7 : gp ≠ gg := (by omega); have e8 : gb ≠ gr := (by omega); have e9 : gd ≠ gr := (by omega); have e10 : ga ≠ gr := (by omega); have e11 : gp ≠ gr := (by omega); have e12 : gg ≠ gr := (by omega); have b5 : Below w0.heap.size w0 w5 := (((B1.out.trans (B2.out.mono (by omega))).trans (B3.out.mono (by omega))).trans (B4.out.mono (by omega))).trans (B5.out.mono (by omega)); have b7 : Below w0.heap.size w0 (w6.setCell ⟨gg, 0, none⟩ (.bool true)) := (by refine Below.setCell ?_ (by (try simp only []); omega) _; rw [E6.out]; exact Below.setCell b5 (by (try simp only []); omega) _); have b9 : Below w0.heap.size w0 (w8.setCell ⟨gr, 0, none⟩ (.func (.func 160) #[] #[.pointer (some ⟨gb, 0, none⟩), .pointer (some ⟨gd, 0, none⟩), .pointer (some ⟨gp, 0, none⟩), .pointer (some ⟨gg, 0, none⟩), .pointer (some ⟨gr, 0, none⟩)])) := (by exact Below.setCell (b7.trans (B8.out.mono (by omega))) (by (try simp only []); omega) _); exact ⟨(by refine blk_far (zB ?_ B8.out) e8 _; rw [E6.out]; exact blk_far (blk_far q1 e1 _) e4 _), (by refine blk_far (zB ?_ B8.out) e9 _; rw [E6.out]; exact blk_far (blk_far q2 e2 _) e5 _), (by refine zt (Kd.R_below ?_ B8.out) (fun i hi => (by rw [hi]; exact e10)) _; rw [E6.out]; exact zt (zt q3 (fun i hi => (by rw [hi]; exact e3)) _) (fun i hi => (by rw [hi]; exact e6)) _), (by refine blk_far (zB ?_ B8.out) e11 _; rw [E6.out]; exact blk_far (blk_put q4 0 _ rfl) e7 _), (by refine blk_far (zB ?_ B8.out) e12 _; rw [E6.out]; exact blk_put (blk_far K5.out e7.symm _) 0 _ rfl), (by exact blk_put K8.out 0 _ rfl), H0.out _ _ (by rintro i (rfl | rfl | rfl | rfl | rfl | rfl) <;> (try simp only []) <;> omega) b9⟩)); rintro e w10 ⟨rfl, hfin⟩))
 first | go_end0 | ((try simp only [Exit.inBlock, Exit.then]); refine bodyPost_ret (results_none rfl _ _ _) rfl ?_)
 exact ⟨rfl, hfin⟩
end
end Go.Proofs.Ytgnmcfoenmfhcaa.WalkNum
end
section
namespace Go.Proofs.Ytgnmcfoenmfhcaa.Koenig
set_option linter.unusedVariables false
def cnt (p : Nat → Bool) : Nat := (List.range 6).countP p
theorem countP_mod (p q : Nat → Bool) : ∀ l : List Nat, l.countP (fun x => p x || q x) + l.countP (fun x => p x && q x) = l.countP p + l.countP q
  | [] => rfl
  | a :: l => by
    have ih := countP_mod p q l
    simp only [List.countP_cons]
    cases p a <;> cases q a <;> simp <;> omega
theorem cnt_mod (p q : Nat → Bool) : cnt (fun x => p x || q x) + cnt (fun x => p x && q x) = cnt p + cnt q := countP_mod p q _
theorem cnt_mono {p q : Nat → Bool} (h : ∀ x, x < 6 → p x = true → q x = true) : cnt p ≤ cnt q := List.countP_mono_left (fun x hx hp => h x (List.mem_range.1 hx) hp)
theorem cnt_congr {p q : Nat → Bool} (h : ∀ x, x < 6 → p x = q x) : cnt p = cnt q :=
  Nat.le_antisymm (cnt_mono fun x hx hp => by rw [← h x hx]; exact hp) (cnt_mono fun x hx hp => by rw [h x hx]; exact hp)
theorem cnt_false : cnt (fun _ => false) = 0 := by decide
theorem cnt_one {c : Nat} (h : c < 6) : cnt (fun x => x == c) = 1 := by
  have : ∀ c : Fin 6, cnt (fun x => x == c.val) = 1 := by decide
  exact this ⟨c, h⟩
theorem cnt_add {p : Nat → Bool} {c : Nat} (h : c < 6) (hp : p c = false) : cnt (fun x => p x || x == c) = cnt p + 1 := by
  have h1 := cnt_mod p (fun x => x == c)
  have h2 : (fun x => p x && x == c) = fun _ => false := by
    funext x
    by_cases e : x = c
    · subst e; simp [hp]
    · simp [e]
  rw [h2, cnt_false, cnt_one h] at h1
  exact h1
def nb (G : Nat → Nat → Bool) (S : Nat → Bool) : Nat → Bool := fun c => (List.range 6).any (fun r => S r && G r c)
theorem nb_iff {G : Nat → Nat → Bool} {S : Nat → Bool} {c : Nat} : nb G S c = true ↔ ∃ r, r < 6 ∧ S r = true ∧ G r c = true := by
  unfold nb
  rw [List.any_eq_true]
  constructor
  · rintro ⟨r, hr, h⟩
    rw [Bool.and_eq_true] at h
    exact ⟨r, List.mem_range.1 hr, h.1, h.2⟩
  · rintro ⟨r, hr, h1, h2⟩
    exact ⟨r, List.mem_range.2 hr, by rw [h1, h2]; rfl⟩
def kap (G : Nat → Nat → Bool) (S : Nat → Bool) : Nat := cnt (fun r => !S r) + cnt (nb G S)
structure Match (G : Nat → Nat → Bool) (f : Nat → Option Nat) : Prop where
  edge : ∀ r c, f r = some c → r < 6 ∧ c < 6 ∧ G r c = true
  inj : ∀ r r' c, f r = some c → f r' = some c → r = r'
def size (f : Nat → Option Nat) : Nat := cnt (fun r => (f r).isSome)
def used (f : Nat → Option Nat) (rs : List Nat) : Nat → Bool := fun c => rs.any (fun r => f r == some c)
theorem used_iff {f : Nat → Option Nat} {rs : List Nat} {c : Nat} : used f rs c = true ↔ ∃ r, r ∈ rs ∧ f r = some c := by
  unfold used
  rw [List.any_eq_true]
  simp
theorem used_cnt {G : Nat → Nat → Bool} {f : Nat → Option Nat} (h : Match G f) : ∀ rs : List Nat, rs.Nodup → cnt (used f rs) = rs.countP (fun r => (f r).isSome)
  | [], _ => by
    have : used f [] = fun _ => false := by funext c; rfl
    rw [this, cnt_false]; rfl
  | r :: rs, hn => by
    obtain ⟨hr, hn2⟩ := List.nodup_cons.1 hn
    have ih := used_cnt h rs hn2
    rw [List.countP_cons]
    cases e : f r with
    | none =>
      have : used f (r :: rs) = used f rs := by funext c; simp [used, e]
      rw [this, ih]; simp
    | some c =>
      have h1 : used f (r :: rs) = fun x => used f rs x || x == c := by
        funext x
        have : (f r == some x) = (x == c) := by
          rw [e, Bool.eq_iff_iff, beq_iff_eq, beq_iff_eq]
          exact ⟨fun h => (Option.some.inj h).symm, fun h => by rw [h]⟩
        simp only [used, List.any_cons, this]
        exact Bool.or_comm _ _
      have h2 : used f rs c = false := by
        cases h3 : used f rs c with
        | false => rfl
        | true =>
          obtain ⟨r', hr', e'⟩ := used_iff.1 h3
          exact absurd (h.inj r r' c e e' ▸ hr') hr
      rw [h1, cnt_add (h.edge r c e).2.1 h2, ih]; simp
theorem countP_split (p q : Nat → Bool) : ∀ l : List Nat, l.countP p ≤ l.countP (fun x => !q x) + l.countP (fun x => p x && q x)
  | [] => Nat.le_refl _
  | a :: l => by
    have ih := countP_split p q l
    simp only [List.countP_cons]
    cases p a <;> cases q a <;> simp <;> omega
theorem weak {G : Nat → Nat → Bool} {f : Nat → Option Nat} (h : Match G f) (S : Nat → Bool) : size f ≤ kap G S := by
  have h1 := countP_split (fun r => (f r).isSome) S (List.range 6)
  have h2 : (List.range 6).countP (fun x => (f x).isSome && S x) = cnt (used f ((List.range 6).filter S)) := by
    rw [used_cnt h _ (List.nodup_range.filter _), List.countP_filter]
  have h3 : cnt (used f ((List.range 6).filter S)) ≤ cnt (nb G S) := by
    refine cnt_mono fun c _ hc => ?_
    obtain ⟨r, hr, e⟩ := used_iff.1 hc
    obtain ⟨hr1, hr2⟩ := List.mem_filter.1 hr
    exact nb_iff.2 ⟨r, List.mem_range.1 hr1, hr2, (h.edge r c e).2.2⟩
  unfold size kap cnt at *
  omega
theorem exists_min {α : Type} (a0 : α) (g : α → Nat) : ∃ a, ∀ b, g a ≤ g b := by
  have : ∀ n a, g a = n → ∃ a, ∀ b, g a ≤ g b := by
    intro n
    induction n using Nat.strongRecOn with
    | _ n ih =>
      intro a ha
      by_cases h : ∀ b, g a ≤ g b
      · exact ⟨a, h⟩
      · obtain ⟨b, hb⟩ := Classical.not_forall.1 h
        exact ih (g b) (by omega) b rfl
  exact this _ a0 rfl
def edges (G : Nat → Nat → Bool) : Nat := cnt (G 0) + cnt (G 1) + cnt (G 2) + cnt (G 3) + cnt (G 4) + cnt (G 5)
def del (G : Nat → Nat → Bool) (r c : Nat) : Nat → Nat → Bool := fun r' c' => G r' c' && !(r' == r && c' == c)
theorem del_row {G : Nat → Nat → Bool} {r c : Nat} (hc : c < 6) (h : G r c = true) : cnt (del G r c r) + 1 = cnt (G r) := by
  have h1 : del G r c r c = false := by simp [del]
  rw [← cnt_add hc h1]
  refine cnt_congr fun x _ => ?_
  by_cases e : x = c
  · subst e; simp [h]
  · have e2 : (x == c) = false := beq_eq_false_iff_ne.2 e
    simp [del, e2]
theorem del_far {G : Nat → Nat → Bool} {r c r' : Nat} (h : r' ≠ r) : del G r c r' = G r' := by funext x; simp [del, h]
theorem del_edges {G : Nat → Nat → Bool} {r c : Nat} (hr : r < 6) (hc : c < 6) (h : G r c = true) : edges (del G r c) < edges G := by
  have h1 := del_row hc h
  unfold edges
  have : r = 0 ∨ r = 1 ∨ r = 2 ∨ r = 3 ∨ r = 4 ∨ r = 5 := by omega
  rcases this with rfl | rfl | rfl | rfl | rfl | rfl <;> simp only [del_far (G := G) (c := c) (show (0 : Nat) ≠ 1 by decide), del_far (G := G) (c := c) (show (0 : Nat) ≠ 2 by decide), del_far (G := G) (c := c) (show (0 : Nat) ≠ 3 by decide), del_far (G := G) (c := c) (show (0 : Nat) ≠ 4 by decide), del_far (G := G) (c := c) (show (0 : Nat) ≠ 5 by decide), del_far (G := G) (c := c) (show (1 : Nat) ≠ 0 by decide), del_far (G := G) (c := c) (show (1 : Nat) ≠ 2 by decide), del_far (G := G) (c := c) (show (1 : Nat) ≠ 3 by decide), del_far (G := G) (c := c) (show (1 : Nat) ≠ 4 by decide), del_far (G := G) (c := c) (show (1 : Nat) ≠ 5 by decide), del_far (G := G) (c := c) (show (2 : Nat) ≠ 0 by decide), del_far (G := G) (c := c) (show (2 : Nat) ≠ 1 by decide), del_far (G := G) (c := c) (show (2 : Nat) ≠ 3 by decide), del_far (G := G) (c := c) (show (2 : Nat) ≠ 4 by decide), del_far (G := G) (c := c) (show (2 : Nat) ≠ 5 by decide), del_far (G := G) (c := c) (show (3 : Nat) ≠ 0 by decide), del_far (G := G) (c := c) (show (3 : Nat) ≠ 1 by decide), del_far (G := G) (c := c) (show (3 : Nat) ≠ 2 by decide), del_far (G := G) (c := c) (show (3 : Nat) ≠ 4 by decide), del_far (G := G) (c := c) (show (3 : Nat) ≠ 5 by decide), del_far (G := G) (c := c) (show (4 : Nat) ≠ 0 by decide), del_far (G := G) (c := c) (show (4 : Nat) ≠ 1 by decide), del_far (G := G) (c := c) (show (4 : Nat) ≠ 2 by decide), del_far (G := G) (c := c) (show (4 : Nat) ≠ 3 by decide), del_far (G := G) (c := c) (show (4 : Nat) ≠ 5 by decide), del_far (G := G) (c := c) (show (5 : Nat) ≠ 0 by decide), del_far (G := G) (c := c) (show (5 : Nat) ≠ 1 by decide), del_far (G := G) (c := c) (show (5 : Nat) ≠ 2 by decide), del_far (G := G) (c := c) (show (5 : Nat) ≠ 3 by decide), del_far (G := G) (c := c) (show (5 : Nat) ≠ 4 by decide)] <;> omega
theorem nb_del_ne {G : Nat → Nat → Bool} {r c x : Nat} (S : Nat → Bool) (h : x ≠ c) : nb (del G r c) S x = nb G S x := by
  have : ∀ r', del G r c r' x = G r' x := fun r' => by simp [del, h]
  unfold nb
  simp only [this]
theorem del_tight {G : Nat → Nat → Bool} {r c : Nat} {S : Nat → Bool} (hc : c < 6) (h : kap (del G r c) S < kap G S) :
    S r = true ∧ (∀ r', r' < 6 → r' ≠ r → S r' = true → G r' c = false) ∧ kap G S ≤ kap (del G r c) S + 1 := by
  have h0 : nb (del G r c) S c = false := by
    cases e : nb (del G r c) S c with
    | false => rfl
    | true =>
      have e2 : nb G S c = true := by
        obtain ⟨r', h1, h2, h3⟩ := nb_iff.1 e
        refine nb_iff.2 ⟨r', h1, h2, ?_⟩
        simp [del] at h3
        exact h3.1
      have : nb (del G r c) S = nb G S := by
        funext x
        by_cases hx : x = c
        · subst hx; rw [e, e2]
        · exact nb_del_ne S hx
      unfold kap at h
      rw [this] at h
      omega
  have h1 : nb G S c = true := by
    cases e : nb G S c with
    | true => rfl
    | false =>
      have : nb (del G r c) S = nb G S := by
        funext x
        by_cases hx : x = c
        · subst hx; rw [h0, e]
        · exact nb_del_ne S hx
      unfold kap at h
      rw [this] at h
      omega
  have h2 : ∀ r', r' < 6 → r' ≠ r → S r' = true → G r' c = false := by
    intro r' hr' hne hS
    cases e : G r' c with
    | false => rfl
    | true =>
      have : nb (del G r c) S c = true := nb_iff.2 ⟨r', hr', hS, by simp [del, e, hne]⟩
      rw [h0] at this; cases this
  refine ⟨?_, h2, ?_⟩
  · obtain ⟨r', hr', hS, hG⟩ := nb_iff.1 h1
    by_cases e : r' = r
    · subst e; exact hS
    · rw [h2 r' hr' e hS] at hG; cases hG
  · have : cnt (nb G S) = cnt (nb (del G r c) S) + 1 := by
      rw [← cnt_add hc h0]
      refine cnt_congr fun x _ => ?_
      by_cases e : x = c
      · subst e; simp [h1]
      · simp [nb_del_ne S e, e]
    unfold kap
    omega
theorem nb_or (G : Nat → Nat → Bool) (S T : Nat → Bool) : nb G (fun x => S x || T x) = fun c => nb G S c || nb G T c := by
  funext c
  rw [Bool.eq_iff_iff, Bool.or_eq_true, nb_iff, nb_iff, nb_iff]
  constructor
  · rintro ⟨r, hr, h1, h2⟩
    rcases Bool.or_eq_true _ _ ▸ h1 with h1 | h1
    · exact .inl ⟨r, hr, h1, h2⟩
    · exact .inr ⟨r, hr, h1, h2⟩
  · rintro (⟨r, hr, h1, h2⟩ | ⟨r, hr, h1, h2⟩)
    · exact ⟨r, hr, by rw [h1]; rfl, h2⟩
    · exact ⟨r, hr, by rw [h1]; exact Bool.or_true _, h2⟩
theorem least_row {p : Nat → Bool} : ∀ r, p r = true → ∃ q, q ≤ r ∧ p q = true ∧ ∀ q', q' < q → p q' = false := by
  intro r
  induction r using Nat.strongRecOn with
  | _ r ih =>
    intro h
    by_cases e : ∃ q, q < r ∧ p q = true
    · obtain ⟨q, hq, hp⟩ := e
      obtain ⟨q2, h1, h2, h3⟩ := ih q hq hp
      exact ⟨q2, by omega, h2, h3⟩
    · refine ⟨r, Nat.le_refl _, h, fun q' hq' => ?_⟩
      cases hp : p q' with
      | false => rfl
      | true => exact absurd ⟨q', hq', hp⟩ e
theorem one_each {G : Nat → Nat → Bool} {S0 : Nat → Bool} (hmin : ∀ S, kap G S0 ≤ kap G S) (hB : ∀ r c, r < 6 → c < 6 → G r c = true → ∃ S, kap (del G r c) S < kap G S0)
    {r c1 c2 : Nat} (hr : r < 6) (h1 : c1 < 6) (h2 : c2 < 6) (g1 : G r c1 = true) (g2 : G r c2 = true) : c1 = c2 := by
  by_cases hne : c1 = c2
  · exact hne
  exfalso
  obtain ⟨S1, k1⟩ := hB r c1 hr h1 g1
  obtain ⟨S2, k2⟩ := hB r c2 hr h2 g2
  obtain ⟨s1, o1, t1⟩ := del_tight h1 (Nat.lt_of_lt_of_le k1 (hmin S1))
  obtain ⟨s2, o2, t2⟩ := del_tight h2 (Nat.lt_of_lt_of_le k2 (hmin S2))
  have mA : kap G S0 ≤ cnt (fun x => !((S1 x && S2 x) && !(x == r))) + cnt (nb G (fun x => (S1 x && S2 x) && !(x == r))) := hmin _
  have mB : kap G S0 ≤ cnt (fun x => !(S1 x || S2 x)) + cnt (nb G (fun x => S1 x || S2 x)) := hmin _
  have m1 : kap G S1 = cnt (fun x => !S1 x) + cnt (nb G S1) := rfl
  have m2 : kap G S2 = cnt (fun x => !S2 x) + cnt (nb G S2) := rfl
  have a1 : nb G (fun x => (S1 x && S2 x) && !(x == r)) c1 = false := by
    cases e : nb G (fun x => (S1 x && S2 x) && !(x == r)) c1 with
    | false => rfl
    | true =>
      obtain ⟨q, hq, hs, hg⟩ := nb_iff.1 e
      simp at hs
      rw [o1 q hq hs.2 hs.1.1] at hg; cases hg
  have a2 : nb G (fun x => (S1 x && S2 x) && !(x == r)) c2 = false := by
    cases e : nb G (fun x => (S1 x && S2 x) && !(x == r)) c2 with
    | false => rfl
    | true =>
      obtain ⟨q, hq, hs, hg⟩ := nb_iff.1 e
      simp at hs
      rw [o2 q hq hs.2 hs.1.2] at hg; cases hg
  have b1 : cnt (nb G (fun x => (S1 x && S2 x) && !(x == r))) + 2 ≤ cnt (fun c => nb G S1 c && nb G S2 c) := by
    have e1 := cnt_add h1 a1
    have e2 := cnt_add (p := fun x => nb G (fun x => (S1 x && S2 x) && !(x == r)) x || x == c1) h2 (by
      simp only [a2, Bool.false_or]
      simp
      exact fun h => hne h.symm)
    have e3 : cnt (fun x => (nb G (fun x => (S1 x && S2 x) && !(x == r)) x || x == c1) || x == c2) ≤ cnt (fun c => nb G S1 c && nb G S2 c) := by
      refine cnt_mono fun x _ hx => ?_
      have both : ∀ c, G r c = true → (nb G S1 c && nb G S2 c) = true := fun c hc => by
        rw [nb_iff.2 ⟨r, hr, s1, hc⟩, nb_iff.2 ⟨r, hr, s2, hc⟩]; rfl
      rw [Bool.or_eq_true, Bool.or_eq_true] at hx
      rcases hx with (hx | hx) | hx
      · obtain ⟨q, hq, hs, hg⟩ := nb_iff.1 hx
        simp at hs
        show (nb G S1 x && nb G S2 x) = true
        rw [nb_iff.2 ⟨q, hq, hs.1.1, hg⟩, nb_iff.2 ⟨q, hq, hs.1.2, hg⟩]; rfl
      · rw [eq_of_beq hx]; exact both c1 g1
      · rw [eq_of_beq hx]; exact both c2 g2
    omega
  have b2 : cnt (fun x => !((S1 x && S2 x) && !(x == r))) = cnt (fun x => !(S1 x && S2 x)) + 1 := by
    rw [← cnt_add (p := fun x => !(S1 x && S2 x)) hr (by simp [s1, s2])]
    refine cnt_congr fun x _ => ?_
    cases S1 x <;> cases S2 x <;> simp
  have b3 := cnt_mod (fun x => !S1 x) (fun x => !S2 x)
  have b4 : (fun x => !S1 x || !S2 x) = fun x => !(S1 x && S2 x) := by funext x; cases S1 x <;> cases S2 x <;> rfl
  have b5 : (fun x => !S1 x && !S2 x) = fun x => !(S1 x || S2 x) := by funext x; cases S1 x <;> cases S2 x <;> rfl
  rw [b4, b5] at b3
  have b6 := cnt_mod (nb G S1) (nb G S2)
  have b7 := nb_or G S1 S2
  rw [b7] at mB
  rw [b2] at mA
  omega
theorem koenig : ∀ (n : Nat) (G : Nat → Nat → Bool), edges G = n → ∃ f S, Match G f ∧ size f = kap G S := by
  intro n
  induction n using Nat.strongRecOn with
  | _ n ih =>
    intro G hn
    obtain ⟨S0, hmin⟩ := exists_min (fun _ => true) (kap G)
    by_cases hA : ∃ r c, r < 6 ∧ c < 6 ∧ G r c = true ∧ ∀ S, kap G S0 ≤ kap (del G r c) S
    · obtain ⟨r, c, hr, hc, hg, hk⟩ := hA
      obtain ⟨f, S, hf, hs⟩ := ih _ (by rw [← hn]; exact del_edges hr hc hg) (del G r c) rfl
      have hf2 : Match G f := ⟨fun r' c' e => by
        obtain ⟨h1, h2, h3⟩ := hf.edge r' c' e
        simp [del] at h3
        exact ⟨h1, h2, h3.1⟩, hf.inj⟩
      refine ⟨f, S0, hf2, Nat.le_antisymm (weak hf2 S0) ?_⟩
      rw [hs]; exact hk S
    · have hB : ∀ r c, r < 6 → c < 6 → G r c = true → ∃ S, kap (del G r c) S < kap G S0 := by
        intro r c hr hc hg
        by_cases h : ∀ S, kap G S0 ≤ kap (del G r c) S
        · exact absurd ⟨r, c, hr, hc, hg, h⟩ hA
        · obtain ⟨S, hS⟩ := Classical.not_forall.1 h
          exact ⟨S, by omega⟩
      have hone := fun {r c1 c2 : Nat} => one_each (r := r) (c1 := c1) (c2 := c2) hmin hB
      let f : Nat → Option Nat := fun r => (List.range 6).find? (fun c => (decide (r < 6) && G r c) && !(List.range r).any (fun r' => G r' c))
      have hf1 : ∀ r c, f r = some c → r < 6 ∧ c < 6 ∧ G r c = true ∧ ∀ r', r' < r → G r' c = false := by
        intro r c e
        have h1 := List.find?_some e
        have h2 := List.mem_range.1 (List.mem_of_find?_eq_some e)
        simp at h1
        exact ⟨h1.1.1, h2, h1.1.2, fun r' hr' => by simpa using h1.2 r' hr'⟩
      have hf : Match G f := ⟨fun r c e => by obtain ⟨h1, h2, h3, _⟩ := hf1 r c e; exact ⟨h1, h2, h3⟩, fun r r' c e e' => by
        obtain ⟨_, _, h3, h4⟩ := hf1 r c e
        obtain ⟨_, _, h3', h4'⟩ := hf1 r' c e'
        rcases Nat.lt_trichotomy r r' with h | h | h
        · rw [h4' r h] at h3; cases h3
        · exact h
        · rw [h4 r' h] at h3'; cases h3'⟩
      refine ⟨f, fun _ => true, hf, ?_⟩
      have h1 : size f = cnt (used f (List.range 6)) := (used_cnt hf _ List.nodup_range).symm
      have h2 : cnt (used f (List.range 6)) = cnt (nb G (fun _ => true)) := by
        refine Nat.le_antisymm (cnt_mono fun c _ hc => ?_) (cnt_mono fun c hc6 hc => ?_)
        · obtain ⟨r, hr, e⟩ := used_iff.1 hc
          exact nb_iff.2 ⟨r, List.mem_range.1 hr, rfl, (hf.edge r c e).2.2⟩
        · obtain ⟨r, hr, _, hg⟩ := nb_iff.1 hc
          obtain ⟨q, hq, hq2, hq3⟩ := least_row (p := fun r => G r c) r hg
          refine used_iff.2 ⟨q, List.mem_range.2 (by omega), ?_⟩
          cases e : f q with
          | none =>
            have h3 := List.find?_eq_none.1 e c (List.mem_range.2 hc6)
            simp [show q < 6 by omega, show G q c = true from hq2] at h3
            obtain ⟨q', hq', hq4⟩ := h3
            rw [show G q' c = false from hq3 q' hq'] at hq4; cases hq4
          | some c' =>
            obtain ⟨h3, h4, h5, _⟩ := hf1 q c' e
            rw [hone h3 h4 hc6 h5 hq2]
      have h3 : kap G (fun _ => true) = cnt (nb G (fun _ => true)) := by
        unfold kap
        have : (fun (r : Nat) => !true) = fun _ => false := rfl
        rw [this, cnt_false, Nat.zero_add]
      rw [h1, h2, h3]
end Go.Proofs.Ytgnmcfoenmfhcaa.Koenig
end
section
namespace Go.Proofs.Ytgnmcfoenmfhcaa.Q
open Go.RowKit Go.Proofs.YtgnmcfoenmfhcaaW.PrintWords Go.Proofs.YtgnmcfoenmfhcaaW.PrintLast Go.Proofs.YtgnmcfoenmfhcaaW.PrintMore
attribute [local go_sem] max2_int min2_int max_two min_two max_three min_three max_four min_four   -- for this text's walks alone
set_option linter.unusedVariables false
set_option linter.unusedSimpArgs false
end Go.Proofs.Ytgnmcfoenmfhcaa.Q
end
section
namespace Go.Proofs.Ytgnmcfoenmfhcaa.MostK
set_option linter.unusedVariables false
open Go.RowKit Go.Proofs.Ytgnmcfoenmfhcaa.Q Go.Proofs.YtgnmcfoenmfhcaaW.PrintWords Go.Proofs.YtgnmcfoenmfhcaaW.PrintLast Go.Proofs.YtgnmcfoenmfhcaaW.PrintMore
open Go.Proofs.YtgnmcfoenmfhcaaL Go.Proofs.Ytgnmcfoenmfhcaa.LawK Go.Proofs.Ytgnmcfoenmfhcaa.BoardK Go.Proofs.Ytgnmcfoenmfhcaa.LinesK Go.Proofs.Ytgnmcfoenmfhcaa.Koenig
def mostN (l : List Int) (C : Nat) : Nat → Nat → Nat → Nat
  | 0, _, _ => 0
  | d + 1, r, used => (List.range' 0 C).foldl (fun a c => if (cell l r c && !used.testBit c) = true then (if a > 1 + mostN l C d (r + 1) (used ||| 2 ^ c) then a else 1 + mostN l C d (r + 1) (used ||| 2 ^ c)) else a) (mostN l C d (r + 1) used)
theorem foldl_inv {α β : Type} (P : β → Prop) (s : β → α → β) : ∀ (l : List α) (a : β), P a → (∀ a c, c ∈ l → P a → P (s a c)) → P (l.foldl s a)
  | [], a, h, _ => h
  | c :: t, a, h, hs => foldl_inv P s t (s a c) (hs a c (by simp) h) (fun a c hc => hs a c (by simp [hc]))
theorem mostN_le (l : List Int) (C : Nat) : ∀ d r used, mostN l C d r used ≤ d
  | 0, r, used => Nat.le_refl _
  | d + 1, r, used => by
    rw [mostN]
    refine foldl_inv (fun a => a ≤ d + 1) _ _ _ (Nat.le_succ_of_le (mostN_le l C d (r + 1) used)) ?_
    intro a c _ h
    have := mostN_le l C d (r + 1) (used ||| 2 ^ c)
    try simp only []
    split
    · split <;> omega
    · exact h
theorem foldl_base (p : Nat → Bool) (g : Nat → Nat) : ∀ (l : List Nat) (a : Nat), a ≤ l.foldl (fun a c => if p c = true then (if a > g c then a else g c) else a) a
  | [], a => Nat.le_refl _
  | c :: t, a => by
    rw [List.foldl_cons]
    refine Nat.le_trans ?_ (foldl_base p g t _)
    split
    · split <;> omega
    · exact Nat.le_refl _
theorem foldl_elem (p : Nat → Bool) (g : Nat → Nat) : ∀ (l : List Nat) (a : Nat) (c : Nat), c ∈ l → p c = true → g c ≤ l.foldl (fun a c => if p c = true then (if a > g c then a else g c) else a) a
  | [], a, c, h, _ => by cases h
  | x :: t, a, c, h, hp => by
    rw [List.foldl_cons]
    rcases List.mem_cons.1 h with rfl | h
    · refine Nat.le_trans ?_ (foldl_base p g t _)
      rw [if_pos hp]
      split <;> omega
    · exact foldl_elem p g t _ c h hp
structure From (G : Nat → Nat → Bool) (r used : Nat) (f : Nat → Option Nat) : Prop where
  m : Match G f
  far : ∀ q c, f q = some c → r ≤ q ∧ used.testBit c = false
theorem size_put {f : Nat → Option Nat} {r c : Nat} (hr : r < 6) (h : f r = none) : size (fun q => if q = r then some c else f q) = size f + 1 := by
  unfold size
  rw [← cnt_add (p := fun q => (f q).isSome) hr (by rw [h]; rfl)]
  refine cnt_congr fun x _ => ?_
  by_cases e : x = r
  · subst e; simp
  · simp [e]
theorem size_none : size (fun _ => none) = 0 := cnt_false
theorem size_congr {f g : Nat → Option Nat} (h : ∀ x, x < 6 → f x = g x) : size f = size g := cnt_congr fun x hx => by rw [h x hx]
theorem reach {l : List Int} {R C : Nat} (hR : R ≤ 6) (hC : C ≤ 6) : ∀ d r used, r + d = R → ∃ f, From (cell l) r used f ∧ size f = mostN l C d r used
  | 0, r, used, _ => ⟨fun _ => none, ⟨⟨fun r c h => (by cases h), fun r r' c h => (by cases h)⟩, fun q c h => (by cases h)⟩, size_none⟩
  | d + 1, r, used, hd => by
    rw [mostN]
    refine foldl_inv (fun a => ∃ f, From (cell l) r used f ∧ size f = a) _ _ _ ?_ ?_
    · obtain ⟨f, hf, hs⟩ := reach (l := l) hR hC d (r + 1) used (by omega)
      exact ⟨f, ⟨hf.m, fun q c h => by have := hf.far q c h; exact ⟨by omega, this.2⟩⟩, hs⟩
    · intro a c hc h
      try simp only []
      split
      · rename_i hg
        rw [Bool.and_eq_true] at hg
        split
        · exact h
        · obtain ⟨f, hf, hs⟩ := reach (l := l) hR hC d (r + 1) (used ||| 2 ^ c) (by omega)
          have hfr : f r = none := by
            cases e : f r with
            | none => rfl
            | some x => have := hf.far r x e; omega
          have hcC : c < C := by have := (List.mem_range'_1.1 hc).2; omega
          have hne : ∀ q x, f q = some x → x ≠ c := fun q x e h2 => by
            have := (hf.far q x e).2
            rw [h2, Nat.testBit_or, Nat.testBit_two_pow] at this
            simp at this
          refine ⟨fun q => if q = r then some c else f q, ⟨⟨fun q x e => ?_, fun q q' x e e' => ?_⟩, fun q x e => ?_⟩, by rw [size_put (by omega) hfr, hs]; omega⟩
          · try simp only [] at e
            split at e
            · rename_i hq; injection e with e; subst hq e; exact ⟨by omega, by omega, hg.1⟩
            · exact hf.m.edge q x e
          · try simp only [] at e e'
            split at e
            · rename_i hq
              injection e with e
              split at e'
              · rename_i hq'; omega
              · exact absurd e.symm (hne q' x e')
            · split at e'
              · injection e' with e'; exact absurd e'.symm (hne q x e)
              · exact hf.m.inj q q' x e e'
          · try simp only [] at e
            split at e
            · rename_i hq
              injection e with e
              subst hq e
              exact ⟨Nat.le_refl _, by simpa using hg.2⟩
            · have := hf.far q x e
              refine ⟨by omega, ?_⟩
              have h2 := this.2
              rw [Nat.testBit_or] at h2
              simp at h2
              exact h2.1
      · exact h
theorem bound {l : List Int} {R C : Nat} (hlR : l.length = R) (hR : R ≤ 6) (hC : C ≤ 6) (hb : ∀ i (hi : i < l.length), 0 ≤ l[i] ∧ l[i] < 2 ^ C) : ∀ d r used f, r + d = R → From (cell l) r used f → size f ≤ mostN l C d r used
  | 0, r, used, f, hd, hf => by
    have : size f = 0 := by
      rw [← size_none]
      refine size_congr fun x hx => ?_
      cases e : f x with
      | none => rfl
      | some c =>
        have h1 := (hf.far x c e).1
        have h2 := (hf.m.edge x c e).2.2
        unfold cell at h2
        rw [gD_ge _ _ (by omega)] at h2
        simp at h2
    omega
  | d + 1, r, used, f, hd, hf => by
    rw [mostN]
    cases e : f r with
    | none =>
      refine Nat.le_trans (bound hlR hR hC hb d (r + 1) used f (by omega) ⟨hf.m, fun q c h => ?_⟩) (foldl_base _ (fun c => 1 + mostN l C d (r + 1) (used ||| 2 ^ c)) _ _)
      have := hf.far q c h
      refine ⟨?_, this.2⟩
      by_cases hq : q = r
      · subst hq; rw [e] at h; cases h
      · omega
    | some c =>
      have he := hf.m.edge r c e
      have hu := (hf.far r c e).2
      have hcC : c < C := by
        by_cases h : c < C
        · exact h
        · have h2 := he.2.2
          unfold cell at h2
          by_cases hr : r < l.length
          · rw [gD_lt _ _ hr] at h2
            have := hb r hr
            have h3 : l[r].toNat < 2 ^ C := by
              have h4 : ((l[r].toNat : Nat) : Int) < ((2 ^ C : Nat) : Int) := by rw [Int.toNat_of_nonneg this.1]; exact_mod_cast this.2
              exact_mod_cast h4
            rw [Nat.testBit_lt_two_pow (Nat.lt_of_lt_of_le h3 (Nat.pow_le_pow_right (by decide) (by omega)))] at h2
            cases h2
          · rw [gD_ge _ _ (by omega)] at h2; simp at h2
      have hs : size f = size (fun q => if q = r then none else f q) + 1 := by
        rw [← size_put (f := fun q => if q = r then none else f q) (r := r) (c := c) he.1 (by simp)]
        refine size_congr fun x _ => ?_
        by_cases hx : x = r
        · subst hx; simp [e]
        · simp [hx]
      have ih := bound hlR hR hC hb d (r + 1) (used ||| 2 ^ c) (fun q => if q = r then none else f q) (by omega) ⟨⟨fun q x h => ?_, fun q q' x h h' => ?_⟩, fun q x h => ?_⟩
      · have h2 := foldl_elem (fun c => cell l r c && !used.testBit c) (fun c => 1 + mostN l C d (r + 1) (used ||| 2 ^ c)) (List.range' 0 C) (mostN l C d (r + 1) used) c (List.mem_range'_1.2 ⟨by omega, by omega⟩) (by rw [he.2.2, hu]; rfl)
        try simp only [] at h2
        omega
      · try simp only [] at h
        split at h
        · cases h
        · exact hf.m.edge q x h
      · try simp only [] at h h'
        split at h
        · cases h
        · split at h'
          · cases h'
          · exact hf.m.inj q q' x h h'
      · try simp only [] at h
        split at h
        · cases h
        · rename_i hq
          have := hf.far q x h
          refine ⟨by omega, ?_⟩
          rw [Nat.testBit_or, this.2, Nat.testBit_two_pow, Bool.false_or, decide_eq_false_iff_not]
          intro e2
          subst e2
          exact hq (hf.m.inj q r c h e)
theorem most_min {l : List Int} {R C : Nat} (hlR : l.length = R) (hR : R ≤ 6) (hC : C ≤ 6) (hb : ∀ i (hi : i < l.length), 0 ≤ l[i] ∧ l[i] < 2 ^ C) : (∃ S, kap (cell l) S = mostN l C R 0 0) ∧ ∀ S, mostN l C R 0 0 ≤ kap (cell l) S := by
  obtain ⟨f0, S0, hM, hs⟩ := koenig _ (cell l) rfl
  obtain ⟨f, hf, hfs⟩ := reach (l := l) (C := C) hR hC R 0 0 (by omega)
  have h1 := weak hf.m S0
  have h2 := bound hlR hR hC hb R 0 0 f0 (by omega) ⟨hM, fun q c _ => ⟨by omega, Nat.zero_testBit c⟩⟩
  refine ⟨⟨S0, by omega⟩, fun S => ?_⟩
  have h3 := weak hM S
  omega
end Go.Proofs.Ytgnmcfoenmfhcaa.MostK
end
section
namespace Go.Proofs.Ytgnmcfoenmfhcaa.Q
open Go.RowKit Go.Proofs.YtgnmcfoenmfhcaaW.PrintWords Go.Proofs.YtgnmcfoenmfhcaaW.PrintLast Go.Proofs.YtgnmcfoenmfhcaaW.PrintMore
attribute [local go_sem] max2_int min2_int max_two min_two max_three min_three max_four min_four   -- for this text's walks alone
set_option linter.unusedVariables false
set_option linter.unusedSimpArgs false
def impl_rooks.l0 : Nat → Int → List Int → Int → Int → Option (Int)
 | 0, _, _, _, _ => none
 | k + 1, x3, x6, x7, x8 => if x8 < x7 then (if 0 ≤ x8 then (if x8 < (x6.length : Int) then (if (rd x6 x8) = (-1) then (impl_rooks.l0 k x3 x6 x7 (wrap64 (x8 + 1))) else (impl_rooks.l0 k (wrap64 (x3 + 1)) x6 x7 (wrap64 (x8 + 1)))) else (none)) else (none)) else (some x3)
def impl_rooks.f (k : Nat) (l0 : List Int) : Option (Int) := impl_rooks.l0 k 0 l0 (l0.length : Int) 0
set_option maxHeartbeats 8000000 in
set_option maxRecDepth 100000 in
theorem impl_rooks.calls (k : Nat) (A0 : Option Addr) (c0 : Nat) (l0 : List Int) (r : Int) (w : World) (hr0 : Kd.C (Kd.int .i64) w A0 l0.length l0) (hc0 : l0.length ≤ c0) (h : impl_rooks.f k l0 = some r) :
  Calls Try.prog 97 #[.slice A0 l0.length c0] w fun e w' => e = .returned (.int .i64 r) ∧ Drawn0 w w' := by
 have HR0 := za hr0
 have HC0 := za hc0
 clear hr0 hc0
 have H : (impl_rooks.l0 k 0 l0 (l0.length : Int) 0) = some r := h
 clear h
 have H' := za H
 clear H
 go_enter Try.func97, Try.ntmps97
 go_wp2
 go_loopg [3, 8] k (fun kq v3 v8 w' => ∃ (x3_1 : Int) (x8_1 : Int), v3 = .int .i64 x3_1 ∧ v8 = .int .i64 x8_1 ∧ Aside0 (impl_rooks.l0 kq x3_1 l0 (l0.length : Int) x8_1 = some r) ∧ Aside0 (kq ≤ k) ∧ Drawn0 w w')
 case atStart => exact ⟨(0), (0), (by first | rfl | (simp; done) | (simp [*]; done)), (by first | rfl | (simp; done) | (simp [*]; done)), H', ⟨Nat.le_refl _⟩, by repeat (first | exact Drawn0.refl _ | apply Drawn0.step)⟩
 case round =>
  clear H'
  obtain ⟨x3_1, x8_1, rfl, rfl, HA, HK1, ⟨m1, rfl⟩⟩ := hrel
  cases gk with
  | zero => exact absurd HA.out (by simp [impl_rooks.l0])
  | succ k1 =>
   have H := HA.out
   clear HA
   simp only [impl_rooks.l0] at H
   by_cases c2 : x8_1 < (l0.length : Int)
   ·
    rw [if_pos c2] at H
    have c2b0 : decide (x8_1 < (l0.length : Int)) = true := decide_eq_true c2
    clear c2
    by_cases c3 : 0 ≤ x8_1
    ·
     rw [if_pos c3] at H
     have c3b0 : decide (0 ≤ x8_1) = true := decide_eq_true c3
     clear c3
     by_cases c4 : x8_1 < (l0.length : Int)
     ·
      rw [if_pos c4] at H
      have c4b0 : decide (x8_1 < (l0.length : Int)) = true := decide_eq_true c4
      clear c4
      by_cases c5 : (rd l0 x8_1) = (-1)
      ·
       rw [if_pos c5] at H
       have c5b0 : ((rd l0 x8_1) == (-1)) = true := beq_iff_eq.mpr c5
       have c5b1 : ((rd l0 x8_1) != (-1)) = false := bne_eq_false_iff_eq.mpr c5
       clear c5
       have H' := za H
       clear H
       have p101 : 0 ≤ (x8_1 : Int) := of_decide_eq_true (by first | (with_reducible assumption) | assumption)
       have q101 : x8_1 < (l0.length : Int) := of_decide_eq_true (by first | (with_reducible assumption) | assumption)
       obtain ⟨ad101, e101, hx101_0⟩ := Kd.at_int HR0.out x8_1 p101 q101
       cases e101
       replace p101 := eq_true p101
       replace q101 := eq_true q101
       go_wp2
       go_roundg k1
       case measure => have := HK1.out; omega
       case rel => exact ⟨(x3_1), (wrap64 (x8_1 + 1)), (by first | rfl | (simp; done) | (simp [*]; done)), (by first | rfl | (simp; done) | (simp [*]; done)), H', ⟨by have := HK1.out; omega⟩, by repeat (first | exact Drawn0.refl _ | apply Drawn0.step)⟩
      ·
       rw [if_neg c5] at H
       have c5b0 : ((rd l0 x8_1) == (-1)) = false := beq_eq_false_iff_ne.mpr c5
       have c5b1 : ((rd l0 x8_1) != (-1)) = true := bne_iff_ne.mpr c5
       have H' := za H
       clear H
       have p101 : 0 ≤ (x8_1 : Int) := of_decide_eq_true (by first | (with_reducible assumption) | assumption)
       have q101 : x8_1 < (l0.length : Int) := of_decide_eq_true (by first | (with_reducible assumption) | assumption)
       obtain ⟨ad101, e101, hx101_0⟩ := Kd.at_int HR0.out x8_1 p101 q101
       cases e101
       replace p101 := eq_true p101
       replace q101 := eq_true q101
       go_wp2
       go_roundg k1
       case measure => have := HK1.out; omega
       case rel => exact ⟨(wrap64 (x3_1 + 1)), (wrap64 (x8_1 + 1)), (by first | rfl | (simp; done) | (simp [*]; done)), (by first | rfl | (simp; done) | (simp [*]; done)), H', ⟨by have := HK1.out; omega⟩, by repeat (first | exact Drawn0.refl _ | apply Drawn0.step)⟩
     ·
      rw [if_neg c4] at H
      exact absurd H (by simp)
    ·
     rw [if_neg c3] at H
     exact absurd H (by simp)
   ·
    rw [if_neg c2] at H
    have c2b0 : decide (x8_1 < (l0.length : Int)) = false := decide_eq_false c2
    clear c2
    obtain rfl := Option.some.inj H
    go_wp2
    go_ret
    exact ⟨by first | rfl | (simp; done) | (simp [*]; done), by repeat (first | exact Drawn0.refl _ | apply Drawn0.step)⟩
end Go.Proofs.Ytgnmcfoenmfhcaa.Q
end
section
namespace Go.Proofs.Ytgnmcfoenmfhcaa.Walk
set_option linter.unusedVariables false
open Go.RowKit Go.Proofs.YtgnmcfoenmfhcaaW.PrintWords Go.Proofs.YtgnmcfoenmfhcaaW.PrintLast Go.Proofs.YtgnmcfoenmfhcaaW.PrintMore
open Go.Proofs.YtgnmcfoenmfhcaaL Go.Proofs.Ytgnmcfoenmfhcaa.LawK Go.Proofs.Ytgnmcfoenmfhcaa.BoardK Go.Proofs.Ytgnmcfoenmfhcaa.Q
def rooksN (l : List Int) : Nat := l.countP (fun x => x != -1)
theorem rooks_l0 {l : List Int} (hl : l.length ≤ 1048576) : ∀ (d i n : Nat), i + d = l.length → n ≤ i → Ev (fun k => impl_rooks.l0 k n l (l.length : Int) i) ((n + rooksN (l.drop i) : Nat) : Int)
  | 0, i, n, hi, hn => by
    refine Ev.step (f := fun _ => some ((n + rooksN (l.drop i) : Nat) : Int)) (fun k => ?_) (Ev.now _)
    rw [impl_rooks.l0, if_neg (by omega), List.drop_eq_nil_of_le (by omega)]; rfl
  | d + 1, i, n, hi, hn => by
    have h1 : wrap64 ((i : Int) + 1) = ((i + 1 : Nat) : Int) := by rw [w64 (by omega) (by omega)]; rfl
    have h2 : wrap64 ((n : Int) + 1) = ((n + 1 : Nat) : Int) := by rw [w64 (by omega) (by omega)]; rfl
    have hi2 : i < l.length := by omega
    rw [List.drop_eq_getElem_cons hi2, rooksN, List.countP_cons]
    by_cases hx : l[i] = -1
    · have ih := rooks_l0 hl d (i + 1) n (by omega) (by omega)
      rw [rooksN] at ih
      rw [if_neg (by simp [hx]), Nat.add_zero]
      refine Ev.step (fun k => ?_) ih
      rw [impl_rooks.l0, if_pos (by omega), if_pos (by omega), if_pos (by omega), rd_lt _ _ hi2, if_pos hx, h1]
    · have ih := rooks_l0 hl d (i + 1) (n + 1) (by omega) (by omega)
      rw [rooksN] at ih
      rw [if_pos (by simpa using hx)]
      rw [show n + (List.countP (fun x => x != -1) (List.drop (i + 1) l) + 1) = n + 1 + List.countP (fun x => x != -1) (List.drop (i + 1) l) by omega]
      refine Ev.step (fun k => ?_) ih
      rw [impl_rooks.l0, if_pos (by omega), if_pos (by omega), if_pos (by omega), rd_lt _ _ hi2, if_neg hx, h1, h2]
theorem rooks_f {l : List Int} (hl : l.length ≤ 1048576) : ∃ k, impl_rooks.f k l = some (rooksN l : Int) := by
  have h := rooks_l0 hl l.length 0 0 (by omega) (by omega)
  rw [List.drop_zero, Nat.zero_add] at h
  exact h.rounds
end Go.Proofs.Ytgnmcfoenmfhcaa.Walk
end
