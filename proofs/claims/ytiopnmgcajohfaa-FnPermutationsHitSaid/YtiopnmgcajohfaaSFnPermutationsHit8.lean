/- Texts of this claim put together (8): words, what the functions compute, and plain facts. No conditions. -/
import Derived.Test.YtiopnmgcajohfaaSFnPermutationsHit4
import Derived.Test.YtiopnmgcajohfaaSFnPermutationsHit7
import Derived.Test.YtiopnmgcajohfaaSFnPermutationsHit0
section
namespace Go.Proofs.Ytiopnmgcajohfaa.Q
open Go.RowKit Go.Proofs.YtiopnmgcajohfaaW.PrintWords Go.Proofs.YtiopnmgcajohfaaW.PrintLast Go.Proofs.YtiopnmgcajohfaaW.PrintMore
attribute [local go_sem] max2_int min2_int max_two min_two max_three min_three max_four min_four   -- for this text's walks alone
set_option linter.unusedVariables false
set_option linter.unusedSimpArgs false
def spec_l1Cur_among.f (s0_0 : List Int) (s0_1 : Int) (s0_2 : Int) (l1 : List Int) : Option (Int × Int × Int) := (spec_l1Cur_pick.f s0_0 s0_1 s0_2 (l1.length : Int)).bind fun bt101 => (if 0 ≤ bt101.1 then (if bt101.1 < (l1.length : Int) then (some (rd l1 bt101.1, bt101.2.1, bt101.2.2)) else (none)) else (none))
set_option maxHeartbeats 8000000 in
set_option maxRecDepth 100000 in
theorem spec_l1Cur_among.calls (g : Nat) (s0_0 : List Int) (s0_1 : Int) (s0_2 : Int) (A1 : Option Addr) (c1 : Nat) (l1 : List Int) (r1 : Int) (r2 : Int) (r3 : Int) (w0 w : World) (hI : IsS88 w0 w g s0_0 s0_1 s0_2) (hB : Below w0.heap.size w0 w) (hr1 : Kd.C (Kd.int .i64) w A1 l1.length l1) (hc1 : l1.length ≤ c1) (hf1 : ∀ ad, A1 = some ad → 0 < l1.length → ad.block ≠ g) (h : spec_l1Cur_among.f s0_0 s0_1 s0_2 l1 = some (r1, r2, r3)) :
  Calls Try.prog 98 #[.pointer (some ⟨g, 0, none⟩), .slice A1 l1.length c1] w fun e w' => e = .returned (.int .i64 r1) ∧ IsS88 w0 w' g s0_0 r2 r3 ∧ Below w0.heap.size w0 w' ∧ KeepBut w w' g none := by
 have HR1 := za hr1
 have HC1 := za hc1
 clear hr1 hc1
 have HI0 := za hI
 have HK := za (KeepBut.refl w g none)
 have HL := za hB.size
 clear hI
 have HW0 := za hB.size
 have HB := za hB
 clear hB
 have H : ((spec_l1Cur_pick.f s0_0 s0_1 s0_2 (l1.length : Int)).bind fun bt101 => (if 0 ≤ bt101.1 then (if bt101.1 < (l1.length : Int) then (some (rd l1 bt101.1, bt101.2.1, bt101.2.2)) else (none)) else (none))) = some (r1, r2, r3) := h
 clear h
 replace H := Option.bind_eq_some_iff.mp H
 obtain ⟨⟨t101, t102, t103⟩, A30, H⟩ := H
 replace H : (if 0 ≤ t101 then (if t101 < (l1.length : Int) then (some (rd l1 t101, t102, t103)) else (none)) else (none)) = some (r1, r2, r3) := H
 have A3 := za A30
 clear A30
 by_cases c4 : 0 ≤ t101
 ·
  rw [if_pos c4] at H
  have c4b0 : decide (0 ≤ t101) = true := decide_eq_true c4
  clear c4
  by_cases c5 : t101 < (l1.length : Int)
  ·
   rw [if_pos c5] at H
   have c5b0 : decide (t101 < (l1.length : Int)) = true := decide_eq_true c5
   clear c5
   simp only [Option.some.injEq, Prod.mk.injEq] at H
   obtain ⟨rfl, rfl, rfl⟩ := H
   go_enter Try.func98, Try.ntmps98
   go_wp2_with (first | ((with_reducible refine zy (f := 127) rfl ?_); refine goesL_ (some 9) rfl rfl Try.func127 (by kernel_rfl) rfl #[.pointer (some ⟨g, 0, none⟩), .int .i64 (l1.length : Int)] rfl (by (try simp only [List.map_toArray, List.map_cons, List.map_nil]); first | done | rfl | (simp only [List.length_drop, List.length_take]; rfl)) ?_; (with_reducible refine (spec_l1Cur_pick.calls g s0_0 s0_1 s0_2 (l1.length : Int) t101 t102 t103 w0 _ ?side1 ?side2 A3.out).mono ?_); (case side1 => repeat (first | (with_reducible first | exact HI0.out | apply IsS88.alloc | apply IsS88.drewN | apply IsS88.drew | apply IsS88.set_1 | apply IsS88.set_2) | exact HI0.out)); (case side2 => repeat (first | (with_reducible first | exact HB.out | apply zc | apply zd | apply zb | refine ze ?_ (IsS88.ge HI0.out)) | exact HB.out)); rintro e w6 ⟨rfl, hi, hb, hk⟩; refine ⟨_, rfl, ?_⟩; have n0_ := za (zH (by repeat (first | (with_reducible first | exact HK.out | apply zt | apply zu | apply zs | apply zv) | exact HK.out)) hk (.inl rfl)); have n1_ := za (hb); have n2_ := za (hi); clear HK HB HI0; have HK := n0_; have HB := n1_; have HI0 := n2_; clear n0_ n1_ n2_; (try clear hb); (try clear hb2); (try clear hk); (try clear hi); have p104 : 0 ≤ (t101 : Int) := of_decide_eq_true (by first | (with_reducible assumption) | assumption); have q104 : t101 < (l1.length : Int) := of_decide_eq_true (by first | (with_reducible assumption) | assumption); obtain ⟨ad104, e104, hx104_0⟩ := Kd.at_int HR1.out t101 p104 q104; cases e104; replace hx104_0 := keep_cell HK.out hx104_0 (by first | (rw [add_block]; exact hf1 _ rfl (by omega)) | exact hf1 _ rfl (by omega) | exact hf1 ad104 rfl (by omega)); replace p104 := eq_true p104; replace q104 := eq_true q104))
   go_ret
   exact ⟨by first | rfl | (simp [errW_none, errW_some] <;> rfl) | (simp [*, errW_none, errW_some] <;> rfl), by repeat (first | (with_reducible first | exact HI0.out | apply IsS88.alloc | apply IsS88.drewN | apply IsS88.drew | apply IsS88.set_1 | apply IsS88.set_2) | exact HI0.out), by repeat (first | (with_reducible first | exact HB.out | apply zc | apply zd | apply zb | refine ze ?_ (IsS88.ge HI0.out)) | exact HB.out), by repeat (first | (with_reducible first | exact HK.out | apply zt | apply zu | apply zs | apply zv) | exact HK.out)⟩
  ·
   rw [if_neg c5] at H
   exact absurd H (by simp)
 ·
  rw [if_neg c4] at H
  exact absurd H (by simp)
end Go.Proofs.Ytiopnmgcajohfaa.Q
end
section
namespace Go.Proofs.Ytiopnmgcajohfaa.Q
open Go.RowKit Go.Proofs.YtiopnmgcajohfaaW.PrintWords Go.Proofs.YtiopnmgcajohfaaW.PrintLast Go.Proofs.YtiopnmgcajohfaaW.PrintMore
attribute [local go_sem] max2_int min2_int max_two min_two max_three min_three max_four min_four   -- for this text's walks alone
set_option linter.unusedVariables false
set_option linter.unusedSimpArgs false
def spec_l1Cur_one.f (s0_0 : List Int) (s0_1 : Int) (s0_2 : Int) (a1 : Int) : Option (Bool × Int × Int) := (spec_l1Cur_pick.f s0_0 s0_1 s0_2 a1).bind fun bt101 => (some ((bt101.1 == 0), bt101.2.1, bt101.2.2))
set_option maxHeartbeats 8000000 in
set_option maxRecDepth 100000 in
theorem spec_l1Cur_one.calls (g : Nat) (s0_0 : List Int) (s0_1 : Int) (s0_2 : Int) (a1 : Int) (r1 : Bool) (r2 : Int) (r3 : Int) (w0 w : World) (hI : IsS88 w0 w g s0_0 s0_1 s0_2) (hB : Below w0.heap.size w0 w) (h : spec_l1Cur_one.f s0_0 s0_1 s0_2 a1 = some (r1, r2, r3)) :
  Calls Try.prog 125 #[.pointer (some ⟨g, 0, none⟩), .int .i64 a1] w fun e w' => e = .returned (.bool r1) ∧ IsS88 w0 w' g s0_0 r2 r3 ∧ Below w0.heap.size w0 w' ∧ KeepBut w w' g none := by
 have HI0 := za hI
 have HK := za (KeepBut.refl w g none)
 have HL := za hB.size
 clear hI
 have HW0 := za hB.size
 have HB := za hB
 clear hB
 have H : ((spec_l1Cur_pick.f s0_0 s0_1 s0_2 a1).bind fun bt101 => (some ((bt101.1 == 0), bt101.2.1, bt101.2.2))) = some (r1, r2, r3) := h
 clear h
 replace H := Option.bind_eq_some_iff.mp H
 obtain ⟨⟨t101, t102, t103⟩, A30, H⟩ := H
 replace H : (some ((t101 == 0), t102, t103)) = some (r1, r2, r3) := H
 have A3 := za A30
 clear A30
 simp only [Option.some.injEq, Prod.mk.injEq] at H
 obtain ⟨rfl, rfl, rfl⟩ := H
 go_enter Try.func125, Try.ntmps125
 go_wp2_with (first | ((with_reducible refine zy (f := 127) rfl ?_); refine goesL_ (some 7) rfl rfl Try.func127 (by kernel_rfl) rfl #[.pointer (some ⟨g, 0, none⟩), .int .i64 a1] rfl (by (try simp only [List.map_toArray, List.map_cons, List.map_nil]); first | done | rfl | (simp only [List.length_drop, List.length_take]; rfl)) ?_; (with_reducible refine (spec_l1Cur_pick.calls g s0_0 s0_1 s0_2 a1 t101 t102 t103 w0 _ ?side1 ?side2 A3.out).mono ?_); (case side1 => repeat (first | (with_reducible first | exact HI0.out | apply IsS88.alloc | apply IsS88.drewN | apply IsS88.drew | apply IsS88.set_1 | apply IsS88.set_2) | exact HI0.out)); (case side2 => repeat (first | (with_reducible first | exact HB.out | apply zc | apply zd | apply zb | refine ze ?_ (IsS88.ge HI0.out)) | exact HB.out)); rintro e w4 ⟨rfl, hi, hb, hk⟩; refine ⟨_, rfl, ?_⟩; have n0_ := za (zH (by repeat (first | (with_reducible first | exact HK.out | apply zt | apply zu | apply zs | apply zv) | exact HK.out)) hk (.inl rfl)); have n1_ := za (hb); have n2_ := za (hi); clear HK HB HI0; have HK := n0_; have HB := n1_; have HI0 := n2_; clear n0_ n1_ n2_; (try clear hb); (try clear hb2); (try clear hk); (try clear hi)))
 go_ret
 exact ⟨by first | rfl | (simp [errW_none, errW_some] <;> rfl) | (simp [*, errW_none, errW_some] <;> rfl), by repeat (first | (with_reducible first | exact HI0.out | apply IsS88.alloc | apply IsS88.drewN | apply IsS88.drew | apply IsS88.set_1 | apply IsS88.set_2) | exact HI0.out), by repeat (first | (with_reducible first | exact HB.out | apply zc | apply zd | apply zb | refine ze ?_ (IsS88.ge HI0.out)) | exact HB.out), by repeat (first | (with_reducible first | exact HK.out | apply zt | apply zu | apply zs | apply zv) | exact HK.out)⟩
end Go.Proofs.Ytiopnmgcajohfaa.Q
end
section
namespace Go.Proofs.Ytiopnmgcajohfaa.Q
open Go.RowKit Go.Proofs.YtiopnmgcajohfaaW.PrintWords Go.Proofs.YtiopnmgcajohfaaW.PrintLast Go.Proofs.YtiopnmgcajohfaaW.PrintMore
attribute [local go_sem] max2_int min2_int max_two min_two max_three min_three max_four min_four   -- for this text's walks alone
set_option linter.unusedVariables false
set_option linter.unusedSimpArgs false
def spec_boEmpty.f (a0 : Int) (a1 : Int) : Option (Int × Int × List Int) := if 0 ≤ a0 then (if (a0 : Int).toNat ≤ 35184372088832 then (some (a0, a1, (List.replicate (a0 : Int).toNat 0))) else (none)) else (none)
set_option maxHeartbeats 8000000 in
set_option maxRecDepth 100000 in
theorem spec_boEmpty.calls (a0 : Int) (a1 : Int) (r1 : Int) (r2 : Int) (r3 : List Int) (w : World) (h : spec_boEmpty.f a0 a1 = some (r1, r2, r3)) :
  Calls Try.prog 108 #[.int .i64 a0, .int .i64 a1] w fun e w' => ∃ v2_ : Value, e = .returned (.agg #[.int .i64 r1, .int .i64 r2, v2_]) ∧ Kd.R (Kd.int .i64) 3 w' w.heap.size (fun _ => True) v2_ r3 ∧ Below w.heap.size w w' := by
 have hu43 := Try.underlying43
 have HB := za (Below.refl w.heap.size w)
 have H : (if 0 ≤ a0 then (if (a0 : Int).toNat ≤ 35184372088832 then (some (a0, a1, (List.replicate (a0 : Int).toNat 0))) else (none)) else (none)) = some (r1, r2, r3) := h
 clear h
 by_cases c3 : 0 ≤ a0
 ·
  rw [if_pos c3] at H
  have c3b0 := eq_true c3
  have c3b1 : decide (0 ≤ a0) = true := decide_eq_true c3
  clear c3
  by_cases c4 : (a0 : Int).toNat ≤ 35184372088832
  ·
   rw [if_pos c4] at H
   have c4b0 := eq_true c4
   have c4b1 : decide ((a0 : Int).toNat ≤ 35184372088832) = true := decide_eq_true c4
   clear c4
   obtain ⟨y102, hy102⟩ : ∃ y_ : List Int, y_ = (List.replicate (a0 : Int).toNat 0) := ⟨_, rfl⟩
   replace H : (some (a0, a1, y102)) = some (r1, r2, r3) := by first | (rw [hy102]; with_reducible exact H) | (have H2_ := (Option.bind_some _ _).symm.trans H; rw [hy102]; with_reducible exact H2_) | (have H2_ := (Option.bind_some _ _).symm.trans H; with_reducible exact H2_) | with_reducible exact H | (rw [hy102]; exact H) | exact H
   have Ny102 := za hy102
   clear hy102
   simp only [Option.some.injEq, Prod.mk.injEq] at H
   obtain ⟨rfl, rfl, rfl⟩ := H
   go_enter Try.func108, Try.ntmps108
   go_wp2_with (first | ((with_reducible refine zF (N := 4) rfl ?_); refine zG ?hg (N := 4) ?hd (cs := #[.int .i64 0, .int .i64 0, .slice none 0 0]) (t := 43) ?hr ?_; (case hd => rfl); (case hg => rfl); (case hr => first | (go_simp; done) | (go_simp; rfl)); intro gb101 hg w5 hbox hb; have n0_ := za (zw (by repeat (first | (with_reducible first | exact HB.out | apply zc | apply zd | apply zb) | exact HB.out)) hb); have n1_ := za (hbox); have n2_ := za ((by rw [hg]; exact (zo (by repeat (first | (with_reducible first | exact HB.out | apply zc | apply zd | apply zb) | exact HB.out))) : w.heap.size ≤ gb101)); have n3_ := za ((by rw [hg]; exact (zo (by repeat (first | (with_reducible first | exact HB.out | apply zc | apply zd | apply zb) | exact HB.out))) : w.heap.size ≤ gb101)); clear HB; have HB := n0_; have BK101 := n1_; have GW101 := n2_; have GE101 := n3_; clear n0_ n1_ n2_ n3_; clear hb hbox hg) | ((with_reducible refine zF (N := 8) rfl ?_); refine Kd.R_make (Kd.int .i64) _ 3 rfl (N := 8) rfl 28 _ _ rfl a0 rfl rfl Try.underlying28 (.int .i64 0) 8 info3 rfl (by decide) (by omega) 0 (ok := fun _ => True) (okp := fun _ => True) rfl (fun _ hk => hk) trivial (of_decide_eq_true (by first | (with_reducible assumption) | assumption)) (Nat.le_trans (Nat.mul_le_mul_right _ (of_decide_eq_true (by first | (with_reducible assumption) | assumption) : a0.toNat ≤ 35184372088832)) (by omega)) (Below.refl _ _) (Nat.le_refl _) ?_; intro v103 w6 ho7 hb hg_ hnew_; clear hg_ hnew_; (first | rw [← Ny102.out] at ho7 | (simp only [Int.reduceToNat] at ho7; rw [← Ny102.out] at ho7)); have n0_ := za (Kd.R_lower ho7 (zo (by repeat (first | (with_reducible first | exact HB.out | apply zc | apply zd | apply zb | refine ze ?_ GE101.out) | exact HB.out)))); have n1_ := za (zA (g := gb101) (o := .cells #[.int .i64 0, .int .i64 0, .slice none 0 0] 43 (0, 0)) (by (with_reducible repeat (first | refine zg ?_ _ | refine zf ?_ | refine zh ?_ _)); exact BK101.out) hb); have n2_ := za (zw (by repeat (first | (with_reducible first | exact HB.out | apply zc | apply zd | apply zb | refine ze ?_ GE101.out) | exact HB.out)) hb); clear BK101 HB; have HO104 := n0_; have BK101 := n1_; have HB := n2_; clear n0_ n1_ n2_; clear hb ho7; obtain ⟨Ao8, co8, eo8⟩ := Kd.R_slice HO104.out; subst eo8; have hcz9_0 : w6.cell? ⟨gb101, 0, none⟩ = some (.int .i64 0) := (zi BK101.out 0).trans rfl; have hcz9_1 : w6.cell? ⟨gb101, 1, none⟩ = some (.int .i64 0) := (zi BK101.out 1).trans rfl; have hcz9_2 : w6.cell? ⟨gb101, 2, none⟩ = some (.slice none 0 0) := (zi BK101.out 2).trans rfl; have hfz9_0 := zj BK101.out 0; have hfz9_1 := zj BK101.out 1; have hfz9_2 := zj BK101.out 2))
   refine bodyPost_ret (results_cell_row rfl _ _ gb101 43 #[.int .i64 a0, .int .i64 a1, .slice Ao8 y102.length co8] (0, 0) _ rfl (by (with_reducible repeat (first | refine zg ?_ _ | refine zf ?_ | refine zh ?_ _)); refine blk_put (cs := #[.int .i64 a0, .int .i64 a1, .slice none 0 0]) ?_ 2 _ rfl; (with_reducible repeat (first | refine zg ?_ _ | refine zf ?_ | refine zh ?_ _)); refine blk_put (cs := #[.int .i64 a0, .int .i64 0, .slice none 0 0]) ?_ 1 _ rfl; (with_reducible repeat (first | refine zg ?_ _ | refine zf ?_ | refine zh ?_ _)); refine blk_put (cs := #[.int .i64 0, .int .i64 0, .slice none 0 0]) ?_ 0 _ rfl; (with_reducible repeat (first | refine zg ?_ _ | refine zf ?_ | refine zh ?_ _)); exact BK101.out) Try.underlying43 rfl (by kernel_rfl)) rfl ?_
   exact ⟨_, by first | rfl | (simp [errW_none, errW_some] <;> rfl) | (simp [*, errW_none, errW_some] <;> rfl), by (with_reducible repeat (first | apply zl | apply zm | apply zk)); exact zz (zn (p := ⟨gb101, 2, none⟩) (zn (p := ⟨gb101, 1, none⟩) (zn (p := ⟨gb101, 0, none⟩) (Kd.R_types HO104.out BK101.out (by decide)) (fun _ hk => hk.2) (.int .i64 a0)) (fun _ hk => hk.2) (.int .i64 a1)) (fun _ hk => hk.2) (.slice Ao8 y102.length co8)) (fun _ hk => trivial), by repeat (first | (with_reducible first | exact HB.out | apply zc | apply zd | apply zb | refine ze ?_ GE101.out) | exact HB.out)⟩
  ·
   rw [if_neg c4] at H
   exact absurd H (by simp)
 ·
  rw [if_neg c3] at H
  exact absurd H (by simp)
end Go.Proofs.Ytiopnmgcajohfaa.Q
end
section
namespace Go.Proofs.Ytiopnmgcajohfaa.Q
open Go.RowKit Go.Proofs.YtiopnmgcajohfaaW.PrintWords Go.Proofs.YtiopnmgcajohfaaW.PrintLast Go.Proofs.YtiopnmgcajohfaaW.PrintMore
attribute [local go_sem] max2_int min2_int max_two min_two max_three min_three max_four min_four   -- for this text's walks alone
set_option linter.unusedVariables false
set_option linter.unusedSimpArgs false
def spec_l1Cur_boardOf.l0 : Nat → Int → Int → Int → List Int → Int → Int → Int → Int → List Int → Option (Int × Int × List Int × Int × Int)
 | 0, _, _, _, _, _, _, _, _, _ => none
 | k + 1, x2, x14, x15, x1000, x1001, x1002, x108000, x108001, x108002 => if x15 < x14 then (if 0 ≤ x2 then ((spec_l1Cur_pick.f x1000 x1001 x1002 (shl .i64 1 x2)).bind fun bt108 => (if 0 ≤ x15 then (if x15 < (x108002.length : Int) then ((some (x108002.set (x15 : Int).toNat bt108.1 : List Int)).bind fun y111 => ((spec_l1Cur_one.f x1000 bt108.2.1 bt108.2.2 3).bind fun bt112 => (if bt112.1 = true then ((spec_l1Cur_pick.f x1000 bt112.2.1 bt112.2.2 (wrap64 (x2 + 1))).bind fun bt115 => (if 0 ≤ bt115.1 then (spec_l1Cur_boardOf.l0 k x2 x14 (wrap64 (x15 + 1)) x1000 bt115.2.1 bt115.2.2 x108000 x108001 (y111.set (x15 : Int).toNat (wrap64 ((shl .i64 1 bt115.1) - 1)))) else (none))) else (spec_l1Cur_boardOf.l0 k x2 x14 (wrap64 (x15 + 1)) x1000 bt112.2.1 bt112.2.2 x108000 x108001 y111)))) else (none)) else (none))) else (none)) else (some (x108000, x108001, x108002, x1001, x1002))
def spec_l1Cur_boardOf.f (k : Nat) (s0_0 : List Int) (s0_1 : Int) (s0_2 : Int) (a1 : Int) (a2 : Int) : Option (Int × Int × List Int × Int × Int) := (spec_boEmpty.f a1 a2).bind fun bt102 => (spec_l1Cur_boardOf.l0 k a2 (bt102.2.2.length : Int) 0 s0_0 s0_1 s0_2 bt102.1 bt102.2.1 bt102.2.2)
def spec_l1Cur_boardOf.T5 : Bool × List (List Nat × List Nat) := (true, [([], []), ([0], [0]), ([], []), ([], []), ([], []), ([4], [4]), ([3, 5], [3, 5]), ([1, 2, 0, 1, 2, 3, 4, 5, 6], [1, 2]), ([7, 6, 6, 0, 1, 2, 3, 4, 5, 6], [6, 7])])
def spec_l1Cur_boardOf.B5 : List Nat := [0, 1, 0, 0, 0, 16, 56, 127, 255]
theorem spec_l1Cur_boardOf.tab5 : rtab .any (opsOf Try.f143 5) = spec_l1Cur_boardOf.T5 := by kernel_rfl
theorem spec_l1Cur_boardOf.bits5 : waitsOk spec_l1Cur_boardOf.T5.2 spec_l1Cur_boardOf.B5 = true := by kernel_rfl
def spec_l1Cur_boardOf.T7 : Bool × List (List Nat × List Nat) := (true, [([], []), ([0], [0]), ([], []), ([], []), ([], []), ([4], [4]), ([3, 5], [3, 5]), ([6], [6]), ([7], [7]), ([1, 2, 0, 1, 2, 3, 4, 5, 6, 7, 8], [1, 2]), ([9, 8, 6, 0, 1, 2, 3, 4, 5, 6, 7, 8], [8, 9])])
def spec_l1Cur_boardOf.B7 : List Nat := [0, 1, 0, 0, 0, 16, 56, 120, 248, 511, 1023]
theorem spec_l1Cur_boardOf.tab7 : rtab .any (opsOf Try.f143 7) = spec_l1Cur_boardOf.T7 := by kernel_rfl
theorem spec_l1Cur_boardOf.bits7 : waitsOk spec_l1Cur_boardOf.T7.2 spec_l1Cur_boardOf.B7 = true := by kernel_rfl
set_option maxHeartbeats 8000000 in
set_option maxRecDepth 100000 in
theorem spec_l1Cur_boardOf.calls (k : Nat) (g : Nat) (s0_0 : List Int) (s0_1 : Int) (s0_2 : Int) (a1 : Int) (a2 : Int) (r1 : Int) (r2 : Int) (r3 : List Int) (r4 : Int) (r5 : Int) (w0 w : World) (hI : IsS88 w0 w g s0_0 s0_1 s0_2) (hB : Below w0.heap.size w0 w) (h : spec_l1Cur_boardOf.f k s0_0 s0_1 s0_2 a1 a2 = some (r1, r2, r3, r4, r5)) :
  Calls Try.prog 143 #[.pointer (some ⟨g, 0, none⟩), .int .i64 a1, .int .i64 a2] w fun e w' => ∃ v2_ : Value, e = .returned (.agg #[.int .i64 r1, .int .i64 r2, v2_]) ∧ Kd.R (Kd.int .i64) 3 w' w.heap.size (fun _ => True) v2_ r3 ∧ IsS88 w0 w' g s0_0 r4 r5 ∧ Below w0.heap.size w0 w' ∧ KeepBut w w' g none := by
 have hu43 := Try.underlying43
 have HI0 := za hI
 have HK := za (KeepBut.refl w g none)
 have HL := za hB.size
 clear hI
 have HW0 := za hB.size
 have HB := za hB
 clear hB
 have H : ((spec_boEmpty.f a1 a2).bind fun bt102 => (spec_l1Cur_boardOf.l0 k a2 (bt102.2.2.length : Int) 0 s0_0 s0_1 s0_2 bt102.1 bt102.2.1 bt102.2.2)) = some (r1, r2, r3, r4, r5) := h
 clear h
 replace H := Option.bind_eq_some_iff.mp H
 obtain ⟨⟨t102, t103, t104⟩, A40, H⟩ := H
 replace H : (spec_l1Cur_boardOf.l0 k a2 (t104.length : Int) 0 s0_0 s0_1 s0_2 t102 t103 t104) = some (r1, r2, r3, r4, r5) := H
 have A4 := za A40
 clear A40
 have H' := za H
 clear H
 go_enter Try.func143, Try.ntmps143
 go_wp2_with (first | ((with_reducible refine zF (N := 6) rfl ?_); refine zG ?hg (N := 6) ?hd (cs := #[.int .i64 0, .int .i64 0, .slice none 0 0]) (t := 43) ?hr ?_; (case hd => rfl); (case hg => rfl); (case hr => first | (go_simp; done) | (go_simp; rfl)); intro gb101 hg w5 hbox hb; have n0_ := za (IsS88.below (by repeat (first | (with_reducible first | exact HI0.out | apply IsS88.alloc | apply IsS88.drewN | apply IsS88.drew | apply IsS88.set_1 | apply IsS88.set_2) | exact HI0.out)) hb); have n1_ := za (zH (by repeat (first | (with_reducible first | exact HK.out | apply zt | apply zu | apply zs | apply zv) | exact HK.out)) (KeepBut.of_below hb g none) (.inl rfl)); have n2_ := za (zw (by repeat (first | (with_reducible first | exact HB.out | apply zc | apply zd | apply zb | refine ze ?_ (IsS88.ge HI0.out)) | exact HB.out)) hb); have n3_ := za (hbox); have n4_ := za ((by rw [hg]; exact (keep_size (w := w) (g := g) (row := none) (by repeat (first | (with_reducible first | exact HK.out | apply zt | apply zu | apply zs | apply zv) | exact HK.out))) : w.heap.size ≤ gb101)); have n5_ := za ((Nat.le_trans HW0.out (by rw [hg]; exact (keep_size (w := w) (g := g) (row := none) (by repeat (first | (with_reducible first | exact HK.out | apply zt | apply zu | apply zs | apply zv) | exact HK.out))) : w.heap.size ≤ gb101) : w0.heap.size ≤ gb101)); have n6_ := za ((by rw [hg]; exact Nat.ne_of_lt (IsS88.lt (show IsS88 w0 _ g s0_0 s0_1 s0_2 from by repeat (first | (with_reducible first | exact HI0.out | apply IsS88.alloc | apply IsS88.drewN | apply IsS88.drew | apply IsS88.set_1 | apply IsS88.set_2) | exact HI0.out))) : g ≠ gb101)); have n7_ := za ((by rw [hg]; exact Nat.ne_of_gt (IsS88.lt (show IsS88 w0 _ g s0_0 s0_1 s0_2 from by repeat (first | (with_reducible first | exact HI0.out | apply IsS88.alloc | apply IsS88.drewN | apply IsS88.drew | apply IsS88.set_1 | apply IsS88.set_2) | exact HI0.out))) : gb101 ≠ g)); clear HI0 HK HB; have HI0 := n0_; have HK := n1_; have HB := n2_; have BK101 := n3_; have GW101 := n4_; have GE101 := n5_; have NB0_101 := n6_; have NB101_0 := n7_; clear n0_ n1_ n2_ n3_ n4_ n5_ n6_ n7_; clear hb hbox hg) | ((with_reducible refine zy (f := 108) rfl ?_); refine goesL_ (some 11) rfl rfl Try.func108 (by kernel_rfl) rfl #[.int .i64 a1, .int .i64 a2] rfl (by (try simp only [List.map_toArray, List.map_cons, List.map_nil]); first | done | rfl | (simp only [List.length_drop, List.length_take]; rfl)) ?_; (with_reducible refine (spec_boEmpty.calls a1 a2 t102 t103 t104 _ A4.out).mono ?_); rintro e w6 ⟨v105, rfl, ho0, hb⟩; refine ⟨_, rfl, ?_⟩; have n0_ := za (Kd.R_lower ho0 (keep_size (w := w) (g := g) (row := none) (by repeat (first | (with_reducible first | exact HK.out | apply zt | apply zu | apply zs | apply zv | refine zx ?_ GW101.out _) | exact HK.out)))); have n1_ := za (IsS88.below (by repeat (first | (with_reducible first | exact HI0.out | apply IsS88.alloc | apply IsS88.drewN | apply IsS88.drew | apply IsS88.set_1 | apply IsS88.set_2 | refine IsS88.far ?_ NB0_101.out _) | exact HI0.out)) hb); have n2_ := za (zA (g := gb101) (o := .cells #[.int .i64 0, .int .i64 0, .slice none 0 0] 43 (0, 0)) (by (with_reducible repeat (first | refine zg ?_ _ | refine zf ?_ | refine zh ?_ _)); exact BK101.out) hb); have n3_ := za (zH (by repeat (first | (with_reducible first | exact HK.out | apply zt | apply zu | apply zs | apply zv | refine zx ?_ GW101.out _) | exact HK.out)) (KeepBut.of_below hb g none) (.inl rfl)); have n4_ := za (zw (by repeat (first | (with_reducible first | exact HB.out | apply zc | apply zd | apply zb | refine ze ?_ (IsS88.ge HI0.out) | refine ze ?_ GE101.out) | exact HB.out)) hb); clear HI0 BK101; clear HK HB; have HO106 := n0_; have HI0 := n1_; have BK101 := n2_; have HK := n3_; have HB := n4_; clear n0_ n1_ n2_ n3_ n4_; (try clear hb); (try clear hb2); (try clear hk); (try clear hi); (try clear ho0)) | ((with_reducible refine zF (N := 7) rfl ?_); refine zG ?hg (N := 7) ?hd (cs := #[.int .i64 0, .int .i64 0, .slice none 0 0]) (t := 43) ?hr ?_; (case hd => rfl); (case hg => rfl); (case hr => first | (go_simp; done) | (go_simp; rfl)); intro gb107 hg w7 hbox hb; have n0_ := za (zI (by (with_reducible repeat (first | apply zl | apply zm | apply zk)); exact HO106.out) hb); have n1_ := za (IsS88.below (by repeat (first | (with_reducible first | exact HI0.out | apply IsS88.alloc | apply IsS88.drewN | apply IsS88.drew | apply IsS88.set_1 | apply IsS88.set_2 | refine IsS88.far ?_ NB0_101.out _) | exact HI0.out)) hb); have n2_ := za (zA (g := gb101) (o := .cells #[.int .i64 0, .int .i64 0, .slice none 0 0] 43 (0, 0)) (by (with_reducible repeat (first | refine zg ?_ _ | refine zf ?_ | refine zh ?_ _)); exact BK101.out) hb); have n3_ := za (zH (by repeat (first | (with_reducible first | exact HK.out | apply zt | apply zu | apply zs | apply zv | refine zx ?_ GW101.out _) | exact HK.out)) (KeepBut.of_below hb g none) (.inl rfl)); have n4_ := za (zw (by repeat (first | (with_reducible first | exact HB.out | apply zc | apply zd | apply zb | refine ze ?_ (IsS88.ge HI0.out) | refine ze ?_ GE101.out) | exact HB.out)) hb); have n5_ := za (hbox); have n6_ := za ((by rw [hg]; exact (keep_size (w := w) (g := g) (row := none) (by repeat (first | (with_reducible first | exact HK.out | apply zt | apply zu | apply zs | apply zv | refine zx ?_ GW101.out _) | exact HK.out))) : w.heap.size ≤ gb107)); have n7_ := za ((Nat.le_trans HW0.out (by rw [hg]; exact (keep_size (w := w) (g := g) (row := none) (by repeat (first | (with_reducible first | exact HK.out | apply zt | apply zu | apply zs | apply zv | refine zx ?_ GW101.out _) | exact HK.out))) : w.heap.size ≤ gb107) : w0.heap.size ≤ gb107)); have n8_ := za ((by rw [hg]; exact Nat.ne_of_lt (blk_lt (g := gb101) (o := .cells #[.int .i64 0, .int .i64 0, .slice none 0 0] 43 (0, 0)) (by (with_reducible repeat (first | refine zg ?_ _ | refine zf ?_ | refine zh ?_ _)); exact BK101.out)) : gb101 ≠ gb107)); have n9_ := za ((by rw [hg]; exact Nat.ne_of_gt (blk_lt (g := gb101) (o := .cells #[.int .i64 0, .int .i64 0, .slice none 0 0] 43 (0, 0)) (by (with_reducible repeat (first | refine zg ?_ _ | refine zf ?_ | refine zh ?_ _)); exact BK101.out)) : gb107 ≠ gb101)); have n10_ := za ((by rw [hg]; exact Nat.ne_of_lt (IsS88.lt (show IsS88 w0 _ g s0_0 s0_1 s0_2 from by repeat (first | (with_reducible first | exact HI0.out | apply IsS88.alloc | apply IsS88.drewN | apply IsS88.drew | apply IsS88.set_1 | apply IsS88.set_2 | refine IsS88.far ?_ NB0_101.out _) | exact HI0.out))) : g ≠ gb107)); have n11_ := za ((by rw [hg]; exact Nat.ne_of_gt (IsS88.lt (show IsS88 w0 _ g s0_0 s0_1 s0_2 from by repeat (first | (with_reducible first | exact HI0.out | apply IsS88.alloc | apply IsS88.drewN | apply IsS88.drew | apply IsS88.set_1 | apply IsS88.set_2 | refine IsS88.far ?_ NB0_101.out _) | exact HI0.out))) : gb107 ≠ g)); clear HO106 HI0; clear BK101 HK HB; have HO106 := n0_; have HI0 := n1_; have BK101 := n2_; have HK := n3_; have HB := n4_; have BK107 := n5_; have GW107 := n6_; have GE107 := n7_; have NB101_107 := n8_; have NB107_101 := n9_; have NB0_107 := n10_; have NB107_0 := n11_; clear n0_ n1_ n2_ n3_ n4_ n5_ n6_ n7_ n8_ n9_ n10_ n11_; clear hb hbox hg; have hnb8 := NB107_101.out; have hnc8 := NB101_107.out; have hnb9 := NB107_0.out; have hnc9 := NB0_107.out; have hcz10_0 : w7.cell? ⟨gb107, 0, none⟩ = some (.int .i64 0) := (zi BK107.out 0).trans rfl; have hcz10_1 : w7.cell? ⟨gb107, 1, none⟩ = some (.int .i64 0) := (zi BK107.out 1).trans rfl; have hcz10_2 : w7.cell? ⟨gb107, 2, none⟩ = some (.slice none 0 0) := (zi BK107.out 2).trans rfl; have hfz10_0 := zj BK107.out 0; have hfz10_1 := zj BK107.out 1; have hfz10_2 := zj BK107.out 2; obtain ⟨Ao11, co11, eo11⟩ := Kd.R_slice HO106.out; subst eo11))
 go_loopg [15] k (fun kq v15 w' => ∃ (x15_1 : Int) (x1001_1 : Int) (x1002_1 : Int) (x108002_1 : List Int) (u108002 : Value), v15 = .int .i64 x15_1 ∧ Aside0 (spec_l1Cur_boardOf.l0 kq a2 (t104.length : Int) x15_1 s0_0 x1001_1 x1002_1 t102 t103 x108002_1 = some (r1, r2, r3, r4, r5)) ∧ Aside0 (kq ≤ k) ∧ Aside0 (Kd.R (Kd.int .i64) 3 w' w.heap.size (fun _ => True) u108002 x108002_1) ∧ Aside0 (w'.heap[gb101]? = some (.cells #[.int .i64 0, .int .i64 0, (.slice none 0 0)] 43 (0, 0))) ∧ Aside0 (w'.heap[gb107]? = some (.cells #[.int .i64 t102, .int .i64 t103, u108002] 43 (0, 0))) ∧ Aside0 (IsS88 w0 w' g s0_0 x1001_1 x1002_1) ∧ Aside0 (KeepBut w w' g none) ∧ Aside0 (Below w0.heap.size w0 w'))
 case atStart => exact ⟨(0), (s0_1), (s0_2), (t104), (.slice Ao11 t104.length co11), (by first | rfl | (simp; done) | (simp [*]; done)), H', ⟨Nat.le_refl _⟩, ⟨by (with_reducible repeat (first | apply zl | apply zm | apply zk)); exact zz (zn (p := ⟨gb107, 2, none⟩) (zn (p := ⟨gb107, 1, none⟩) (zn (p := ⟨gb107, 0, none⟩) (Kd.R_types HO106.out BK107.out (by decide)) (fun _ hk => hk.2) (.int .i64 t102)) (fun _ hk => hk.2) (.int .i64 t103)) (fun _ hk => hk.2) (.slice Ao11 t104.length co11)) (fun _ hk => trivial)⟩, ⟨by (with_reducible repeat (first | refine zg ?_ _ | refine zf ?_ | refine zh ?_ _)); refine blk_far ?_ NB101_107.out _; (with_reducible repeat (first | refine zg ?_ _ | refine zf ?_ | refine zh ?_ _)); refine blk_far ?_ NB101_107.out _; (with_reducible repeat (first | refine zg ?_ _ | refine zf ?_ | refine zh ?_ _)); refine blk_far ?_ NB101_107.out _; (with_reducible repeat (first | refine zg ?_ _ | refine zf ?_ | refine zh ?_ _)); exact BK101.out⟩, ⟨by (with_reducible repeat (first | refine zg ?_ _ | refine zf ?_ | refine zh ?_ _)); refine blk_put (cs := #[.int .i64 t102, .int .i64 t103, .slice none 0 0]) ?_ 2 _ rfl; (with_reducible repeat (first | refine zg ?_ _ | refine zf ?_ | refine zh ?_ _)); refine blk_put (cs := #[.int .i64 t102, .int .i64 0, .slice none 0 0]) ?_ 1 _ rfl; (with_reducible repeat (first | refine zg ?_ _ | refine zf ?_ | refine zh ?_ _)); refine blk_put (cs := #[.int .i64 0, .int .i64 0, .slice none 0 0]) ?_ 0 _ rfl; (with_reducible repeat (first | refine zg ?_ _ | refine zf ?_ | refine zh ?_ _)); exact BK107.out⟩, ⟨by repeat (first | (with_reducible first | exact HI0.out | apply IsS88.alloc | apply IsS88.drewN | apply IsS88.drew | apply IsS88.set_1 | apply IsS88.set_2 | refine IsS88.far ?_ NB0_101.out _ | refine IsS88.far ?_ NB0_107.out _) | exact HI0.out)⟩, ⟨by repeat (first | (with_reducible first | exact HK.out | apply zt | apply zu | apply zs | apply zv | refine zx ?_ GW101.out _ | refine zx ?_ GW107.out _) | exact HK.out)⟩, ⟨by repeat (first | (with_reducible first | exact HB.out | apply zc | apply zd | apply zb | refine ze ?_ (IsS88.ge HI0.out) | refine ze ?_ GE101.out | refine ze ?_ GE107.out) | exact HB.out)⟩⟩
 case round =>
  clear H'
  try clear c1
  try clear p2
  try clear c8
  try clear c9
  try clear c10
  try clear hcz10_0
  try clear hcz10_1
  try clear hcz10_2
  try clear hfz10_0
  try clear hfz10_1
  try clear hfz10_2
  obtain ⟨x15_1, x1001_1, x1002_1, x108002_1, u108002, rfl, HA, HK1, HO_108002, BK101, BK107, HI0, HK, HB⟩ := hrel
  cases gk with
  | zero => exact absurd HA.out (by simp [spec_l1Cur_boardOf.l0])
  | succ k1 =>
   have H := HA.out
   clear HA
   simp only [spec_l1Cur_boardOf.l0] at H
   by_cases c12 : x15_1 < (t104.length : Int)
   ·
    rw [if_pos c12] at H
    have c12b0 : decide (x15_1 < (t104.length : Int)) = true := decide_eq_true c12
    clear c12
    by_cases c13 : 0 ≤ a2
    ·
     rw [if_pos c13] at H
     have c13b0 := eq_true c13
     have c13b1 : decide (0 ≤ a2) = true := decide_eq_true c13
     clear c13
     obtain ⟨ji14, hji14⟩ : ∃ j_ : Int, (shl .i64 1 a2) = j_ := ⟨_, rfl⟩
     replace H : ((spec_l1Cur_pick.f s0_0 x1001_1 x1002_1 (ji14)).bind fun bt108 => (if 0 ≤ x15_1 then (if x15_1 < (x108002_1.length : Int) then ((some (x108002_1.set (x15_1 : Int).toNat bt108.1 : List Int)).bind fun y111 => ((spec_l1Cur_one.f s0_0 bt108.2.1 bt108.2.2 3).bind fun bt112 => (if bt112.1 = true then ((spec_l1Cur_pick.f s0_0 bt112.2.1 bt112.2.2 (wrap64 (a2 + 1))).bind fun bt115 => (if 0 ≤ bt115.1 then (spec_l1Cur_boardOf.l0 k1 a2 (t104.length : Int) (wrap64 (x15_1 + 1)) s0_0 bt115.2.1 bt115.2.2 t102 t103 (y111.set (x15_1 : Int).toNat (wrap64 ((shl .i64 1 bt115.1) - 1)))) else (none))) else (spec_l1Cur_boardOf.l0 k1 a2 (t104.length : Int) (wrap64 (x15_1 + 1)) s0_0 bt112.2.1 bt112.2.2 t102 t103 y111)))) else (none)) else (none))) = some (r1, r2, r3, r4, r5) := by first | (rw [hji14] at H; exact H) | (simp only [hji14] at H ⊢; exact H)
     have hji14_ : (IntKind.i64.wrap (1 * 2 ^ min a2.toNat 64)) = ji14 := hji14
     have hji14z : a2 ≤ 64 → (IntKind.i64.wrap (1 * 2 ^ a2.toNat)) = ji14 := shl_small hji14
     have hji14u : (IntKind.i64.wrap (2 ^ min a2.toNat 64)) = ji14 := by have h_ := hji14_; rw [Int.one_mul] at h_; exact h_
     have hji14v : a2 ≤ 64 → (IntKind.i64.wrap (2 ^ a2.toNat)) = ji14 := fun hle_ => by have h_ := hji14z hle_; rw [Int.one_mul] at h_; exact h_
     have hji14y : (wrap64 (1 * 2 ^ min a2.toNat 64)) = ji14 := (i64_w _).symm.trans hji14_
     have hji14x : a2 ≤ 64 → (wrap64 (1 * 2 ^ a2.toNat)) = ji14 := fun h_ => (i64_w _).symm.trans (hji14z h_)
     replace H := Option.bind_eq_some_iff.mp H
     obtain ⟨⟨t108, t109, t110⟩, A150, H⟩ := H
     replace H : (if 0 ≤ x15_1 then (if x15_1 < (x108002_1.length : Int) then ((some (x108002_1.set (x15_1 : Int).toNat t108 : List Int)).bind fun y111 => ((spec_l1Cur_one.f s0_0 t109 t110 3).bind fun bt112 => (if bt112.1 = true then ((spec_l1Cur_pick.f s0_0 bt112.2.1 bt112.2.2 (wrap64 (a2 + 1))).bind fun bt115 => (if 0 ≤ bt115.1 then (spec_l1Cur_boardOf.l0 k1 a2 (t104.length : Int) (wrap64 (x15_1 + 1)) s0_0 bt115.2.1 bt115.2.2 t102 t103 (y111.set (x15_1 : Int).toNat (wrap64 ((shl .i64 1 bt115.1) - 1)))) else (none))) else (spec_l1Cur_boardOf.l0 k1 a2 (t104.length : Int) (wrap64 (x15_1 + 1)) s0_0 bt112.2.1 bt112.2.2 t102 t103 y111)))) else (none)) else (none)) = some (r1, r2, r3, r4, r5) := H
     have A15 := za A150
     clear A150
     by_cases c16 : 0 ≤ x15_1
     ·
      rw [if_pos c16] at H
      have c16b0 : decide (0 ≤ x15_1) = true := decide_eq_true c16
      clear c16
      by_cases c17 : x15_1 < (x108002_1.length : Int)
      ·
       rw [if_pos c17] at H
       have c17b0 : decide (x15_1 < (x108002_1.length : Int)) = true := decide_eq_true c17
       clear c17
       obtain ⟨y111, hy111⟩ : ∃ y_ : List Int, y_ = (x108002_1.set (x15_1 : Int).toNat t108) := ⟨_, rfl⟩
       replace H : ((spec_l1Cur_one.f s0_0 t109 t110 3).bind fun bt112 => (if bt112.1 = true then ((spec_l1Cur_pick.f s0_0 bt112.2.1 bt112.2.2 (wrap64 (a2 + 1))).bind fun bt115 => (if 0 ≤ bt115.1 then (spec_l1Cur_boardOf.l0 k1 a2 (t104.length : Int) (wrap64 (x15_1 + 1)) s0_0 bt115.2.1 bt115.2.2 t102 t103 (y111.set (x15_1 : Int).toNat (wrap64 ((shl .i64 1 bt115.1) - 1)))) else (none))) else (spec_l1Cur_boardOf.l0 k1 a2 (t104.length : Int) (wrap64 (x15_1 + 1)) s0_0 bt112.2.1 bt112.2.2 t102 t103 y111))) = some (r1, r2, r3, r4, r5) := by first | (rw [hy111]; with_reducible exact H) | (have H2_ := (Option.bind_some _ _).symm.trans H; rw [hy111]; with_reducible exact H2_) | (have H2_ := (Option.bind_some _ _).symm.trans H; with_reducible exact H2_) | with_reducible exact H | (rw [hy111]; exact H) | exact H
       have Ny111 := za hy111
       clear hy111
       replace H := Option.bind_eq_some_iff.mp H
       obtain ⟨⟨t112, t113, t114⟩, A190, H⟩ := H
       replace H : (if t112 = true then ((spec_l1Cur_pick.f s0_0 t113 t114 (wrap64 (a2 + 1))).bind fun bt115 => (if 0 ≤ bt115.1 then (spec_l1Cur_boardOf.l0 k1 a2 (t104.length : Int) (wrap64 (x15_1 + 1)) s0_0 bt115.2.1 bt115.2.2 t102 t103 (y111.set (x15_1 : Int).toNat (wrap64 ((shl .i64 1 bt115.1) - 1)))) else (none))) else (spec_l1Cur_boardOf.l0 k1 a2 (t104.length : Int) (wrap64 (x15_1 + 1)) s0_0 t113 t114 t102 t103 y111)) = some (r1, r2, r3, r4, r5) := H
       have A19 := za A190
       clear A190
       by_cases c20 : t112 = true
       ·
        subst c20
        have H1 : ((spec_l1Cur_pick.f s0_0 t113 t114 (wrap64 (a2 + 1))).bind fun bt115 => (if 0 ≤ bt115.1 then (spec_l1Cur_boardOf.l0 k1 a2 (t104.length : Int) (wrap64 (x15_1 + 1)) s0_0 bt115.2.1 bt115.2.2 t102 t103 (y111.set (x15_1 : Int).toNat (wrap64 ((shl .i64 1 bt115.1) - 1)))) else (none))) = some (r1, r2, r3, r4, r5) := by rw [if_pos rfl] at H; exact H
        clear H
        have H := H1
        clear H1
        replace H := Option.bind_eq_some_iff.mp H
        obtain ⟨⟨t115, t116, t117⟩, A210, H⟩ := H
        replace H : (if 0 ≤ t115 then (spec_l1Cur_boardOf.l0 k1 a2 (t104.length : Int) (wrap64 (x15_1 + 1)) s0_0 t116 t117 t102 t103 (y111.set (x15_1 : Int).toNat (wrap64 ((shl .i64 1 t115) - 1)))) else (none)) = some (r1, r2, r3, r4, r5) := H
        have A21 := za A210
        clear A210
        by_cases c22 : 0 ≤ t115
        ·
         rw [if_pos c22] at H
         have c22b0 := eq_true c22
         have c22b1 : decide (0 ≤ t115) = true := decide_eq_true c22
         clear c22
         obtain ⟨ji23, hji23⟩ : ∃ j_ : Int, (shl .i64 1 t115) = j_ := ⟨_, rfl⟩
         replace H : (spec_l1Cur_boardOf.l0 k1 a2 (t104.length : Int) (wrap64 (x15_1 + 1)) s0_0 t116 t117 t102 t103 (y111.set (x15_1 : Int).toNat (wrap64 ((ji23) - 1)))) = some (r1, r2, r3, r4, r5) := by first | (rw [hji23] at H; exact H) | (simp only [hji23] at H ⊢; exact H)
         (try rw [hji23] at A15)
         (try rw [hji23] at A19)
         (try rw [hji23] at A21)
         have hji23_ : (IntKind.i64.wrap (1 * 2 ^ min t115.toNat 64)) = ji23 := hji23
         have hji23z : t115 ≤ 64 → (IntKind.i64.wrap (1 * 2 ^ t115.toNat)) = ji23 := shl_small hji23
         have hji23u : (IntKind.i64.wrap (2 ^ min t115.toNat 64)) = ji23 := by have h_ := hji23_; rw [Int.one_mul] at h_; exact h_
         have hji23v : t115 ≤ 64 → (IntKind.i64.wrap (2 ^ t115.toNat)) = ji23 := fun hle_ => by have h_ := hji23z hle_; rw [Int.one_mul] at h_; exact h_
         have hji23y : (wrap64 (1 * 2 ^ min t115.toNat 64)) = ji23 := (i64_w _).symm.trans hji23_
         have hji23x : t115 ≤ 64 → (wrap64 (1 * 2 ^ t115.toNat)) = ji23 := fun h_ => (i64_w _).symm.trans (hji23z h_)
         obtain ⟨y118, hy118⟩ : ∃ y_ : List Int, y_ = (y111.set (x15_1 : Int).toNat (wrap64 ((ji23) - 1))) := ⟨_, rfl⟩
         replace H : (spec_l1Cur_boardOf.l0 k1 a2 (t104.length : Int) (wrap64 (x15_1 + 1)) s0_0 t116 t117 t102 t103 y118) = some (r1, r2, r3, r4, r5) := by first | (rw [hy118]; with_reducible exact H) | (have H2_ := (Option.bind_some _ _).symm.trans H; rw [hy118]; with_reducible exact H2_) | (have H2_ := (Option.bind_some _ _).symm.trans H; with_reducible exact H2_) | with_reducible exact H | (rw [hy118]; exact H) | exact H
         have Ny118 := za hy118
         clear hy118
         have H' := za H
         clear H
         try go_wp2
         have n0_ := za (zk HO_108002.out)
         have n1_ := za (zf BK101.out)
         have n2_ := za (zf BK107.out)
         have n3_ := za (IsS88.drew HI0.out)
         have n4_ := za (zs HK.out)
         have n5_ := za (zb HB.out)
         clear HO_108002
         clear BK101
         clear BK107
         clear HI0
         clear HK
         clear HB
         have HO_108002 := n0_
         have BK101 := n1_
         have BK107 := n2_
         have HI0 := n3_
         have HK := n4_
         have HB := n5_
         clear n0_ n1_ n2_ n3_ n4_ n5_
         refine start_ (n := 9) (S := fun w' => w'.cell? ⟨gb107, 0, none⟩ = some (.int .i64 t102) ∧ w'.cell? ⟨gb107, 1, none⟩ = some (.int .i64 t103) ∧ w'.cell? ⟨gb107, 2, none⟩ = some (u108002)) (ds := [8]) #[false, false, false, false, false, false, false, false, false] (by kernel_rfl) rfl rfl ⟨(zi BK107.out 0).trans rfl, (zi BK107.out 1).trans rfl, (zi BK107.out 2).trans rfl⟩ (fun hHeld => ?_); refine with_tabW spec_l1Cur_boardOf.tab5 spec_l1Cur_boardOf.bits5 (fun HT_ HW_ => ?_)
         generalize wr.drew = w25 at HO_108002 BK101 BK107 HI0 HK HB hHeld ⊢
         refine pure_ (i := 0) (N := some 18) (v := ?_) (a' := ?_) #[true, false, false, false, false, false, false, false, false] rfl rfl (any_of HT_.out (by kernel_rfl)) (fun _ _ _ h => h) (Or.inl ⟨by rfl, ?_⟩) ?_ ?_
         rotate_left
         ·
          intro w'
          go_simp
          with_reducible rfl
         rotate_left
         ·
          simp only [Act.put, List.setIfInBounds_toArray, List.set_cons_zero, List.set_cons_succ, i64_w, i32_w]
          rfl
         refine pure_ (i := 2) (N := some 20) (v := ?_) (a' := ?_) #[true, false, true, false, false, false, false, false, false] rfl rfl (any_of HT_.out (by kernel_rfl)) (fun _ _ _ h => h) (Or.inl ⟨by rfl, ?_⟩) ?_ ?_
         rotate_left
         ·
          intro w'
          go_simp
          with_reducible rfl
         rotate_left
         ·
          simp only [Act.put, List.setIfInBounds_toArray, List.set_cons_zero, List.set_cons_succ, i64_w, i32_w]
          rfl
         refine pure_ (i := 3) (N := some 21) (v := ?_) (a' := ?_) #[true, false, true, true, false, false, false, false, false] rfl rfl (any_of HT_.out (by kernel_rfl)) (fun _ _ _ h => h) (Or.inl ⟨by rfl, ?_⟩) ?_ ?_
         rotate_left
         ·
          intro w'
          go_simp
          with_reducible rfl
         rotate_left
         ·
          simp only [Act.put, List.setIfInBounds_toArray, List.set_cons_zero, List.set_cons_succ, i64_w, i32_w]
          rfl
         refine pure_ (i := 4) (N := some 22) (v := ?_) (a' := ?_) #[true, false, true, true, true, false, false, false, false] rfl rfl (any_of HT_.out (by kernel_rfl)) (fun _ _ _ h => h) (Or.inl ⟨by rfl, ?_⟩) ?_ ?_
         rotate_left
         ·
          intro w'
          go_simp
          with_reducible rfl
         rotate_left
         ·
          simp only [Act.put, List.setIfInBounds_toArray, List.set_cons_zero, List.set_cons_succ, i64_w, i32_w]
          rfl
         refine pure_ (i := 5) (N := some 23) (v := ?_) (a' := ?_) #[true, false, true, true, true, true, false, false, false] rfl rfl (any_of HT_.out (by kernel_rfl)) (fun _ _ _ h => h) (Or.inl ⟨by rfl, ?_⟩) ?_ ?_
         rotate_left
         ·
          intro w'
          go_simp
          with_reducible rfl
         rotate_left
         ·
          simp only [Act.put, List.setIfInBounds_toArray, List.set_cons_zero, List.set_cons_succ, i64_w, i32_w]
          rfl
         refine take_ (i := 1) (N := some 19) (v := ?_) (a' := ?_) #[true, true, true, true, true, true, false, false, false] rfl rfl (take_ofW HT_.out HW_.out (by kernel_rfl)) (fun _ _ _ h => h) (Or.inl ⟨by rfl, ?_⟩) hHeld ?_ ?_
         rotate_left
         ·
          rintro w' ⟨s0, s1, s2⟩
          go_simp
          with_reducible rfl
         rotate_left
         ·
          simp only [Act.put, List.setIfInBounds_toArray, List.set_cons_zero, List.set_cons_succ, i64_w, i32_w]
          rfl
         refine one_ (i := 6) (N := some 24) #[true, true, true, true, true, true, true, false, false] rfl rfl (one_of HT_.out (by kernel_rfl)) (by decide) (fun K hK => ?_)
         refine goes_ Try.func127 (by kernel_rfl) rfl #[.pointer (some ⟨g, 0, none⟩), .int .i64 ji14] (by rfl) rfl rfl (by (try simp only [List.map_toArray, List.map_cons, List.map_nil]); first | done | (simp only [hji14]; rfl) | rfl | (simp only [List.length_drop, List.length_take]; rfl)) ?_
         with_reducible refine (spec_l1Cur_pick.calls g s0_0 x1001_1 x1002_1 ji14 t108 t109 t110 w0 _ ?side1 ?side2 A15.out).mono ?_
         (case side1 => repeat (first | (with_reducible first | exact HI0.out | apply IsS88.alloc | apply IsS88.drewN | apply IsS88.drew | apply IsS88.set_1 | apply IsS88.set_2 | refine IsS88.far ?_ NB0_101.out _ | refine IsS88.far ?_ NB0_107.out _) | exact HI0.out))
         (case side2 => repeat (first | (with_reducible first | exact HB.out | apply zc | apply zd | apply zb | refine ze ?_ (IsS88.ge HI0.out) | refine ze ?_ GE101.out | refine ze ?_ GE107.out) | exact HB.out))
         rintro e w26 ⟨rfl, hi, hb, hk⟩
         refine ⟨_, rfl, ?_⟩
         have n0_ := za (zz (Kd.R_keep (IsS88.apart (show IsS88 w0 _ g s0_0 x1001_1 x1002_1 from by repeat (first | (with_reducible first | exact HI0.out | apply IsS88.alloc | apply IsS88.drewN | apply IsS88.drew | apply IsS88.set_1 | apply IsS88.set_2 | refine IsS88.far ?_ NB0_101.out _ | refine IsS88.far ?_ NB0_107.out _) | exact HI0.out)) (by (with_reducible repeat (first | apply zl | apply zm | apply zk)); exact HO_108002.out) (by decide)) hk (fun _ h => h.2)) (fun _ h => h.1))
         have n1_ := za (zJ hk (g' := gb101) (o := .cells #[.int .i64 0, .int .i64 0, .slice none 0 0] 43 (0, 0)) (by (with_reducible repeat (first | refine zg ?_ _ | refine zf ?_ | refine zh ?_ _)); exact BK101.out) NB101_0.out (by simp))
         have n2_ := za (zJ hk (g' := gb107) (o := .cells #[.int .i64 t102, .int .i64 t103, u108002] 43 (0, 0)) (by (with_reducible repeat (first | refine zg ?_ _ | refine zf ?_ | refine zh ?_ _)); exact BK107.out) NB107_0.out (by simp))
         have n3_ := za (zH (by repeat (first | (with_reducible first | exact HK.out | apply zt | apply zu | apply zs | apply zv | refine zx ?_ GW101.out _ | refine zx ?_ GW107.out _) | exact HK.out)) hk (.inl rfl))
         have n4_ := za (hb)
         have n5_ := za (hi)
         clear HO_108002
         clear BK101
         clear BK107
         clear HK
         clear HB
         clear HI0
         have HO_108002 := n0_
         have BK101 := n1_
         have BK107 := n2_
         have HK := n3_
         have HB := n4_
         have HI0 := n5_
         clear n0_ n1_ n2_ n3_ n4_ n5_
         (try clear hb)
         (try clear hb2)
         (try clear hk)
         (try clear hi)
         have p18 : 0 ≤ (x15_1 : Int) := of_decide_eq_true (by first | (with_reducible assumption) | assumption)
         have q18 : (x15_1 : Int) < ((x108002_1.length : Int) : Int) := of_decide_eq_true (by first | (with_reducible assumption) | assumption)
         obtain ⟨go18, co18, eo18, gb18, gl18, cl18, HG18⟩ := Kd.R_form HO_108002.out (by omega)
         (first | cases eo18 | (injection eo18 with ea_ en_ ec_; (first | subst ea_ | (injection ea_ with ea_; subst ea_)); subst ec_; clear en_))
         have GB18 := za gb18
         have GG18 := za HG18
         clear gb18 gl18 HG18
         obtain ⟨hx18_0, hf18_0⟩ := Kd.R_celln 0 HO_108002.out (x15_1 : Int) p18 q18
         replace p18 := eq_true p18
         replace q18 := eq_true q18
         have HN0_go18 := za (show g ≠ go18 from by have h_ := IsS88.own_ne HI0.out HO_108002.out (by decide); intro e_; exact h_ (by rw [e_]; rfl))
         have HP27 := Kd.R_putn HO_108002.out (x15_1 : Int) t108
         rw [← Ny111.out] at HP27
         have HQ27 := za HP27
         clear HP27
         refine hK.out _ _ ⟨(zi BK107.out 0).trans rfl, (zi BK107.out 1).trans rfl, (zi BK107.out 2).trans rfl⟩ (fun hHeld => ?_)
         clear hK K
         refine norm_ (a' := ?_) ?_ ?_
         rotate_left
         ·
          show Act.put _ (some 24) _ = _
          simp only [Act.put, List.setIfInBounds_toArray, List.set_cons_zero, List.set_cons_succ, i64_w, i32_w]
          rfl
         refine pure_ (i := 7) (N := some 25) (v := ?_) (a' := ?_) #[true, true, true, true, true, true, true, true, false] rfl rfl (any_of HT_.out (by kernel_rfl)) (fun _ _ _ h => h) (Or.inl ⟨by rfl, ?_⟩) ?_ ?_
         rotate_left
         ·
          intro w'
          go_simp
          with_reducible rfl
         rotate_left
         ·
          simp only [Act.put, List.setIfInBounds_toArray, List.set_cons_zero, List.set_cons_succ, i64_w, i32_w]
          rfl
         refine last_ (i := 8) (N := none) #[true, true, true, true, true, true, true, true, true] rfl rfl (one_of HT_.out (by kernel_rfl)) (by decide) (fun K hK => ?_)
         refine skip_ (w1 := ?_) (by rfl) rfl ?_ ?_
         rotate_left
         ·
          go_simp
          rfl
         refine hK.out _ _ ?_
         clear hK K
         refine done_ (done_of HT_.out (by kernel_rfl)) ?_
         try go_wp2_with (first | ((with_reducible refine zy (f := 125) rfl ?_); refine goesL_ (some 27) rfl rfl Try.func125 (by kernel_rfl) rfl #[.pointer (some ⟨g, 0, none⟩), .int .i64 3] rfl (by (try simp only [List.map_toArray, List.map_cons, List.map_nil]); first | done | rfl | (simp only [List.length_drop, List.length_take]; rfl)) ?_; (with_reducible refine (spec_l1Cur_one.calls g s0_0 t109 t110 3 true t113 t114 w0 _ ?side1 ?side2 A19.out).mono ?_); (case side1 => repeat (first | (with_reducible first | exact HI0.out | apply IsS88.alloc | apply IsS88.drewN | apply IsS88.drew | apply IsS88.set_1 | apply IsS88.set_2 | refine IsS88.far ?_ HN0_go18.out _ | refine IsS88.far ?_ NB0_101.out _ | refine IsS88.far ?_ NB0_107.out _) | exact HI0.out)); (case side2 => repeat (first | (with_reducible first | exact HB.out | apply zc | apply zd | apply zb | refine ze ?_ (Nat.le_trans HL.out GB18.out) | refine ze ?_ (IsS88.ge HI0.out) | refine ze ?_ GE101.out | refine ze ?_ GE107.out) | exact HB.out)); rintro e w28 ⟨rfl, hi, hb, hk⟩; refine ⟨_, rfl, ?_⟩; have n0_ := za (zz (Kd.R_keep (IsS88.apart (show IsS88 w0 _ g s0_0 t109 t110 from by repeat (first | (with_reducible first | exact HI0.out | apply IsS88.alloc | apply IsS88.drewN | apply IsS88.drew | apply IsS88.set_1 | apply IsS88.set_2 | refine IsS88.far ?_ HN0_go18.out _ | refine IsS88.far ?_ NB0_101.out _ | refine IsS88.far ?_ NB0_107.out _) | exact HI0.out)) (by (with_reducible repeat (first | apply zl | apply zm | apply zk)); exact HQ27.out) (by decide)) hk (fun _ h => h.2)) (fun _ h => h.1)); have n1_ := za (zJ hk (g' := gb101) (o := .cells #[.int .i64 0, .int .i64 0, .slice none 0 0] 43 (0, 0)) (by (with_reducible repeat (first | refine zg ?_ _ | refine zf ?_ | refine zh ?_ _)); refine blk_far ?_ (by have h_ := Kd.R_ne HO_108002.out BK101.out (by decide); intro e_; exact h_ (by rw [e_]; rfl)) _; (with_reducible repeat (first | refine zg ?_ _ | refine zf ?_ | refine zh ?_ _)); exact BK101.out) NB101_0.out (by simp)); have n2_ := za (zJ hk (g' := gb107) (o := .cells #[.int .i64 t102, .int .i64 t103, .slice (some ⟨go18, 0, none⟩) x108002_1.length co18] 43 (0, 0)) (by (with_reducible repeat (first | refine zg ?_ _ | refine zf ?_ | refine zh ?_ _)); refine blk_far ?_ (by have h_ := Kd.R_ne HO_108002.out BK107.out (by decide); intro e_; exact h_ (by rw [e_]; rfl)) _; (with_reducible repeat (first | refine zg ?_ _ | refine zf ?_ | refine zh ?_ _)); exact BK107.out) NB107_0.out (by simp)); have n3_ := za (zH (by repeat (first | (with_reducible first | exact HK.out | apply zt | apply zu | apply zs | apply zv | refine zx ?_ GB18.out _ | refine zx ?_ GW101.out _ | refine zx ?_ GW107.out _) | exact HK.out)) hk (.inl rfl)); have n4_ := za (hb); have n5_ := za (hi); clear HO_108002 BK101; clear BK107 HK; clear HB HI0; have HO_108002 := n0_; have BK101 := n1_; have BK107 := n2_; have HK := n3_; have HB := n4_; have HI0 := n5_; clear n0_ n1_ n2_ n3_ n4_ n5_; (try clear hb); (try clear hb2); (try clear hk); (try clear hi)))
         have n0_ := za (zk HO_108002.out)
         have n1_ := za (zf BK101.out)
         have n2_ := za (zf BK107.out)
         have n3_ := za (IsS88.drew HI0.out)
         have n4_ := za (zs HK.out)
         have n5_ := za (zb HB.out)
         clear HO_108002
         clear BK101
         clear BK107
         clear HI0
         clear HK
         clear HB
         have HO_108002 := n0_
         have BK101 := n1_
         have BK107 := n2_
         have HI0 := n3_
         have HK := n4_
         have HB := n5_
         clear n0_ n1_ n2_ n3_ n4_ n5_
         refine start_ (n := 11) (S := fun w' => w'.cell? ⟨gb107, 0, none⟩ = some (.int .i64 t102) ∧ w'.cell? ⟨gb107, 1, none⟩ = some (.int .i64 t103) ∧ w'.cell? ⟨gb107, 2, none⟩ = some (.slice (some ⟨go18, 0, none⟩) x108002_1.length co18)) (ds := [10]) #[false, false, false, false, false, false, false, false, false, false, false] (by kernel_rfl) rfl rfl ⟨(zi BK107.out 0).trans rfl, (zi BK107.out 1).trans rfl, (zi BK107.out 2).trans rfl⟩ (fun hHeld => ?_); refine with_tabW spec_l1Cur_boardOf.tab7 spec_l1Cur_boardOf.bits7 (fun HT_ HW_ => ?_)
         generalize w28.drew = w29 at HO_108002 BK101 BK107 HI0 HK HB hHeld ⊢
         refine pure_ (i := 0) (N := some 28) (v := ?_) (a' := ?_) #[true, false, false, false, false, false, false, false, false, false, false] rfl rfl (any_of HT_.out (by kernel_rfl)) (fun _ _ _ h => h) (Or.inl ⟨by rfl, ?_⟩) ?_ ?_
         rotate_left
         ·
          intro w'
          go_simp
          with_reducible rfl
         rotate_left
         ·
          simp only [Act.put, List.setIfInBounds_toArray, List.set_cons_zero, List.set_cons_succ, i64_w, i32_w]
          rfl
         refine pure_ (i := 2) (N := some 30) (v := ?_) (a' := ?_) #[true, false, true, false, false, false, false, false, false, false, false] rfl rfl (any_of HT_.out (by kernel_rfl)) (fun _ _ _ h => h) (Or.inl ⟨by rfl, ?_⟩) ?_ ?_
         rotate_left
         ·
          intro w'
          go_simp
          with_reducible rfl
         rotate_left
         ·
          simp only [Act.put, List.setIfInBounds_toArray, List.set_cons_zero, List.set_cons_succ, i64_w, i32_w]
          rfl
         refine pure_ (i := 3) (N := some 31) (v := ?_) (a' := ?_) #[true, false, true, true, false, false, false, false, false, false, false] rfl rfl (any_of HT_.out (by kernel_rfl)) (fun _ _ _ h => h) (Or.inl ⟨by rfl, ?_⟩) ?_ ?_
         rotate_left
         ·
          intro w'
          go_simp
          with_reducible rfl
         rotate_left
         ·
          simp only [Act.put, List.setIfInBounds_toArray, List.set_cons_zero, List.set_cons_succ, i64_w, i32_w]
          rfl
         refine pure_ (i := 4) (N := some 32) (v := ?_) (a' := ?_) #[true, false, true, true, true, false, false, false, false, false, false] rfl rfl (any_of HT_.out (by kernel_rfl)) (fun _ _ _ h => h) (Or.inl ⟨by rfl, ?_⟩) ?_ ?_
         rotate_left
         ·
          intro w'
          go_simp
          with_reducible rfl
         rotate_left
         ·
          simp only [Act.put, List.setIfInBounds_toArray, List.set_cons_zero, List.set_cons_succ, i64_w, i32_w]
          rfl
         refine pure_ (i := 5) (N := some 33) (v := ?_) (a' := ?_) #[true, false, true, true, true, true, false, false, false, false, false] rfl rfl (any_of HT_.out (by kernel_rfl)) (fun _ _ _ h => h) (Or.inl ⟨by rfl, ?_⟩) ?_ ?_
         rotate_left
         ·
          intro w'
          go_simp
          with_reducible rfl
         rotate_left
         ·
          simp only [Act.put, List.setIfInBounds_toArray, List.set_cons_zero, List.set_cons_succ, i64_w, i32_w]
          rfl
         refine take_ (i := 1) (N := some 29) (v := ?_) (a' := ?_) #[true, true, true, true, true, true, false, false, false, false, false] rfl rfl (take_ofW HT_.out HW_.out (by kernel_rfl)) (fun _ _ _ h => h) (Or.inl ⟨by rfl, ?_⟩) hHeld ?_ ?_
         rotate_left
         ·
          rintro w' ⟨s0, s1, s2⟩
          go_simp
          with_reducible rfl
         rotate_left
         ·
          simp only [Act.put, List.setIfInBounds_toArray, List.set_cons_zero, List.set_cons_succ, i64_w, i32_w]
          rfl
         refine one_ (i := 6) (N := some 34) #[true, true, true, true, true, true, true, false, false, false, false] rfl rfl (one_of HT_.out (by kernel_rfl)) (by decide) (fun K hK => ?_)
         refine goes_ Try.func127 (by kernel_rfl) rfl #[.pointer (some ⟨g, 0, none⟩), .int .i64 (wrap64 (a2 + 1))] (by rfl) rfl rfl (by (try simp only [List.map_toArray, List.map_cons, List.map_nil]); first | done | rfl | (simp only [List.length_drop, List.length_take]; rfl)) ?_
         with_reducible refine (spec_l1Cur_pick.calls g s0_0 t113 t114 (wrap64 (a2 + 1)) t115 t116 t117 w0 _ ?side1 ?side2 A21.out).mono ?_
         (case side1 => repeat (first | (with_reducible first | exact HI0.out | apply IsS88.alloc | apply IsS88.drewN | apply IsS88.drew | apply IsS88.set_1 | apply IsS88.set_2 | refine IsS88.far ?_ NB0_101.out _ | refine IsS88.far ?_ NB0_107.out _) | exact HI0.out))
         (case side2 => repeat (first | (with_reducible first | exact HB.out | apply zc | apply zd | apply zb | refine ze ?_ (IsS88.ge HI0.out) | refine ze ?_ GE101.out | refine ze ?_ GE107.out) | exact HB.out))
         rintro e w30 ⟨rfl, hi, hb, hk⟩
         refine ⟨_, rfl, ?_⟩
         have n0_ := za (zz (Kd.R_keep (IsS88.apart (show IsS88 w0 _ g s0_0 t113 t114 from by repeat (first | (with_reducible first | exact HI0.out | apply IsS88.alloc | apply IsS88.drewN | apply IsS88.drew | apply IsS88.set_1 | apply IsS88.set_2 | refine IsS88.far ?_ NB0_101.out _ | refine IsS88.far ?_ NB0_107.out _) | exact HI0.out)) (by (with_reducible repeat (first | apply zl | apply zm | apply zk)); exact HO_108002.out) (by decide)) hk (fun _ h => h.2)) (fun _ h => h.1))
         have n1_ := za (zJ hk (g' := gb101) (o := .cells #[.int .i64 0, .int .i64 0, .slice none 0 0] 43 (0, 0)) (by (with_reducible repeat (first | refine zg ?_ _ | refine zf ?_ | refine zh ?_ _)); exact BK101.out) NB101_0.out (by simp))
         have n2_ := za (zJ hk (g' := gb107) (o := .cells #[.int .i64 t102, .int .i64 t103, .slice (some ⟨go18, 0, none⟩) x108002_1.length co18] 43 (0, 0)) (by (with_reducible repeat (first | refine zg ?_ _ | refine zf ?_ | refine zh ?_ _)); exact BK107.out) NB107_0.out (by simp))
         have n3_ := za (zH (by repeat (first | (with_reducible first | exact HK.out | apply zt | apply zu | apply zs | apply zv | refine zx ?_ GW101.out _ | refine zx ?_ GW107.out _) | exact HK.out)) hk (.inl rfl))
         have n4_ := za (hb)
         have n5_ := za (hi)
         clear HO_108002
         clear BK101
         clear BK107
         clear HK
         clear HB
         clear HI0
         have HO_108002 := n0_
         have BK101 := n1_
         have BK107 := n2_
         have HK := n3_
         have HB := n4_
         have HI0 := n5_
         clear n0_ n1_ n2_ n3_ n4_ n5_
         (try clear hb)
         (try clear hb2)
         (try clear hk)
         (try clear hi)
         have p24 : 0 ≤ (x15_1 : Int) := of_decide_eq_true (by first | (with_reducible assumption) | assumption)
         have q24 : (x15_1 : Int) < ((x108002_1.length : Int) : Int) := of_decide_eq_true (by first | (with_reducible assumption) | assumption)
         obtain ⟨hx24_0, hf24_0⟩ := Kd.R_celln 0 HO_108002.out (x15_1 : Int) p24 q24
         replace p24 := eq_true p24
         replace q24 := eq_true q24
         have HN0_go18 := za (show g ≠ go18 from by have h_ := IsS88.own_ne HI0.out HO_108002.out (by decide); intro e_; exact h_ (by rw [e_]; rfl))
         have HP31 := Kd.R_putn HO_108002.out (x15_1 : Int) (wrap64 ((ji23) - 1))
         rw [← Ny118.out] at HP31
         have HQ31 := za HP31
         clear HP31
         refine hK.out _ _ ⟨(zi BK107.out 0).trans rfl, (zi BK107.out 1).trans rfl, (zi BK107.out 2).trans rfl⟩ (fun hHeld => ?_)
         clear hK K
         refine norm_ (a' := ?_) ?_ ?_
         rotate_left
         ·
          show Act.put _ (some 34) _ = _
          simp only [Act.put, List.setIfInBounds_toArray, List.set_cons_zero, List.set_cons_succ, i64_w, i32_w]
          rfl
         refine pure_ (i := 7) (N := some 35) (v := ?_) (a' := ?_) #[true, true, true, true, true, true, true, true, false, false, false] rfl rfl (any_of HT_.out (by kernel_rfl)) (fun _ _ _ h => h) (Or.inl ⟨by rfl, ?_⟩) ?_ ?_
         rotate_left
         ·
          intro w'
          go_simp
          with_reducible rfl
         rotate_left
         ·
          simp only [Act.put, List.setIfInBounds_toArray, List.set_cons_zero, List.set_cons_succ, i64_w, i32_w]
          rfl
         refine pure_ (i := 8) (N := some 36) (v := ?_) (a' := ?_) #[true, true, true, true, true, true, true, true, true, false, false] rfl rfl (any_of HT_.out (by kernel_rfl)) (fun _ _ _ h => h) (Or.inl ⟨by rfl, ?_⟩) ?_ ?_
         rotate_left
         ·
          intro w'
          go_simp
          with_reducible rfl
         rotate_left
         ·
          simp only [Act.put, List.setIfInBounds_toArray, List.set_cons_zero, List.set_cons_succ, i64_w, i32_w]
          rfl
         refine pure_ (i := 9) (N := some 37) (v := ?_) (a' := ?_) #[true, true, true, true, true, true, true, true, true, true, false] rfl rfl (any_of HT_.out (by kernel_rfl)) (fun _ _ _ h => h) (Or.inl ⟨by rfl, ?_⟩) ?_ ?_
         rotate_left
         ·
          intro w'
          go_simp
          with_reducible rfl
         rotate_left
         ·
          simp only [Act.put, List.setIfInBounds_toArray, List.set_cons_zero, List.set_cons_succ, i64_w, i32_w]
          rfl
         refine last_ (i := 10) (N := none) #[true, true, true, true, true, true, true, true, true, true, true] rfl rfl (one_of HT_.out (by kernel_rfl)) (by decide) (fun K hK => ?_)
         refine skip_ (w1 := ?_) (by rfl) rfl ?_ ?_
         rotate_left
         ·
          go_simp
          rfl
         refine hK.out _ _ ?_
         clear hK K
         refine done_ (done_of HT_.out (by kernel_rfl)) ?_
         try go_wp2
         go_roundg k1
         case measure => have := HK1.out; omega
         case rel => exact ⟨(wrap64 (x15_1 + 1)), (t116), (t117), (y118), (.slice (some ⟨go18, 0, none⟩) x108002_1.length co18), (by first | rfl | (simp; done) | (simp [*]; done)), H', ⟨by have := HK1.out; omega⟩, ⟨by (with_reducible repeat (first | apply zl | apply zm | apply zk)); exact HQ31.out⟩, ⟨by (with_reducible repeat (first | refine zg ?_ _ | refine zf ?_ | refine zh ?_ _)); refine blk_far ?_ (by have h_ := Kd.R_ne HO_108002.out BK101.out (by decide); intro e_; exact h_ (by rw [e_]; rfl)) _; (with_reducible repeat (first | refine zg ?_ _ | refine zf ?_ | refine zh ?_ _)); exact BK101.out⟩, ⟨by (with_reducible repeat (first | refine zg ?_ _ | refine zf ?_ | refine zh ?_ _)); refine blk_far ?_ (by have h_ := Kd.R_ne HO_108002.out BK107.out (by decide); intro e_; exact h_ (by rw [e_]; rfl)) _; (with_reducible repeat (first | refine zg ?_ _ | refine zf ?_ | refine zh ?_ _)); exact BK107.out⟩, ⟨by repeat (first | (with_reducible first | exact HI0.out | apply IsS88.alloc | apply IsS88.drewN | apply IsS88.drew | apply IsS88.set_1 | apply IsS88.set_2 | refine IsS88.far ?_ HN0_go18.out _ | refine IsS88.far ?_ NB0_101.out _ | refine IsS88.far ?_ NB0_107.out _) | exact HI0.out)⟩, ⟨by repeat (first | (with_reducible first | exact HK.out | apply zt | apply zu | apply zs | apply zv | refine zx ?_ GB18.out _ | refine zx ?_ GW101.out _ | refine zx ?_ GW107.out _) | exact HK.out)⟩, ⟨by repeat (first | (with_reducible first | exact HB.out | apply zc | apply zd | apply zb | refine ze ?_ (Nat.le_trans HL.out GB18.out) | refine ze ?_ (IsS88.ge HI0.out) | refine ze ?_ GE101.out | refine ze ?_ GE107.out) | exact HB.out)⟩⟩
        ·
         rw [if_neg c22] at H
         exact absurd H (by simp)
       ·
        replace c20 := Bool.eq_false_iff.mpr c20
        subst c20
        have H1 : (spec_l1Cur_boardOf.l0 k1 a2 (t104.length : Int) (wrap64 (x15_1 + 1)) s0_0 t113 t114 t102 t103 y111) = some (r1, r2, r3, r4, r5) := by rw [if_neg (show ¬ (false = true) by decide)] at H; exact H
        clear H
        have H := H1
        clear H1
        have H' := za H
        clear H
        try go_wp2
        have n0_ := za (zk HO_108002.out)
        have n1_ := za (zf BK101.out)
        have n2_ := za (zf BK107.out)
        have n3_ := za (IsS88.drew HI0.out)
        have n4_ := za (zs HK.out)
        have n5_ := za (zb HB.out)
        clear HO_108002
        clear BK101
        clear BK107
        clear HI0
        clear HK
        clear HB
        have HO_108002 := n0_
        have BK101 := n1_
        have BK107 := n2_
        have HI0 := n3_
        have HK := n4_
        have HB := n5_
        clear n0_ n1_ n2_ n3_ n4_ n5_
        refine start_ (n := 9) (S := fun w' => w'.cell? ⟨gb107, 0, none⟩ = some (.int .i64 t102) ∧ w'.cell? ⟨gb107, 1, none⟩ = some (.int .i64 t103) ∧ w'.cell? ⟨gb107, 2, none⟩ = some (u108002)) (ds := [8]) #[false, false, false, false, false, false, false, false, false] (by kernel_rfl) rfl rfl ⟨(zi BK107.out 0).trans rfl, (zi BK107.out 1).trans rfl, (zi BK107.out 2).trans rfl⟩ (fun hHeld => ?_); refine with_tabW spec_l1Cur_boardOf.tab5 spec_l1Cur_boardOf.bits5 (fun HT_ HW_ => ?_)
        generalize wr.drew = w32 at HO_108002 BK101 BK107 HI0 HK HB hHeld ⊢
        refine pure_ (i := 0) (N := some 18) (v := ?_) (a' := ?_) #[true, false, false, false, false, false, false, false, false] rfl rfl (any_of HT_.out (by kernel_rfl)) (fun _ _ _ h => h) (Or.inl ⟨by rfl, ?_⟩) ?_ ?_
        rotate_left
        ·
         intro w'
         go_simp
         with_reducible rfl
        rotate_left
        ·
         simp only [Act.put, List.setIfInBounds_toArray, List.set_cons_zero, List.set_cons_succ, i64_w, i32_w]
         rfl
        refine pure_ (i := 2) (N := some 20) (v := ?_) (a' := ?_) #[true, false, true, false, false, false, false, false, false] rfl rfl (any_of HT_.out (by kernel_rfl)) (fun _ _ _ h => h) (Or.inl ⟨by rfl, ?_⟩) ?_ ?_
        rotate_left
        ·
         intro w'
         go_simp
         with_reducible rfl
        rotate_left
        ·
         simp only [Act.put, List.setIfInBounds_toArray, List.set_cons_zero, List.set_cons_succ, i64_w, i32_w]
         rfl
        refine pure_ (i := 3) (N := some 21) (v := ?_) (a' := ?_) #[true, false, true, true, false, false, false, false, false] rfl rfl (any_of HT_.out (by kernel_rfl)) (fun _ _ _ h => h) (Or.inl ⟨by rfl, ?_⟩) ?_ ?_
        rotate_left
        ·
         intro w'
         go_simp
         with_reducible rfl
        rotate_left
        ·
         simp only [Act.put, List.setIfInBounds_toArray, List.set_cons_zero, List.set_cons_succ, i64_w, i32_w]
         rfl
        refine pure_ (i := 4) (N := some 22) (v := ?_) (a' := ?_) #[true, false, true, true, true, false, false, false, false] rfl rfl (any_of HT_.out (by kernel_rfl)) (fun _ _ _ h => h) (Or.inl ⟨by rfl, ?_⟩) ?_ ?_
        rotate_left
        ·
         intro w'
         go_simp
         with_reducible rfl
        rotate_left
        ·
         simp only [Act.put, List.setIfInBounds_toArray, List.set_cons_zero, List.set_cons_succ, i64_w, i32_w]
         rfl
        refine pure_ (i := 5) (N := some 23) (v := ?_) (a' := ?_) #[true, false, true, true, true, true, false, false, false] rfl rfl (any_of HT_.out (by kernel_rfl)) (fun _ _ _ h => h) (Or.inl ⟨by rfl, ?_⟩) ?_ ?_
        rotate_left
        ·
         intro w'
         go_simp
         with_reducible rfl
        rotate_left
        ·
         simp only [Act.put, List.setIfInBounds_toArray, List.set_cons_zero, List.set_cons_succ, i64_w, i32_w]
         rfl
        refine take_ (i := 1) (N := some 19) (v := ?_) (a' := ?_) #[true, true, true, true, true, true, false, false, false] rfl rfl (take_ofW HT_.out HW_.out (by kernel_rfl)) (fun _ _ _ h => h) (Or.inl ⟨by rfl, ?_⟩) hHeld ?_ ?_
        rotate_left
        ·
         rintro w' ⟨s0, s1, s2⟩
         go_simp
         with_reducible rfl
        rotate_left
        ·
         simp only [Act.put, List.setIfInBounds_toArray, List.set_cons_zero, List.set_cons_succ, i64_w, i32_w]
         rfl
        refine one_ (i := 6) (N := some 24) #[true, true, true, true, true, true, true, false, false] rfl rfl (one_of HT_.out (by kernel_rfl)) (by decide) (fun K hK => ?_)
        refine goes_ Try.func127 (by kernel_rfl) rfl #[.pointer (some ⟨g, 0, none⟩), .int .i64 ji14] (by rfl) rfl rfl (by (try simp only [List.map_toArray, List.map_cons, List.map_nil]); first | done | (simp only [hji14]; rfl) | rfl | (simp only [List.length_drop, List.length_take]; rfl)) ?_
        with_reducible refine (spec_l1Cur_pick.calls g s0_0 x1001_1 x1002_1 ji14 t108 t109 t110 w0 _ ?side1 ?side2 A15.out).mono ?_
        (case side1 => repeat (first | (with_reducible first | exact HI0.out | apply IsS88.alloc | apply IsS88.drewN | apply IsS88.drew | apply IsS88.set_1 | apply IsS88.set_2 | refine IsS88.far ?_ NB0_101.out _ | refine IsS88.far ?_ NB0_107.out _) | exact HI0.out))
        (case side2 => repeat (first | (with_reducible first | exact HB.out | apply zc | apply zd | apply zb | refine ze ?_ (IsS88.ge HI0.out) | refine ze ?_ GE101.out | refine ze ?_ GE107.out) | exact HB.out))
        rintro e w33 ⟨rfl, hi, hb, hk⟩
        refine ⟨_, rfl, ?_⟩
        have n0_ := za (zz (Kd.R_keep (IsS88.apart (show IsS88 w0 _ g s0_0 x1001_1 x1002_1 from by repeat (first | (with_reducible first | exact HI0.out | apply IsS88.alloc | apply IsS88.drewN | apply IsS88.drew | apply IsS88.set_1 | apply IsS88.set_2 | refine IsS88.far ?_ NB0_101.out _ | refine IsS88.far ?_ NB0_107.out _) | exact HI0.out)) (by (with_reducible repeat (first | apply zl | apply zm | apply zk)); exact HO_108002.out) (by decide)) hk (fun _ h => h.2)) (fun _ h => h.1))
        have n1_ := za (zJ hk (g' := gb101) (o := .cells #[.int .i64 0, .int .i64 0, .slice none 0 0] 43 (0, 0)) (by (with_reducible repeat (first | refine zg ?_ _ | refine zf ?_ | refine zh ?_ _)); exact BK101.out) NB101_0.out (by simp))
        have n2_ := za (zJ hk (g' := gb107) (o := .cells #[.int .i64 t102, .int .i64 t103, u108002] 43 (0, 0)) (by (with_reducible repeat (first | refine zg ?_ _ | refine zf ?_ | refine zh ?_ _)); exact BK107.out) NB107_0.out (by simp))
        have n3_ := za (zH (by repeat (first | (with_reducible first | exact HK.out | apply zt | apply zu | apply zs | apply zv | refine zx ?_ GW101.out _ | refine zx ?_ GW107.out _) | exact HK.out)) hk (.inl rfl))
        have n4_ := za (hb)
        have n5_ := za (hi)
        clear HO_108002
        clear BK101
        clear BK107
        clear HK
        clear HB
        clear HI0
        have HO_108002 := n0_
        have BK101 := n1_
        have BK107 := n2_
        have HK := n3_
        have HB := n4_
        have HI0 := n5_
        clear n0_ n1_ n2_ n3_ n4_ n5_
        (try clear hb)
        (try clear hb2)
        (try clear hk)
        (try clear hi)
        have p18 : 0 ≤ (x15_1 : Int) := of_decide_eq_true (by first | (with_reducible assumption) | assumption)
        have q18 : (x15_1 : Int) < ((x108002_1.length : Int) : Int) := of_decide_eq_true (by first | (with_reducible assumption) | assumption)
        obtain ⟨go18, co18, eo18, gb18, gl18, cl18, HG18⟩ := Kd.R_form HO_108002.out (by omega)
        (first | cases eo18 | (injection eo18 with ea_ en_ ec_; (first | subst ea_ | (injection ea_ with ea_; subst ea_)); subst ec_; clear en_))
        have GB18 := za gb18
        have GG18 := za HG18
        clear gb18 gl18 HG18
        obtain ⟨hx18_0, hf18_0⟩ := Kd.R_celln 0 HO_108002.out (x15_1 : Int) p18 q18
        replace p18 := eq_true p18
        replace q18 := eq_true q18
        have HN0_go18 := za (show g ≠ go18 from by have h_ := IsS88.own_ne HI0.out HO_108002.out (by decide); intro e_; exact h_ (by rw [e_]; rfl))
        have HP34 := Kd.R_putn HO_108002.out (x15_1 : Int) t108
        rw [← Ny111.out] at HP34
        have HQ34 := za HP34
        clear HP34
        refine hK.out _ _ ⟨(zi BK107.out 0).trans rfl, (zi BK107.out 1).trans rfl, (zi BK107.out 2).trans rfl⟩ (fun hHeld => ?_)
        clear hK K
        refine norm_ (a' := ?_) ?_ ?_
        rotate_left
        ·
         show Act.put _ (some 24) _ = _
         simp only [Act.put, List.setIfInBounds_toArray, List.set_cons_zero, List.set_cons_succ, i64_w, i32_w]
         rfl
        refine pure_ (i := 7) (N := some 25) (v := ?_) (a' := ?_) #[true, true, true, true, true, true, true, true, false] rfl rfl (any_of HT_.out (by kernel_rfl)) (fun _ _ _ h => h) (Or.inl ⟨by rfl, ?_⟩) ?_ ?_
        rotate_left
        ·
         intro w'
         go_simp
         with_reducible rfl
        rotate_left
        ·
         simp only [Act.put, List.setIfInBounds_toArray, List.set_cons_zero, List.set_cons_succ, i64_w, i32_w]
         rfl
        refine last_ (i := 8) (N := none) #[true, true, true, true, true, true, true, true, true] rfl rfl (one_of HT_.out (by kernel_rfl)) (by decide) (fun K hK => ?_)
        refine skip_ (w1 := ?_) (by rfl) rfl ?_ ?_
        rotate_left
        ·
         go_simp
         rfl
        refine hK.out _ _ ?_
        clear hK K
        refine done_ (done_of HT_.out (by kernel_rfl)) ?_
        try go_wp2_with (first | ((with_reducible refine zy (f := 125) rfl ?_); refine goesL_ (some 27) rfl rfl Try.func125 (by kernel_rfl) rfl #[.pointer (some ⟨g, 0, none⟩), .int .i64 3] rfl (by (try simp only [List.map_toArray, List.map_cons, List.map_nil]); first | done | rfl | (simp only [List.length_drop, List.length_take]; rfl)) ?_; (with_reducible refine (spec_l1Cur_one.calls g s0_0 t109 t110 3 false t113 t114 w0 _ ?side1 ?side2 A19.out).mono ?_); (case side1 => repeat (first | (with_reducible first | exact HI0.out | apply IsS88.alloc | apply IsS88.drewN | apply IsS88.drew | apply IsS88.set_1 | apply IsS88.set_2 | refine IsS88.far ?_ HN0_go18.out _ | refine IsS88.far ?_ NB0_101.out _ | refine IsS88.far ?_ NB0_107.out _) | exact HI0.out)); (case side2 => repeat (first | (with_reducible first | exact HB.out | apply zc | apply zd | apply zb | refine ze ?_ (Nat.le_trans HL.out GB18.out) | refine ze ?_ (IsS88.ge HI0.out) | refine ze ?_ GE101.out | refine ze ?_ GE107.out) | exact HB.out)); rintro e w35 ⟨rfl, hi, hb, hk⟩; refine ⟨_, rfl, ?_⟩; have n0_ := za (zz (Kd.R_keep (IsS88.apart (show IsS88 w0 _ g s0_0 t109 t110 from by repeat (first | (with_reducible first | exact HI0.out | apply IsS88.alloc | apply IsS88.drewN | apply IsS88.drew | apply IsS88.set_1 | apply IsS88.set_2 | refine IsS88.far ?_ HN0_go18.out _ | refine IsS88.far ?_ NB0_101.out _ | refine IsS88.far ?_ NB0_107.out _) | exact HI0.out)) (by (with_reducible repeat (first | apply zl | apply zm | apply zk)); exact HQ34.out) (by decide)) hk (fun _ h => h.2)) (fun _ h => h.1)); have n1_ := za (zJ hk (g' := gb101) (o := .cells #[.int .i64 0, .int .i64 0, .slice none 0 0] 43 (0, 0)) (by (with_reducible repeat (first | refine zg ?_ _ | refine zf ?_ | refine zh ?_ _)); refine blk_far ?_ (by have h_ := Kd.R_ne HO_108002.out BK101.out (by decide); intro e_; exact h_ (by rw [e_]; rfl)) _; (with_reducible repeat (first | refine zg ?_ _ | refine zf ?_ | refine zh ?_ _)); exact BK101.out) NB101_0.out (by simp)); have n2_ := za (zJ hk (g' := gb107) (o := .cells #[.int .i64 t102, .int .i64 t103, .slice (some ⟨go18, 0, none⟩) x108002_1.length co18] 43 (0, 0)) (by (with_reducible repeat (first | refine zg ?_ _ | refine zf ?_ | refine zh ?_ _)); refine blk_far ?_ (by have h_ := Kd.R_ne HO_108002.out BK107.out (by decide); intro e_; exact h_ (by rw [e_]; rfl)) _; (with_reducible repeat (first | refine zg ?_ _ | refine zf ?_ | refine zh ?_ _)); exact BK107.out) NB107_0.out (by simp)); have n3_ := za (zH (by repeat (first | (with_reducible first | exact HK.out | apply zt | apply zu | apply zs | apply zv | refine zx ?_ GB18.out _ | refine zx ?_ GW101.out _ | refine zx ?_ GW107.out _) | exact HK.out)) hk (.inl rfl)); have n4_ := za (hb); have n5_ := za (hi); clear HO_108002 BK101; clear BK107 HK; clear HB HI0; have HO_108002 := n0_; have BK101 := n1_; have BK107 := n2_; have HK := n3_; have HB := n4_; have HI0 := n5_; clear n0_ n1_ n2_ n3_ n4_ n5_; (try clear hb); (try clear hb2); (try clear hk); (try clear hi)))
        go_roundg k1
        case measure => have := HK1.out; omega
        case rel => exact ⟨(wrap64 (x15_1 + 1)), (t113), (t114), (y111), (.slice (some ⟨go18, 0, none⟩) x108002_1.length co18), (by first | rfl | (simp; done) | (simp [*]; done)), H', ⟨by have := HK1.out; omega⟩, ⟨by (with_reducible repeat (first | apply zl | apply zm | apply zk)); exact HO_108002.out⟩, ⟨by (with_reducible repeat (first | refine zg ?_ _ | refine zf ?_ | refine zh ?_ _)); exact BK101.out⟩, ⟨by (with_reducible repeat (first | refine zg ?_ _ | refine zf ?_ | refine zh ?_ _)); exact BK107.out⟩, ⟨by repeat (first | (with_reducible first | exact HI0.out | apply IsS88.alloc | apply IsS88.drewN | apply IsS88.drew | apply IsS88.set_1 | apply IsS88.set_2 | refine IsS88.far ?_ NB0_101.out _ | refine IsS88.far ?_ NB0_107.out _) | exact HI0.out)⟩, ⟨by repeat (first | (with_reducible first | exact HK.out | apply zt | apply zu | apply zs | apply zv | refine zx ?_ GW101.out _ | refine zx ?_ GW107.out _) | exact HK.out)⟩, ⟨by repeat (first | (with_reducible first | exact HB.out | apply zc | apply zd | apply zb | refine ze ?_ (IsS88.ge HI0.out) | refine ze ?_ GE101.out | refine ze ?_ GE107.out) | exact HB.out)⟩⟩
      ·
       rw [if_neg c17] at H
       exact absurd H (by simp)
     ·
      rw [if_neg c16] at H
      exact absurd H (by simp)
    ·
     rw [if_neg c13] at H
     exact absurd H (by simp)
   ·
    rw [if_neg c12] at H
    have c12b0 : decide (x15_1 < (t104.length : Int)) = false := decide_eq_false c12
    clear c12
    simp only [Option.some.injEq, Prod.mk.injEq] at H
    obtain ⟨rfl, rfl, rfl, rfl, rfl⟩ := H
    have hnb36 := NB107_101.out
    have hnc36 := NB101_107.out
    have hnb37 := NB107_0.out
    have hnc37 := NB0_107.out
    have hcz38_0 : wr.cell? ⟨gb107, 0, none⟩ = some (.int .i64 t102) := (zi BK107.out 0).trans rfl
    have hcz38_1 : wr.cell? ⟨gb107, 1, none⟩ = some (.int .i64 t103) := (zi BK107.out 1).trans rfl
    have hcz38_2 : wr.cell? ⟨gb107, 2, none⟩ = some (u108002) := (zi BK107.out 2).trans rfl
    have hfz38_0 := zj BK107.out 0
    have hfz38_1 := zj BK107.out 1
    have hfz38_2 := zj BK107.out 2
    have hnb39 := NB101_0.out
    have hnc39 := NB0_101.out
    have hcz40_0 : wr.cell? ⟨gb101, 0, none⟩ = some (.int .i64 0) := (zi BK101.out 0).trans rfl
    have hcz40_1 : wr.cell? ⟨gb101, 1, none⟩ = some (.int .i64 0) := (zi BK101.out 1).trans rfl
    have hcz40_2 : wr.cell? ⟨gb101, 2, none⟩ = some (.slice none 0 0) := (zi BK101.out 2).trans rfl
    have hfz40_0 := zj BK101.out 0
    have hfz40_1 := zj BK101.out 1
    have hfz40_2 := zj BK101.out 2
    obtain ⟨Ao41, co41, eo41⟩ := Kd.R_slice HO_108002.out
    subst eo41
    go_wp2
    refine bodyPost_ret (results_cell_row rfl _ _ gb101 43 #[.int .i64 t102, .int .i64 t103, .slice Ao41 x108002_1.length co41] (0, 0) _ rfl (by (with_reducible repeat (first | refine zg ?_ _ | refine zf ?_ | refine zh ?_ _)); refine blk_put (cs := #[.int .i64 t102, .int .i64 t103, .slice none 0 0]) ?_ 2 _ rfl; (with_reducible repeat (first | refine zg ?_ _ | refine zf ?_ | refine zh ?_ _)); refine blk_put (cs := #[.int .i64 t102, .int .i64 0, .slice none 0 0]) ?_ 1 _ rfl; (with_reducible repeat (first | refine zg ?_ _ | refine zf ?_ | refine zh ?_ _)); refine blk_put (cs := #[.int .i64 0, .int .i64 0, .slice none 0 0]) ?_ 0 _ rfl; (with_reducible repeat (first | refine zg ?_ _ | refine zf ?_ | refine zh ?_ _)); exact BK101.out) Try.underlying43 rfl (by kernel_rfl)) rfl ?_
    exact ⟨_, by first | rfl | (simp [errW_none, errW_some] <;> rfl) | (simp [*, errW_none, errW_some] <;> rfl), by (with_reducible repeat (first | apply zl | apply zm | apply zk)); exact zz (zn (p := ⟨gb101, 2, none⟩) (zn (p := ⟨gb101, 1, none⟩) (zn (p := ⟨gb101, 0, none⟩) (Kd.R_types HO_108002.out BK101.out (by decide)) (fun _ hk => hk.2) (.int .i64 t102)) (fun _ hk => hk.2) (.int .i64 t103)) (fun _ hk => hk.2) (.slice Ao41 x108002_1.length co41)) (fun _ hk => trivial), by repeat (first | (with_reducible first | exact HI0.out | apply IsS88.alloc | apply IsS88.drewN | apply IsS88.drew | apply IsS88.set_1 | apply IsS88.set_2 | refine IsS88.far ?_ NB0_101.out _ | refine IsS88.far ?_ NB0_107.out _) | exact HI0.out), by repeat (first | (with_reducible first | exact HB.out | apply zc | apply zd | apply zb | refine ze ?_ (IsS88.ge HI0.out) | refine ze ?_ GE101.out | refine ze ?_ GE107.out) | exact HB.out), by repeat (first | (with_reducible first | exact HK.out | apply zt | apply zu | apply zs | apply zv | refine zx ?_ GW101.out _ | refine zx ?_ GW107.out _) | exact HK.out)⟩
end Go.Proofs.Ytiopnmgcajohfaa.Q
end
section
namespace Go.Proofs.Ytiopnmgcajohfaa.Q
open Go.RowKit Go.Proofs.YtiopnmgcajohfaaW.PrintWords Go.Proofs.YtiopnmgcajohfaaW.PrintLast Go.Proofs.YtiopnmgcajohfaaW.PrintMore
attribute [local go_sem] max2_int min2_int max_two min_two max_three min_three max_four min_four   -- for this text's walks alone
set_option linter.unusedVariables false
set_option linter.unusedSimpArgs false
def spec_l1Cur_sides.f (s0_0 : List Int) (s0_1 : Int) (s0_2 : Int) : Option (Int × Int × Int) := (spec_l1Cur_one.f s0_0 s0_1 s0_2 8).bind fun bt101 => (if bt101.1 = true then (some (6, bt101.2.1, bt101.2.2)) else ((spec_l1Cur_pick.f s0_0 bt101.2.1 bt101.2.2 5).bind fun bt104 => (some (wrap64 (1 + bt104.1), bt104.2.1, bt104.2.2))))
set_option maxHeartbeats 8000000 in
set_option maxRecDepth 100000 in
theorem spec_l1Cur_sides.calls (g : Nat) (s0_0 : List Int) (s0_1 : Int) (s0_2 : Int) (r1 : Int) (r2 : Int) (r3 : Int) (w0 w : World) (hI : IsS88 w0 w g s0_0 s0_1 s0_2) (hB : Below w0.heap.size w0 w) (h : spec_l1Cur_sides.f s0_0 s0_1 s0_2 = some (r1, r2, r3)) :
  Calls Try.prog 153 #[.pointer (some ⟨g, 0, none⟩)] w fun e w' => e = .returned (.int .i64 r1) ∧ IsS88 w0 w' g s0_0 r2 r3 ∧ Below w0.heap.size w0 w' ∧ KeepBut w w' g none := by
 have HI0 := za hI
 have HK := za (KeepBut.refl w g none)
 have HL := za hB.size
 clear hI
 have HW0 := za hB.size
 have HB := za hB
 clear hB
 have H : ((spec_l1Cur_one.f s0_0 s0_1 s0_2 8).bind fun bt101 => (if bt101.1 = true then (some (6, bt101.2.1, bt101.2.2)) else ((spec_l1Cur_pick.f s0_0 bt101.2.1 bt101.2.2 5).bind fun bt104 => (some (wrap64 (1 + bt104.1), bt104.2.1, bt104.2.2))))) = some (r1, r2, r3) := h
 clear h
 replace H := Option.bind_eq_some_iff.mp H
 obtain ⟨⟨t101, t102, t103⟩, A20, H⟩ := H
 replace H : (if t101 = true then (some (6, t102, t103)) else ((spec_l1Cur_pick.f s0_0 t102 t103 5).bind fun bt104 => (some (wrap64 (1 + bt104.1), bt104.2.1, bt104.2.2)))) = some (r1, r2, r3) := H
 have A2 := za A20
 clear A20
 by_cases c3 : t101 = true
 ·
  subst c3
  have H1 : (some (6, t102, t103)) = some (r1, r2, r3) := by rw [if_pos rfl] at H; exact H
  clear H
  have H := H1
  clear H1
  simp only [Option.some.injEq, Prod.mk.injEq] at H
  obtain ⟨rfl, rfl, rfl⟩ := H
  go_enter Try.func153, Try.ntmps153
  go_wp2_with (first | ((with_reducible refine zy (f := 125) rfl ?_); refine goesL_ (some 4) rfl rfl Try.func125 (by kernel_rfl) rfl #[.pointer (some ⟨g, 0, none⟩), .int .i64 8] rfl (by (try simp only [List.map_toArray, List.map_cons, List.map_nil]); first | done | rfl | (simp only [List.length_drop, List.length_take]; rfl)) ?_; (with_reducible refine (spec_l1Cur_one.calls g s0_0 s0_1 s0_2 8 true t102 t103 w0 _ ?side1 ?side2 A2.out).mono ?_); (case side1 => repeat (first | (with_reducible first | exact HI0.out | apply IsS88.alloc | apply IsS88.drewN | apply IsS88.drew | apply IsS88.set_1 | apply IsS88.set_2) | exact HI0.out)); (case side2 => repeat (first | (with_reducible first | exact HB.out | apply zc | apply zd | apply zb | refine ze ?_ (IsS88.ge HI0.out)) | exact HB.out)); rintro e w4 ⟨rfl, hi, hb, hk⟩; refine ⟨_, rfl, ?_⟩; have n0_ := za (zH (by repeat (first | (with_reducible first | exact HK.out | apply zt | apply zu | apply zs | apply zv) | exact HK.out)) hk (.inl rfl)); have n1_ := za (hb); have n2_ := za (hi); clear HK HB HI0; have HK := n0_; have HB := n1_; have HI0 := n2_; clear n0_ n1_ n2_; (try clear hb); (try clear hb2); (try clear hk); (try clear hi)))
  go_ret
  exact ⟨by first | rfl | (simp [errW_none, errW_some] <;> rfl) | (simp [*, errW_none, errW_some] <;> rfl), by repeat (first | (with_reducible first | exact HI0.out | apply IsS88.alloc | apply IsS88.drewN | apply IsS88.drew | apply IsS88.set_1 | apply IsS88.set_2) | exact HI0.out), by repeat (first | (with_reducible first | exact HB.out | apply zc | apply zd | apply zb | refine ze ?_ (IsS88.ge HI0.out)) | exact HB.out), by repeat (first | (with_reducible first | exact HK.out | apply zt | apply zu | apply zs | apply zv) | exact HK.out)⟩
 ·
  replace c3 := Bool.eq_false_iff.mpr c3
  subst c3
  have H1 : ((spec_l1Cur_pick.f s0_0 t102 t103 5).bind fun bt104 => (some (wrap64 (1 + bt104.1), bt104.2.1, bt104.2.2))) = some (r1, r2, r3) := by rw [if_neg (show ¬ (false = true) by decide)] at H; exact H
  clear H
  have H := H1
  clear H1
  replace H := Option.bind_eq_some_iff.mp H
  obtain ⟨⟨t104, t105, t106⟩, A50, H⟩ := H
  replace H : (some (wrap64 (1 + t104), t105, t106)) = some (r1, r2, r3) := H
  have A5 := za A50
  clear A50
  simp only [Option.some.injEq, Prod.mk.injEq] at H
  obtain ⟨rfl, rfl, rfl⟩ := H
  go_enter Try.func153, Try.ntmps153
  go_wp2_with (first | ((with_reducible refine zy (f := 125) rfl ?_); refine goesL_ (some 4) rfl rfl Try.func125 (by kernel_rfl) rfl #[.pointer (some ⟨g, 0, none⟩), .int .i64 8] rfl (by (try simp only [List.map_toArray, List.map_cons, List.map_nil]); first | done | rfl | (simp only [List.length_drop, List.length_take]; rfl)) ?_; (with_reducible refine (spec_l1Cur_one.calls g s0_0 s0_1 s0_2 8 false t102 t103 w0 _ ?side1 ?side2 A2.out).mono ?_); (case side1 => repeat (first | (with_reducible first | exact HI0.out | apply IsS88.alloc | apply IsS88.drewN | apply IsS88.drew | apply IsS88.set_1 | apply IsS88.set_2) | exact HI0.out)); (case side2 => repeat (first | (with_reducible first | exact HB.out | apply zc | apply zd | apply zb | refine ze ?_ (IsS88.ge HI0.out)) | exact HB.out)); rintro e w6 ⟨rfl, hi, hb, hk⟩; refine ⟨_, rfl, ?_⟩; have n0_ := za (zH (by repeat (first | (with_reducible first | exact HK.out | apply zt | apply zu | apply zs | apply zv) | exact HK.out)) hk (.inl rfl)); have n1_ := za (hb); have n2_ := za (hi); clear HK HB HI0; have HK := n0_; have HB := n1_; have HI0 := n2_; clear n0_ n1_ n2_; (try clear hb); (try clear hb2); (try clear hk); (try clear hi)) | ((with_reducible refine zy (f := 127) rfl ?_); refine goesL_ (some 6) rfl rfl Try.func127 (by kernel_rfl) rfl #[.pointer (some ⟨g, 0, none⟩), .int .i64 5] rfl (by (try simp only [List.map_toArray, List.map_cons, List.map_nil]); first | done | rfl | (simp only [List.length_drop, List.length_take]; rfl)) ?_; (with_reducible refine (spec_l1Cur_pick.calls g s0_0 t102 t103 5 t104 t105 t106 w0 _ ?side1 ?side2 A5.out).mono ?_); (case side1 => repeat (first | (with_reducible first | exact HI0.out | apply IsS88.alloc | apply IsS88.drewN | apply IsS88.drew | apply IsS88.set_1 | apply IsS88.set_2) | exact HI0.out)); (case side2 => repeat (first | (with_reducible first | exact HB.out | apply zc | apply zd | apply zb | refine ze ?_ (IsS88.ge HI0.out)) | exact HB.out)); rintro e w7 ⟨rfl, hi, hb, hk⟩; refine ⟨_, rfl, ?_⟩; have n0_ := za (zH (by repeat (first | (with_reducible first | exact HK.out | apply zt | apply zu | apply zs | apply zv) | exact HK.out)) hk (.inl rfl)); have n1_ := za (hb); have n2_ := za (hi); clear HK HB HI0; have HK := n0_; have HB := n1_; have HI0 := n2_; clear n0_ n1_ n2_; (try clear hb); (try clear hb2); (try clear hk); (try clear hi)))
  go_ret
  exact ⟨by first | rfl | (simp [errW_none, errW_some] <;> rfl) | (simp [*, errW_none, errW_some] <;> rfl), by repeat (first | (with_reducible first | exact HI0.out | apply IsS88.alloc | apply IsS88.drewN | apply IsS88.drew | apply IsS88.set_1 | apply IsS88.set_2) | exact HI0.out), by repeat (first | (with_reducible first | exact HB.out | apply zc | apply zd | apply zb | refine ze ?_ (IsS88.ge HI0.out)) | exact HB.out), by repeat (first | (with_reducible first | exact HK.out | apply zt | apply zu | apply zs | apply zv) | exact HK.out)⟩
end Go.Proofs.Ytiopnmgcajohfaa.Q
end
