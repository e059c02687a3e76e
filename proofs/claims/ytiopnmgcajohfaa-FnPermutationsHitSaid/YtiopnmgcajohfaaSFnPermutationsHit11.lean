/- Texts of this claim put together (11): words, what the functions compute, and plain facts. No conditions. -/
import Derived.Test.YtiopnmgcajohfaaSFnPermutationsHit4
import Derived.Test.YtiopnmgcajohfaaSFnPermutationsHit7
import Derived.Test.YtiopnmgcajohfaaSFnPermutationsHit8
import Derived.Test.YtiopnmgcajohfaaSFnPermutationsHit10
import Derived.Test.YtiopnmgcajohfaaSFnPermutationsHit0
section
namespace Go.Proofs.Ytiopnmgcajohfaa.Q
open Go.RowKit Go.Proofs.YtiopnmgcajohfaaW.PrintWords Go.Proofs.YtiopnmgcajohfaaW.PrintLast Go.Proofs.YtiopnmgcajohfaaW.PrintMore
attribute [local go_sem] max2_int min2_int max_two min_two max_three min_three max_four min_four   -- for this text's walks alone
set_option linter.unusedVariables false
set_option linter.unusedSimpArgs false
mutual
def spec_l1Cur_order4.l0 : Nat → Int → List Int → Int → List Int → Int → Int → Option (List Int × Int × Int)
 | 0, _, _, _, _, _, _ => none
 | k + 1, x1, x5, x6, x1000, x1001, x1002 => if x6 < x1 then ((spec_l1Cur_pick.f x1000 x1001 x1002 (wrap64 (x6 + 1))).bind fun bt101 => (if 0 ≤ bt101.1 then (if bt101.1 ≤ (x5.length : Int) then ((spec_l1Own.f (x5.take (bt101.1 : Int).toNat)).bind fun t108 => (if t108.length < 17592186044416 then ((some (t108 ++ [x6] : List Int)).bind fun y111 => ((some (x5.drop (bt101.1 : Int).toNat : List Int)).bind fun y114 => (if y111.length + y114.length < 17592186044416 then (spec_l1Cur_order4.l0 k x1 (y111 ++ y114) (wrap64 (x6 + 1)) x1000 bt101.2.1 bt101.2.2) else (none)))) else (none))) else (none)) else (none))) else (if (x5.length : Int) > 0 then ((spec_l1Cur_one.f x1000 x1001 x1002 15).bind fun bt121 => (spec_l1Cur_order4.j1 k x1 x5 bt121.1 x1000 bt121.2.1 bt121.2.2)) else (spec_l1Cur_order4.j1 k x1 x5 false x1000 x1001 x1002))
def spec_l1Cur_order4.j1 : Nat → Int → List Int → Bool → List Int → Int → Int → Option (List Int × Int × Int)
 | 0, _, _, _, _, _, _ => none
 | k + 1, x1, x5, x36, x1000, x1001, x1002 => if x36 = true then ((spec_l1Cur_pick.f x1000 x1001 x1002 (x5.length : Int)).bind fun bt124 => ((spec_l1Cur_among.f x1000 bt124.2.1 bt124.2.2 (([(-1), 0, x1, 4611686018427387904] : List Int))).bind fun bt130 => (if 0 ≤ bt124.1 then (if bt124.1 < (x5.length : Int) then (some ((x5.set (bt124.1 : Int).toNat bt130.1), bt130.2.1, bt130.2.2)) else (none)) else (none)))) else (some (x5, x1001, x1002))
end
def spec_l1Cur_order4.f (k : Nat) (s0_0 : List Int) (s0_1 : Int) (s0_2 : Int) (a1 : Int) : Option (List Int × Int × Int) := spec_l1Cur_order4.l0 k a1 ([] : List Int) 0 s0_0 s0_1 s0_2
set_option maxHeartbeats 8000000 in
set_option maxRecDepth 100000 in
theorem spec_l1Cur_order4.calls (k : Nat) (g : Nat) (s0_0 : List Int) (s0_1 : Int) (s0_2 : Int) (a1 : Int) (r1 : List Int) (r2 : Int) (r3 : Int) (w0 w : World) (hI : IsS88 w0 w g s0_0 s0_1 s0_2) (hB : Below w0.heap.size w0 w) (h : spec_l1Cur_order4.f k s0_0 s0_1 s0_2 a1 = some (r1, r2, r3)) :
  Calls Try.prog 102 #[.pointer (some ⟨g, 0, none⟩), .int .i64 a1] w fun e w' => ∃ v0_ : Value, e = .returned (v0_) ∧ Kd.R (Kd.int .i64) 3 w' w.heap.size (fun _ => True) v0_ r1 ∧ IsS88 w0 w' g s0_0 r2 r3 ∧ Below w0.heap.size w0 w' ∧ KeepBut w w' g none := by
 have HI0 := za hI
 have HK := za (KeepBut.refl w g none)
 have HL := za hB.size
 clear hI
 have HW0 := za hB.size
 have HB := za hB
 clear hB
 have H : (spec_l1Cur_order4.l0 k a1 ([] : List Int) 0 s0_0 s0_1 s0_2) = some (r1, r2, r3) := h
 clear h
 have H' := za H
 clear H
 go_enter Try.func102, Try.ntmps102
 go_wp2
 go_loopg [5, 6] k (fun kq v5 v6 w' => ∃ (x5_1 : List Int) (x6_1 : Int) (x1001_1 : Int) (x1002_1 : Int), v6 = .int .i64 x6_1 ∧ Aside0 (spec_l1Cur_order4.l0 kq a1 x5_1 x6_1 s0_0 x1001_1 x1002_1 = some (r1, r2, r3)) ∧ Aside0 (kq ≤ k) ∧ Aside0 (Kd.R (Kd.int .i64) 3 w' w.heap.size (fun _ => True) v5 x5_1) ∧ Aside0 (IsS88 w0 w' g s0_0 x1001_1 x1002_1) ∧ Aside0 (KeepBut w w' g none) ∧ Aside0 (Below w0.heap.size w0 w'))
 case atStart => exact ⟨(([] : List Int)), (0), (s0_1), (s0_2), (by first | rfl | (simp; done) | (simp [*]; done)), H', ⟨Nat.le_refl _⟩, ⟨by first | exact Kd.R_nil _ _ _ _ _ | exact Kd.N_nil _ _ _ _ _ | exact Kd.V_nil _ _ _ _ _ | exact Kd.Q_nil _ _ _ _ _ | exact Kd.S_nil _ _ _ _ _⟩, ⟨by repeat (first | (with_reducible first | exact HI0.out | apply IsS88.alloc | apply IsS88.drewN | apply IsS88.drew | apply IsS88.set_1 | apply IsS88.set_2) | exact HI0.out)⟩, ⟨by repeat (first | (with_reducible first | exact HK.out | apply zt | apply zu | apply zs | apply zv) | exact HK.out)⟩, ⟨by repeat (first | (with_reducible first | exact HB.out | apply zc | apply zd | apply zb | refine ze ?_ (IsS88.ge HI0.out)) | exact HB.out)⟩⟩
 case round =>
  clear H'
  try clear c1
  try clear p2
  obtain ⟨x5_1, x6_1, x1001_1, x1002_1, rfl, HA, HK1, HO_5, HI0, HK, HB⟩ := hrel
  cases gk with
  | zero => exact absurd HA.out (by simp [spec_l1Cur_order4.l0])
  | succ k1 =>
   have H := HA.out
   clear HA
   simp only [spec_l1Cur_order4.l0] at H
   by_cases c3 : x6_1 < a1
   ·
    rw [if_pos c3] at H
    have c3b0 : decide (x6_1 < a1) = true := decide_eq_true c3
    clear c3
    replace H := Option.bind_eq_some_iff.mp H
    obtain ⟨⟨t101, t102, t103⟩, A40, H⟩ := H
    replace H : (if 0 ≤ t101 then (if t101 ≤ (x5_1.length : Int) then ((spec_l1Own.f (x5_1.take (t101 : Int).toNat)).bind fun t108 => (if t108.length < 17592186044416 then ((some (t108 ++ [x6_1] : List Int)).bind fun y111 => ((some (x5_1.drop (t101 : Int).toNat : List Int)).bind fun y114 => (if y111.length + y114.length < 17592186044416 then (spec_l1Cur_order4.l0 k1 a1 (y111 ++ y114) (wrap64 (x6_1 + 1)) s0_0 t102 t103) else (none)))) else (none))) else (none)) else (none)) = some (r1, r2, r3) := H
    have A4 := za A40
    clear A40
    by_cases c5 : 0 ≤ t101
    ·
     rw [if_pos c5] at H
     have c5b0 := eq_true c5
     have c5b1 : decide (0 ≤ t101) = true := decide_eq_true c5
     clear c5
     by_cases c6 : t101 ≤ (x5_1.length : Int)
     ·
      rw [if_pos c6] at H
      have c6b0 := eq_true c6
      have c6b1 : decide (t101 ≤ (x5_1.length : Int)) = true := decide_eq_true c6
      clear c6
      obtain ⟨y104, hy104⟩ : ∃ y_ : List Int, y_ = (x5_1.take (t101 : Int).toNat) := ⟨_, rfl⟩
      replace H : ((spec_l1Own.f y104).bind fun t108 => (if t108.length < 17592186044416 then ((some (t108 ++ [x6_1] : List Int)).bind fun y111 => ((some (x5_1.drop (t101 : Int).toNat : List Int)).bind fun y114 => (if y111.length + y114.length < 17592186044416 then (spec_l1Cur_order4.l0 k1 a1 (y111 ++ y114) (wrap64 (x6_1 + 1)) s0_0 t102 t103) else (none)))) else (none))) = some (r1, r2, r3) := by first | (rw [hy104]; with_reducible exact H) | (have H2_ := (Option.bind_some _ _).symm.trans H; rw [hy104]; with_reducible exact H2_) | (have H2_ := (Option.bind_some _ _).symm.trans H; with_reducible exact H2_) | with_reducible exact H | (rw [hy104]; exact H) | exact H
      have Ny104 := za hy104
      clear hy104
      replace H := Option.bind_eq_some_iff.mp H
      obtain ⟨t108, A70, H⟩ := H
      replace H : (if t108.length < 17592186044416 then ((some (t108 ++ [x6_1] : List Int)).bind fun y111 => ((some (x5_1.drop (t101 : Int).toNat : List Int)).bind fun y114 => (if y111.length + y114.length < 17592186044416 then (spec_l1Cur_order4.l0 k1 a1 (y111 ++ y114) (wrap64 (x6_1 + 1)) s0_0 t102 t103) else (none)))) else (none)) = some (r1, r2, r3) := H
      have A7 := za A70
      clear A70
      by_cases c8 : t108.length < 17592186044416
      ·
       rw [if_pos c8] at H
       have LMc8 := za c8
       clear c8
       obtain ⟨y111, hy111⟩ : ∃ y_ : List Int, y_ = (t108 ++ [x6_1]) := ⟨_, rfl⟩
       replace H : ((some (x5_1.drop (t101 : Int).toNat : List Int)).bind fun y114 => (if y111.length + y114.length < 17592186044416 then (spec_l1Cur_order4.l0 k1 a1 (y111 ++ y114) (wrap64 (x6_1 + 1)) s0_0 t102 t103) else (none))) = some (r1, r2, r3) := by first | (rw [hy111]; with_reducible exact H) | (have H2_ := (Option.bind_some _ _).symm.trans H; rw [hy111]; with_reducible exact H2_) | (have H2_ := (Option.bind_some _ _).symm.trans H; with_reducible exact H2_) | with_reducible exact H | (rw [hy111]; exact H) | exact H
       have Ny111 := za hy111
       clear hy111
       have c9b0 := eq_true (of_decide_eq_true (by first | (with_reducible assumption) | assumption) : 0 ≤ t101)
       have c10b0 := eq_true (of_decide_eq_true (by first | (with_reducible assumption) | assumption) : t101 ≤ (x5_1.length : Int))
       obtain ⟨y114, hy114⟩ : ∃ y_ : List Int, y_ = (x5_1.drop (t101 : Int).toNat) := ⟨_, rfl⟩
       replace H : (if y111.length + y114.length < 17592186044416 then (spec_l1Cur_order4.l0 k1 a1 (y111 ++ y114) (wrap64 (x6_1 + 1)) s0_0 t102 t103) else (none)) = some (r1, r2, r3) := by first | (rw [hy114]; with_reducible exact H) | (have H2_ := (Option.bind_some _ _).symm.trans H; rw [hy114]; with_reducible exact H2_) | (have H2_ := (Option.bind_some _ _).symm.trans H; with_reducible exact H2_) | with_reducible exact H | (rw [hy114]; exact H) | exact H
       have Ny114 := za hy114
       clear hy114
       by_cases c11 : y111.length + y114.length < 17592186044416
       ·
        rw [if_pos c11] at H
        have LMc11 := za c11
        clear c11
        obtain ⟨y118, hy118⟩ : ∃ y_ : List Int, y_ = (y111 ++ y114) := ⟨_, rfl⟩
        replace H : (spec_l1Cur_order4.l0 k1 a1 y118 (wrap64 (x6_1 + 1)) s0_0 t102 t103) = some (r1, r2, r3) := by first | (rw [hy118]; with_reducible exact H) | (have H2_ := (Option.bind_some _ _).symm.trans H; rw [hy118]; with_reducible exact H2_) | (have H2_ := (Option.bind_some _ _).symm.trans H; with_reducible exact H2_) | with_reducible exact H | (rw [hy118]; exact H) | exact H
        have Ny118 := za hy118
        clear hy118
        have H' := za H
        clear H
        go_wp2_with (first | ((with_reducible refine zy (f := 127) rfl ?_); refine goesL_ (some 17) rfl rfl Try.func127 (by kernel_rfl) rfl #[.pointer (some ⟨g, 0, none⟩), .int .i64 (wrap64 (x6_1 + 1))] rfl (by (try simp only [List.map_toArray, List.map_cons, List.map_nil]); first | done | rfl | (simp only [List.length_drop, List.length_take]; rfl)) ?_; (with_reducible refine (spec_l1Cur_pick.calls g s0_0 x1001_1 x1002_1 (wrap64 (x6_1 + 1)) t101 t102 t103 w0 _ ?side1 ?side2 A4.out).mono ?_); (case side1 => repeat (first | (with_reducible first | exact HI0.out | apply IsS88.alloc | apply IsS88.drewN | apply IsS88.drew | apply IsS88.set_1 | apply IsS88.set_2) | exact HI0.out)); (case side2 => repeat (first | (with_reducible first | exact HB.out | apply zc | apply zd | apply zb | refine ze ?_ (IsS88.ge HI0.out)) | exact HB.out)); rintro e w12 ⟨rfl, hi, hb, hk⟩; refine ⟨_, rfl, ?_⟩; have n0_ := za (zz (Kd.R_keep (IsS88.apart (show IsS88 w0 _ g s0_0 x1001_1 x1002_1 from by repeat (first | (with_reducible first | exact HI0.out | apply IsS88.alloc | apply IsS88.drewN | apply IsS88.drew | apply IsS88.set_1 | apply IsS88.set_2) | exact HI0.out)) (by (with_reducible repeat (first | apply zl | apply zm | apply zk)); exact HO_5.out) (by decide)) hk (fun _ h => h.2)) (fun _ h => h.1)); have n1_ := za (zH (by repeat (first | (with_reducible first | exact HK.out | apply zt | apply zu | apply zs | apply zv) | exact HK.out)) hk (.inl rfl)); have n2_ := za (hb); have n3_ := za (hi); clear HO_5 HK; clear HB HI0; have HO_5 := n0_; have HK := n1_; have HB := n2_; have HI0 := n3_; clear n0_ n1_ n2_ n3_; (try clear hb); (try clear hb2); (try clear hk); (try clear hi); obtain ⟨Ao14, co14, eo14⟩ := Kd.R_slice HO_5.out; subst eo14; have q13 : (t101 : Int) ≤ ((x5_1.length : Int) : Int) := of_decide_eq_true (by first | (with_reducible assumption) | assumption); obtain ⟨i013, hi013, _, hsz13, _⟩ := info_parts info3; have hroom13 : x5_1.length ≤ co14 := (zB HO_5.out).2.1; have hC13 : Kd.C (Kd.int .i64) _ Ao14 x5_1.length x5_1 := (zB HO_5.out).2.2; have hcut13 := cut_to (P := Try.prog) 28 3 .i64 Try.underlying28 hi013 Ao14 x5_1.length co14 t101 (of_decide_eq_true (by first | (with_reducible assumption) | assumption)) q13 hroom13; have hr13 := Kd.C_take (m := (t101 : Int).toNat) hC13 (by omega); have hy13 : y104.length = (t101 : Int).toNat := (by rw [Ny104.out, List.length_take]; omega); rw [← Ny104.out] at hr13; rw [← hy13] at hcut13; have HR107 := za hr13; have HC107 := za (show y104.length ≤ co14 from by omega); clear hr13 hC13 hroom13 hi013 hsz13; have KY13 := za hy13; clear hy13; have KL13 := za (show (t101 : Int).toNat ≤ x5_1.length from by omega); replace q13 := eq_true q13) | ((with_reducible refine zy (f := 129) rfl ?_); refine goesL_ (some 21) rfl rfl Try.func129 (by kernel_rfl) rfl #[.slice Ao14 y104.length co14] rfl (by (try simp only [List.map_toArray, List.map_cons, List.map_nil]); first | done | rfl | (simp only [List.length_drop, List.length_take]; rfl)) ?_; (with_reducible refine (spec_l1Own.calls _ _ y104 t108 _ ?side1 ?side2 A7.out).mono ?_); (case side1 => repeat (first | exact (by repeat (first | (with_reducible exact HR107.out) | (with_reducible refine zp ?_ _) | (with_reducible refine zq ?_ _) | (with_reducible refine zr ?_) | exact HR107.out)) | (with_reducible refine zp ?_ _) | (with_reducible refine zq ?_ _) | (with_reducible refine zr ?_))); (case side2 => exact HC107.out); rintro e w15 ⟨v109, rfl, ho0, hb⟩; refine ⟨_, rfl, ?_⟩; have n0_ := za (Kd.R_elder' (by (with_reducible repeat (first | apply zl | apply zm | apply zk)); exact HO_5.out) (Kd.R_base ho0) hb); have n1_ := za (Kd.R_lower (Kd.R_new' ho0 (Kd.R_lt (by (with_reducible repeat (first | apply zl | apply zm | apply zk)); exact HO_5.out))) (keep_size (w := w) (g := g) (row := none) (by repeat (first | (with_reducible first | exact HK.out | apply zt | apply zu | apply zs | apply zv) | exact HK.out)))); have n2_ := za (IsS88.below (by repeat (first | (with_reducible first | exact HI0.out | apply IsS88.alloc | apply IsS88.drewN | apply IsS88.drew | apply IsS88.set_1 | apply IsS88.set_2) | exact HI0.out)) hb); have n3_ := za (Kd.C_below (by repeat (first | (with_reducible exact HR107.out) | (with_reducible refine zp ?_ _) | (with_reducible refine zq ?_ _) | (with_reducible refine zr ?_) | exact HR107.out)) hb); have n4_ := za (zH (by repeat (first | (with_reducible first | exact HK.out | apply zt | apply zu | apply zs | apply zv) | exact HK.out)) (KeepBut.of_below hb g none) (.inl rfl)); have n5_ := za (zw (by repeat (first | (with_reducible first | exact HB.out | apply zc | apply zd | apply zb | refine ze ?_ (IsS88.ge HI0.out)) | exact HB.out)) hb); clear HO_5 HI0; clear HR107 HK HB; have HO_5 := n0_; have HO110 := n1_; have HI0 := n2_; have HR107 := n3_; have HK := n4_; have HB := n5_; clear n0_ n1_ n2_ n3_ n4_ n5_; (try clear hb); (try clear hb2); (try clear hk); (try clear hi); (try clear ho0)) | ((with_reducible refine gate_builtin (b := .append) (xs := #[.tmp 21, .tmp 23]) rfl ?_); at_builtin; refine Kd.R_append (Kd.int .i64) w.heap.size rfl (.tmp 21) (.tmp 23) 28 3 (.int .i64 0) 8 rfl Try.underlying28 info3 rfl (by decide) (by omega) v109 t108 x6_1 [.int .i64 x6_1] (fun k_ => some k_ ≠ (.slice Ao14 x5_1.length co14 : Value).ownBlock) (fun _ => False) rfl rfl ?aP (fun _ hk => hk.elim) ?aF ?aO (Below.refl _ _) ?aS ?aL ?_; (case aP => exact rfl); (case aF => exact (fun k_ hk => Kd.fresh' (Kd.R_lt (by (with_reducible repeat (first | apply zl | apply zm | apply zk)); exact HO_5.out)) k_ hk)); (case aO => exact (by (with_reducible repeat (first | apply zl | apply zm | apply zk)); exact zz HO110.out (fun _ hk => hk.2))); (case aS => exact (keep_size (w := w) (g := g) (row := none) (by repeat (first | (with_reducible first | exact HK.out | apply zt | apply zu | apply zs | apply zv) | exact HK.out)))); (case aL => have := LMc8.out; omega); intro v112 w16 ho hb hg hat; rw [← Ny111.out] at ho; have n0_ := za (Kd.R_after (ok := (fun _ => True)) (by (with_reducible repeat (first | apply zl | apply zm | apply zk)); exact HO_5.out) hg hat); have n1_ := za (IsS88.grown (by repeat (first | (with_reducible first | exact HI0.out | apply IsS88.alloc | apply IsS88.drewN | apply IsS88.drew | apply IsS88.set_1 | apply IsS88.set_2) | exact HI0.out)) hg (IsS88.own_ne HI0.out HO110.out (by decide))); have n2_ := za (below_weaken (by repeat (first | (with_reducible first | exact HB.out | apply zc | apply zd | apply zb | refine ze ?_ (IsS88.ge HI0.out)) | exact HB.out)) HL.out hb); have n3_ := za (zH (by repeat (first | (with_reducible first | exact HK.out | apply zt | apply zu | apply zs | apply zv) | exact HK.out)) (KeepBut.of_grown hg g) (Kd.R_base2 HO110.out)); have n4_ := za ((show Kd.C (Kd.int .i64) w16 Ao14 y104.length y104 from by rw [Ny104.out]; exact Kd.C_take (m := (t101 : Int).toNat) ((zB (Kd.R_after (ok := (fun _ => True)) (by (with_reducible repeat (first | apply zl | apply zm | apply zk)); exact HO_5.out) hg hat)).2.2) KL13.out)); have n5_ := za (ho); clear HO_5 HI0; clear HB HK; clear HR107 HO110; have HO_5 := n0_; have HI0 := n1_; have HB := n2_; have HK := n3_; have HR107 := n4_; have HO113 := n5_; clear n0_ n1_ n2_ n3_ n4_ n5_; clear ho hb hg hat; have q17 : (t101 : Int) ≤ ((x5_1.length : Int) : Int) := of_decide_eq_true (by first | (with_reducible assumption) | assumption); obtain ⟨i017, hi017, _, hsz17, _⟩ := info_parts info3; have hroom17 : x5_1.length ≤ co14 := (zB HO_5.out).2.1; have hC17 : Kd.C (Kd.int .i64) _ Ao14 x5_1.length x5_1 := (zB HO_5.out).2.2; have q017 : (0 : Int) ≤ (t101 : Int) := of_decide_eq_true (by first | (with_reducible assumption) | assumption); have hcut17 := cut_from (P := Try.prog) 28 3 .i64 Try.underlying28 hi017 1 hsz17 Ao14 x5_1.length co14 t101 q017 q17; have hr17 := Kd.C_drop (m := (t101 : Int).toNat) (c := co14) hC17 (by omega) hroom17; obtain ⟨A17, hA17⟩ : ∃ A1, A1 = (if co14 = (t101 : Int).toNat then Ao14 else (Ao14 : Option Addr).map (·.add ((t101 : Int).toNat * 1))) := ⟨_, rfl⟩; obtain ⟨c17, hc17⟩ : ∃ c1, c1 = co14 - (t101 : Int).toNat := ⟨_, rfl⟩; have hy17 : y114.length = x5_1.length - (t101 : Int).toNat := (by rw [Ny114.out, List.length_drop] <;> omega); rw [show (x5_1).drop (t101 : Int).toNat = y114 from Ny114.out.symm] at hr17; replace hr17 : Kd.C (Kd.int .i64) _ A17 y114.length y114 := (by rw [hA17]; exact hr17); rw [← hy17, ← hA17, ← hc17] at hcut17; have HR117 := za hr17; have HC117 := za (show y114.length ≤ c17 from by rw [hy17, hc17]; exact Nat.sub_le_sub_right hroom17 _); clear hr17 hC17 hroom17 hi017 hsz17 hc17; have KY17 := za hy17; have KA17 := za hA17; clear hy17 hA17; have KL17 := za (show (t101 : Int).toNat ≤ x5_1.length from by omega); replace q17 := eq_true q17) | ((with_reducible refine gate_builtin (b := .append) (xs := #[.tmp 25, .tmp 28]) rfl ?_); at_builtin; refine Kd.R_append_rows (Kd.int .i64) w.heap.size rfl (.tmp 25) (.tmp 28) 28 3 (.int .i64 0) 8 rfl Try.underlying28 info3 rfl (by decide) (by omega) v112 y111 y114 _ _ _ (fun k_ => some k_ ≠ (.slice Ao14 x5_1.length co14 : Value).ownBlock) (fun _ => False) rfl rfl ?aO ?aR (fun _ _ h => h) (fun _ h => h.elim) ?aF (Below.refl _ _) ?aS ?aL ?_; (case aR => repeat (first | exact (by repeat (first | (with_reducible exact HR117.out) | (with_reducible refine zp ?_ _) | (with_reducible refine zq ?_ _) | (with_reducible refine zr ?_) | exact HR117.out)) | (with_reducible refine zp ?_ _) | (with_reducible refine zq ?_ _) | (with_reducible refine zr ?_))); (case aF => exact (fun k_ hk => Kd.fresh' (Kd.R_lt (by (with_reducible repeat (first | apply zl | apply zm | apply zk)); exact HO_5.out)) k_ hk)); (case aO => exact (by (with_reducible repeat (first | apply zl | apply zm | apply zk)); exact HO113.out)); (case aS => exact (keep_size (w := w) (g := g) (row := none) (by repeat (first | (with_reducible first | exact HK.out | apply zt | apply zu | apply zs | apply zv) | exact HK.out)))); (case aL => have := LMc11.out; omega); intro v119 w18 ho hb hg hat; rw [← Ny118.out] at ho; have n0_ := za (Kd.R_after (ok := (fun _ => True)) (by (with_reducible repeat (first | apply zl | apply zm | apply zk)); exact HO_5.out) hg hat); have n1_ := za (IsS88.grown (by repeat (first | (with_reducible first | exact HI0.out | apply IsS88.alloc | apply IsS88.drewN | apply IsS88.drew | apply IsS88.set_1 | apply IsS88.set_2) | exact HI0.out)) hg (IsS88.own_ne HI0.out HO113.out (by decide))); have n2_ := za (below_weaken (by repeat (first | (with_reducible first | exact HB.out | apply zc | apply zd | apply zb | refine ze ?_ (IsS88.ge HI0.out)) | exact HB.out)) HL.out hb); have n3_ := za (zH (by repeat (first | (with_reducible first | exact HK.out | apply zt | apply zu | apply zs | apply zv) | exact HK.out)) (KeepBut.of_grown hg g) (Kd.R_base2 HO113.out)); have n4_ := za ((show Kd.C (Kd.int .i64) w18 Ao14 y104.length y104 from by rw [Ny104.out]; exact Kd.C_take (m := (t101 : Int).toNat) ((zB (Kd.R_after (ok := (fun _ => True)) (by (with_reducible repeat (first | apply zl | apply zm | apply zk)); exact HO_5.out) hg hat)).2.2) KL13.out)); have n5_ := za ((show Kd.C (Kd.int .i64) w18 A17 y114.length y114 from by rw [Ny114.out, KA17.out]; exact Kd.C_drop (m := (t101 : Int).toNat) (c := co14) ((zB (Kd.R_after (ok := (fun _ => True)) (by (with_reducible repeat (first | apply zl | apply zm | apply zk)); exact HO_5.out) hg hat)).2.2) KL17.out ((zB (Kd.R_after (ok := (fun _ => True)) (by (with_reducible repeat (first | apply zl | apply zm | apply zk)); exact HO_5.out) hg hat)).2.1))); have n6_ := za (ho); clear HO_5 HI0; clear HB HK; clear HR107 HR117 HO113; have HO_5 := n0_; have HI0 := n1_; have HB := n2_; have HK := n3_; have HR107 := n4_; have HR117 := n5_; have HO120 := n6_; clear n0_ n1_ n2_ n3_ n4_ n5_ n6_; clear ho hb hg hat))
        go_roundg k1
        case measure => have := HK1.out; omega
        case rel => exact ⟨(y118), (wrap64 (x6_1 + 1)), (t102), (t103), (by first | rfl | (simp; done) | (simp [*]; done)), H', ⟨by have := HK1.out; omega⟩, ⟨by (with_reducible repeat (first | apply zl | apply zm | apply zk)); exact zz HO120.out (fun _ hk => trivial)⟩, ⟨by repeat (first | (with_reducible first | exact HI0.out | apply IsS88.alloc | apply IsS88.drewN | apply IsS88.drew | apply IsS88.set_1 | apply IsS88.set_2) | exact HI0.out)⟩, ⟨by repeat (first | (with_reducible first | exact HK.out | apply zt | apply zu | apply zs | apply zv) | exact HK.out)⟩, ⟨by repeat (first | (with_reducible first | exact HB.out | apply zc | apply zd | apply zb | refine ze ?_ (IsS88.ge HI0.out)) | exact HB.out)⟩⟩
       ·
        rw [if_neg c11] at H
        exact absurd H (by simp)
      ·
       rw [if_neg c8] at H
       exact absurd H (by simp)
     ·
      rw [if_neg c6] at H
      exact absurd H (by simp)
    ·
     rw [if_neg c5] at H
     exact absurd H (by simp)
   ·
    rw [if_neg c3] at H
    have c3b0 : decide (x6_1 < a1) = false := decide_eq_false c3
    clear c3
    have HC19 := za H
    clear H
    go_upto_region 8 with (fail)
    go_cut [36] (fun v36 wc => ∃ (kq : Nat) (x36_18 : Bool) (x1001_18 : Int) (x1002_18 : Int), v36 = .bool x36_18 ∧ Aside0 (spec_l1Cur_order4.j1 kq a1 x5_1 x36_18 s0_0 x1001_18 x1002_18 = some (r1, r2, r3)) ∧ Aside0 (kq ≤ k1) ∧ Aside0 (Kd.R (Kd.int .i64) 3 wc w.heap.size (fun _ => True) u5 x5_1) ∧ Aside0 (IsS88 w0 wc g s0_0 x1001_18 x1002_18) ∧ Aside0 (KeepBut w wc g none) ∧ Aside0 (Below w0.heap.size w0 wc))
    case first =>
     have H := HC19.out
     clear HC19
     by_cases c20 : (x5_1.length : Int) > 0
     ·
      rw [if_pos c20] at H
      have c20b0 : decide (0 < (x5_1.length : Int)) = true := decide_eq_true c20
      have c20b1 : decide (0 < x5_1.length) = true := decide_eq_true (by omega)
      clear c20
      (first | rw [c20b0] | (simp only [i64_w, i32_w]; rw [c20b0]) | skip)
      replace H := Option.bind_eq_some_iff.mp H
      obtain ⟨⟨t121, t122, t123⟩, A210, H⟩ := H
      replace H : (spec_l1Cur_order4.j1 k1 a1 x5_1 t121 s0_0 t122 t123) = some (r1, r2, r3) := H
      have A21 := za A210
      clear A210
      have H' := za H
      clear H
      obtain ⟨Ao22, co22, eo22⟩ := Kd.R_slice HO_5.out
      subst eo22
      go_wp2_with (first | (go_at_call 125; (with_reducible refine (spec_l1Cur_one.calls g s0_0 x1001_1 x1002_1 15 t121 t122 t123 w0 _ ?side1 ?side2 A21.out).mono ?_); (case side1 => repeat (first | (with_reducible first | exact HI0.out | apply IsS88.alloc | apply IsS88.drewN | apply IsS88.drew | apply IsS88.set_1 | apply IsS88.set_2) | exact HI0.out)); (case side2 => repeat (first | (with_reducible first | exact HB.out | apply zc | apply zd | apply zb | refine ze ?_ (IsS88.ge HI0.out)) | exact HB.out)); rintro e w23 ⟨rfl, hi, hb, hk⟩; have n0_ := za (zz (Kd.R_keep (IsS88.apart (show IsS88 w0 _ g s0_0 x1001_1 x1002_1 from by repeat (first | (with_reducible first | exact HI0.out | apply IsS88.alloc | apply IsS88.drewN | apply IsS88.drew | apply IsS88.set_1 | apply IsS88.set_2) | exact HI0.out)) (by (with_reducible repeat (first | apply zl | apply zm | apply zk)); exact HO_5.out) (by decide)) hk (fun _ h => h.2)) (fun _ h => h.1)); have n1_ := za (zH (by repeat (first | (with_reducible first | exact HK.out | apply zt | apply zu | apply zs | apply zv) | exact HK.out)) hk (.inl rfl)); have n2_ := za (hb); have n3_ := za (hi); clear HO_5 HK; clear HB HI0; have HO_5 := n0_; have HK := n1_; have HB := n2_; have HI0 := n3_; clear n0_ n1_ n2_ n3_; (try clear hb); (try clear hb2); (try clear hk); (try clear hi)))
      go_meet
      case rel => exact ⟨_, (t121), (t122), (t123), (by first | rfl | (simp; done) | (simp [*]; done)), H', ⟨by have := HK1.out; first | omega | exact Nat.le_refl _⟩, ⟨by (with_reducible repeat (first | apply zl | apply zm | apply zk)); exact HO_5.out⟩, ⟨by repeat (first | (with_reducible first | exact HI0.out | apply IsS88.alloc | apply IsS88.drewN | apply IsS88.drew | apply IsS88.set_1 | apply IsS88.set_2) | exact HI0.out)⟩, ⟨by repeat (first | (with_reducible first | exact HK.out | apply zt | apply zu | apply zs | apply zv) | exact HK.out)⟩, ⟨by repeat (first | (with_reducible first | exact HB.out | apply zc | apply zd | apply zb | refine ze ?_ (IsS88.ge HI0.out)) | exact HB.out)⟩⟩
     ·
      rw [if_neg c20] at H
      have c20b0 : decide (0 < (x5_1.length : Int)) = false := decide_eq_false c20
      have c20b1 : decide (0 < x5_1.length) = false := decide_eq_false (by omega)
      clear c20
      (first | rw [c20b0] | (simp only [i64_w, i32_w]; rw [c20b0]) | skip)
      have H' := za H
      clear H
      obtain ⟨Ao24, co24, eo24⟩ := Kd.R_slice HO_5.out
      subst eo24
      go_wp2
      go_meet
      case rel => exact ⟨_, (false), (x1001_1), (x1002_1), (by first | rfl | (simp; done) | (simp [*]; done)), H', ⟨by have := HK1.out; first | omega | exact Nat.le_refl _⟩, ⟨by (with_reducible repeat (first | apply zl | apply zm | apply zk)); exact HO_5.out⟩, ⟨by repeat (first | (with_reducible first | exact HI0.out | apply IsS88.alloc | apply IsS88.drewN | apply IsS88.drew | apply IsS88.set_1 | apply IsS88.set_2) | exact HI0.out)⟩, ⟨by repeat (first | (with_reducible first | exact HK.out | apply zt | apply zu | apply zs | apply zv) | exact HK.out)⟩, ⟨by repeat (first | (with_reducible first | exact HB.out | apply zc | apply zd | apply zb | refine ze ?_ (IsS88.ge HI0.out)) | exact HB.out)⟩⟩
    case rest =>
     clear HC19
     try clear c1
     try clear q1
     try clear c2
     try clear p2
     try clear c3
     try clear c3b0
     try clear c5
     try clear c5b0
     try clear c5b1
     try clear c6
     try clear c6b0
     try clear c6b1
     try clear p6
     try clear c8
     try clear c9
     try clear c9b0
     try clear c10
     try clear c10b0
     try clear c11
     try clear c12
     try clear q13
     try clear c17
     try clear q17
     try clear c20
     try clear c20b0
     try clear c20b1
     try clear p2
     try clear q017
     try clear q13
     try clear q17
     obtain ⟨kq, x36_18, x1001_18, x1002_18, rfl, HA, HJ18, HO_5, HI0, HK, HB⟩ := hcut
     cases kq with
     | zero => exact absurd HA.out (by simp [spec_l1Cur_order4.j1])
     | succ kj18 =>
      have H := HA.out
      clear HA
      simp only [spec_l1Cur_order4.j1] at H
      by_cases c25 : x36_18 = true
      ·
       subst c25
       have H1 : ((spec_l1Cur_pick.f s0_0 x1001_18 x1002_18 (x5_1.length : Int)).bind fun bt124 => ((spec_l1Cur_among.f s0_0 bt124.2.1 bt124.2.2 (([(-1), 0, a1, 4611686018427387904] : List Int))).bind fun bt130 => (if 0 ≤ bt124.1 then (if bt124.1 < (x5_1.length : Int) then (some ((x5_1.set (bt124.1 : Int).toNat bt130.1), bt130.2.1, bt130.2.2)) else (none)) else (none)))) = some (r1, r2, r3) := by rw [if_pos rfl] at H; exact H
       clear H
       have H := H1
       clear H1
       replace H := Option.bind_eq_some_iff.mp H
       obtain ⟨⟨t124, t125, t126⟩, A260, H⟩ := H
       replace H : ((spec_l1Cur_among.f s0_0 t125 t126 (([(-1), 0, a1, 4611686018427387904] : List Int))).bind fun bt130 => (if 0 ≤ t124 then (if t124 < (x5_1.length : Int) then (some ((x5_1.set (t124 : Int).toNat bt130.1), bt130.2.1, bt130.2.2)) else (none)) else (none))) = some (r1, r2, r3) := H
       have A26 := za A260
       clear A260
       obtain ⟨y127, hy127⟩ : ∃ y_ : List Int, y_ = (([(-1), 0, a1, 4611686018427387904] : List Int)) := ⟨_, rfl⟩
       replace H : ((spec_l1Cur_among.f s0_0 t125 t126 y127).bind fun bt130 => (if 0 ≤ t124 then (if t124 < (x5_1.length : Int) then (some ((x5_1.set (t124 : Int).toNat bt130.1), bt130.2.1, bt130.2.2)) else (none)) else (none))) = some (r1, r2, r3) := by first | (rw [hy127]; with_reducible exact H) | (have H2_ := (Option.bind_some _ _).symm.trans H; rw [hy127]; with_reducible exact H2_) | (have H2_ := (Option.bind_some _ _).symm.trans H; with_reducible exact H2_) | with_reducible exact H | (rw [hy127]; exact H) | exact H
       have Ny127 := za hy127
       clear hy127
       replace H := Option.bind_eq_some_iff.mp H
       obtain ⟨⟨t130, t131, t132⟩, A270, H⟩ := H
       replace H : (if 0 ≤ t124 then (if t124 < (x5_1.length : Int) then (some ((x5_1.set (t124 : Int).toNat t130), t131, t132)) else (none)) else (none)) = some (r1, r2, r3) := H
       have A27 := za A270
       clear A270
       by_cases c28 : 0 ≤ t124
       ·
        rw [if_pos c28] at H
        have c28b0 : decide (0 ≤ t124) = true := decide_eq_true c28
        clear c28
        by_cases c29 : t124 < (x5_1.length : Int)
        ·
         rw [if_pos c29] at H
         have c29b0 : decide (t124 < (x5_1.length : Int)) = true := decide_eq_true c29
         clear c29
         obtain ⟨y133, hy133⟩ : ∃ y_ : List Int, y_ = (x5_1.set (t124 : Int).toNat t130) := ⟨_, rfl⟩
         replace H : (some (y133, t131, t132)) = some (r1, r2, r3) := by first | (rw [hy133]; with_reducible exact H) | (have H2_ := (Option.bind_some _ _).symm.trans H; rw [hy133]; with_reducible exact H2_) | (have H2_ := (Option.bind_some _ _).symm.trans H; with_reducible exact H2_) | with_reducible exact H | (rw [hy133]; exact H) | exact H
         have Ny133 := za hy133
         clear hy133
         simp only [Option.some.injEq, Prod.mk.injEq] at H
         obtain ⟨rfl, rfl, rfl⟩ := H
         obtain ⟨Ao31, co31, eo31⟩ := Kd.R_slice HO_5.out
         subst eo31
         go_wp2_with (first | ((with_reducible refine zy (f := 127) rfl ?_); refine goesL_ (some 41) rfl rfl Try.func127 (by kernel_rfl) rfl #[.pointer (some ⟨g, 0, none⟩), .int .i64 (x5_1.length : Int)] rfl (by (try simp only [List.map_toArray, List.map_cons, List.map_nil]); first | done | rfl | (simp only [List.length_drop, List.length_take]; rfl)) ?_; (with_reducible refine (spec_l1Cur_pick.calls g s0_0 x1001_18 x1002_18 (x5_1.length : Int) t124 t125 t126 w0 _ ?side1 ?side2 A26.out).mono ?_); (case side1 => repeat (first | (with_reducible first | exact HI0.out | apply IsS88.alloc | apply IsS88.drewN | apply IsS88.drew | apply IsS88.set_1 | apply IsS88.set_2) | exact HI0.out)); (case side2 => repeat (first | (with_reducible first | exact HB.out | apply zc | apply zd | apply zb | refine ze ?_ (IsS88.ge HI0.out)) | exact HB.out)); rintro e w32 ⟨rfl, hi, hb, hk⟩; refine ⟨_, rfl, ?_⟩; have n0_ := za (zz (Kd.R_keep (IsS88.apart (show IsS88 w0 _ g s0_0 x1001_18 x1002_18 from by repeat (first | (with_reducible first | exact HI0.out | apply IsS88.alloc | apply IsS88.drewN | apply IsS88.drew | apply IsS88.set_1 | apply IsS88.set_2) | exact HI0.out)) (by (with_reducible repeat (first | apply zl | apply zm | apply zk)); exact HO_5.out) (by decide)) hk (fun _ h => h.2)) (fun _ h => h.1)); have n1_ := za (zH (by repeat (first | (with_reducible first | exact HK.out | apply zt | apply zu | apply zs | apply zv) | exact HK.out)) hk (.inl rfl)); have n2_ := za (hb); have n3_ := za (hi); clear HO_5 HK; clear HB HI0; have HO_5 := n0_; have HK := n1_; have HB := n2_; have HI0 := n3_; clear n0_ n1_ n2_ n3_; (try clear hb); (try clear hb2); (try clear hk); (try clear hi)) | ((with_reducible refine zF (N := 44) rfl ?_); refine Kd.R_lit (Kd.int .i64) _ 3 ?hg (N := 44) ?hd (xs := ([(-1), 0, a1, 4611686018427387904] : List Int)) (inner := [.int .i64 (-1), .int .i64 0, .int .i64 a1, .int .i64 4611686018427387904]) (ok := fun _ => True) (okp := fun _ => True) ?hr ?hp (fun _ hk => hk) trivial (Below.refl _ _) (Nat.le_refl _) (by simp) ?_; (case hd => rfl); (case hg => rfl); (case hr => first | (go_simp; done) | (go_simp; rfl)); (case hp => exact (Reps.one (show Kd.M (Kd.int .i64) _ _ _ (-1) [.int .i64 (-1)] from rfl) (Reps.one (show Kd.M (Kd.int .i64) _ _ _ 0 [.int .i64 0] from rfl) (Reps.one (show Kd.M (Kd.int .i64) _ _ _ a1 [.int .i64 a1] from rfl) (Reps.one (show Kd.M (Kd.int .i64) _ _ _ 4611686018427387904 [.int .i64 4611686018427387904] from rfl) (Reps.none _ _)))))); intro v128 w33 ho34 hb hg_ hnew_; clear hg_ hnew_; (first | rw [← Ny127.out] at ho34 | (simp only [Int.reduceToNat] at ho34; rw [← Ny127.out] at ho34)); have n0_ := za (Kd.R_elder' (by (with_reducible repeat (first | apply zl | apply zm | apply zk)); exact HO_5.out) (Kd.R_base ho34) hb); have n1_ := za (Kd.R_lower (Kd.R_new' ho34 (Kd.R_lt (by (with_reducible repeat (first | apply zl | apply zm | apply zk)); exact HO_5.out))) (keep_size (w := w) (g := g) (row := none) (by repeat (first | (with_reducible first | exact HK.out | apply zt | apply zu | apply zs | apply zv) | exact HK.out)))); have n2_ := za (IsS88.below (by repeat (first | (with_reducible first | exact HI0.out | apply IsS88.alloc | apply IsS88.drewN | apply IsS88.drew | apply IsS88.set_1 | apply IsS88.set_2) | exact HI0.out)) hb); have n3_ := za (zH (by repeat (first | (with_reducible first | exact HK.out | apply zt | apply zu | apply zs | apply zv) | exact HK.out)) (KeepBut.of_below hb g none) (.inl rfl)); have n4_ := za (zw (by repeat (first | (with_reducible first | exact HB.out | apply zc | apply zd | apply zb | refine ze ?_ (IsS88.ge HI0.out)) | exact HB.out)) hb); clear HO_5 HI0; clear HK HB; have HO_5 := n0_; have HO129 := n1_; have HI0 := n2_; have HK := n3_; have HB := n4_; clear n0_ n1_ n2_ n3_ n4_; clear hb ho34; obtain ⟨Ao35, co35, eo35⟩ := Kd.R_slice HO129.out; subst eo35) | ((with_reducible refine zy (f := 98) rfl ?_); refine goesL_ (some 45) rfl rfl Try.func98 (by kernel_rfl) rfl #[.pointer (some ⟨g, 0, none⟩), .slice Ao35 y127.length co35] rfl (by (try simp only [List.map_toArray, List.map_cons, List.map_nil]); first | done | rfl | (simp only [List.length_drop, List.length_take]; rfl)) ?_; (with_reducible refine (spec_l1Cur_among.calls g s0_0 t125 t126 _ _ y127 t130 t131 t132 w0 _ ?side1 ?side2 ?side3 ?side4 ?side5 A27.out).mono ?_); (case side1 => repeat (first | (with_reducible first | exact HI0.out | apply IsS88.alloc | apply IsS88.drewN | apply IsS88.drew | apply IsS88.set_1 | apply IsS88.set_2) | exact HI0.out)); (case side2 => repeat (first | (with_reducible first | exact HB.out | apply zc | apply zd | apply zb | refine ze ?_ (IsS88.ge HI0.out)) | exact HB.out)); (case side3 => repeat (first | exact (zB HO129.out).2.2 | (with_reducible refine zp ?_ _) | (with_reducible refine zq ?_ _) | (with_reducible refine zr ?_))); (case side4 => exact (zB HO129.out).2.1); (case side5 => exact far_slice (IsS88.own_ne HI0.out HO129.out (by decide))); rintro e w36 ⟨rfl, hi, hb, hk⟩; refine ⟨_, rfl, ?_⟩; have n0_ := za (zz (Kd.R_keep (IsS88.apart (show IsS88 w0 _ g s0_0 t125 t126 from by repeat (first | (with_reducible first | exact HI0.out | apply IsS88.alloc | apply IsS88.drewN | apply IsS88.drew | apply IsS88.set_1 | apply IsS88.set_2) | exact HI0.out)) (by (with_reducible repeat (first | apply zl | apply zm | apply zk)); exact HO_5.out) (by decide)) hk (fun _ h => h.2)) (fun _ h => h.1)); have n1_ := za (zz (Kd.R_keep (IsS88.apart (show IsS88 w0 _ g s0_0 t125 t126 from by repeat (first | (with_reducible first | exact HI0.out | apply IsS88.alloc | apply IsS88.drewN | apply IsS88.drew | apply IsS88.set_1 | apply IsS88.set_2) | exact HI0.out)) (by (with_reducible repeat (first | apply zl | apply zm | apply zk)); exact HO129.out) (by decide)) hk (fun _ h => h.2)) (fun _ h => h.1)); have n2_ := za (zH (by repeat (first | (with_reducible first | exact HK.out | apply zt | apply zu | apply zs | apply zv) | exact HK.out)) hk (.inl rfl)); have n3_ := za (hb); have n4_ := za (hi); clear HO_5 HO129; clear HK HB HI0; have HO_5 := n0_; have HO129 := n1_; have HK := n2_; have HB := n3_; have HI0 := n4_; clear n0_ n1_ n2_ n3_ n4_; (try clear hb); (try clear hb2); (try clear hk); (try clear hi); have p30 : 0 ≤ (t124 : Int) := of_decide_eq_true (by first | (with_reducible assumption) | assumption); have q30 : (t124 : Int) < ((x5_1.length : Int) : Int) := of_decide_eq_true (by first | (with_reducible assumption) | assumption); obtain ⟨go30, co30, eo30, gb30, gl30, cl30, HG30⟩ := Kd.R_form HO_5.out (by omega); (first | cases eo30 | (injection eo30 with ea_ en_ ec_; (first | subst ea_ | (injection ea_ with ea_; subst ea_)); subst ec_; clear en_)); have GB30 := za gb30; have GG30 := za HG30; clear gb30 gl30 HG30; obtain ⟨hx30_0, hf30_0⟩ := Kd.R_celln 0 HO_5.out (t124 : Int) p30 q30; replace p30 := eq_true p30; replace q30 := eq_true q30; have n_ := za (zz (ok' := (fun k_ => some k_ ≠ (.slice Ao35 y127.length co35 : Value).ownBlock)) HO_5.out (fun k_ hk => hk.2)); clear HO_5; have HO_5 := n_; clear n_; obtain ⟨hy37_, hz37_⟩ := Kd.R_celln 0 HO_5.out (t124 : Int) (of_decide_eq_true (by first | (with_reducible assumption) | assumption)) (of_decide_eq_true (by first | (with_reducible assumption) | assumption)); have HP37 := Kd.R_putg HO_5.out (t124 : Int) t130) | ((with_reducible refine gate_store (t := 3) (p := 46) rfl ?_); refine store_event (t := 3) (p := 46) (v := ?vo_w38) (w1 := (w36.setCell ⟨go30, (t124 : Int).toNat, none⟩ (.int .i64 t130))) ?hg ?ho ?hn ?hr ?_; (case ho => rfl); (case hg => rfl); (case hn => rfl); (case hr => first | (go_simp; done) | (go_simp; rfl)); intro w38 hw; have hg : w36.grownBy w38 (some go30) := (by rw [hw]; exact HP37.2); have hp_ : Kd.R (Kd.int .i64) 3 w38 w.heap.size (fun k_ => some k_ ≠ (.slice Ao35 y127.length co35 : Value).ownBlock) (.slice (some ⟨go30, 0, none⟩) x5_1.length co31) y133 := (by rw [hw, Ny133.out]; exact HP37.1); clear HP37; have n0_ := za (hp_); have n1_ := za (IsS88.grown (by repeat (first | (with_reducible first | exact HI0.out | apply IsS88.alloc | apply IsS88.drewN | apply IsS88.drew | apply IsS88.set_1 | apply IsS88.set_2) | exact HI0.out)) hg (IsS88.own_ne HI0.out HO_5.out (by decide))); have n2_ := za (Kd.R_after (v := (.slice (some ⟨go30, 0, none⟩) x5_1.length co31)) (v1 := (.slice (some ⟨go30, 0, none⟩) x5_1.length co31)) (ok := (fun _ => True)) (by (with_reducible repeat (first | apply zl | apply zm | apply zk)); exact HO129.out) hg (.inl rfl)); have n3_ := za ((by rw [hw]; exact ze (HB.out) (Nat.le_trans HL.out GB30.out) : Below w0.heap.size w0 w38)); have n4_ := za (zH (by repeat (first | (with_reducible first | exact HK.out | apply zt | apply zu | apply zs | apply zv) | exact HK.out)) (KeepBut.of_grown hg g) (Kd.R_base2 HO_5.out)); clear HO_5 HI0; clear HO129 HB HK; have HO_5 := n0_; have HI0 := n1_; have HO129 := n2_; have HB := n3_; have HK := n4_; clear n0_ n1_ n2_ n3_ n4_; clear hg hw hp_))
         go_ret
         exact ⟨_, by first | rfl | (simp [errW_none, errW_some] <;> rfl) | (simp [*, errW_none, errW_some] <;> rfl), by (with_reducible repeat (first | apply zl | apply zm | apply zk)); exact zz HO_5.out (fun _ hk => trivial), by repeat (first | (with_reducible first | exact HI0.out | apply IsS88.alloc | apply IsS88.drewN | apply IsS88.drew | apply IsS88.set_1 | apply IsS88.set_2) | exact HI0.out), by repeat (first | (with_reducible first | exact HB.out | apply zc | apply zd | apply zb | refine ze ?_ (IsS88.ge HI0.out)) | exact HB.out), by repeat (first | (with_reducible first | exact HK.out | apply zt | apply zu | apply zs | apply zv) | exact HK.out)⟩
        ·
         rw [if_neg c29] at H
         exact absurd H (by simp)
       ·
        rw [if_neg c28] at H
        exact absurd H (by simp)
      ·
       replace c25 := Bool.eq_false_iff.mpr c25
       subst c25
       have H1 : (some (x5_1, x1001_18, x1002_18)) = some (r1, r2, r3) := by rw [if_neg (show ¬ (false = true) by decide)] at H; exact H
       clear H
       have H := H1
       clear H1
       simp only [Option.some.injEq, Prod.mk.injEq] at H
       obtain ⟨rfl, rfl, rfl⟩ := H
       go_wp2
       go_ret
       exact ⟨_, by first | rfl | (simp [errW_none, errW_some] <;> rfl) | (simp [*, errW_none, errW_some] <;> rfl), by (with_reducible repeat (first | apply zl | apply zm | apply zk)); exact HO_5.out, by repeat (first | (with_reducible first | exact HI0.out | apply IsS88.alloc | apply IsS88.drewN | apply IsS88.drew | apply IsS88.set_1 | apply IsS88.set_2) | exact HI0.out), by repeat (first | (with_reducible first | exact HB.out | apply zc | apply zd | apply zb | refine ze ?_ (IsS88.ge HI0.out)) | exact HB.out), by repeat (first | (with_reducible first | exact HK.out | apply zt | apply zu | apply zs | apply zv) | exact HK.out)⟩
end Go.Proofs.Ytiopnmgcajohfaa.Q
end
section
namespace Go.Proofs.Ytiopnmgcajohfaa.Q
open Go.RowKit Go.Proofs.YtiopnmgcajohfaaW.PrintWords Go.Proofs.YtiopnmgcajohfaaW.PrintLast Go.Proofs.YtiopnmgcajohfaaW.PrintMore
attribute [local go_sem] max2_int min2_int max_two min_two max_three min_three max_four min_four   -- for this text's walks alone
set_option linter.unusedVariables false
set_option linter.unusedSimpArgs false
def spec_DrawHitsOf.f (k : Nat) (l0 : List Int) : Option (Int × Int × List Int × List Int) := (spec_l1Cur_square4.f k l0 0 0).bind fun bt103 => ((spec_boGood.f k bt103.1 bt103.2.1 bt103.2.2.1).bind fun t111 => (if t111 = true then ((spec_l1Cur_order4.f k l0 bt103.2.2.2.1 bt103.2.2.2.2 bt103.1).bind fun bt112 => (some (bt103.1, bt103.2.1, bt103.2.2.1, bt112.1))) else ((spec_l1Cur_order4.f k l0 bt103.2.2.2.1 bt103.2.2.2.2 3).bind fun bt117 => (some (bt103.1, bt103.2.1, bt103.2.2.1, bt117.1)))))
set_option maxHeartbeats 8000000 in
set_option maxRecDepth 100000 in
theorem spec_DrawHitsOf.calls (k : Nat) (A0 : Option Addr) (c0 : Nat) (l0 : List Int) (r1 : Int) (r2 : Int) (r3 : List Int) (r4 : List Int) (w : World) (hr0 : Kd.C (Kd.int .u8) w A0 l0.length l0) (hc0 : l0.length ≤ c0) (h : spec_DrawHitsOf.f k l0 = some (r1, r2, r3, r4)) :
  Calls Try.prog 39 #[.slice A0 l0.length c0] w fun e w' => ∃ v2_ v3_ : Value, e = .returned (.tuple #[.agg #[.int .i64 r1, .int .i64 r2, v2_], v3_]) ∧ Kd.R (Kd.int .i64) 3 w' w.heap.size (fun k_ => some k_ ≠ (v3_ : Value).ownBlock) v2_ r3 ∧ Kd.R (Kd.int .i64) 3 w' w.heap.size (fun k_ => some k_ ≠ (v2_ : Value).ownBlock) v3_ r4 ∧ Below w.heap.size w w' := by
 have hu43 := Try.underlying43
 have hu88 := Try.underlying88
 have HR0 := za hr0
 have HC0 := za hc0
 clear hr0 hc0
 have HB := za (Below.refl w.heap.size w)
 have H : ((spec_l1Cur_square4.f k l0 0 0).bind fun bt103 => ((spec_boGood.f k bt103.1 bt103.2.1 bt103.2.2.1).bind fun t111 => (if t111 = true then ((spec_l1Cur_order4.f k l0 bt103.2.2.2.1 bt103.2.2.2.2 bt103.1).bind fun bt112 => (some (bt103.1, bt103.2.1, bt103.2.2.1, bt112.1))) else ((spec_l1Cur_order4.f k l0 bt103.2.2.2.1 bt103.2.2.2.2 3).bind fun bt117 => (some (bt103.1, bt103.2.1, bt103.2.2.1, bt117.1)))))) = some (r1, r2, r3, r4) := h
 clear h
 replace H := Option.bind_eq_some_iff.mp H
 obtain ⟨⟨t103, t104, t105, t108, t109⟩, A20, H⟩ := H
 replace H : ((spec_boGood.f k t103 t104 t105).bind fun t111 => (if t111 = true then ((spec_l1Cur_order4.f k l0 t108 t109 t103).bind fun bt112 => (some (t103, t104, t105, bt112.1))) else ((spec_l1Cur_order4.f k l0 t108 t109 3).bind fun bt117 => (some (t103, t104, t105, bt117.1))))) = some (r1, r2, r3, r4) := H
 have A2 := za A20
 clear A20
 replace H := Option.bind_eq_some_iff.mp H
 obtain ⟨t111, A30, H⟩ := H
 replace H : (if t111 = true then ((spec_l1Cur_order4.f k l0 t108 t109 t103).bind fun bt112 => (some (t103, t104, t105, bt112.1))) else ((spec_l1Cur_order4.f k l0 t108 t109 3).bind fun bt117 => (some (t103, t104, t105, bt117.1)))) = some (r1, r2, r3, r4) := H
 have A3 := za A30
 clear A30
 by_cases c4 : t111 = true
 ·
  subst c4
  have H1 : ((spec_l1Cur_order4.f k l0 t108 t109 t103).bind fun bt112 => (some (t103, t104, t105, bt112.1))) = some (r1, r2, r3, r4) := by rw [if_pos rfl] at H; exact H
  clear H
  have H := H1
  clear H1
  replace H := Option.bind_eq_some_iff.mp H
  obtain ⟨⟨t112, t115, t116⟩, A50, H⟩ := H
  replace H : (some (t103, t104, t105, t112)) = some (r1, r2, r3, r4) := H
  have A5 := za A50
  clear A50
  simp only [Option.some.injEq, Prod.mk.injEq] at H
  obtain ⟨rfl, rfl, rfl, rfl⟩ := H
  go_enter Try.func39, Try.ntmps39
  try go_wp2_with (first | ((with_reducible refine zF (N := 2) rfl ?_); refine zG ?hg (N := 2) ?hd (cs := #[.int .i64 0, .int .i64 0, .slice none 0 0]) (t := 43) ?hr ?_; (case hd => rfl); (case hg => rfl); (case hr => first | (go_simp; done) | (go_simp; rfl)); intro gb101 hg w6 hbox hb; have n0_ := za (zw (by repeat (first | (with_reducible first | exact HB.out | apply zc | apply zd | apply zb) | exact HB.out)) hb); have n1_ := za (hbox); have n2_ := za ((by rw [hg]; exact (zo (by repeat (first | (with_reducible first | exact HB.out | apply zc | apply zd | apply zb) | exact HB.out))) : w.heap.size ≤ gb101)); have n3_ := za ((by rw [hg]; exact (zo (by repeat (first | (with_reducible first | exact HB.out | apply zc | apply zd | apply zb) | exact HB.out))) : w.heap.size ≤ gb101)); clear HB; have HB := n0_; have BK101 := n1_; have GW101 := n2_; have GE101 := n3_; clear n0_ n1_ n2_ n3_; clear hb hbox hg) | ((with_reducible refine zF (N := 8) rfl ?_); refine zG ?hg (N := 8) ?hd (cs := #[.slice A0 l0.length c0, .int .i64 0, .int .u64 0]) (t := 88) ?hr ?_; (case hd => rfl); (case hg => rfl); (case hr => first | (go_simp; done) | (go_simp; rfl)); intro gb102 hg w7 hbox hb; have n0_ := za (zA (g := gb101) (o := .cells #[.int .i64 0, .int .i64 0, .slice none 0 0] 43 (0, 0)) (by (with_reducible repeat (first | refine zg ?_ _ | refine zf ?_ | refine zh ?_ _)); exact BK101.out) hb); have n1_ := za (zw (by repeat (first | (with_reducible first | exact HB.out | apply zc | apply zd | apply zb | refine ze ?_ GE101.out) | exact HB.out)) hb); have n2_ := za (hbox); have n3_ := za ((by rw [hg]; exact (zo (by repeat (first | (with_reducible first | exact HB.out | apply zc | apply zd | apply zb | refine ze ?_ GE101.out) | exact HB.out))) : w.heap.size ≤ gb102)); have n4_ := za ((by rw [hg]; exact (zo (by repeat (first | (with_reducible first | exact HB.out | apply zc | apply zd | apply zb | refine ze ?_ GE101.out) | exact HB.out))) : w.heap.size ≤ gb102)); have n5_ := za ((by rw [hg]; exact Nat.ne_of_lt (blk_lt (g := gb101) (o := .cells #[.int .i64 0, .int .i64 0, .slice none 0 0] 43 (0, 0)) (by (with_reducible repeat (first | refine zg ?_ _ | refine zf ?_ | refine zh ?_ _)); exact BK101.out)) : gb101 ≠ gb102)); have n6_ := za ((by rw [hg]; exact Nat.ne_of_gt (blk_lt (g := gb101) (o := .cells #[.int .i64 0, .int .i64 0, .slice none 0 0] 43 (0, 0)) (by (with_reducible repeat (first | refine zg ?_ _ | refine zf ?_ | refine zh ?_ _)); exact BK101.out)) : gb102 ≠ gb101)); clear BK101 HB; have BK101 := n0_; have HB := n1_; have BK102 := n2_; have GW102 := n3_; have GE102 := n4_; have NB101_102 := n5_; have NB102_101 := n6_; clear n0_ n1_ n2_ n3_ n4_ n5_ n6_; clear hb hbox hg; have HI102 := za (show IsS88 w _ gb102 l0 0 0 from ⟨_, _, BK102.out, GE102.out, HR0.out⟩)) | ((with_reducible refine zy (f := 97) rfl ?_); refine goesL_ (some 10) rfl rfl Try.func97 (by kernel_rfl) rfl #[.pointer (some ⟨gb102, 0, none⟩)] rfl (by (try simp only [List.map_toArray, List.map_cons, List.map_nil]); first | done | rfl | (simp only [List.length_drop, List.length_take]; rfl)) ?_; (with_reducible refine (spec_l1Cur_square4.calls k gb102 l0 0 0 t103 t104 t105 t108 t109 w _ ?side1 ?side2 A2.out).mono ?_); (case side1 => repeat (first | (with_reducible first | exact HI102.out | apply IsS88.alloc | apply IsS88.drewN | apply IsS88.drew | apply IsS88.set_1 | apply IsS88.set_2 | refine IsS88.far ?_ NB102_101.out _) | exact HI102.out)); (case side2 => repeat (first | (with_reducible first | exact HB.out | apply zc | apply zd | apply zb | refine ze ?_ (IsS88.ge HI102.out) | refine ze ?_ GE101.out) | exact HB.out)); rintro e w8 ⟨v106, rfl, ho0, hi, hb, hk⟩; refine ⟨_, rfl, ?_⟩; have n0_ := za (zJ hk (g' := gb101) (o := .cells #[.int .i64 0, .int .i64 0, .slice none 0 0] 43 (0, 0)) (by (with_reducible repeat (first | refine zg ?_ _ | refine zf ?_ | refine zh ?_ _)); exact BK101.out) NB101_102.out (by simp)); have n1_ := za (Kd.R_lower ho0 (zo (by repeat (first | (with_reducible first | exact HB.out | apply zc | apply zd | apply zb | refine ze ?_ (IsS88.ge HI102.out) | refine ze ?_ GE101.out) | exact HB.out)))); have n2_ := za (hb); have n3_ := za (hi); clear BK101 HB HI102; have BK101 := n0_; have HO107 := n1_; have HB := n2_; have HI102 := n3_; clear n0_ n1_ n2_ n3_; (try clear hb); (try clear hb2); (try clear hk); (try clear hi); (try clear ho0)) | ((with_reducible refine zF (N := 5) rfl ?_); refine zG ?hg (N := 5) ?hd (cs := #[.int .i64 0, .int .i64 0, .slice none 0 0]) (t := 43) ?hr ?_; (case hd => rfl); (case hg => rfl); (case hr => first | (go_simp; done) | (go_simp; rfl)); intro gb110 hg w9 hbox hb; have n0_ := za (zI (by (with_reducible repeat (first | apply zl | apply zm | apply zk)); exact HO107.out) hb); have n1_ := za (zA (g := gb101) (o := .cells #[.int .i64 0, .int .i64 0, .slice none 0 0] 43 (0, 0)) (by (with_reducible repeat (first | refine zg ?_ _ | refine zf ?_ | refine zh ?_ _)); exact BK101.out) hb); have n2_ := za (IsS88.below (by repeat (first | (with_reducible first | exact HI102.out | apply IsS88.alloc | apply IsS88.drewN | apply IsS88.drew | apply IsS88.set_1 | apply IsS88.set_2 | refine IsS88.far ?_ NB102_101.out _) | exact HI102.out)) hb); have n3_ := za (zw (by repeat (first | (with_reducible first | exact HB.out | apply zc | apply zd | apply zb | refine ze ?_ (IsS88.ge HI102.out) | refine ze ?_ GE101.out) | exact HB.out)) hb); have n4_ := za (hbox); have n5_ := za ((by rw [hg]; exact (zo (by repeat (first | (with_reducible first | exact HB.out | apply zc | apply zd | apply zb | refine ze ?_ (IsS88.ge HI102.out) | refine ze ?_ GE101.out) | exact HB.out))) : w.heap.size ≤ gb110)); have n6_ := za ((by rw [hg]; exact (zo (by repeat (first | (with_reducible first | exact HB.out | apply zc | apply zd | apply zb | refine ze ?_ (IsS88.ge HI102.out) | refine ze ?_ GE101.out) | exact HB.out))) : w.heap.size ≤ gb110)); have n7_ := za ((by rw [hg]; exact Nat.ne_of_lt (blk_lt (g := gb101) (o := .cells #[.int .i64 0, .int .i64 0, .slice none 0 0] 43 (0, 0)) (by (with_reducible repeat (first | refine zg ?_ _ | refine zf ?_ | refine zh ?_ _)); exact BK101.out)) : gb101 ≠ gb110)); have n8_ := za ((by rw [hg]; exact Nat.ne_of_gt (blk_lt (g := gb101) (o := .cells #[.int .i64 0, .int .i64 0, .slice none 0 0] 43 (0, 0)) (by (with_reducible repeat (first | refine zg ?_ _ | refine zf ?_ | refine zh ?_ _)); exact BK101.out)) : gb110 ≠ gb101)); have n9_ := za ((by rw [hg]; exact Nat.ne_of_lt (IsS88.lt (show IsS88 w _ gb102 l0 t108 t109 from by repeat (first | (with_reducible first | exact HI102.out | apply IsS88.alloc | apply IsS88.drewN | apply IsS88.drew | apply IsS88.set_1 | apply IsS88.set_2 | refine IsS88.far ?_ NB102_101.out _) | exact HI102.out))) : gb102 ≠ gb110)); have n10_ := za ((by rw [hg]; exact Nat.ne_of_gt (IsS88.lt (show IsS88 w _ gb102 l0 t108 t109 from by repeat (first | (with_reducible first | exact HI102.out | apply IsS88.alloc | apply IsS88.drewN | apply IsS88.drew | apply IsS88.set_1 | apply IsS88.set_2 | refine IsS88.far ?_ NB102_101.out _) | exact HI102.out))) : gb110 ≠ gb102)); clear HO107 BK101; clear HI102 HB; have HO107 := n0_; have BK101 := n1_; have HI102 := n2_; have HB := n3_; have BK110 := n4_; have GW110 := n5_; have GE110 := n6_; have NB101_110 := n7_; have NB110_101 := n8_; have NB102_110 := n9_; have NB110_102 := n10_; clear n0_ n1_ n2_ n3_ n4_ n5_ n6_ n7_ n8_ n9_ n10_; clear hb hbox hg; have hnb10 := NB110_101.out; have hnc10 := NB101_110.out; have hnb11 := NB110_102.out; have hnc11 := NB102_110.out; have hcz12_0 : w9.cell? ⟨gb110, 0, none⟩ = some (.int .i64 0) := (zi BK110.out 0).trans rfl; have hcz12_1 : w9.cell? ⟨gb110, 1, none⟩ = some (.int .i64 0) := (zi BK110.out 1).trans rfl; have hcz12_2 : w9.cell? ⟨gb110, 2, none⟩ = some (.slice none 0 0) := (zi BK110.out 2).trans rfl; have hfz12_0 := zj BK110.out 0; have hfz12_1 := zj BK110.out 1; have hfz12_2 := zj BK110.out 2; obtain ⟨Ao13, co13, eo13⟩ := Kd.R_slice HO107.out; subst eo13) | ((with_reducible refine zy (f := 101) rfl ?_); refine goesL_ (some 12) rfl rfl Try.func101 (by kernel_rfl) rfl #[.agg #[.int .i64 t103, .int .i64 t104, .slice Ao13 t105.length co13]] rfl (by (try simp only [List.map_toArray, List.map_cons, List.map_nil]); first | done | rfl | (simp only [List.length_drop, List.length_take]; rfl)) ?_; (with_reducible refine (spec_boGood.calls k t103 t104 _ _ t105 true _ ?side1 ?side2 A3.out).mono ?_); (case side1 => refine (zB (e := 3) (base := w.heap.size) (ok := fun k_ => True) (n := t105.length) (c := co13) ?_).2.2; exact (by (with_reducible repeat (first | apply zl | apply zm | apply zk)); exact (zz (zn (p := ⟨gb110, 2, none⟩) (zn (p := ⟨gb110, 1, none⟩) (zn (p := ⟨gb110, 0, none⟩) (Kd.R_types HO107.out BK110.out (by decide)) (fun _ hk => hk.2) (.int .i64 t103)) (fun _ hk => hk.2) (.int .i64 t104)) (fun _ hk => hk.2) (.slice Ao13 t105.length co13)) (fun _ h_ => h_.1)))); (case side2 => exact (zB HO107.out).2.1); rintro e w14 ⟨rfl, hb⟩; refine ⟨_, rfl, ?_⟩; have n0_ := za (zI (by (with_reducible repeat (first | apply zl | apply zm | apply zk)); exact (zz (zn (p := ⟨gb110, 2, none⟩) (zn (p := ⟨gb110, 1, none⟩) (zn (p := ⟨gb110, 0, none⟩) (Kd.R_types HO107.out BK110.out (by decide)) (fun _ hk => hk.2) (.int .i64 t103)) (fun _ hk => hk.2) (.int .i64 t104)) (fun _ hk => hk.2) (.slice Ao13 t105.length co13)) (fun _ h_ => h_.1))) hb); have n1_ := za (zA (g := gb101) (o := .cells #[.int .i64 0, .int .i64 0, .slice none 0 0] 43 (0, 0)) (by (with_reducible repeat (first | refine zg ?_ _ | refine zf ?_ | refine zh ?_ _)); refine blk_far ?_ NB101_110.out _; (with_reducible repeat (first | refine zg ?_ _ | refine zf ?_ | refine zh ?_ _)); refine blk_far ?_ NB101_110.out _; (with_reducible repeat (first | refine zg ?_ _ | refine zf ?_ | refine zh ?_ _)); refine blk_far ?_ NB101_110.out _; (with_reducible repeat (first | refine zg ?_ _ | refine zf ?_ | refine zh ?_ _)); exact BK101.out) hb); have n2_ := za (IsS88.below (show IsS88 w (((w9.setCell ⟨gb110, 0, none⟩ (.int .i64 t103)).setCell ⟨gb110, 1, none⟩ (.int .i64 t104)).setCell ⟨gb110, 2, none⟩ (.slice Ao13 t105.length co13)) gb102 l0 t108 t109 from by repeat (first | (with_reducible first | exact HI102.out | apply IsS88.alloc | apply IsS88.drewN | apply IsS88.drew | apply IsS88.set_1 | apply IsS88.set_2 | refine IsS88.far ?_ NB102_101.out _ | refine IsS88.far ?_ NB102_110.out _) | exact HI102.out)) hb); have n3_ := za (zA (g := gb110) (o := .cells #[.int .i64 t103, .int .i64 t104, .slice Ao13 t105.length co13] 43 (0, 0)) (by (with_reducible repeat (first | refine zg ?_ _ | refine zf ?_ | refine zh ?_ _)); refine blk_put (cs := #[.int .i64 t103, .int .i64 t104, .slice none 0 0]) ?_ 2 _ rfl; (with_reducible repeat (first | refine zg ?_ _ | refine zf ?_ | refine zh ?_ _)); refine blk_put (cs := #[.int .i64 t103, .int .i64 0, .slice none 0 0]) ?_ 1 _ rfl; (with_reducible repeat (first | refine zg ?_ _ | refine zf ?_ | refine zh ?_ _)); refine blk_put (cs := #[.int .i64 0, .int .i64 0, .slice none 0 0]) ?_ 0 _ rfl; (with_reducible repeat (first | refine zg ?_ _ | refine zf ?_ | refine zh ?_ _)); exact BK110.out) hb); have n4_ := za (zw (by repeat (first | (with_reducible first | exact HB.out | apply zc | apply zd | apply zb | refine ze ?_ (IsS88.ge HI102.out) | refine ze ?_ GE101.out | refine ze ?_ GE110.out) | exact HB.out)) hb); clear HO107 BK101; clear HI102 BK110 HB; have HO107 := n0_; have BK101 := n1_; have HI102 := n2_; have BK110 := n3_; have HB := n4_; clear n0_ n1_ n2_ n3_ n4_; (try clear hb); (try clear hb2); (try clear hk); (try clear hi)))
  have n0_ := za (zk HO107.out)
  have n1_ := za (zf BK101.out)
  have n2_ := za (zf BK110.out)
  have n3_ := za (IsS88.drew HI102.out)
  have n4_ := za (zb HB.out)
  clear HO107
  clear BK101
  clear BK110
  clear HI102
  clear HB
  have HO107 := n0_
  have BK101 := n1_
  have BK110 := n2_
  have HI102 := n3_
  have HB := n4_
  clear n0_ n1_ n2_ n3_ n4_
  refine start_ (n := 7) (S := fun w' => w'.cell? ⟨gb110, 0, none⟩ = some (.int .i64 t103) ∧ w'.cell? ⟨gb110, 1, none⟩ = some (.int .i64 t104) ∧ w'.cell? ⟨gb110, 2, none⟩ = some (.slice Ao13 t105.length co13)) (ds := []) #[false, false, false, false, false, false, false] (by kernel_rfl) rfl rfl ⟨(zi BK110.out 0).trans rfl, (zi BK110.out 1).trans rfl, (zi BK110.out 2).trans rfl⟩ (fun hHeld => ?_)
  generalize w14.drew = w15 at HO107 BK101 BK110 HI102 HB hHeld ⊢
  refine pure_ (i := 1) (N := some 18) (v := ?_) (a' := ?_) #[false, true, false, false, false, false, false] rfl rfl (by kernel_rfl) (fun _ _ _ h => h) (Or.inl ⟨by rfl, ?_⟩) ?_ ?_
  rotate_left
  ·
   intro w'
   go_simp
   with_reducible rfl
  rotate_left
  ·
   simp only [Act.put, List.setIfInBounds_toArray, List.set_cons_zero, List.set_cons_succ, i64_w, i32_w]
   rfl
  refine pure_ (i := 2) (N := some 19) (v := ?_) (a' := ?_) #[false, true, true, false, false, false, false] rfl rfl (by kernel_rfl) (fun _ _ _ h => h) (Or.inl ⟨by rfl, ?_⟩) ?_ ?_
  rotate_left
  ·
   intro w'
   go_simp
   with_reducible rfl
  rotate_left
  ·
   simp only [Act.put, List.setIfInBounds_toArray, List.set_cons_zero, List.set_cons_succ, i64_w, i32_w]
   rfl
  refine take_ (i := 0) (N := some 17) (v := ?_) (a' := ?_) #[true, true, true, false, false, false, false] rfl rfl (by kernel_rfl) (fun _ _ _ h => h) (Or.inl ⟨by rfl, ?_⟩) hHeld ?_ ?_
  rotate_left
  ·
   rintro w' ⟨s0, s1, s2⟩
   go_simp
   with_reducible rfl
  rotate_left
  ·
   simp only [Act.put, List.setIfInBounds_toArray, List.set_cons_zero, List.set_cons_succ, i64_w, i32_w]
   rfl
  refine take_ (i := 3) (N := some 20) (v := ?_) (a' := ?_) #[true, true, true, true, false, false, false] rfl rfl (by kernel_rfl) (fun _ _ _ h => h) (Or.inl ⟨by rfl, ?_⟩) hHeld ?_ ?_
  rotate_left
  ·
   rintro w' ⟨s0, s1, s2⟩
   go_simp
   with_reducible rfl
  rotate_left
  ·
   simp only [Act.put, List.setIfInBounds_toArray, List.set_cons_zero, List.set_cons_succ, i64_w, i32_w]
   rfl
  refine one_ (i := 4) (N := some 21) #[true, true, true, true, true, false, false] rfl rfl (by kernel_rfl) (by decide) (fun K hK => ?_)
  refine goes_ Try.func102 (by kernel_rfl) rfl #[.pointer (some ⟨gb102, 0, none⟩), .int .i64 t103] (by rfl) rfl rfl (by (try simp only [List.map_toArray, List.map_cons, List.map_nil]); first | done | rfl | (simp only [List.length_drop, List.length_take]; rfl)) ?_
  with_reducible refine (spec_l1Cur_order4.calls k gb102 l0 t108 t109 t103 t112 t115 t116 w _ ?side1 ?side2 A5.out).mono ?_
  (case side1 => repeat (first | (with_reducible first | exact HI102.out | apply IsS88.alloc | apply IsS88.drewN | apply IsS88.drew | apply IsS88.set_1 | apply IsS88.set_2 | refine IsS88.far ?_ NB102_101.out _ | refine IsS88.far ?_ NB102_110.out _) | exact HI102.out))
  (case side2 => repeat (first | (with_reducible first | exact HB.out | apply zc | apply zd | apply zb | refine ze ?_ (IsS88.ge HI102.out) | refine ze ?_ GE101.out | refine ze ?_ GE110.out) | exact HB.out))
  rintro e w16 ⟨v113, rfl, ho0, hi, hb, hk⟩
  refine ⟨_, rfl, ?_⟩
  have n0_ := za (zJ hk (g' := gb101) (o := .cells #[.int .i64 0, .int .i64 0, .slice none 0 0] 43 (0, 0)) (by (with_reducible repeat (first | refine zg ?_ _ | refine zf ?_ | refine zh ?_ _)); exact BK101.out) NB101_102.out (by simp))
  have n1_ := za (zz (Kd.R_told (Kd.R_oldK (IsS88.apart (show IsS88 w _ gb102 l0 t108 t109 from by repeat (first | (with_reducible first | exact HI102.out | apply IsS88.alloc | apply IsS88.drewN | apply IsS88.drew | apply IsS88.set_1 | apply IsS88.set_2 | refine IsS88.far ?_ NB102_101.out _ | refine IsS88.far ?_ NB102_110.out _) | exact HI102.out)) (by (with_reducible repeat (first | apply zl | apply zm | apply zk)); exact HO107.out) (by decide)) hk) (Kd.R_base ho0)) (fun _ h_ => h_.1))
  have n2_ := za (zJ hk (g' := gb110) (o := .cells #[.int .i64 t103, .int .i64 t104, .slice Ao13 t105.length co13] 43 (0, 0)) (by (with_reducible repeat (first | refine zg ?_ _ | refine zf ?_ | refine zh ?_ _)); exact BK110.out) NB110_102.out (by simp))
  have n3_ := za (Kd.R_lower (Kd.R_new' ho0 (Kd.R_lt (by (with_reducible repeat (first | apply zl | apply zm | apply zk)); exact HO107.out))) (zo (by repeat (first | (with_reducible first | exact HB.out | apply zc | apply zd | apply zb | refine ze ?_ (IsS88.ge HI102.out) | refine ze ?_ GE101.out | refine ze ?_ GE110.out) | exact HB.out))))
  have n4_ := za (hb)
  have n5_ := za (hi)
  clear BK101
  clear HO107
  clear BK110
  clear HB
  clear HI102
  have BK101 := n0_
  have HO107 := n1_
  have BK110 := n2_
  have HO114 := n3_
  have HB := n4_
  have HI102 := n5_
  clear n0_ n1_ n2_ n3_ n4_ n5_
  (try clear hb)
  (try clear hb2)
  (try clear hk)
  (try clear hi)
  (try clear ho0)
  refine hK.out _ _ ⟨(zi BK110.out 0).trans rfl, (zi BK110.out 1).trans rfl, (zi BK110.out 2).trans rfl⟩ (fun hHeld => ?_)
  clear hK K
  refine norm_ (a' := ?_) ?_ ?_
  rotate_left
  ·
   show Act.put _ (some 21) _ = _
   simp only [Act.put, List.setIfInBounds_toArray, List.set_cons_zero, List.set_cons_succ, i64_w, i32_w]
   rfl
  refine one_ (i := 5) (N := none) #[true, true, true, true, true, true, false] rfl rfl (by kernel_rfl) (by decide) (fun K hK => ?_)
  have hs17 : w16.cell? ⟨gb101, 0, none⟩ = some (.int .i64 0) := (zi BK101.out 0).trans rfl
  have hfs17 := zj BK101.out 0
  have hns17_1 := NB110_101.out
  have hms17_1 := NB101_110.out
  have hs18 : w16.cell? ⟨gb101, 1, none⟩ = some (.int .i64 0) := (zi BK101.out 1).trans rfl
  have hfs18 := zj BK101.out 1
  have hns18_1 := NB110_101.out
  have hms18_1 := NB101_110.out
  have hs19 : w16.cell? ⟨gb101, 2, none⟩ = some (.slice none 0 0) := (zi BK101.out 2).trans rfl
  have hfs19 := zj BK101.out 2
  have hns19_1 := NB110_101.out
  have hms19_1 := NB101_110.out
  refine skip_ (w1 := ?_) (by rfl) rfl ?_ ?_
  rotate_left
  ·
   go_simp
   rfl
  refine hK.out _ _ ⟨((cell_far (p := ⟨gb101, _, none⟩) NB110_101.out _).trans (((cell_far (p := ⟨gb101, _, none⟩) NB110_101.out _).trans (((cell_far (p := ⟨gb101, _, none⟩) NB110_101.out _).trans (hHeld.1)))))), ((cell_far (p := ⟨gb101, _, none⟩) NB110_101.out _).trans (((cell_far (p := ⟨gb101, _, none⟩) NB110_101.out _).trans (((cell_far (p := ⟨gb101, _, none⟩) NB110_101.out _).trans (hHeld.2.1)))))), ((cell_far (p := ⟨gb101, _, none⟩) NB110_101.out _).trans (((cell_far (p := ⟨gb101, _, none⟩) NB110_101.out _).trans (((cell_far (p := ⟨gb101, _, none⟩) NB110_101.out _).trans (hHeld.2.2))))))⟩ (fun hHeld => ?_)
  clear hK K
  refine pure_ (i := 6) (N := some 3) (v := ?_) (a' := ?_) #[true, true, true, true, true, true, true] rfl rfl (by kernel_rfl) (fun _ _ _ h => h) (Or.inl ⟨by rfl, ?_⟩) ?_ ?_
  rotate_left
  ·
   intro w'
   go_simp
   with_reducible rfl
  rotate_left
  ·
   simp only [Act.put, List.setIfInBounds_toArray, List.set_cons_zero, List.set_cons_succ, i64_w, i32_w]
   rfl
  refine done_ (by kernel_rfl) ?_
  try go_wp2
  refine bodyPost_ret (results_ct rfl _ _ gb101 43 #[.int .i64 t103, .int .i64 t104, .slice Ao13 t105.length co13] (0, 0) _ rfl (by (with_reducible repeat (first | refine zg ?_ _ | refine zf ?_ | refine zh ?_ _)); refine blk_put (cs := #[.int .i64 t103, .int .i64 t104, .slice none 0 0]) ?_ 2 _ rfl; (with_reducible repeat (first | refine zg ?_ _ | refine zf ?_ | refine zh ?_ _)); refine blk_put (cs := #[.int .i64 t103, .int .i64 0, .slice none 0 0]) ?_ 1 _ rfl; (with_reducible repeat (first | refine zg ?_ _ | refine zf ?_ | refine zh ?_ _)); refine blk_put (cs := #[.int .i64 0, .int .i64 0, .slice none 0 0]) ?_ 0 _ rfl; (with_reducible repeat (first | refine zg ?_ _ | refine zf ?_ | refine zh ?_ _)); exact BK101.out) Try.underlying43 rfl (by kernel_rfl)) rfl ?_
  exact ⟨_, _, by first | rfl | (simp [errW_none, errW_some] <;> rfl) | (simp [*, errW_none, errW_some] <;> rfl), by (with_reducible repeat (first | apply zl | apply zm | apply zk)); exact zz (zn (p := ⟨gb101, 2, none⟩) (zn (p := ⟨gb101, 1, none⟩) (zn (p := ⟨gb101, 0, none⟩) (Kd.R_types HO107.out BK101.out (by decide)) (fun _ hk => hk.2) (.int .i64 t103)) (fun _ hk => hk.2) (.int .i64 t104)) (fun _ hk => hk.2) (.slice Ao13 t105.length co13)) (fun _ hk => hk.1.2), by (with_reducible repeat (first | apply zl | apply zm | apply zk)); exact zz (zn (p := ⟨gb101, 2, none⟩) (zn (p := ⟨gb101, 1, none⟩) (zn (p := ⟨gb101, 0, none⟩) (Kd.R_types HO114.out BK101.out (by decide)) (fun _ hk => hk.2) (.int .i64 t103)) (fun _ hk => hk.2) (.int .i64 t104)) (fun _ hk => hk.2) (.slice Ao13 t105.length co13)) (fun _ hk => hk.1.2), by repeat (first | (with_reducible first | exact HB.out | apply zc | apply zd | apply zb | refine ze ?_ (IsS88.ge HI102.out) | refine ze ?_ GE101.out | refine ze ?_ GE110.out) | exact HB.out)⟩
 ·
  replace c4 := Bool.eq_false_iff.mpr c4
  subst c4
  have H1 : ((spec_l1Cur_order4.f k l0 t108 t109 3).bind fun bt117 => (some (t103, t104, t105, bt117.1))) = some (r1, r2, r3, r4) := by rw [if_neg (show ¬ (false = true) by decide)] at H; exact H
  clear H
  have H := H1
  clear H1
  replace H := Option.bind_eq_some_iff.mp H
  obtain ⟨⟨t117, t120, t121⟩, A200, H⟩ := H
  replace H : (some (t103, t104, t105, t117)) = some (r1, r2, r3, r4) := H
  have A20 := za A200
  clear A200
  simp only [Option.some.injEq, Prod.mk.injEq] at H
  obtain ⟨rfl, rfl, rfl, rfl⟩ := H
  go_enter Try.func39, Try.ntmps39
  try go_wp2_with (first | ((with_reducible refine zF (N := 2) rfl ?_); refine zG ?hg (N := 2) ?hd (cs := #[.int .i64 0, .int .i64 0, .slice none 0 0]) (t := 43) ?hr ?_; (case hd => rfl); (case hg => rfl); (case hr => first | (go_simp; done) | (go_simp; rfl)); intro gb101 hg w21 hbox hb; have n0_ := za (zw (by repeat (first | (with_reducible first | exact HB.out | apply zc | apply zd | apply zb) | exact HB.out)) hb); have n1_ := za (hbox); have n2_ := za ((by rw [hg]; exact (zo (by repeat (first | (with_reducible first | exact HB.out | apply zc | apply zd | apply zb) | exact HB.out))) : w.heap.size ≤ gb101)); have n3_ := za ((by rw [hg]; exact (zo (by repeat (first | (with_reducible first | exact HB.out | apply zc | apply zd | apply zb) | exact HB.out))) : w.heap.size ≤ gb101)); clear HB; have HB := n0_; have BK101 := n1_; have GW101 := n2_; have GE101 := n3_; clear n0_ n1_ n2_ n3_; clear hb hbox hg) | ((with_reducible refine zF (N := 8) rfl ?_); refine zG ?hg (N := 8) ?hd (cs := #[.slice A0 l0.length c0, .int .i64 0, .int .u64 0]) (t := 88) ?hr ?_; (case hd => rfl); (case hg => rfl); (case hr => first | (go_simp; done) | (go_simp; rfl)); intro gb102 hg w22 hbox hb; have n0_ := za (zA (g := gb101) (o := .cells #[.int .i64 0, .int .i64 0, .slice none 0 0] 43 (0, 0)) (by (with_reducible repeat (first | refine zg ?_ _ | refine zf ?_ | refine zh ?_ _)); exact BK101.out) hb); have n1_ := za (zw (by repeat (first | (with_reducible first | exact HB.out | apply zc | apply zd | apply zb | refine ze ?_ GE101.out) | exact HB.out)) hb); have n2_ := za (hbox); have n3_ := za ((by rw [hg]; exact (zo (by repeat (first | (with_reducible first | exact HB.out | apply zc | apply zd | apply zb | refine ze ?_ GE101.out) | exact HB.out))) : w.heap.size ≤ gb102)); have n4_ := za ((by rw [hg]; exact (zo (by repeat (first | (with_reducible first | exact HB.out | apply zc | apply zd | apply zb | refine ze ?_ GE101.out) | exact HB.out))) : w.heap.size ≤ gb102)); have n5_ := za ((by rw [hg]; exact Nat.ne_of_lt (blk_lt (g := gb101) (o := .cells #[.int .i64 0, .int .i64 0, .slice none 0 0] 43 (0, 0)) (by (with_reducible repeat (first | refine zg ?_ _ | refine zf ?_ | refine zh ?_ _)); exact BK101.out)) : gb101 ≠ gb102)); have n6_ := za ((by rw [hg]; exact Nat.ne_of_gt (blk_lt (g := gb101) (o := .cells #[.int .i64 0, .int .i64 0, .slice none 0 0] 43 (0, 0)) (by (with_reducible repeat (first | refine zg ?_ _ | refine zf ?_ | refine zh ?_ _)); exact BK101.out)) : gb102 ≠ gb101)); clear BK101 HB; have BK101 := n0_; have HB := n1_; have BK102 := n2_; have GW102 := n3_; have GE102 := n4_; have NB101_102 := n5_; have NB102_101 := n6_; clear n0_ n1_ n2_ n3_ n4_ n5_ n6_; clear hb hbox hg; have HI102 := za (show IsS88 w _ gb102 l0 0 0 from ⟨_, _, BK102.out, GE102.out, HR0.out⟩)) | ((with_reducible refine zy (f := 97) rfl ?_); refine goesL_ (some 10) rfl rfl Try.func97 (by kernel_rfl) rfl #[.pointer (some ⟨gb102, 0, none⟩)] rfl (by (try simp only [List.map_toArray, List.map_cons, List.map_nil]); first | done | rfl | (simp only [List.length_drop, List.length_take]; rfl)) ?_; (with_reducible refine (spec_l1Cur_square4.calls k gb102 l0 0 0 t103 t104 t105 t108 t109 w _ ?side1 ?side2 A2.out).mono ?_); (case side1 => repeat (first | (with_reducible first | exact HI102.out | apply IsS88.alloc | apply IsS88.drewN | apply IsS88.drew | apply IsS88.set_1 | apply IsS88.set_2 | refine IsS88.far ?_ NB102_101.out _) | exact HI102.out)); (case side2 => repeat (first | (with_reducible first | exact HB.out | apply zc | apply zd | apply zb | refine ze ?_ (IsS88.ge HI102.out) | refine ze ?_ GE101.out) | exact HB.out)); rintro e w23 ⟨v106, rfl, ho0, hi, hb, hk⟩; refine ⟨_, rfl, ?_⟩; have n0_ := za (zJ hk (g' := gb101) (o := .cells #[.int .i64 0, .int .i64 0, .slice none 0 0] 43 (0, 0)) (by (with_reducible repeat (first | refine zg ?_ _ | refine zf ?_ | refine zh ?_ _)); exact BK101.out) NB101_102.out (by simp)); have n1_ := za (Kd.R_lower ho0 (zo (by repeat (first | (with_reducible first | exact HB.out | apply zc | apply zd | apply zb | refine ze ?_ (IsS88.ge HI102.out) | refine ze ?_ GE101.out) | exact HB.out)))); have n2_ := za (hb); have n3_ := za (hi); clear BK101 HB HI102; have BK101 := n0_; have HO107 := n1_; have HB := n2_; have HI102 := n3_; clear n0_ n1_ n2_ n3_; (try clear hb); (try clear hb2); (try clear hk); (try clear hi); (try clear ho0)) | ((with_reducible refine zF (N := 5) rfl ?_); refine zG ?hg (N := 5) ?hd (cs := #[.int .i64 0, .int .i64 0, .slice none 0 0]) (t := 43) ?hr ?_; (case hd => rfl); (case hg => rfl); (case hr => first | (go_simp; done) | (go_simp; rfl)); intro gb110 hg w24 hbox hb; have n0_ := za (zI (by (with_reducible repeat (first | apply zl | apply zm | apply zk)); exact HO107.out) hb); have n1_ := za (zA (g := gb101) (o := .cells #[.int .i64 0, .int .i64 0, .slice none 0 0] 43 (0, 0)) (by (with_reducible repeat (first | refine zg ?_ _ | refine zf ?_ | refine zh ?_ _)); exact BK101.out) hb); have n2_ := za (IsS88.below (by repeat (first | (with_reducible first | exact HI102.out | apply IsS88.alloc | apply IsS88.drewN | apply IsS88.drew | apply IsS88.set_1 | apply IsS88.set_2 | refine IsS88.far ?_ NB102_101.out _) | exact HI102.out)) hb); have n3_ := za (zw (by repeat (first | (with_reducible first | exact HB.out | apply zc | apply zd | apply zb | refine ze ?_ (IsS88.ge HI102.out) | refine ze ?_ GE101.out) | exact HB.out)) hb); have n4_ := za (hbox); have n5_ := za ((by rw [hg]; exact (zo (by repeat (first | (with_reducible first | exact HB.out | apply zc | apply zd | apply zb | refine ze ?_ (IsS88.ge HI102.out) | refine ze ?_ GE101.out) | exact HB.out))) : w.heap.size ≤ gb110)); have n6_ := za ((by rw [hg]; exact (zo (by repeat (first | (with_reducible first | exact HB.out | apply zc | apply zd | apply zb | refine ze ?_ (IsS88.ge HI102.out) | refine ze ?_ GE101.out) | exact HB.out))) : w.heap.size ≤ gb110)); have n7_ := za ((by rw [hg]; exact Nat.ne_of_lt (blk_lt (g := gb101) (o := .cells #[.int .i64 0, .int .i64 0, .slice none 0 0] 43 (0, 0)) (by (with_reducible repeat (first | refine zg ?_ _ | refine zf ?_ | refine zh ?_ _)); exact BK101.out)) : gb101 ≠ gb110)); have n8_ := za ((by rw [hg]; exact Nat.ne_of_gt (blk_lt (g := gb101) (o := .cells #[.int .i64 0, .int .i64 0, .slice none 0 0] 43 (0, 0)) (by (with_reducible repeat (first | refine zg ?_ _ | refine zf ?_ | refine zh ?_ _)); exact BK101.out)) : gb110 ≠ gb101)); have n9_ := za ((by rw [hg]; exact Nat.ne_of_lt (IsS88.lt (show IsS88 w _ gb102 l0 t108 t109 from by repeat (first | (with_reducible first | exact HI102.out | apply IsS88.alloc | apply IsS88.drewN | apply IsS88.drew | apply IsS88.set_1 | apply IsS88.set_2 | refine IsS88.far ?_ NB102_101.out _) | exact HI102.out))) : gb102 ≠ gb110)); have n10_ := za ((by rw [hg]; exact Nat.ne_of_gt (IsS88.lt (show IsS88 w _ gb102 l0 t108 t109 from by repeat (first | (with_reducible first | exact HI102.out | apply IsS88.alloc | apply IsS88.drewN | apply IsS88.drew | apply IsS88.set_1 | apply IsS88.set_2 | refine IsS88.far ?_ NB102_101.out _) | exact HI102.out))) : gb110 ≠ gb102)); clear HO107 BK101; clear HI102 HB; have HO107 := n0_; have BK101 := n1_; have HI102 := n2_; have HB := n3_; have BK110 := n4_; have GW110 := n5_; have GE110 := n6_; have NB101_110 := n7_; have NB110_101 := n8_; have NB102_110 := n9_; have NB110_102 := n10_; clear n0_ n1_ n2_ n3_ n4_ n5_ n6_ n7_ n8_ n9_ n10_; clear hb hbox hg; have hnb25 := NB110_101.out; have hnc25 := NB101_110.out; have hnb26 := NB110_102.out; have hnc26 := NB102_110.out; have hcz27_0 : w24.cell? ⟨gb110, 0, none⟩ = some (.int .i64 0) := (zi BK110.out 0).trans rfl; have hcz27_1 : w24.cell? ⟨gb110, 1, none⟩ = some (.int .i64 0) := (zi BK110.out 1).trans rfl; have hcz27_2 : w24.cell? ⟨gb110, 2, none⟩ = some (.slice none 0 0) := (zi BK110.out 2).trans rfl; have hfz27_0 := zj BK110.out 0; have hfz27_1 := zj BK110.out 1; have hfz27_2 := zj BK110.out 2; obtain ⟨Ao28, co28, eo28⟩ := Kd.R_slice HO107.out; subst eo28) | ((with_reducible refine zy (f := 101) rfl ?_); refine goesL_ (some 12) rfl rfl Try.func101 (by kernel_rfl) rfl #[.agg #[.int .i64 t103, .int .i64 t104, .slice Ao28 t105.length co28]] rfl (by (try simp only [List.map_toArray, List.map_cons, List.map_nil]); first | done | rfl | (simp only [List.length_drop, List.length_take]; rfl)) ?_; (with_reducible refine (spec_boGood.calls k t103 t104 _ _ t105 false _ ?side1 ?side2 A3.out).mono ?_); (case side1 => refine (zB (e := 3) (base := w.heap.size) (ok := fun k_ => True) (n := t105.length) (c := co28) ?_).2.2; exact (by (with_reducible repeat (first | apply zl | apply zm | apply zk)); exact (zz (zn (p := ⟨gb110, 2, none⟩) (zn (p := ⟨gb110, 1, none⟩) (zn (p := ⟨gb110, 0, none⟩) (Kd.R_types HO107.out BK110.out (by decide)) (fun _ hk => hk.2) (.int .i64 t103)) (fun _ hk => hk.2) (.int .i64 t104)) (fun _ hk => hk.2) (.slice Ao28 t105.length co28)) (fun _ h_ => h_.1)))); (case side2 => exact (zB HO107.out).2.1); rintro e w29 ⟨rfl, hb⟩; refine ⟨_, rfl, ?_⟩; have n0_ := za (zI (by (with_reducible repeat (first | apply zl | apply zm | apply zk)); exact (zz (zn (p := ⟨gb110, 2, none⟩) (zn (p := ⟨gb110, 1, none⟩) (zn (p := ⟨gb110, 0, none⟩) (Kd.R_types HO107.out BK110.out (by decide)) (fun _ hk => hk.2) (.int .i64 t103)) (fun _ hk => hk.2) (.int .i64 t104)) (fun _ hk => hk.2) (.slice Ao28 t105.length co28)) (fun _ h_ => h_.1))) hb); have n1_ := za (zA (g := gb101) (o := .cells #[.int .i64 0, .int .i64 0, .slice none 0 0] 43 (0, 0)) (by (with_reducible repeat (first | refine zg ?_ _ | refine zf ?_ | refine zh ?_ _)); refine blk_far ?_ NB101_110.out _; (with_reducible repeat (first | refine zg ?_ _ | refine zf ?_ | refine zh ?_ _)); refine blk_far ?_ NB101_110.out _; (with_reducible repeat (first | refine zg ?_ _ | refine zf ?_ | refine zh ?_ _)); refine blk_far ?_ NB101_110.out _; (with_reducible repeat (first | refine zg ?_ _ | refine zf ?_ | refine zh ?_ _)); exact BK101.out) hb); have n2_ := za (IsS88.below (show IsS88 w (((w24.setCell ⟨gb110, 0, none⟩ (.int .i64 t103)).setCell ⟨gb110, 1, none⟩ (.int .i64 t104)).setCell ⟨gb110, 2, none⟩ (.slice Ao28 t105.length co28)) gb102 l0 t108 t109 from by repeat (first | (with_reducible first | exact HI102.out | apply IsS88.alloc | apply IsS88.drewN | apply IsS88.drew | apply IsS88.set_1 | apply IsS88.set_2 | refine IsS88.far ?_ NB102_101.out _ | refine IsS88.far ?_ NB102_110.out _) | exact HI102.out)) hb); have n3_ := za (zA (g := gb110) (o := .cells #[.int .i64 t103, .int .i64 t104, .slice Ao28 t105.length co28] 43 (0, 0)) (by (with_reducible repeat (first | refine zg ?_ _ | refine zf ?_ | refine zh ?_ _)); refine blk_put (cs := #[.int .i64 t103, .int .i64 t104, .slice none 0 0]) ?_ 2 _ rfl; (with_reducible repeat (first | refine zg ?_ _ | refine zf ?_ | refine zh ?_ _)); refine blk_put (cs := #[.int .i64 t103, .int .i64 0, .slice none 0 0]) ?_ 1 _ rfl; (with_reducible repeat (first | refine zg ?_ _ | refine zf ?_ | refine zh ?_ _)); refine blk_put (cs := #[.int .i64 0, .int .i64 0, .slice none 0 0]) ?_ 0 _ rfl; (with_reducible repeat (first | refine zg ?_ _ | refine zf ?_ | refine zh ?_ _)); exact BK110.out) hb); have n4_ := za (zw (by repeat (first | (with_reducible first | exact HB.out | apply zc | apply zd | apply zb | refine ze ?_ (IsS88.ge HI102.out) | refine ze ?_ GE101.out | refine ze ?_ GE110.out) | exact HB.out)) hb); clear HO107 BK101; clear HI102 BK110 HB; have HO107 := n0_; have BK101 := n1_; have HI102 := n2_; have BK110 := n3_; have HB := n4_; clear n0_ n1_ n2_ n3_ n4_; (try clear hb); (try clear hb2); (try clear hk); (try clear hi)))
  have n0_ := za (zk HO107.out)
  have n1_ := za (zf BK101.out)
  have n2_ := za (zf BK110.out)
  have n3_ := za (IsS88.drew HI102.out)
  have n4_ := za (zb HB.out)
  clear HO107
  clear BK101
  clear BK110
  clear HI102
  clear HB
  have HO107 := n0_
  have BK101 := n1_
  have BK110 := n2_
  have HI102 := n3_
  have HB := n4_
  clear n0_ n1_ n2_ n3_ n4_
  refine start_ (n := 5) (S := fun w' => w'.cell? ⟨gb110, 0, none⟩ = some (.int .i64 t103) ∧ w'.cell? ⟨gb110, 1, none⟩ = some (.int .i64 t104) ∧ w'.cell? ⟨gb110, 2, none⟩ = some (.slice Ao28 t105.length co28)) (ds := []) #[false, false, false, false, false] (by kernel_rfl) rfl rfl ⟨(zi BK110.out 0).trans rfl, (zi BK110.out 1).trans rfl, (zi BK110.out 2).trans rfl⟩ (fun hHeld => ?_)
  generalize w29.drew = w30 at HO107 BK101 BK110 HI102 HB hHeld ⊢
  refine pure_ (i := 1) (N := some 15) (v := ?_) (a' := ?_) #[false, true, false, false, false] rfl rfl (by kernel_rfl) (fun _ _ _ h => h) (Or.inl ⟨by rfl, ?_⟩) ?_ ?_
  rotate_left
  ·
   intro w'
   go_simp
   with_reducible rfl
  rotate_left
  ·
   simp only [Act.put, List.setIfInBounds_toArray, List.set_cons_zero, List.set_cons_succ, i64_w, i32_w]
   rfl
  refine take_ (i := 0) (N := some 14) (v := ?_) (a' := ?_) #[true, true, false, false, false] rfl rfl (by kernel_rfl) (fun _ _ _ h => h) (Or.inl ⟨by rfl, ?_⟩) hHeld ?_ ?_
  rotate_left
  ·
   rintro w' ⟨s0, s1, s2⟩
   go_simp
   with_reducible rfl
  rotate_left
  ·
   simp only [Act.put, List.setIfInBounds_toArray, List.set_cons_zero, List.set_cons_succ, i64_w, i32_w]
   rfl
  refine one_ (i := 2) (N := some 16) #[true, true, true, false, false] rfl rfl (by kernel_rfl) (by decide) (fun K hK => ?_)
  refine goes_ Try.func102 (by kernel_rfl) rfl #[.pointer (some ⟨gb102, 0, none⟩), .int .i64 3] (by rfl) rfl rfl (by (try simp only [List.map_toArray, List.map_cons, List.map_nil]); first | done | rfl | (simp only [List.length_drop, List.length_take]; rfl)) ?_
  with_reducible refine (spec_l1Cur_order4.calls k gb102 l0 t108 t109 3 t117 t120 t121 w _ ?side1 ?side2 A20.out).mono ?_
  (case side1 => repeat (first | (with_reducible first | exact HI102.out | apply IsS88.alloc | apply IsS88.drewN | apply IsS88.drew | apply IsS88.set_1 | apply IsS88.set_2 | refine IsS88.far ?_ NB102_101.out _ | refine IsS88.far ?_ NB102_110.out _) | exact HI102.out))
  (case side2 => repeat (first | (with_reducible first | exact HB.out | apply zc | apply zd | apply zb | refine ze ?_ (IsS88.ge HI102.out) | refine ze ?_ GE101.out | refine ze ?_ GE110.out) | exact HB.out))
  rintro e w31 ⟨v118, rfl, ho0, hi, hb, hk⟩
  refine ⟨_, rfl, ?_⟩
  have n0_ := za (zJ hk (g' := gb101) (o := .cells #[.int .i64 0, .int .i64 0, .slice none 0 0] 43 (0, 0)) (by (with_reducible repeat (first | refine zg ?_ _ | refine zf ?_ | refine zh ?_ _)); exact BK101.out) NB101_102.out (by simp))
  have n1_ := za (zz (Kd.R_told (Kd.R_oldK (IsS88.apart (show IsS88 w _ gb102 l0 t108 t109 from by repeat (first | (with_reducible first | exact HI102.out | apply IsS88.alloc | apply IsS88.drewN | apply IsS88.drew | apply IsS88.set_1 | apply IsS88.set_2 | refine IsS88.far ?_ NB102_101.out _ | refine IsS88.far ?_ NB102_110.out _) | exact HI102.out)) (by (with_reducible repeat (first | apply zl | apply zm | apply zk)); exact HO107.out) (by decide)) hk) (Kd.R_base ho0)) (fun _ h_ => h_.1))
  have n2_ := za (zJ hk (g' := gb110) (o := .cells #[.int .i64 t103, .int .i64 t104, .slice Ao28 t105.length co28] 43 (0, 0)) (by (with_reducible repeat (first | refine zg ?_ _ | refine zf ?_ | refine zh ?_ _)); exact BK110.out) NB110_102.out (by simp))
  have n3_ := za (Kd.R_lower (Kd.R_new' ho0 (Kd.R_lt (by (with_reducible repeat (first | apply zl | apply zm | apply zk)); exact HO107.out))) (zo (by repeat (first | (with_reducible first | exact HB.out | apply zc | apply zd | apply zb | refine ze ?_ (IsS88.ge HI102.out) | refine ze ?_ GE101.out | refine ze ?_ GE110.out) | exact HB.out))))
  have n4_ := za (hb)
  have n5_ := za (hi)
  clear BK101
  clear HO107
  clear BK110
  clear HB
  clear HI102
  have BK101 := n0_
  have HO107 := n1_
  have BK110 := n2_
  have HO119 := n3_
  have HB := n4_
  have HI102 := n5_
  clear n0_ n1_ n2_ n3_ n4_ n5_
  (try clear hb)
  (try clear hb2)
  (try clear hk)
  (try clear hi)
  (try clear ho0)
  refine hK.out _ _ ⟨(zi BK110.out 0).trans rfl, (zi BK110.out 1).trans rfl, (zi BK110.out 2).trans rfl⟩ (fun hHeld => ?_)
  clear hK K
  refine norm_ (a' := ?_) ?_ ?_
  rotate_left
  ·
   show Act.put _ (some 16) _ = _
   simp only [Act.put, List.setIfInBounds_toArray, List.set_cons_zero, List.set_cons_succ, i64_w, i32_w]
   rfl
  refine one_ (i := 3) (N := none) #[true, true, true, true, false] rfl rfl (by kernel_rfl) (by decide) (fun K hK => ?_)
  have hs32 : w31.cell? ⟨gb101, 0, none⟩ = some (.int .i64 0) := (zi BK101.out 0).trans rfl
  have hfs32 := zj BK101.out 0
  have hns32_1 := NB110_101.out
  have hms32_1 := NB101_110.out
  have hs33 : w31.cell? ⟨gb101, 1, none⟩ = some (.int .i64 0) := (zi BK101.out 1).trans rfl
  have hfs33 := zj BK101.out 1
  have hns33_1 := NB110_101.out
  have hms33_1 := NB101_110.out
  have hs34 : w31.cell? ⟨gb101, 2, none⟩ = some (.slice none 0 0) := (zi BK101.out 2).trans rfl
  have hfs34 := zj BK101.out 2
  have hns34_1 := NB110_101.out
  have hms34_1 := NB101_110.out
  refine skip_ (w1 := ?_) (by rfl) rfl ?_ ?_
  rotate_left
  ·
   go_simp
   rfl
  refine hK.out _ _ ⟨((cell_far (p := ⟨gb101, _, none⟩) NB110_101.out _).trans (((cell_far (p := ⟨gb101, _, none⟩) NB110_101.out _).trans (((cell_far (p := ⟨gb101, _, none⟩) NB110_101.out _).trans (hHeld.1)))))), ((cell_far (p := ⟨gb101, _, none⟩) NB110_101.out _).trans (((cell_far (p := ⟨gb101, _, none⟩) NB110_101.out _).trans (((cell_far (p := ⟨gb101, _, none⟩) NB110_101.out _).trans (hHeld.2.1)))))), ((cell_far (p := ⟨gb101, _, none⟩) NB110_101.out _).trans (((cell_far (p := ⟨gb101, _, none⟩) NB110_101.out _).trans (((cell_far (p := ⟨gb101, _, none⟩) NB110_101.out _).trans (hHeld.2.2))))))⟩ (fun hHeld => ?_)
  clear hK K
  refine pure_ (i := 4) (N := some 3) (v := ?_) (a' := ?_) #[true, true, true, true, true] rfl rfl (by kernel_rfl) (fun _ _ _ h => h) (Or.inl ⟨by rfl, ?_⟩) ?_ ?_
  rotate_left
  ·
   intro w'
   go_simp
   with_reducible rfl
  rotate_left
  ·
   simp only [Act.put, List.setIfInBounds_toArray, List.set_cons_zero, List.set_cons_succ, i64_w, i32_w]
   rfl
  refine done_ (by kernel_rfl) ?_
  try go_wp2
  refine bodyPost_ret (results_ct rfl _ _ gb101 43 #[.int .i64 t103, .int .i64 t104, .slice Ao28 t105.length co28] (0, 0) _ rfl (by (with_reducible repeat (first | refine zg ?_ _ | refine zf ?_ | refine zh ?_ _)); refine blk_put (cs := #[.int .i64 t103, .int .i64 t104, .slice none 0 0]) ?_ 2 _ rfl; (with_reducible repeat (first | refine zg ?_ _ | refine zf ?_ | refine zh ?_ _)); refine blk_put (cs := #[.int .i64 t103, .int .i64 0, .slice none 0 0]) ?_ 1 _ rfl; (with_reducible repeat (first | refine zg ?_ _ | refine zf ?_ | refine zh ?_ _)); refine blk_put (cs := #[.int .i64 0, .int .i64 0, .slice none 0 0]) ?_ 0 _ rfl; (with_reducible repeat (first | refine zg ?_ _ | refine zf ?_ | refine zh ?_ _)); exact BK101.out) Try.underlying43 rfl (by kernel_rfl)) rfl ?_
  exact ⟨_, _, by first | rfl | (simp [errW_none, errW_some] <;> rfl) | (simp [*, errW_none, errW_some] <;> rfl), by (with_reducible repeat (first | apply zl | apply zm | apply zk)); exact zz (zn (p := ⟨gb101, 2, none⟩) (zn (p := ⟨gb101, 1, none⟩) (zn (p := ⟨gb101, 0, none⟩) (Kd.R_types HO107.out BK101.out (by decide)) (fun _ hk => hk.2) (.int .i64 t103)) (fun _ hk => hk.2) (.int .i64 t104)) (fun _ hk => hk.2) (.slice Ao28 t105.length co28)) (fun _ hk => hk.1.2), by (with_reducible repeat (first | apply zl | apply zm | apply zk)); exact zz (zn (p := ⟨gb101, 2, none⟩) (zn (p := ⟨gb101, 1, none⟩) (zn (p := ⟨gb101, 0, none⟩) (Kd.R_types HO119.out BK101.out (by decide)) (fun _ hk => hk.2) (.int .i64 t103)) (fun _ hk => hk.2) (.int .i64 t104)) (fun _ hk => hk.2) (.slice Ao28 t105.length co28)) (fun _ hk => hk.1.2), by repeat (first | (with_reducible first | exact HB.out | apply zc | apply zd | apply zb | refine ze ?_ (IsS88.ge HI102.out) | refine ze ?_ GE101.out | refine ze ?_ GE110.out) | exact HB.out)⟩
end Go.Proofs.Ytiopnmgcajohfaa.Q
end
