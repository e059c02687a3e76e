/- Texts of this claim put together (5): words, what the functions compute, and plain facts. No conditions. -/
import Derived.Test.YtiopnmgcajohfaaSFnPermutationsHit4
import Derived.Test.YtiopnmgcajohfaaSFnPermutationsHit3
import Derived.Laws.BitsLemmas
import Derived.Outline
import Derived.Laws.Cover3
import Derived.Lib.Hide
import Derived.Test.YtiopnmgcajohfaaSFnPermutationsHit0
section
namespace Go.Proofs.Ytiopnmgcajohfaa.Q
open Go.RowKit Go.Proofs.YtiopnmgcajohfaaW.PrintWords Go.Proofs.YtiopnmgcajohfaaW.PrintLast Go.Proofs.YtiopnmgcajohfaaW.PrintMore
attribute [local go_sem] max2_int min2_int max_two min_two max_three min_three max_four min_four   -- for this text's walks alone
set_option linter.unusedVariables false
set_option linter.unusedSimpArgs false
mutual
def spec_PermutationsHitting.j0 : Nat → Int → Bool → Int → Int → List Int → Option ((List (List Int)) × Bool)
 | 0, _, _, _, _, _ => none
 | k + 1, x1, x16, x102000, x102001, x102002 => if x16 = true then (some (([] : List (List Int)), false)) else ((spec_hiAll.f k x102000 ([] : List Int)).bind fun t104 => (spec_PermutationsHitting.l0 k x1 ([] : List (List Int)) t104 (t104.length : Int) 0 x102000 x102001 x102002))
def spec_PermutationsHitting.l0 : Nat → Int → List (List Int) → List (List Int) → Int → Int → Int → Int → List Int → Option ((List (List Int)) × Bool)
 | 0, _, _, _, _, _, _, _, _ => none
 | k + 1, x1, x6, x19, x20, x21, x102000, x102001, x102002 => if x21 < x20 then (if 0 ≤ x21 then (if x21 < (x19.length : Int) then ((spec_hiHits.f k x102000 x102001 x102002 (rd_L1 x19 x21)).bind fun t108 => (if t108 = x1 then (if x6.length < 5864062014805 then (spec_PermutationsHitting.l0 k x1 (x6 ++ [rd_L1 x19 x21]) x19 x20 (wrap64 (x21 + 1)) x102000 x102001 x102002) else (none)) else (spec_PermutationsHitting.l0 k x1 x6 x19 x20 (wrap64 (x21 + 1)) x102000 x102001 x102002))) else (none)) else (none)) else (some (x6, true))
end
def spec_PermutationsHitting.f (k : Nat) (a0_0 : Int) (a0_1 : Int) (l0_2 : List Int) (a1 : Int) : Option ((List (List Int)) × Bool) := (spec_hiGood.f k a0_0 a0_1 l0_2).bind fun t102 => (if t102 = true then ((spec_l1In.f a1 0 6).bind fun t103 => (spec_PermutationsHitting.j0 k a1 (!t103) a0_0 a0_1 l0_2)) else (spec_PermutationsHitting.j0 k a1 true a0_0 a0_1 l0_2))
set_option maxHeartbeats 8000000 in
set_option maxRecDepth 100000 in
theorem spec_PermutationsHitting.calls (k : Nat) (a0_0 : Int) (a0_1 : Int) (A0_2 : Option Addr) (c0_2 : Nat) (l0_2 : List Int) (a1 : Int) (r1 : List (List Int)) (r2 : Bool) (w : World) (hr0_2 : Kd.C (Kd.int .i64) w A0_2 l0_2.length l0_2) (hc0_2 : l0_2.length ≤ c0_2) (h : spec_PermutationsHitting.f k a0_0 a0_1 l0_2 a1 = some (r1, r2)) :
  Calls Try.prog 30 #[.agg #[.int .i64 a0_0, .int .i64 a0_1, .slice A0_2 l0_2.length c0_2], .int .i64 a1] w fun e w' => ∃ v0_ : Value, e = .returned (.tuple #[v0_, .bool r2]) ∧ Kd.N (Kd.slice 3 (Kd.int .i64)) 28 w' w.heap.size (fun k_ => (w.heap.size ≤ k_)) v0_ r1 ∧ Below w.heap.size w w' := by
 have hu43 := Try.underlying43
 have HR0_2 := za hr0_2
 have HC0_2 := za hc0_2
 clear hr0_2 hc0_2
 have HB := za (Below.refl w.heap.size w)
 have H : ((spec_hiGood.f k a0_0 a0_1 l0_2).bind fun t102 => (if t102 = true then ((spec_l1In.f a1 0 6).bind fun t103 => (spec_PermutationsHitting.j0 k a1 (!t103) a0_0 a0_1 l0_2)) else (spec_PermutationsHitting.j0 k a1 true a0_0 a0_1 l0_2))) = some (r1, r2) := h
 clear h
 have HC3 := za H
 clear H
 go_enter Try.func30, Try.ntmps30
 go_upto_region 1 with (first | ((with_reducible refine zF (N := 2) rfl ?_); refine zG ?hg (N := 2) ?hd (cs := #[.int .i64 a0_0, .int .i64 a0_1, .slice A0_2 l0_2.length c0_2]) (t := 43) ?hr ?_; (case hd => rfl); (case hg => rfl); (case hr => first | (go_simp; done) | (go_simp; rfl)); intro gb101 hg w4 hbox hb; have n0_ := za (zw (by repeat (first | (with_reducible first | exact HB.out | apply zc | apply zd | apply zb) | exact HB.out)) hb); have n1_ := za (hbox); have n2_ := za ((by rw [hg]; exact (zo (by repeat (first | (with_reducible first | exact HB.out | apply zc | apply zd | apply zb) | exact HB.out))) : w.heap.size ≤ gb101)); have n3_ := za ((by rw [hg]; exact (zo (by repeat (first | (with_reducible first | exact HB.out | apply zc | apply zd | apply zb) | exact HB.out))) : w.heap.size ≤ gb101)); clear HB; have HB := n0_; have BK101 := n1_; have GW101 := n2_; have GE101 := n3_; clear n0_ n1_ n2_ n3_; clear hb hbox hg))
 (try simp only [Act.put, List.setIfInBounds_toArray, List.set_cons_zero, List.set_cons_succ])
 go_cut [16] (fun v16 wc => ∃ (kq : Nat) (x16_2 : Bool), v16 = .bool x16_2 ∧ Aside0 (spec_PermutationsHitting.j0 kq a1 x16_2 a0_0 a0_1 l0_2 = some (r1, r2)) ∧ Aside0 (kq ≤ k) ∧ Aside0 (wc.heap[gb101]? = some (.cells #[.int .i64 a0_0, .int .i64 a0_1, (.slice A0_2 l0_2.length c0_2)] 43 (0, 0))) ∧ Aside0 (Below w.heap.size w wc))
 case first =>
  have H := HC3.out
  clear HC3
  replace H := Option.bind_eq_some_iff.mp H
  obtain ⟨t102, A50, H⟩ := H
  replace H : (if t102 = true then ((spec_l1In.f a1 0 6).bind fun t103 => (spec_PermutationsHitting.j0 k a1 (!t103) a0_0 a0_1 l0_2)) else (spec_PermutationsHitting.j0 k a1 true a0_0 a0_1 l0_2)) = some (r1, r2) := H
  have A5 := za A50
  clear A50
  by_cases c6 : t102 = true
  ·
   subst c6
   have H1 : ((spec_l1In.f a1 0 6).bind fun t103 => (spec_PermutationsHitting.j0 k a1 (!t103) a0_0 a0_1 l0_2)) = some (r1, r2) := by rw [if_pos rfl] at H; exact H
   clear H
   have H := H1
   clear H1
   replace H := Option.bind_eq_some_iff.mp H
   obtain ⟨t103, A70, H⟩ := H
   replace H : (spec_PermutationsHitting.j0 k a1 (!t103) a0_0 a0_1 l0_2) = some (r1, r2) := H
   have A7 := za A70
   clear A70
   have H' := za H
   clear H
   have hcz8_0 : w4.cell? ⟨gb101, 0, none⟩ = some (.int .i64 a0_0) := (zi BK101.out 0).trans rfl
   have hcz8_1 : w4.cell? ⟨gb101, 1, none⟩ = some (.int .i64 a0_1) := (zi BK101.out 1).trans rfl
   have hcz8_2 : w4.cell? ⟨gb101, 2, none⟩ = some (.slice A0_2 l0_2.length c0_2) := (zi BK101.out 2).trans rfl
   have hfz8_0 := zj BK101.out 0
   have hfz8_1 := zj BK101.out 1
   have hfz8_2 := zj BK101.out 2
   go_wp2_with (first | ((with_reducible refine zy (f := 90) rfl ?_); refine goesL_ (some 10) rfl rfl Try.func90 (by kernel_rfl) rfl #[.agg #[.int .i64 a0_0, .int .i64 a0_1, .slice A0_2 l0_2.length c0_2]] rfl (by (try simp only [List.map_toArray, List.map_cons, List.map_nil]); first | done | rfl | (simp only [List.length_drop, List.length_take]; rfl)) ?_; (with_reducible refine (spec_hiGood.calls k a0_0 a0_1 _ _ l0_2 true _ ?side1 ?side2 A5.out).mono ?_); (case side1 => repeat (first | exact (Kd.C_below HR0_2.out HB.out) | (with_reducible refine zp ?_ _) | (with_reducible refine zq ?_ _) | (with_reducible refine zr ?_))); (case side2 => exact HC0_2.out); rintro e w9 ⟨rfl, hb⟩; refine ⟨_, rfl, ?_⟩; have n0_ := za (zA (g := gb101) (o := .cells #[.int .i64 a0_0, .int .i64 a0_1, .slice A0_2 l0_2.length c0_2] 43 (0, 0)) (by (with_reducible repeat (first | refine zg ?_ _ | refine zf ?_ | refine zh ?_ _)); exact BK101.out) hb); have n1_ := za (zw (by repeat (first | (with_reducible first | exact HB.out | apply zc | apply zd | apply zb | refine ze ?_ GE101.out) | exact HB.out)) hb); clear BK101 HB; have BK101 := n0_; have HB := n1_; clear n0_ n1_; (try clear hb); (try clear hb2); (try clear hk); (try clear hi)) | (go_at_call 77; (with_reducible refine (spec_l1In.calls a1 0 6 t103 _ A7.out).mono ?_); rintro e w' ⟨rfl, ⟨nd, rfl⟩⟩))
   go_meet
   case rel => exact ⟨_, (!t103), (by first | rfl | (simp; done) | (simp [*]; done)), H', ⟨by first | omega | exact Nat.le_refl _⟩, ⟨by (with_reducible repeat (first | refine zg ?_ _ | refine zf ?_ | refine zh ?_ _)); exact BK101.out⟩, ⟨by repeat (first | (with_reducible first | exact HB.out | apply zc | apply zd | apply zb | refine ze ?_ GE101.out) | exact HB.out)⟩⟩
  ·
   replace c6 := Bool.eq_false_iff.mpr c6
   subst c6
   have H1 : (spec_PermutationsHitting.j0 k a1 true a0_0 a0_1 l0_2) = some (r1, r2) := by rw [if_neg (show ¬ (false = true) by decide)] at H; exact H
   clear H
   have H := H1
   clear H1
   have H' := za H
   clear H
   have hcz10_0 : w4.cell? ⟨gb101, 0, none⟩ = some (.int .i64 a0_0) := (zi BK101.out 0).trans rfl
   have hcz10_1 : w4.cell? ⟨gb101, 1, none⟩ = some (.int .i64 a0_1) := (zi BK101.out 1).trans rfl
   have hcz10_2 : w4.cell? ⟨gb101, 2, none⟩ = some (.slice A0_2 l0_2.length c0_2) := (zi BK101.out 2).trans rfl
   have hfz10_0 := zj BK101.out 0
   have hfz10_1 := zj BK101.out 1
   have hfz10_2 := zj BK101.out 2
   go_wp2_with (first | ((with_reducible refine zy (f := 90) rfl ?_); refine goesL_ (some 10) rfl rfl Try.func90 (by kernel_rfl) rfl #[.agg #[.int .i64 a0_0, .int .i64 a0_1, .slice A0_2 l0_2.length c0_2]] rfl (by (try simp only [List.map_toArray, List.map_cons, List.map_nil]); first | done | rfl | (simp only [List.length_drop, List.length_take]; rfl)) ?_; (with_reducible refine (spec_hiGood.calls k a0_0 a0_1 _ _ l0_2 false _ ?side1 ?side2 A5.out).mono ?_); (case side1 => repeat (first | exact (Kd.C_below HR0_2.out HB.out) | (with_reducible refine zp ?_ _) | (with_reducible refine zq ?_ _) | (with_reducible refine zr ?_))); (case side2 => exact HC0_2.out); rintro e w11 ⟨rfl, hb⟩; refine ⟨_, rfl, ?_⟩; have n0_ := za (zA (g := gb101) (o := .cells #[.int .i64 a0_0, .int .i64 a0_1, .slice A0_2 l0_2.length c0_2] 43 (0, 0)) (by (with_reducible repeat (first | refine zg ?_ _ | refine zf ?_ | refine zh ?_ _)); exact BK101.out) hb); have n1_ := za (zw (by repeat (first | (with_reducible first | exact HB.out | apply zc | apply zd | apply zb | refine ze ?_ GE101.out) | exact HB.out)) hb); clear BK101 HB; have BK101 := n0_; have HB := n1_; clear n0_ n1_; (try clear hb); (try clear hb2); (try clear hk); (try clear hi)))
   go_meet
   case rel => exact ⟨_, (true), (by first | rfl | (simp; done) | (simp [*]; done)), H', ⟨by first | omega | exact Nat.le_refl _⟩, ⟨by (with_reducible repeat (first | refine zg ?_ _ | refine zf ?_ | refine zh ?_ _)); exact BK101.out⟩, ⟨by repeat (first | (with_reducible first | exact HB.out | apply zc | apply zd | apply zb | refine ze ?_ GE101.out) | exact HB.out)⟩⟩
 case rest =>
  clear HC3
  try clear p2
  try clear c3
  try clear c6
  try clear c9
  try clear hcz10_0
  try clear hcz10_1
  try clear hcz10_2
  try clear hcz8_0
  try clear hcz8_1
  try clear hcz8_2
  try clear hfz10_0
  try clear hfz10_1
  try clear hfz10_2
  try clear hfz8_0
  try clear hfz8_1
  try clear hfz8_2
  obtain ⟨kq, x16_2, rfl, HA, HJ2, BK101, HB⟩ := hcut
  cases kq with
  | zero => exact absurd HA.out (by simp [spec_PermutationsHitting.j0])
  | succ kj2 =>
   have H := HA.out
   clear HA
   simp only [spec_PermutationsHitting.j0] at H
   by_cases c12 : x16_2 = true
   ·
    subst c12
    have H1 : (some (([] : List (List Int)), false)) = some (r1, r2) := by rw [if_pos rfl] at H; exact H
    clear H
    have H := H1
    clear H1
    simp only [Option.some.injEq, Prod.mk.injEq] at H
    obtain ⟨rfl, rfl⟩ := H
    go_wp2
    go_ret2
    exact ⟨_, by first | rfl | (simp [errW_none, errW_some] <;> rfl) | (simp [*, errW_none, errW_some] <;> rfl), by first | exact Kd.S_nil _ _ _ _ _ | exact Kd.N_nil _ _ _ _ _ | exact Kd.V_nil _ _ _ _ _ | exact Kd.Q_nil _ _ _ _ _ | exact Kd.R_nil _ _ _ _ _, by repeat (first | (with_reducible first | exact HB.out | apply zc | apply zd | apply zb | refine ze ?_ GE101.out) | exact HB.out)⟩
   ·
    replace c12 := Bool.eq_false_iff.mpr c12
    subst c12
    have H1 : ((spec_hiAll.f kj2 a0_0 ([] : List Int)).bind fun t104 => (spec_PermutationsHitting.l0 kj2 a1 ([] : List (List Int)) t104 (t104.length : Int) 0 a0_0 a0_1 l0_2)) = some (r1, r2) := by rw [if_neg (show ¬ (false = true) by decide)] at H; exact H
    clear H
    have H := H1
    clear H1
    replace H := Option.bind_eq_some_iff.mp H
    obtain ⟨t104, A130, H⟩ := H
    replace H : (spec_PermutationsHitting.l0 kj2 a1 ([] : List (List Int)) t104 (t104.length : Int) 0 a0_0 a0_1 l0_2) = some (r1, r2) := H
    have A13 := za A130
    clear A130
    have H' := za H
    clear H
    have hcz14_0 : wc.cell? ⟨gb101, 0, none⟩ = some (.int .i64 a0_0) := (zi BK101.out 0).trans rfl
    have hcz14_1 : wc.cell? ⟨gb101, 1, none⟩ = some (.int .i64 a0_1) := (zi BK101.out 1).trans rfl
    have hcz14_2 : wc.cell? ⟨gb101, 2, none⟩ = some (.slice A0_2 l0_2.length c0_2) := (zi BK101.out 2).trans rfl
    have hfz14_0 := zj BK101.out 0
    have hfz14_1 := zj BK101.out 1
    have hfz14_2 := zj BK101.out 2
    go_wp2_with (first | ((with_reducible refine zy (f := 91) rfl ?_); refine goesL_ (some 19) rfl rfl Try.func91 (by kernel_rfl) rfl #[.int .i64 a0_0, .slice none 0 0] rfl (by (try simp only [List.map_toArray, List.map_cons, List.map_nil]); first | done | rfl | (simp only [List.length_drop, List.length_take]; rfl)) ?_; (refine (spec_hiAll.calls kj2 a0_0 _ _ ([] : List Int) t104 _ ?side1 ?side2 A13.out).mono ?_); (case side1 => exact Kd.C_nil _ _); (case side2 => exact Nat.le_refl _); rintro e w15 ⟨v105, rfl, ho0, hb⟩; refine ⟨_, rfl, ?_⟩; have n0_ := za (Kd.N_lower (Kd.N_mono (ok' := fun k_ => (w.heap.size ≤ k_) ∧ k_ ≠ gb101) ho0 (fun k_ hk_ => ⟨(Nat.le_trans (zo (by repeat (first | (with_reducible first | exact HB.out | apply zc | apply zd | apply zb | refine ze ?_ GE101.out) | exact HB.out))) hk_), (Kd.freshB (g := gb101) (o := .cells #[.int .i64 a0_0, .int .i64 a0_1, .slice A0_2 l0_2.length c0_2] 43 (0, 0)) (by (with_reducible repeat (first | refine zg ?_ _ | refine zf ?_ | refine zh ?_ _)); exact BK101.out) k_ hk_)⟩)) (zo (by repeat (first | (with_reducible first | exact HB.out | apply zc | apply zd | apply zb | refine ze ?_ GE101.out) | exact HB.out)))); have n1_ := za (zA (g := gb101) (o := .cells #[.int .i64 a0_0, .int .i64 a0_1, .slice A0_2 l0_2.length c0_2] 43 (0, 0)) (by (with_reducible repeat (first | refine zg ?_ _ | refine zf ?_ | refine zh ?_ _)); exact BK101.out) hb); have n2_ := za (zw (by repeat (first | (with_reducible first | exact HB.out | apply zc | apply zd | apply zb | refine ze ?_ GE101.out) | exact HB.out)) hb); clear BK101 HB; have HO106 := n0_; have BK101 := n1_; have HB := n2_; clear n0_ n1_ n2_; (try clear hb); (try clear hb2); (try clear hk); (try clear hi); (try clear ho0); obtain ⟨Ao16, co16, eo16⟩ := Kd.N_slice HO106.out; subst eo16))
    go_loopg [6, 21] kj2 (fun kq v6 v21 w' => ∃ (x6_2 : List (List Int)) (x21_2 : Int), v21 = .int .i64 x21_2 ∧ Aside0 (spec_PermutationsHitting.l0 kq a1 x6_2 t104 (t104.length : Int) x21_2 a0_0 a0_1 l0_2 = some (r1, r2)) ∧ Aside0 (kq ≤ kj2) ∧ Aside0 (Kd.N (Kd.slice 3 (Kd.int .i64)) 28 w' w.heap.size (fun k_ => (w.heap.size ≤ k_) ∧ some k_ ≠ ((.slice Ao16 t104.length co16) : Value).ownBlock ∧ k_ ≠ gb101) v6 x6_2) ∧ Aside0 (Kd.N (Kd.slice 3 (Kd.int .i64)) 28 w' w.heap.size (fun k_ => (w.heap.size ≤ k_) ∧ some k_ ≠ (v6 : Value).ownBlock ∧ k_ ≠ gb101) (.slice Ao16 t104.length co16) t104) ∧ Aside0 (w'.heap[gb101]? = some (.cells #[.int .i64 a0_0, .int .i64 a0_1, (.slice A0_2 l0_2.length c0_2)] 43 (0, 0))) ∧ Aside0 (Below w.heap.size w w'))
    case atStart => exact ⟨(([] : List (List Int))), (0), (by first | rfl | (simp; done) | (simp [*]; done)), H', ⟨Nat.le_refl _⟩, ⟨by first | exact Kd.S_nil _ _ _ _ _ | exact Kd.N_nil _ _ _ _ _ | exact Kd.V_nil _ _ _ _ _ | exact Kd.Q_nil _ _ _ _ _ | exact Kd.R_nil _ _ _ _ _⟩, ⟨by (with_reducible repeat (first | apply zC | apply zD | apply zE)); exact Kd.N_mono HO106.out (fun _ hk => ⟨hk.1, ⟨(by simp [Value.ownBlock]), hk.2⟩⟩)⟩, ⟨by (with_reducible repeat (first | refine zg ?_ _ | refine zf ?_ | refine zh ?_ _)); exact BK101.out⟩, ⟨by repeat (first | (with_reducible first | exact HB.out | apply zc | apply zd | apply zb | refine ze ?_ GE101.out) | exact HB.out)⟩⟩
    case round =>
     clear H'
     try clear c1
     try clear p2
     try clear c3
     try clear c6
     try clear c9
     try clear c12
     try clear hcz10_0
     try clear hcz10_1
     try clear hcz10_2
     try clear hcz14_0
     try clear hcz14_1
     try clear hcz14_2
     try clear hcz8_0
     try clear hcz8_1
     try clear hcz8_2
     try clear hfz10_0
     try clear hfz10_1
     try clear hfz10_2
     try clear hfz14_0
     try clear hfz14_1
     try clear hfz14_2
     try clear hfz8_0
     try clear hfz8_1
     try clear hfz8_2
     try clear p2
     obtain ⟨x6_2, x21_2, rfl, HA, HK2, HO_6, HO_19, BK101, HB⟩ := hrel
     cases gk with
     | zero => exact absurd HA.out (by simp [spec_PermutationsHitting.l0])
     | succ k2 =>
      have H := HA.out
      clear HA
      simp only [spec_PermutationsHitting.l0] at H
      by_cases c17 : x21_2 < (t104.length : Int)
      ·
       rw [if_pos c17] at H
       have c17b0 : decide (x21_2 < (t104.length : Int)) = true := decide_eq_true c17
       clear c17
       by_cases c18 : 0 ≤ x21_2
       ·
        rw [if_pos c18] at H
        have c18b0 : decide (0 ≤ x21_2) = true := decide_eq_true c18
        clear c18
        by_cases c19 : x21_2 < (t104.length : Int)
        ·
         rw [if_pos c19] at H
         have c19b0 : decide (x21_2 < (t104.length : Int)) = true := decide_eq_true c19
         clear c19
         replace H := Option.bind_eq_some_iff.mp H
         obtain ⟨t108, A200, H⟩ := H
         replace H : (if t108 = a1 then (if x6_2.length < 5864062014805 then (spec_PermutationsHitting.l0 k2 a1 (x6_2 ++ [rd_L1 t104 x21_2]) t104 (t104.length : Int) (wrap64 (x21_2 + 1)) a0_0 a0_1 l0_2) else (none)) else (spec_PermutationsHitting.l0 k2 a1 x6_2 t104 (t104.length : Int) (wrap64 (x21_2 + 1)) a0_0 a0_1 l0_2)) = some (r1, r2) := H
         have A20 := za A200
         clear A200
         by_cases c21 : t108 = a1
         ·
          rw [if_pos c21] at H
          have c21b0 : (t108 == a1) = true := beq_iff_eq.mpr c21
          have c21b1 : (t108 != a1) = false := bne_eq_false_iff_eq.mpr c21
          clear c21
          by_cases c22 : x6_2.length < 5864062014805
          ·
           rw [if_pos c22] at H
           have LMc22 := za c22
           clear c22
           obtain ⟨y109, hy109⟩ : ∃ y_ : List (List Int), y_ = (x6_2 ++ [rd_L1 t104 x21_2]) := ⟨_, rfl⟩
           replace H : (spec_PermutationsHitting.l0 k2 a1 y109 t104 (t104.length : Int) (wrap64 (x21_2 + 1)) a0_0 a0_1 l0_2) = some (r1, r2) := by first | (rw [hy109]; with_reducible exact H) | (have H2_ := (Option.bind_some _ _).symm.trans H; rw [hy109]; with_reducible exact H2_) | (have H2_ := (Option.bind_some _ _).symm.trans H; with_reducible exact H2_) | with_reducible exact H | (rw [hy109]; exact H) | exact H
           have Ny109 := za hy109
           clear hy109
           have H' := za H
           clear H
           have p107 : 0 ≤ (x21_2 : Int) := of_decide_eq_true (by first | (with_reducible assumption) | assumption)
           have q107 : x21_2 < (t104.length : Int) := of_decide_eq_true (by first | (with_reducible assumption) | assumption)
           obtain ⟨ad107, A107_0, c107_0, e107, hx107_0, hl107_0, hi107_0⟩ := at_L1 (Kd.N_reads' HO_19.out).2.2 x21_2 p107 q107
           cases e107
           obtain ⟨ce107, hce107, hMe107, hcc107⟩ := Kd.N_get HO_19.out [] x21_2 p107 (by first | exact q107 | exact of_decide_eq_true (by first | (with_reducible assumption) | assumption) | (have e_ := (Kd.N_reads' HO_19.out).1; omega))
           obtain ⟨ua107_0, uc107_0, rfl, ul107_0, ge107_0⟩ := Kd.FK_slice_open hMe107
           have hv107_0 := hcc107 0 _ rfl
           rw [Nat.add_zero, show ((Kd.slice 3 (Kd.int .i64))).sz = 1 from rfl, Nat.mul_one] at hv107_0
           replace hv107_0 := Option.some.inj (hv107_0.symm.trans hx107_0)
           injection hv107_0 with hva_ hvn_ hvc_
           rw [hva_] at ge107_0
           rw [hvc_] at ul107_0
           have HL107_0 := za (show Kd.V (Kd.int .i64) 3 _ w.heap.size _ _ (rd_L1 t104 x21_2) from Kd.V_mk ul107_0 ge107_0)
           clear hva_ hvn_ hvc_ ge107_0 ul107_0
           clear hcc107 hce107
           have HR107_0 := za hi107_0
           have HC107_0 := za hl107_0
           clear hi107_0 hl107_0
           replace p107 := eq_true p107
           replace q107 := eq_true q107
           have hcz23_0 : wr.cell? ⟨gb101, 0, none⟩ = some (.int .i64 a0_0) := (zi BK101.out 0).trans rfl
           have hcz23_1 : wr.cell? ⟨gb101, 1, none⟩ = some (.int .i64 a0_1) := (zi BK101.out 1).trans rfl
           have hcz23_2 : wr.cell? ⟨gb101, 2, none⟩ = some (.slice A0_2 l0_2.length c0_2) := (zi BK101.out 2).trans rfl
           have hfz23_0 := zj BK101.out 0
           have hfz23_1 := zj BK101.out 1
           have hfz23_2 := zj BK101.out 2
           go_wp2_with (first | ((with_reducible refine zy (f := 92) rfl ?_); refine goesL_ (some 27) rfl rfl Try.func92 (by kernel_rfl) rfl #[.agg #[.int .i64 a0_0, .int .i64 a0_1, .slice A0_2 l0_2.length c0_2], .slice A107_0 (rd_L1 t104 x21_2).length c107_0] rfl (by (try simp only [List.map_toArray, List.map_cons, List.map_nil]); first | done | rfl | (simp only [List.length_drop, List.length_take]; rfl)) ?_; (with_reducible refine (spec_hiHits.calls k2 a0_0 a0_1 _ _ l0_2 _ _ (rd_L1 t104 x21_2) t108 _ ?side1 ?side2 ?side3 ?side4 A20.out).mono ?_); (case side1 => repeat (first | exact (Kd.C_below HR0_2.out HB.out) | (with_reducible refine zp ?_ _) | (with_reducible refine zq ?_ _) | (with_reducible refine zr ?_))); (case side2 => exact HC0_2.out); (case side3 => repeat (first | exact (by repeat (first | (with_reducible exact HR107_0.out) | (with_reducible refine zp ?_ _) | (with_reducible refine zq ?_ _) | (with_reducible refine zr ?_) | exact HR107_0.out)) | (with_reducible refine zp ?_ _) | (with_reducible refine zq ?_ _) | (with_reducible refine zr ?_))); (case side4 => exact HC107_0.out); rintro e w24 ⟨rfl, hb⟩; refine ⟨_, rfl, ?_⟩; have n0_ := za (Kd.N_below (by (with_reducible repeat (first | apply zC | apply zD | apply zE)); exact HO_6.out) hb); have n1_ := za (Kd.N_below (by (with_reducible repeat (first | apply zC | apply zD | apply zE)); exact HO_19.out) hb); have n2_ := za (Kd.V_below (by (with_reducible repeat (first | apply Kd.V_alloc | apply Kd.V_drewN | apply Kd.V_drew)); exact HL107_0.out) hb); have n3_ := za (zA (g := gb101) (o := .cells #[.int .i64 a0_0, .int .i64 a0_1, .slice A0_2 l0_2.length c0_2] 43 (0, 0)) (by (with_reducible repeat (first | refine zg ?_ _ | refine zf ?_ | refine zh ?_ _)); exact BK101.out) hb); have n4_ := za (Kd.C_below (by repeat (first | (with_reducible exact HR107_0.out) | (with_reducible refine zp ?_ _) | (with_reducible refine zq ?_ _) | (with_reducible refine zr ?_) | exact HR107_0.out)) hb); have n5_ := za (zw (by repeat (first | (with_reducible first | exact HB.out | apply zc | apply zd | apply zb | refine ze ?_ GE101.out) | exact HB.out)) hb); clear HO_6 HO_19; clear HL107_0 BK101; clear HR107_0 HB; have HO_6 := n0_; have HO_19 := n1_; have HL107_0 := n2_; have BK101 := n3_; have HR107_0 := n4_; have HB := n5_; clear n0_ n1_ n2_ n3_ n4_ n5_; (try clear hb); (try clear hb2); (try clear hk); (try clear hi)) | ((with_reducible refine gate_builtin (b := .append) (xs := #[.tmp 30, .tmp 32]) rfl ?_); at_builtin; refine Kd.N_append (Kd.slice 3 (Kd.int .i64)) (w0 := w) w.heap.size rfl (.tmp 30) (.tmp 32) 29 28 (.slice none 0 0) 24 rfl Try.underlying29 info28 rfl (by decide) (by omega) u6 x6_2 (rd_L1 t104 x21_2) [.slice A107_0 (rd_L1 t104 x21_2).length c107_0] (fun k_ => (w.heap.size ≤ k_) ∧ some k_ ≠ (.slice (some ad107) t104.length co16 : Value).ownBlock ∧ k_ ≠ gb101) (fun k_ => ((fun k_ => (w.heap.size ≤ k_) ∧ some k_ ≠ (.slice (some ad107) t104.length co16 : Value).ownBlock ∧ k_ ≠ gb101)) k_ ∧ some k_ ≠ (u6 : Value).ownBlock) rfl rfl ?aP (fun _ hk => hk) ?aF ?aO ?aB ?aS ?aL ?_; (case aP => exact (Kd.FK_slice_mk (Kd.V_reads' (Kd.V_mono (ok' := (fun k_ => ((fun k_ => (w.heap.size ≤ k_) ∧ some k_ ≠ (.slice (some ad107) t104.length co16 : Value).ownBlock ∧ k_ ≠ gb101)) k_ ∧ some k_ ≠ (u6 : Value).ownBlock)) (HL107_0.out) (fun k_ hk => ⟨⟨hk.1.1, ⟨hk.2, hk.1.2.2⟩⟩, hk.1.2.1⟩))).2.1 (Kd.V_F (Kd.V_mono (ok' := (fun k_ => ((fun k_ => (w.heap.size ≤ k_) ∧ some k_ ≠ (.slice (some ad107) t104.length co16 : Value).ownBlock ∧ k_ ≠ gb101)) k_ ∧ some k_ ≠ (u6 : Value).ownBlock)) (HL107_0.out) (fun k_ hk => ⟨⟨hk.1.1, ⟨hk.2, hk.1.2.2⟩⟩, hk.1.2.1⟩))))); (case aB => exact (by repeat (first | (with_reducible first | exact HB.out | apply zc | apply zd | apply zb | refine ze ?_ GE101.out) | exact HB.out))); (case aF => exact (fun k_ hk => ⟨(Nat.le_trans (zo (by repeat (first | (with_reducible first | exact HB.out | apply zc | apply zd | apply zb | refine ze ?_ GE101.out) | exact HB.out))) hk), Kd.fresh' (Kd.N_lt (by (with_reducible repeat (first | apply zC | apply zD | apply zE)); exact HO_19.out)) k_ hk, Kd.freshB (g := gb101) (o := .cells #[.int .i64 a0_0, .int .i64 a0_1, .slice A0_2 l0_2.length c0_2] 43 (0, 0)) (by (with_reducible repeat (first | refine zg ?_ _ | refine zf ?_ | refine zh ?_ _)); exact BK101.out) k_ hk⟩)); (case aO => exact (by (with_reducible repeat (first | apply zC | apply zD | apply zE)); exact HO_6.out)); (case aS => exact (zo (by repeat (first | (with_reducible first | exact HB.out | apply zc | apply zd | apply zb | refine ze ?_ GE101.out) | exact HB.out)))); (case aL => have := LMc22.out; omega); intro v110 w25 ho hb hg hat; rw [← Ny109.out] at ho; have n0_ := za (Kd.N_afterv (ok := (fun k_ => (w.heap.size ≤ k_) ∧ k_ ≠ gb101)) (by (with_reducible repeat (first | apply zC | apply zD | apply zE)); exact Kd.N_mono HO_19.out (fun _ hk => ⟨⟨hk.1, hk.2.2⟩, hk.2.1⟩)) hg hat); have n1_ := za (blk_grown (g := gb101) (o := .cells #[.int .i64 a0_0, .int .i64 a0_1, .slice A0_2 l0_2.length c0_2] 43 (0, 0)) (by (with_reducible repeat (first | refine zg ?_ _ | refine zf ?_ | refine zh ?_ _)); exact BK101.out) hg (Kd.N_ne HO_6.out BK101.out (by decide))); have n2_ := za (Kd.V_afterv (ok := (fun k_ => (w.heap.size ≤ k_) ∧ some k_ ≠ (.slice (some ad107) t104.length co16 : Value).ownBlock ∧ k_ ≠ gb101)) (by (with_reducible repeat (first | apply Kd.V_alloc | apply Kd.V_drewN | apply Kd.V_drew)); exact Kd.V_mono HL107_0.out (fun _ hk => ⟨⟨hk.1.1, ⟨hk.2, hk.1.2.2⟩⟩, hk.1.2.1⟩)) hg hat); have n3_ := za (hb); have n4_ := za (ho); clear HO_19 BK101; clear HL107_0 HB HO_6; have HO_19 := n0_; have BK101 := n1_; have HL107_0 := n2_; have HB := n3_; have HO111 := n4_; clear n0_ n1_ n2_ n3_ n4_; clear ho hb hg hat))
           go_roundg k2
           case measure => have := HJ2.out; have := HK2.out; omega
           case rel => exact ⟨(y109), (wrap64 (x21_2 + 1)), (by first | rfl | (simp; done) | (simp [*]; done)), H', ⟨by have := HJ2.out; have := HK2.out; omega⟩, ⟨by (with_reducible repeat (first | apply zC | apply zD | apply zE)); exact HO111.out⟩, ⟨by (with_reducible repeat (first | apply zC | apply zD | apply zE)); exact Kd.N_mono HO_19.out (fun _ hk => ⟨hk.1.1, ⟨hk.2, hk.1.2⟩⟩)⟩, ⟨by (with_reducible repeat (first | refine zg ?_ _ | refine zf ?_ | refine zh ?_ _)); exact BK101.out⟩, ⟨by repeat (first | (with_reducible first | exact HB.out | apply zc | apply zd | apply zb | refine ze ?_ GE101.out) | exact HB.out)⟩⟩
          ·
           rw [if_neg c22] at H
           exact absurd H (by simp)
         ·
          rw [if_neg c21] at H
          have c21b0 : (t108 == a1) = false := beq_eq_false_iff_ne.mpr c21
          have c21b1 : (t108 != a1) = true := bne_iff_ne.mpr c21
          have H' := za H
          clear H
          have p107 : 0 ≤ (x21_2 : Int) := of_decide_eq_true (by first | (with_reducible assumption) | assumption)
          have q107 : x21_2 < (t104.length : Int) := of_decide_eq_true (by first | (with_reducible assumption) | assumption)
          obtain ⟨ad107, A107_0, c107_0, e107, hx107_0, hl107_0, hi107_0⟩ := at_L1 (Kd.N_reads' HO_19.out).2.2 x21_2 p107 q107
          cases e107
          obtain ⟨ce107, hce107, hMe107, hcc107⟩ := Kd.N_get HO_19.out [] x21_2 p107 (by first | exact q107 | exact of_decide_eq_true (by first | (with_reducible assumption) | assumption) | (have e_ := (Kd.N_reads' HO_19.out).1; omega))
          obtain ⟨ua107_0, uc107_0, rfl, ul107_0, ge107_0⟩ := Kd.FK_slice_open hMe107
          have hv107_0 := hcc107 0 _ rfl
          rw [Nat.add_zero, show ((Kd.slice 3 (Kd.int .i64))).sz = 1 from rfl, Nat.mul_one] at hv107_0
          replace hv107_0 := Option.some.inj (hv107_0.symm.trans hx107_0)
          injection hv107_0 with hva_ hvn_ hvc_
          rw [hva_] at ge107_0
          rw [hvc_] at ul107_0
          have HL107_0 := za (show Kd.V (Kd.int .i64) 3 _ w.heap.size _ _ (rd_L1 t104 x21_2) from Kd.V_mk ul107_0 ge107_0)
          clear hva_ hvn_ hvc_ ge107_0 ul107_0
          clear hcc107 hce107
          have HR107_0 := za hi107_0
          have HC107_0 := za hl107_0
          clear hi107_0 hl107_0
          replace p107 := eq_true p107
          replace q107 := eq_true q107
          have hcz26_0 : wr.cell? ⟨gb101, 0, none⟩ = some (.int .i64 a0_0) := (zi BK101.out 0).trans rfl
          have hcz26_1 : wr.cell? ⟨gb101, 1, none⟩ = some (.int .i64 a0_1) := (zi BK101.out 1).trans rfl
          have hcz26_2 : wr.cell? ⟨gb101, 2, none⟩ = some (.slice A0_2 l0_2.length c0_2) := (zi BK101.out 2).trans rfl
          have hfz26_0 := zj BK101.out 0
          have hfz26_1 := zj BK101.out 1
          have hfz26_2 := zj BK101.out 2
          go_wp2_with (first | ((with_reducible refine zy (f := 92) rfl ?_); refine goesL_ (some 27) rfl rfl Try.func92 (by kernel_rfl) rfl #[.agg #[.int .i64 a0_0, .int .i64 a0_1, .slice A0_2 l0_2.length c0_2], .slice A107_0 (rd_L1 t104 x21_2).length c107_0] rfl (by (try simp only [List.map_toArray, List.map_cons, List.map_nil]); first | done | rfl | (simp only [List.length_drop, List.length_take]; rfl)) ?_; (with_reducible refine (spec_hiHits.calls k2 a0_0 a0_1 _ _ l0_2 _ _ (rd_L1 t104 x21_2) t108 _ ?side1 ?side2 ?side3 ?side4 A20.out).mono ?_); (case side1 => repeat (first | exact (Kd.C_below HR0_2.out HB.out) | (with_reducible refine zp ?_ _) | (with_reducible refine zq ?_ _) | (with_reducible refine zr ?_))); (case side2 => exact HC0_2.out); (case side3 => repeat (first | exact (by repeat (first | (with_reducible exact HR107_0.out) | (with_reducible refine zp ?_ _) | (with_reducible refine zq ?_ _) | (with_reducible refine zr ?_) | exact HR107_0.out)) | (with_reducible refine zp ?_ _) | (with_reducible refine zq ?_ _) | (with_reducible refine zr ?_))); (case side4 => exact HC107_0.out); rintro e w27 ⟨rfl, hb⟩; refine ⟨_, rfl, ?_⟩; have n0_ := za (Kd.N_below (by (with_reducible repeat (first | apply zC | apply zD | apply zE)); exact HO_6.out) hb); have n1_ := za (Kd.N_below (by (with_reducible repeat (first | apply zC | apply zD | apply zE)); exact HO_19.out) hb); have n2_ := za (Kd.V_below (by (with_reducible repeat (first | apply Kd.V_alloc | apply Kd.V_drewN | apply Kd.V_drew)); exact HL107_0.out) hb); have n3_ := za (zA (g := gb101) (o := .cells #[.int .i64 a0_0, .int .i64 a0_1, .slice A0_2 l0_2.length c0_2] 43 (0, 0)) (by (with_reducible repeat (first | refine zg ?_ _ | refine zf ?_ | refine zh ?_ _)); exact BK101.out) hb); have n4_ := za (Kd.C_below (by repeat (first | (with_reducible exact HR107_0.out) | (with_reducible refine zp ?_ _) | (with_reducible refine zq ?_ _) | (with_reducible refine zr ?_) | exact HR107_0.out)) hb); have n5_ := za (zw (by repeat (first | (with_reducible first | exact HB.out | apply zc | apply zd | apply zb | refine ze ?_ GE101.out) | exact HB.out)) hb); clear HO_6 HO_19; clear HL107_0 BK101; clear HR107_0 HB; have HO_6 := n0_; have HO_19 := n1_; have HL107_0 := n2_; have BK101 := n3_; have HR107_0 := n4_; have HB := n5_; clear n0_ n1_ n2_ n3_ n4_ n5_; (try clear hb); (try clear hb2); (try clear hk); (try clear hi)))
          go_roundg k2
          case measure => have := HJ2.out; have := HK2.out; omega
          case rel => exact ⟨(x6_2), (wrap64 (x21_2 + 1)), (by first | rfl | (simp; done) | (simp [*]; done)), H', ⟨by have := HJ2.out; have := HK2.out; omega⟩, ⟨by (with_reducible repeat (first | apply zC | apply zD | apply zE)); exact HO_6.out⟩, ⟨by (with_reducible repeat (first | apply zC | apply zD | apply zE)); exact HO_19.out⟩, ⟨by (with_reducible repeat (first | refine zg ?_ _ | refine zf ?_ | refine zh ?_ _)); exact BK101.out⟩, ⟨by repeat (first | (with_reducible first | exact HB.out | apply zc | apply zd | apply zb | refine ze ?_ GE101.out) | exact HB.out)⟩⟩
        ·
         rw [if_neg c19] at H
         exact absurd H (by simp)
       ·
        rw [if_neg c18] at H
        exact absurd H (by simp)
      ·
       rw [if_neg c17] at H
       have c17b0 : decide (x21_2 < (t104.length : Int)) = false := decide_eq_false c17
       clear c17
       simp only [Option.some.injEq, Prod.mk.injEq] at H
       obtain ⟨rfl, rfl⟩ := H
       go_wp2
       go_ret2
       exact ⟨_, by first | rfl | (simp [errW_none, errW_some] <;> rfl) | (simp [*, errW_none, errW_some] <;> rfl), by (with_reducible repeat (first | apply zC | apply zD | apply zE)); exact Kd.N_mono HO_6.out (fun _ hk => hk.1), by repeat (first | (with_reducible first | exact HB.out | apply zc | apply zd | apply zb | refine ze ?_ GE101.out) | exact HB.out)⟩
end Go.Proofs.Ytiopnmgcajohfaa.Q
end
section
namespace Go.Proofs.Ytiopnmgcajohfaa.Q
open Go.RowKit Go.Proofs.YtiopnmgcajohfaaW.PrintWords Go.Proofs.YtiopnmgcajohfaaW.PrintLast Go.Proofs.YtiopnmgcajohfaaW.PrintMore
attribute [local go_sem] max2_int min2_int max_two min_two max_three min_three max_four min_four   -- for this text's walks alone
set_option linter.unusedVariables false
set_option linter.unusedSimpArgs false
def spec_FirstHitting.f (k : Nat) (a0_0 : Int) (a0_1 : Int) (l0_2 : List Int) (a1 : Int) : Option (List Int × Bool) := (spec_PermutationsHitting.f k a0_0 a0_1 l0_2 a1).bind fun bt102 => (if bt102.2 = true then (if (bt102.1.length : Int) = 0 then (some (([] : List Int), false)) else (if 0 < (bt102.1.length : Int) then (some (rd_L1 bt102.1 0, true)) else (none))) else (some (([] : List Int), false)))
set_option maxHeartbeats 8000000 in
set_option maxRecDepth 100000 in
theorem spec_FirstHitting.calls (k : Nat) (a0_0 : Int) (a0_1 : Int) (A0_2 : Option Addr) (c0_2 : Nat) (l0_2 : List Int) (a1 : Int) (r1 : List Int) (r2 : Bool) (w : World) (hr0_2 : Kd.C (Kd.int .i64) w A0_2 l0_2.length l0_2) (hc0_2 : l0_2.length ≤ c0_2) (h : spec_FirstHitting.f k a0_0 a0_1 l0_2 a1 = some (r1, r2)) :
  Calls Try.prog 24 #[.agg #[.int .i64 a0_0, .int .i64 a0_1, .slice A0_2 l0_2.length c0_2], .int .i64 a1] w fun e w' => ∃ v0_ : Value, e = .returned (.tuple #[v0_, .bool r2]) ∧ Kd.V (Kd.int .i64) 3 w' w.heap.size (fun k_ => (w.heap.size ≤ k_)) v0_ r1 ∧ Below w.heap.size w w' := by
 have hu43 := Try.underlying43
 have HR0_2 := za hr0_2
 have HC0_2 := za hc0_2
 clear hr0_2 hc0_2
 have HB := za (Below.refl w.heap.size w)
 have H : ((spec_PermutationsHitting.f k a0_0 a0_1 l0_2 a1).bind fun bt102 => (if bt102.2 = true then (if (bt102.1.length : Int) = 0 then (some (([] : List Int), false)) else (if 0 < (bt102.1.length : Int) then (some (rd_L1 bt102.1 0, true)) else (none))) else (some (([] : List Int), false)))) = some (r1, r2) := h
 clear h
 replace H := Option.bind_eq_some_iff.mp H
 obtain ⟨⟨t102, t105⟩, A30, H⟩ := H
 replace H : (if t105 = true then (if (t102.length : Int) = 0 then (some (([] : List Int), false)) else (if 0 < (t102.length : Int) then (some (rd_L1 t102 0, true)) else (none))) else (some (([] : List Int), false))) = some (r1, r2) := H
 have A3 := za A30
 clear A30
 by_cases c4 : t105 = true
 ·
  subst c4
  have H1 : (if (t102.length : Int) = 0 then (some (([] : List Int), false)) else (if 0 < (t102.length : Int) then (some (rd_L1 t102 0, true)) else (none))) = some (r1, r2) := by rw [if_pos rfl] at H; exact H
  clear H
  have H := H1
  clear H1
  by_cases c5 : (t102.length : Int) = 0
  ·
   rw [if_pos c5] at H
   have c5b0 : ((t102.length : Int) == 0) = true := beq_iff_eq.mpr c5
   have c5b1 : ((t102.length : Int) != 0) = false := bne_eq_false_iff_eq.mpr c5
   clear c5
   simp only [Option.some.injEq, Prod.mk.injEq] at H
   obtain ⟨rfl, rfl⟩ := H
   go_enter Try.func24, Try.ntmps24
   go_wp2_with (first | ((with_reducible refine zF (N := 2) rfl ?_); refine zG ?hg (N := 2) ?hd (cs := #[.int .i64 a0_0, .int .i64 a0_1, .slice A0_2 l0_2.length c0_2]) (t := 43) ?hr ?_; (case hd => rfl); (case hg => rfl); (case hr => first | (go_simp; done) | (go_simp; rfl)); intro gb101 hg w6 hbox hb; have n0_ := za (zw (by repeat (first | (with_reducible first | exact HB.out | apply zc | apply zd | apply zb) | exact HB.out)) hb); have n1_ := za (hbox); have n2_ := za ((by rw [hg]; exact (zo (by repeat (first | (with_reducible first | exact HB.out | apply zc | apply zd | apply zb) | exact HB.out))) : w.heap.size ≤ gb101)); have n3_ := za ((by rw [hg]; exact (zo (by repeat (first | (with_reducible first | exact HB.out | apply zc | apply zd | apply zb) | exact HB.out))) : w.heap.size ≤ gb101)); clear HB; have HB := n0_; have BK101 := n1_; have GW101 := n2_; have GE101 := n3_; clear n0_ n1_ n2_ n3_; clear hb hbox hg; have hcz7_0 : w6.cell? ⟨gb101, 0, none⟩ = some (.int .i64 a0_0) := (zi BK101.out 0).trans rfl; have hcz7_1 : w6.cell? ⟨gb101, 1, none⟩ = some (.int .i64 a0_1) := (zi BK101.out 1).trans rfl; have hcz7_2 : w6.cell? ⟨gb101, 2, none⟩ = some (.slice A0_2 l0_2.length c0_2) := (zi BK101.out 2).trans rfl; have hfz7_0 := zj BK101.out 0; have hfz7_1 := zj BK101.out 1; have hfz7_2 := zj BK101.out 2) | ((with_reducible refine zy (f := 30) rfl ?_); refine goesL_ (some 11) rfl rfl Try.func30 (by kernel_rfl) rfl #[.agg #[.int .i64 a0_0, .int .i64 a0_1, .slice A0_2 l0_2.length c0_2], .int .i64 a1] rfl (by (try simp only [List.map_toArray, List.map_cons, List.map_nil]); first | done | rfl | (simp only [List.length_drop, List.length_take]; rfl)) ?_; (with_reducible refine (spec_PermutationsHitting.calls k a0_0 a0_1 _ _ l0_2 a1 t102 true _ ?side1 ?side2 A3.out).mono ?_); (case side1 => repeat (first | exact (Kd.C_below HR0_2.out HB.out) | (with_reducible refine zp ?_ _) | (with_reducible refine zq ?_ _) | (with_reducible refine zr ?_))); (case side2 => exact HC0_2.out); rintro e w8 ⟨v103, rfl, ho0, hb⟩; refine ⟨_, rfl, ?_⟩; have n0_ := za (Kd.N_lower (Kd.N_mono (ok' := fun k_ => (w.heap.size ≤ k_) ∧ k_ ≠ gb101) ho0 (fun k_ hk_ => ⟨(Nat.le_trans (zo (by repeat (first | (with_reducible first | exact HB.out | apply zc | apply zd | apply zb | refine ze ?_ GE101.out) | exact HB.out))) hk_), (Kd.freshB (g := gb101) (o := .cells #[.int .i64 a0_0, .int .i64 a0_1, .slice A0_2 l0_2.length c0_2] 43 (0, 0)) (by (with_reducible repeat (first | refine zg ?_ _ | refine zf ?_ | refine zh ?_ _)); exact BK101.out) k_ hk_)⟩)) (zo (by repeat (first | (with_reducible first | exact HB.out | apply zc | apply zd | apply zb | refine ze ?_ GE101.out) | exact HB.out)))); have n1_ := za (zA (g := gb101) (o := .cells #[.int .i64 a0_0, .int .i64 a0_1, .slice A0_2 l0_2.length c0_2] 43 (0, 0)) (by (with_reducible repeat (first | refine zg ?_ _ | refine zf ?_ | refine zh ?_ _)); exact BK101.out) hb); have n2_ := za (zw (by repeat (first | (with_reducible first | exact HB.out | apply zc | apply zd | apply zb | refine ze ?_ GE101.out) | exact HB.out)) hb); clear BK101 HB; have HO104 := n0_; have BK101 := n1_; have HB := n2_; clear n0_ n1_ n2_; (try clear hb); (try clear hb2); (try clear hk); (try clear hi); (try clear ho0); obtain ⟨Ao9, co9, eo9⟩ := Kd.N_slice HO104.out; subst eo9))
   go_ret2
   exact ⟨.slice none 0 0, by first | rfl | (simp [errW_none, errW_some] <;> rfl) | (simp [*, errW_none, errW_some] <;> rfl), Kd.V_nil _ _ _ _ _, by repeat (first | (with_reducible first | exact HB.out | apply zc | apply zd | apply zb | refine ze ?_ GE101.out) | exact HB.out)⟩
  ·
   rw [if_neg c5] at H
   have c5b0 : ((t102.length : Int) == 0) = false := beq_eq_false_iff_ne.mpr c5
   have c5b1 : ((t102.length : Int) != 0) = true := bne_iff_ne.mpr c5
   have c5b2 : ¬ (t102 = []) := fun h_ => c5 (by rw [h_]; rfl)
   by_cases c10 : 0 < (t102.length : Int)
   ·
    rw [if_pos c10] at H
    have c10b0 : decide (0 < (t102.length : Int)) = true := decide_eq_true c10
    have c10b1 : decide (0 < t102.length) = true := decide_eq_true (by omega)
    clear c10
    simp only [Option.some.injEq, Prod.mk.injEq] at H
    obtain ⟨rfl, rfl⟩ := H
    go_enter Try.func24, Try.ntmps24
    go_wp2_with (first | ((with_reducible refine zF (N := 2) rfl ?_); refine zG ?hg (N := 2) ?hd (cs := #[.int .i64 a0_0, .int .i64 a0_1, .slice A0_2 l0_2.length c0_2]) (t := 43) ?hr ?_; (case hd => rfl); (case hg => rfl); (case hr => first | (go_simp; done) | (go_simp; rfl)); intro gb101 hg w11 hbox hb; have n0_ := za (zw (by repeat (first | (with_reducible first | exact HB.out | apply zc | apply zd | apply zb) | exact HB.out)) hb); have n1_ := za (hbox); have n2_ := za ((by rw [hg]; exact (zo (by repeat (first | (with_reducible first | exact HB.out | apply zc | apply zd | apply zb) | exact HB.out))) : w.heap.size ≤ gb101)); have n3_ := za ((by rw [hg]; exact (zo (by repeat (first | (with_reducible first | exact HB.out | apply zc | apply zd | apply zb) | exact HB.out))) : w.heap.size ≤ gb101)); clear HB; have HB := n0_; have BK101 := n1_; have GW101 := n2_; have GE101 := n3_; clear n0_ n1_ n2_ n3_; clear hb hbox hg; have hcz12_0 : w11.cell? ⟨gb101, 0, none⟩ = some (.int .i64 a0_0) := (zi BK101.out 0).trans rfl; have hcz12_1 : w11.cell? ⟨gb101, 1, none⟩ = some (.int .i64 a0_1) := (zi BK101.out 1).trans rfl; have hcz12_2 : w11.cell? ⟨gb101, 2, none⟩ = some (.slice A0_2 l0_2.length c0_2) := (zi BK101.out 2).trans rfl; have hfz12_0 := zj BK101.out 0; have hfz12_1 := zj BK101.out 1; have hfz12_2 := zj BK101.out 2) | ((with_reducible refine zy (f := 30) rfl ?_); refine goesL_ (some 11) rfl rfl Try.func30 (by kernel_rfl) rfl #[.agg #[.int .i64 a0_0, .int .i64 a0_1, .slice A0_2 l0_2.length c0_2], .int .i64 a1] rfl (by (try simp only [List.map_toArray, List.map_cons, List.map_nil]); first | done | rfl | (simp only [List.length_drop, List.length_take]; rfl)) ?_; (with_reducible refine (spec_PermutationsHitting.calls k a0_0 a0_1 _ _ l0_2 a1 t102 true _ ?side1 ?side2 A3.out).mono ?_); (case side1 => repeat (first | exact (Kd.C_below HR0_2.out HB.out) | (with_reducible refine zp ?_ _) | (with_reducible refine zq ?_ _) | (with_reducible refine zr ?_))); (case side2 => exact HC0_2.out); rintro e w13 ⟨v103, rfl, ho0, hb⟩; refine ⟨_, rfl, ?_⟩; have n0_ := za (Kd.N_lower (Kd.N_mono (ok' := fun k_ => (w.heap.size ≤ k_) ∧ k_ ≠ gb101) ho0 (fun k_ hk_ => ⟨(Nat.le_trans (zo (by repeat (first | (with_reducible first | exact HB.out | apply zc | apply zd | apply zb | refine ze ?_ GE101.out) | exact HB.out))) hk_), (Kd.freshB (g := gb101) (o := .cells #[.int .i64 a0_0, .int .i64 a0_1, .slice A0_2 l0_2.length c0_2] 43 (0, 0)) (by (with_reducible repeat (first | refine zg ?_ _ | refine zf ?_ | refine zh ?_ _)); exact BK101.out) k_ hk_)⟩)) (zo (by repeat (first | (with_reducible first | exact HB.out | apply zc | apply zd | apply zb | refine ze ?_ GE101.out) | exact HB.out)))); have n1_ := za (zA (g := gb101) (o := .cells #[.int .i64 a0_0, .int .i64 a0_1, .slice A0_2 l0_2.length c0_2] 43 (0, 0)) (by (with_reducible repeat (first | refine zg ?_ _ | refine zf ?_ | refine zh ?_ _)); exact BK101.out) hb); have n2_ := za (zw (by repeat (first | (with_reducible first | exact HB.out | apply zc | apply zd | apply zb | refine ze ?_ GE101.out) | exact HB.out)) hb); clear BK101 HB; have HO104 := n0_; have BK101 := n1_; have HB := n2_; clear n0_ n1_ n2_; (try clear hb); (try clear hb2); (try clear hk); (try clear hi); (try clear ho0); obtain ⟨Ao14, co14, eo14⟩ := Kd.N_slice HO104.out; subst eo14; have p106 : 0 ≤ (0 : Int) := (by omega); have q106 : 0 < (t102.length : Int) := of_decide_eq_true (by first | (with_reducible assumption) | assumption); obtain ⟨ad106, A106_0, c106_0, e106, hx106_0, hl106_0, hi106_0⟩ := at_L1 (Kd.N_reads' HO104.out).2.2 0 p106 q106; cases e106; obtain ⟨ce106, hce106, hMe106, hcc106⟩ := Kd.N_get HO104.out [] 0 p106 (by first | exact q106 | exact of_decide_eq_true (by first | (with_reducible assumption) | assumption) | (have e_ := (Kd.N_reads' HO104.out).1; omega)); obtain ⟨ua106_0, uc106_0, rfl, ul106_0, ge106_0⟩ := Kd.FK_slice_open hMe106; have hv106_0 := hcc106 0 _ rfl; rw [Nat.add_zero, show ((Kd.slice 3 (Kd.int .i64))).sz = 1 from rfl, Nat.mul_one] at hv106_0; replace hv106_0 := Option.some.inj (hv106_0.symm.trans hx106_0); injection hv106_0 with hva_ hvn_ hvc_; rw [hva_] at ge106_0; rw [hvc_] at ul106_0; have HL106_0 := za (show Kd.V (Kd.int .i64) 3 _ w.heap.size _ _ (rd_L1 t102 0) from Kd.V_mk ul106_0 ge106_0); clear hva_ hvn_ hvc_ ge106_0 ul106_0; clear hcc106 hce106; have qi106 : (0 < t102.length) = True := eq_true (by omega); (try rw [show ((0 : Int)).toNat = 0 from rfl] at hx106_0); (try rw [Addr.add_zero'] at hx106_0); have HR106_0 := za hi106_0; have HC106_0 := za hl106_0; clear hi106_0 hl106_0; replace p106 := eq_true p106; replace q106 := eq_true q106))
    go_ret2
    exact ⟨_, by first | rfl | (simp [errW_none, errW_some] <;> rfl) | (simp [*, errW_none, errW_some] <;> rfl), by (with_reducible repeat (first | apply Kd.V_alloc | apply Kd.V_drewN | apply Kd.V_drew)); exact Kd.V_mono HL106_0.out (fun _ hk => hk.1.1), by repeat (first | (with_reducible first | exact HB.out | apply zc | apply zd | apply zb | refine ze ?_ GE101.out) | exact HB.out)⟩
   ·
    rw [if_neg c10] at H
    exact absurd H (by simp)
 ·
  replace c4 := Bool.eq_false_iff.mpr c4
  subst c4
  have H1 : (some (([] : List Int), false)) = some (r1, r2) := by rw [if_neg (show ¬ (false = true) by decide)] at H; exact H
  clear H
  have H := H1
  clear H1
  simp only [Option.some.injEq, Prod.mk.injEq] at H
  obtain ⟨rfl, rfl⟩ := H
  go_enter Try.func24, Try.ntmps24
  go_wp2_with (first | ((with_reducible refine zF (N := 2) rfl ?_); refine zG ?hg (N := 2) ?hd (cs := #[.int .i64 a0_0, .int .i64 a0_1, .slice A0_2 l0_2.length c0_2]) (t := 43) ?hr ?_; (case hd => rfl); (case hg => rfl); (case hr => first | (go_simp; done) | (go_simp; rfl)); intro gb101 hg w15 hbox hb; have n0_ := za (zw (by repeat (first | (with_reducible first | exact HB.out | apply zc | apply zd | apply zb) | exact HB.out)) hb); have n1_ := za (hbox); have n2_ := za ((by rw [hg]; exact (zo (by repeat (first | (with_reducible first | exact HB.out | apply zc | apply zd | apply zb) | exact HB.out))) : w.heap.size ≤ gb101)); have n3_ := za ((by rw [hg]; exact (zo (by repeat (first | (with_reducible first | exact HB.out | apply zc | apply zd | apply zb) | exact HB.out))) : w.heap.size ≤ gb101)); clear HB; have HB := n0_; have BK101 := n1_; have GW101 := n2_; have GE101 := n3_; clear n0_ n1_ n2_ n3_; clear hb hbox hg; have hcz16_0 : w15.cell? ⟨gb101, 0, none⟩ = some (.int .i64 a0_0) := (zi BK101.out 0).trans rfl; have hcz16_1 : w15.cell? ⟨gb101, 1, none⟩ = some (.int .i64 a0_1) := (zi BK101.out 1).trans rfl; have hcz16_2 : w15.cell? ⟨gb101, 2, none⟩ = some (.slice A0_2 l0_2.length c0_2) := (zi BK101.out 2).trans rfl; have hfz16_0 := zj BK101.out 0; have hfz16_1 := zj BK101.out 1; have hfz16_2 := zj BK101.out 2) | ((with_reducible refine zy (f := 30) rfl ?_); refine goesL_ (some 11) rfl rfl Try.func30 (by kernel_rfl) rfl #[.agg #[.int .i64 a0_0, .int .i64 a0_1, .slice A0_2 l0_2.length c0_2], .int .i64 a1] rfl (by (try simp only [List.map_toArray, List.map_cons, List.map_nil]); first | done | rfl | (simp only [List.length_drop, List.length_take]; rfl)) ?_; (with_reducible refine (spec_PermutationsHitting.calls k a0_0 a0_1 _ _ l0_2 a1 t102 false _ ?side1 ?side2 A3.out).mono ?_); (case side1 => repeat (first | exact (Kd.C_below HR0_2.out HB.out) | (with_reducible refine zp ?_ _) | (with_reducible refine zq ?_ _) | (with_reducible refine zr ?_))); (case side2 => exact HC0_2.out); rintro e w17 ⟨v103, rfl, ho0, hb⟩; refine ⟨_, rfl, ?_⟩; have n0_ := za (Kd.N_lower (Kd.N_mono (ok' := fun k_ => (w.heap.size ≤ k_) ∧ k_ ≠ gb101) ho0 (fun k_ hk_ => ⟨(Nat.le_trans (zo (by repeat (first | (with_reducible first | exact HB.out | apply zc | apply zd | apply zb | refine ze ?_ GE101.out) | exact HB.out))) hk_), (Kd.freshB (g := gb101) (o := .cells #[.int .i64 a0_0, .int .i64 a0_1, .slice A0_2 l0_2.length c0_2] 43 (0, 0)) (by (with_reducible repeat (first | refine zg ?_ _ | refine zf ?_ | refine zh ?_ _)); exact BK101.out) k_ hk_)⟩)) (zo (by repeat (first | (with_reducible first | exact HB.out | apply zc | apply zd | apply zb | refine ze ?_ GE101.out) | exact HB.out)))); have n1_ := za (zA (g := gb101) (o := .cells #[.int .i64 a0_0, .int .i64 a0_1, .slice A0_2 l0_2.length c0_2] 43 (0, 0)) (by (with_reducible repeat (first | refine zg ?_ _ | refine zf ?_ | refine zh ?_ _)); exact BK101.out) hb); have n2_ := za (zw (by repeat (first | (with_reducible first | exact HB.out | apply zc | apply zd | apply zb | refine ze ?_ GE101.out) | exact HB.out)) hb); clear BK101 HB; have HO104 := n0_; have BK101 := n1_; have HB := n2_; clear n0_ n1_ n2_; (try clear hb); (try clear hb2); (try clear hk); (try clear hi); (try clear ho0)))
  go_ret2
  exact ⟨.slice none 0 0, by first | rfl | (simp [errW_none, errW_some] <;> rfl) | (simp [*, errW_none, errW_some] <;> rfl), Kd.V_nil _ _ _ _ _, by repeat (first | (with_reducible first | exact HB.out | apply zc | apply zd | apply zb | refine ze ?_ GE101.out) | exact HB.out)⟩
end Go.Proofs.Ytiopnmgcajohfaa.Q
end
section
namespace Go.Proofs.YtiopnmgcajohfaaL
set_option linter.unusedVariables false
open Go.RowKit Go.Proofs.YtiopnmgcajohfaaW.PrintWords Go.Proofs.YtiopnmgcajohfaaW.PrintLast Go.Proofs.YtiopnmgcajohfaaW.PrintMore
theorem w64 {n : Int} (h1 : -9223372036854775808 ≤ n) (h2 : n ≤ 9223372036854775807) : wrap64 n = n := by
  unfold wrap64; omega
theorem wrap_i64' (n : Int) : IntKind.i64.wrap n = wrap64 n := by rw [IntKind.wrap_i64]; unfold wrap64; rfl
theorem wraps_i64 (n : Int) (h₀ : 0 ≤ n) (h₁ : n < 2 ^ 63) : IntKind.i64.wrap n = n := by rw [IntKind.wrap_i64]; omega
theorem and_nat (a b : Nat) (ha : a < 2 ^ 63) (hb : b < 2 ^ 63) : Go.bits .and .i64 (a : Int) (b : Int) = ((a &&& b : Nat) : Int) :=
  (bits_nat .i64 63 (by decide) wraps_i64 a b ha hb).1
theorem or_nat (a b : Nat) (ha : a < 2 ^ 63) (hb : b < 2 ^ 63) : Go.bits .or .i64 (a : Int) (b : Int) = ((a ||| b : Nat) : Int) :=
  (bits_nat .i64 63 (by decide) wraps_i64 a b ha hb).2
theorem shl_one (n : Nat) (h : n ≤ 62) : shl .i64 1 (n : Int) = ((2 ^ n : Nat) : Int) := by
  unfold shl
  have h1 : min (n : Int).toNat (IntKind.i64.bits) = n := by
    have : IntKind.i64.bits = 64 := rfl
    rw [this, Int.toNat_natCast]; omega
  rw [h1, Int.one_mul]
  have h2 : (2 : Nat) ^ n ≤ 2 ^ 62 := Nat.pow_le_pow_right (by decide) h
  have h3 : ((2 : Int) ^ n) = ((2 ^ n : Nat) : Int) := by simp
  rw [h3]
  refine wraps_i64 _ (Int.natCast_nonneg _) ?_
  have : (2 : Nat) ^ n < 2 ^ 63 := Nat.lt_of_le_of_lt h2 (by decide)
  exact_mod_cast this
theorem shr_nat (x n : Nat) (h : n ≤ 64) : shr .i64 (x : Int) (n : Int) = ((x >>> n : Nat) : Int) := by
  unfold shr
  have h1 : min (n : Int).toNat (IntKind.i64.bits) = n := by
    have : IntKind.i64.bits = 64 := rfl
    rw [this, Int.toNat_natCast]; omega
  rw [h1, Nat.shiftRight_eq_div_pow]
  have h3 : ((2 : Int) ^ n) = ((2 ^ n : Nat) : Int) := by simp
  rw [h3]; rfl
theorem bit_and (x n : Nat) (hx : x < 2 ^ 63) (h : n ≤ 64) : Go.bits .and .i64 (shr .i64 (x : Int) (n : Int)) 1 = if x.testBit n then 1 else 0 := by
  rw [shr_nat x n h]
  have hs : x >>> n < 2 ^ 63 := Nat.lt_of_le_of_lt (by rw [Nat.shiftRight_eq_div_pow]; exact Nat.div_le_self _ _) hx
  have := and_nat (x >>> n) 1 hs (by decide)
  rw [show ((1 : Nat) : Int) = 1 from rfl] at this
  rw [this, Nat.and_one_is_mod]
  rw [Nat.testBit, Nat.one_and_eq_mod_two]
  rcases Nat.mod_two_eq_zero_or_one (x >>> n) with h | h <;> simp [h]
theorem bit_mod (x n : Nat) (h : n ≤ 64) : Int.tmod (shr .i64 (x : Int) (n : Int)) 2 = if x.testBit n then 1 else 0 := by
  rw [shr_nat x n h]
  rw [Nat.testBit, Nat.one_and_eq_mod_two]
  rw [Int.tmod_eq_emod_of_nonneg (Int.natCast_nonneg _), show ((x >>> n : Nat) : Int) % 2 = ((x >>> n % 2 : Nat) : Int) from rfl]
  rcases Nat.mod_two_eq_zero_or_one (x >>> n) with h | h <;> simp [h]
theorem gD_lt {α : Type} (xs : List α) (d : α) {i : Nat} (h : i < xs.length) : xs.getD i d = xs[i] := by simp [List.getD, h]
theorem rd_nat (xs : List Int) (i : Nat) : rd xs (i : Int) = xs.getD i 0 := by unfold rd; rw [Int.toNat_natCast]
theorem rd_lt (xs : List Int) (i : Nat) (h : i < xs.length) : rd xs (i : Int) = xs[i] := by
  rw [rd_nat]; simp [List.getD, h]
end Go.Proofs.YtiopnmgcajohfaaL
end
section
namespace Go.Proofs.Ytiopnmgcajohfaa.Q
open Go.RowKit Go.Proofs.YtiopnmgcajohfaaW.PrintWords Go.Proofs.YtiopnmgcajohfaaW.PrintLast Go.Proofs.YtiopnmgcajohfaaW.PrintMore
open Go.Proofs.YtiopnmgcajohfaaL
set_option linter.unusedVariables false
theorem run_eql_slice_nil_ {w : World} (a : Option Addr) (l c : Nat) : (binOp .eql 28 (.slice a l c) (.slice none 0 0)).run Try.prog w = .ok (.bool a.isNone) w := by
  simp only [binOp]
  simp [run_equal_slice_nil _ _ _ _ _ _ Try.underlying28]
attribute [local go_sem] run_eql_slice_nil_
def slices_Clone_int_int.f (l0 : List Int) : Option (List Int) := if l0.length < 17592186044416 then some l0 else none
set_option maxHeartbeats 8000000 in
set_option maxRecDepth 100000 in
theorem slices_Clone_int_int.calls (A0 : Option Addr) (c0 : Nat) (l0 : List Int) (r : List Int) (w : World) (hr0 : Kd.C (Kd.int .i64) w A0 l0.length l0) (hc0 : l0.length ≤ c0) (h : slices_Clone_int_int.f l0 = some r) :
    Calls Try.prog 81 #[.slice A0 l0.length c0] w fun e w' => ∃ v0_ : Value, e = .returned (v0_) ∧ Kd.R (Kd.int .i64) 3 w' w.heap.size (fun _ => True) v0_ r ∧ Below w.heap.size w w' := by
  rw [slices_Clone_int_int.f] at h
  by_cases c2 : l0.length < 17592186044416
  rotate_left
  · rw [if_neg c2] at h; cases h
  rw [if_pos c2] at h
  obtain rfl := Option.some.inj h
  clear h
  cases A0 with
  | none =>
    have hl : l0 = [] := by
      cases l0 with
      | nil => rfl
      | cons a t =>
        obtain ⟨ad, e, _⟩ := Kd.at_int hr0 0 (by omega) (by simp)
        cases e
    subst hl
    have hu22 := Try.underlying28
    clear hr0 c2
    go_enter Try.func81, Try.ntmps81
    go_wp2
    go_ret
    exact ⟨_, rfl, Kd.R_nil _ _ _ _ _, by repeat (first | exact Below.refl _ _ | apply below_alloc | apply pw_below_drewN | apply below_drew1)⟩
  | some ad =>
    have HR0 := Aside0.mk hr0
    have HC0 := Aside0.mk hc0
    have HB := Aside0.mk (Below.refl w.heap.size w)
    have LMc2 := Aside0.mk c2
    obtain ⟨y101, hy101⟩ : ∃ y_ : List Int, y_ = (([] : List Int)) := ⟨_, rfl⟩
    have Ny101 := Aside0.mk hy101
    obtain ⟨y104, hy104⟩ : ∃ y_ : List Int, y_ = (y101 ++ l0) := ⟨_, rfl⟩
    have Ny104 := Aside0.mk hy104
    have LL := Aside0.mk (show y101.length = 0 by rw [hy101]; rfl)
    have E104 := Aside0.mk (show y104 = l0 by rw [hy104, hy101]; rfl)
    have hu22 := Try.underlying28
    clear hy101 hy104 hr0 hc0 c2
    go_enter Try.func81, Try.ntmps81
    go_wp2_with (first | ((with_reducible refine gate_dst (N := 5) rfl ?_); refine Kd.R_lit (Kd.int .i64) _ 3 ?hg (N := 5) ?hd (xs := ([] : List Int)) (inner := []) (ok := fun _ => True) (okp := fun _ => True) ?hr ?hp (fun _ hk => hk) trivial (Below.refl _ _) (Nat.le_refl _) (by simp) ?_; (case hd => rfl); (case hg => rfl); (case hr => first | (go_simp; done) | (go_simp; rfl)); (case hp => exact (Reps.none _ _)); intro v102 w3 ho4 hb hg_ hnew_; clear hg_ hnew_; (first | rw [← Ny101.out] at ho4 | (simp only [Int.reduceToNat] at ho4; rw [← Ny101.out] at ho4)); have n0_ := Aside0.mk (Kd.R_lower ho4 (below_size (by repeat (first | (with_reducible first | exact HB.out | apply below_alloc | apply pw_below_drewN | apply below_drew1) | exact HB.out)))); have n1_ := Aside0.mk (below_step (by repeat (first | (with_reducible first | exact HB.out | apply below_alloc | apply pw_below_drewN | apply below_drew1) | exact HB.out)) hb); clear HB; have HO103 := n0_; have HB := n1_; clear n0_ n1_; clear hb ho4) | ((with_reducible refine gate_builtin (b := .append) (xs := #[.tmp 5, .tmp 6]) rfl ?_); at_builtin; refine Kd.R_append_rows (Kd.int .i64) (w0 := w) w.heap.size rfl (.tmp 5) (.tmp 6) 28 3 (.int .i64 0) 8 rfl Try.underlying28 info3 rfl (by decide) (by omega) v102 y101 l0 _ _ _ (fun _ => True) (fun _ => False) rfl rfl ?aO ?aR (fun _ _ h => h) (fun _ h => h.elim) ?aF ?aB ?aS ?aL ?_; (case aR => repeat (first | exact (Kd.C_below HR0.out HB.out) | (with_reducible refine Kd.C_alloc ?_ _) | (with_reducible refine Kd.C_drewN ?_ _) | (with_reducible refine Kd.C_drew ?_))); (case aB => exact (by repeat (first | (with_reducible first | exact HB.out | apply below_alloc | apply pw_below_drewN | apply below_drew1) | exact HB.out))); (case aF => exact (fun _ _ => trivial)); (case aO => exact (by (with_reducible repeat (first | apply Kd.R_alloc | apply Kd.R_drewN | apply Kd.R_drew)); exact HO103.out)); (case aS => exact (below_size (by repeat (first | (with_reducible first | exact HB.out | apply below_alloc | apply pw_below_drewN | apply below_drew1) | exact HB.out)))); (case aL => have := LMc2.out; have := LL.out; omega); intro v105 w5 ho hb hg hat; rw [← Ny104.out] at ho; have n0_ := Aside0.mk (hb); have n1_ := Aside0.mk (ho); clear HB; clear HO103; have HB := n0_; have HO106 := n1_; clear n0_ n1_; clear ho hb hg hat))
    go_ret
    exact ⟨_, by first | rfl | (simp [errW_none, errW_some] <;> rfl) | (simp [*, errW_none, errW_some] <;> rfl), by rw [← E104.out]; (with_reducible repeat (first | apply Kd.R_alloc | apply Kd.R_drewN | apply Kd.R_drew)); exact HO106.out, by repeat (first | (with_reducible first | exact HB.out | apply below_alloc | apply pw_below_drewN | apply below_drew1) | exact HB.out)⟩
end Go.Proofs.Ytiopnmgcajohfaa.Q
end
section
namespace Go.Proofs.Ytiopnmgcajohfaa.Q
open Go.RowKit Go.Proofs.YtiopnmgcajohfaaW.PrintWords Go.Proofs.YtiopnmgcajohfaaW.PrintLast Go.Proofs.YtiopnmgcajohfaaW.PrintMore
attribute [local go_sem] max2_int min2_int max_two min_two max_three min_three max_four min_four   -- for this text's walks alone
set_option linter.unusedVariables false
set_option linter.unusedSimpArgs false
def impl_within.f (a0 : Int) (a1 : Int) (a2 : Int) : Option (Bool) := if a1 ≤ a0 then (some (decide (a0 ≤ a2))) else (some false)
set_option maxHeartbeats 8000000 in
set_option maxRecDepth 100000 in
theorem impl_within.calls (a0 : Int) (a1 : Int) (a2 : Int) (r : Bool) (w : World) (h : impl_within.f a0 a1 a2 = some r) :
  Calls Try.prog 79 #[.int .i64 a0, .int .i64 a1, .int .i64 a2] w fun e w' => e = .returned (.bool r) ∧ Drawn0 w w' := by
 have H : (if a1 ≤ a0 then (some (decide (a0 ≤ a2))) else (some false)) = some r := h
 clear h
 by_cases c4 : a1 ≤ a0
 ·
  rw [if_pos c4] at H
  have c4b0 : decide (a1 ≤ a0) = true := decide_eq_true c4
  clear c4
  obtain rfl := Option.some.inj H
  go_enter Try.func79, Try.ntmps79
  go_wp2
  go_ret
  exact ⟨by first | rfl | (simp; done) | (simp [*]; done), by repeat (first | exact Drawn0.refl _ | apply Drawn0.step)⟩
 ·
  rw [if_neg c4] at H
  have c4b0 : decide (a1 ≤ a0) = false := decide_eq_false c4
  clear c4
  obtain rfl := Option.some.inj H
  go_enter Try.func79, Try.ntmps79
  go_wp2
  go_ret
  exact ⟨by first | rfl | (simp; done) | (simp [*]; done), by repeat (first | exact Drawn0.refl _ | apply Drawn0.step)⟩
set_option maxHeartbeats 8000000 in
set_option maxRecDepth 100000 in
theorem impl_within.calls0 (a0 : Int) (a1 : Int) (a2 : Int) (r : Bool) (w : World) (h : impl_within.f a0 a1 a2 = some r) :
  Calls Try.prog 79 #[.int .i64 a0, .int .i64 a1, .int .i64 a2] w fun e w' => e = .returned (.bool r) ∧ w = w' := by
 have H : (if a1 ≤ a0 then (some (decide (a0 ≤ a2))) else (some false)) = some r := h
 clear h
 by_cases c4 : a1 ≤ a0
 ·
  rw [if_pos c4] at H
  have c4b0 : decide (a1 ≤ a0) = true := decide_eq_true c4
  clear c4
  obtain rfl := Option.some.inj H
  go_enter Try.func79, Try.ntmps79
  go_wp2
  go_ret
  exact ⟨by first | rfl | (simp; done) | (simp [*]; done), rfl⟩
 ·
  rw [if_neg c4] at H
  have c4b0 : decide (a1 ≤ a0) = false := decide_eq_false c4
  clear c4
  obtain rfl := Option.some.inj H
  go_enter Try.func79, Try.ntmps79
  go_wp2
  go_ret
  exact ⟨by first | rfl | (simp; done) | (simp [*]; done), rfl⟩
end Go.Proofs.Ytiopnmgcajohfaa.Q
end
section
namespace Go.Proofs.Ytiopnmgcajohfaa.Q
open Go.RowKit Go.Proofs.YtiopnmgcajohfaaW.PrintWords Go.Proofs.YtiopnmgcajohfaaW.PrintLast Go.Proofs.YtiopnmgcajohfaaW.PrintMore
attribute [local go_sem] max2_int min2_int max_two min_two max_three min_three max_four min_four   -- for this text's walks alone
set_option linter.unusedVariables false
set_option linter.unusedSimpArgs false
def impl_isSide.f (a0 : Int) : Option (Bool) := (impl_within.f a0 1 6).bind fun t101 => (some t101)
set_option maxHeartbeats 8000000 in
set_option maxRecDepth 100000 in
theorem impl_isSide.calls (a0 : Int) (r : Bool) (w : World) (h : impl_isSide.f a0 = some r) :
  Calls Try.prog 104 #[.int .i64 a0] w fun e w' => e = .returned (.bool r) ∧ Drawn0 w w' := by
 have H : ((impl_within.f a0 1 6).bind fun t101 => (some t101)) = some r := h
 clear h
 replace H := Option.bind_eq_some_iff.mp H
 obtain ⟨t101, A20, H⟩ := H
 replace H : (some t101) = some r := H
 have A2 := za A20
 clear A20
 obtain rfl := Option.some.inj H
 go_enter Try.func104, Try.ntmps104
 go_wp2_with (first | ((with_reducible refine zy (f := 79) rfl ?_); refine goesL_ (some 4) rfl rfl Try.func79 (by kernel_rfl) rfl #[.int .i64 a0, .int .i64 1, .int .i64 6] rfl (by (try simp only [List.map_toArray, List.map_cons, List.map_nil]); first | done | rfl | (simp only [List.length_drop, List.length_take]; rfl)) ?_; (with_reducible refine (impl_within.calls a0 1 6 t101 _ A2.out).mono ?_); rintro e w' ⟨rfl, ⟨nd, rfl⟩⟩; refine ⟨_, rfl, ?_⟩))
 go_ret
 exact ⟨by first | rfl | (simp; done) | (simp [*]; done), by repeat (first | exact Drawn0.refl _ | apply Drawn0.step)⟩
end Go.Proofs.Ytiopnmgcajohfaa.Q
end
section
namespace Go.Proofs.Ytiopnmgcajohfaa.Q
open Go.RowKit Go.Proofs.YtiopnmgcajohfaaW.PrintWords Go.Proofs.YtiopnmgcajohfaaW.PrintLast Go.Proofs.YtiopnmgcajohfaaW.PrintMore
open Go.Proofs.YtiopnmgcajohfaaL
set_option linter.unusedVariables false
def rowIn (c : Int) (m : Int) : Bool := decide (0 ≤ m ∧ m ≤ 2 ^ c.toNat - 1)
def isBoardB (r c : Int) (l : List Int) : Bool := decide (1 ≤ r ∧ r ≤ 6 ∧ 1 ≤ c ∧ c ≤ 6 ∧ (l.length : Int) = r) && l.all (rowIn c)
theorem within_f (a b c : Int) : impl_within.f a b c = some (decide (b ≤ a ∧ a ≤ c)) := by
  unfold impl_within.f
  by_cases h : b ≤ a
  · rw [if_pos h]; simp [h]
  · rw [if_neg h]; simp [h]
theorem isSide_f (a : Int) : impl_isSide.f a = some (decide (1 ≤ a ∧ a ≤ 6)) := by
  unfold impl_isSide.f; rw [within_f]; rfl
set_option maxHeartbeats 1000000 in
theorem isBoard1 (m c : Int) (B : Nat) (w : World) (hc : w.cell? ⟨B, 1, none⟩ = some (.int .i64 c)) (h1 : 1 ≤ c) (h6 : c ≤ 6) :
    Calls Try.prog 148 #[.int .i64 m, .pointer (some ⟨B, 0, none⟩)] w fun e w' => e = .returned (.bool (!rowIn c m)) ∧ Drawn0 w w' := by
  have key : ∀ x : Int, x = 2 ^ c.toNat - 1 → Aside0 (impl_within.f m 0 x = some (rowIn c m)) := fun x hx => ⟨by rw [hx]; exact within_f m 0 _⟩
  obtain rfl | rfl | rfl | rfl | rfl | rfl : c = 1 ∨ c = 2 ∨ c = 3 ∨ c = 4 ∨ c = 5 ∨ c = 6 := by omega
  all_goals
    have K := key _ rfl
    clear key
    generalize rowIn _ m = rr at K ⊢
    simp only [Int.reduceToNat, Int.reducePow, Int.reduceSub] at K
    go_enter Try.func148, Try.ntmps148
    go_wp2_with (first | (go_at_call 79; (refine (impl_within.calls m 0 _ rr _ K.out).mono ?_); rintro e w' ⟨rfl, ⟨nd, rfl⟩⟩))
    go_ret
    exact ⟨rfl, by repeat (first | exact Drawn0.refl _ | apply Drawn0.step)⟩
def idxB (c : Int) : List Int → Int → Int
  | [], _ => -1
  | x :: t, i => if rowIn c x = true then idxB c t (i + 1) else i
theorem idxB_neg (c : Int) : ∀ (l : List Int) (i : Int), 0 ≤ i → decide (0 ≤ idxB c l i) = !l.all (rowIn c)
  | [], _, _ => rfl
  | x :: t, i, h => by
    rw [idxB, List.all_cons]
    by_cases hx : rowIn c x = true
    · rw [if_pos hx, idxB_neg c t (i + 1) (by omega), hx, Bool.true_and]
    · rw [if_neg hx]; simp [hx, h]
set_option maxHeartbeats 1000000 in
theorem isBoardIndex (A0 : Option Addr) (c0 : Nat) (l0 : List Int) (c : Int) (B : Nat) (w : World) (hr0 : Kd.C (Kd.int .i64) w A0 l0.length l0) (hc0 : l0.length ≤ c0) (hlen : l0.length ≤ 6)
    (hc : w.cell? ⟨B, 1, none⟩ = some (.int .i64 c)) (h1 : 1 ≤ c) (h6 : c ≤ 6) :
    Calls Try.prog 154 #[.slice A0 l0.length c0, .func (.func 148) #[] #[.pointer (some ⟨B, 0, none⟩)]] w fun e w' => e = .returned (.int .i64 (idxB c l0 0)) ∧ Drawn0 w w' := by
  have HR0 := Aside0.mk hr0
  have HC0 := Aside0.mk hc0
  have HL := Aside0.mk hlen
  have HC := Aside0.mk hc
  have H1 := Aside0.mk h1
  have H6 := Aside0.mk h6
  clear hr0 hc0 hlen hc h1 h6
  obtain ⟨r, hr⟩ : ∃ r, r = idxB c l0 0 := ⟨_, rfl⟩
  rw [← hr]
  have HR := Aside0.mk hr
  clear hr
  go_enter Try.func154, Try.ntmps154
  go_wp2
  go_loopg [8] l0.length (fun kq v8 w' => ∃ (x8_1 : Int), v8 = .int .i64 x8_1 ∧ Aside0 (∃ i : Nat, x8_1 = i ∧ i + kq = l0.length ∧ idxB c (l0.drop i) i = r) ∧ Drawn0 w w')
  case atStart => exact ⟨(0), rfl, ⟨0, rfl, by omega, by rw [HR.out]; rfl⟩, by repeat (first | exact Drawn0.refl _ | apply Drawn0.step)⟩
  case round =>
    obtain ⟨x8_1, rfl, HI, ⟨m1, rfl⟩⟩ := hrel
    by_cases c3 : x8_1 < (l0.length : Int)
    · have c4b0 : decide (0 ≤ x8_1) = true := decide_eq_true (by obtain ⟨i, h, _⟩ := HI.out; omega)
      have c3b0 : decide (x8_1 < (l0.length : Int)) = true := decide_eq_true c3
      cases gk with
      | zero => exact absurd HI.out (by rintro ⟨i, h, h', _⟩; omega)
      | succ k1 =>
        clear c3
        have p101 : 0 ≤ (x8_1 : Int) := of_decide_eq_true (by first | (with_reducible assumption) | assumption)
        have q101 : x8_1 < (l0.length : Int) := of_decide_eq_true (by first | (with_reducible assumption) | assumption)
        have HX : Aside0 (∃ i : Nat, x8_1 = i ∧ i + k1 + 1 = l0.length ∧ (if rowIn c (rd l0 x8_1) = true then idxB c (l0.drop (i + 1)) (i + 1) else i) = r) := ⟨by
          obtain ⟨i, h, h', h3⟩ := HI.out
          refine ⟨i, h, by omega, ?_⟩
          rw [List.drop_eq_getElem_cons (by omega), idxB] at h3
          rw [h, rd_lt _ _ (by omega)]
          exact h3⟩
        clear HI
        obtain ⟨ad101, e101, hx101_0⟩ := Kd.at_int HR0.out x8_1 p101 q101
        cases e101
        replace p101 := eq_true p101
        replace q101 := eq_true q101
        by_cases cr : rowIn c (rd l0 x8_1) = true
        · have HB : Aside0 ((!rowIn c (rd l0 x8_1)) = false) := ⟨by rw [cr]; rfl⟩
          have HX2 : Aside0 (∃ i : Nat, wrap64 (x8_1 + 1) = i ∧ i + k1 = l0.length ∧ idxB c (l0.drop i) i = r) := ⟨by
            obtain ⟨i, h, h', h3⟩ := HX.out
            rw [if_pos cr] at h3
            have := HL.out
            refine ⟨i + 1, by rw [w64 (by omega) (by omega)]; omega, by omega, h3⟩⟩
          clear HX cr
          have CC : ∀ W : World, (∃ q, W = w.drewN q) → Calls Try.prog 148 #[.int .i64 (rd l0 x8_1), .pointer (some ⟨B, 0, none⟩)] W fun e w' => e = .returned (.bool false) ∧ Drawn0 W w' := by
            rintro W ⟨q, rfl⟩
            have := isBoard1 (rd l0 x8_1) c B (w.drewN q) HC.out H1.out H6.out
            rw [HB.out] at this
            exact this
          have CX := Lib.hid CC
          clear CC
          go_wp2_with (first | (go_at_call 148; (refine (CX.out _ ⟨_, rfl⟩).mono ?_); rintro e w' ⟨rfl, ⟨nd, rfl⟩⟩))
          go_roundg k1
          case measure => omega
          case rel => exact ⟨(wrap64 (x8_1 + 1)), (by first | rfl | (simp; done) | (simp [*]; done)), HX2, by repeat (first | exact Drawn0.refl _ | apply Drawn0.step)⟩
        · have HB : Aside0 ((!rowIn c (rd l0 x8_1)) = true) := ⟨by simp [cr]⟩
          have HX2 : Aside0 (x8_1 = r) := ⟨by
            obtain ⟨i, h, h', h3⟩ := HX.out
            rw [if_neg cr] at h3
            omega⟩
          clear HX cr
          have CC : ∀ W : World, (∃ q, W = w.drewN q) → Calls Try.prog 148 #[.int .i64 (rd l0 x8_1), .pointer (some ⟨B, 0, none⟩)] W fun e w' => e = .returned (.bool true) ∧ Drawn0 W w' := by
            rintro W ⟨q, rfl⟩
            have := isBoard1 (rd l0 x8_1) c B (w.drewN q) HC.out H1.out H6.out
            rw [HB.out] at this
            exact this
          have CX := Lib.hid CC
          clear CC
          go_wp2_with (first | (go_at_call 148; (refine (CX.out _ ⟨_, rfl⟩).mono ?_); rintro e w' ⟨rfl, ⟨nd, rfl⟩⟩))
          go_ret
          exact ⟨by rw [HX2.out]; rfl, by repeat (first | exact Drawn0.refl _ | apply Drawn0.step)⟩
    · have c3b0 : decide (x8_1 < (l0.length : Int)) = false := decide_eq_false c3
      have HX2 : Aside0 (-1 = r) := ⟨by
        obtain ⟨i, h, h', h3⟩ := HI.out
        rw [List.drop_eq_nil_of_le (by omega), idxB] at h3
        exact h3⟩
      clear c3 HI
      go_wp2
      go_ret
      exact ⟨by rw [HX2.out]; rfl, by repeat (first | exact Drawn0.refl _ | apply Drawn0.step)⟩
theorem isBoardContains (A0 : Option Addr) (c0 : Nat) (l0 : List Int) (c : Int) (B : Nat) (w : World) (hr0 : Kd.C (Kd.int .i64) w A0 l0.length l0) (hc0 : l0.length ≤ c0) (hlen : l0.length ≤ 6)
    (hc : w.cell? ⟨B, 1, none⟩ = some (.int .i64 c)) (h1 : 1 ≤ c) (h6 : c ≤ 6) :
    Calls Try.prog 147 #[.slice A0 l0.length c0, .func (.func 148) #[] #[.pointer (some ⟨B, 0, none⟩)]] w fun e w' => e = .returned (.bool (!l0.all (rowIn c))) ∧ Drawn0 w w' := by
  have C := isBoardIndex A0 c0 l0 c B w hr0 hc0 hlen hc h1 h6
  have N := Aside0.mk (idxB_neg c l0 0 (Int.le_refl _))
  have CX := Lib.hid C
  clear C hr0 hc0 hlen hc h1 h6
  rw [← N.out]
  clear N
  go_enter Try.func147, Try.ntmps147
  go_wp2_with (first | (go_at_call 154; (refine CX.out.mono ?_); rintro e w' ⟨rfl, ⟨nd, rfl⟩⟩))
  go_ret
  exact ⟨by first | rfl | (simp; done), by repeat (first | exact Drawn0.refl _ | apply Drawn0.step)⟩
def impl_IsBoard.f (a0_0 : Int) (a0_1 : Int) (l0_2 : List Int) : Option (Bool) := some (isBoardB a0_0 a0_1 l0_2)
set_option maxHeartbeats 1000000 in
theorem impl_IsBoard.calls (a0_0 : Int) (a0_1 : Int) (A0_2 : Option Addr) (c0_2 : Nat) (l0_2 : List Int) (r : Bool) (w : World) (hr0_2 : Kd.C (Kd.int .i64) w A0_2 l0_2.length l0_2) (hc0_2 : l0_2.length ≤ c0_2) (h : impl_IsBoard.f a0_0 a0_1 l0_2 = some r) :
    Calls Try.prog 117 #[.agg #[.int .i64 a0_0, .int .i64 a0_1, .slice A0_2 l0_2.length c0_2]] w fun e w' => e = .returned (.bool r) ∧ Below w.heap.size w w' := by
  have hB := Option.some.inj h
  clear h
  unfold isBoardB at hB
  have s1 := Aside0.mk (isSide_f a0_0)
  have s2 := Aside0.mk (isSide_f a0_1)
  by_cases h1 : 1 ≤ a0_0 ∧ a0_0 ≤ 6
  · rw [decide_eq_true h1] at s1
    by_cases h2 : 1 ≤ a0_1 ∧ a0_1 ≤ 6
    · rw [decide_eq_true h2] at s2
      by_cases h3 : (l0_2.length : Int) = a0_0
      · have e : r = l0_2.all (rowIn a0_1) := by rw [← hB, decide_eq_true ⟨h1.1, h1.2, h2.1, h2.2, h3⟩, Bool.true_and]
        have t1 : ((l0_2.length : Int) != a0_0) = false := bne_eq_false_iff_eq.mpr h3
        have C : ∀ W : World, Kd.C (Kd.int .i64) W A0_2 l0_2.length l0_2 → W.cell? ⟨w.heap.size, 1, none⟩ = some (.int .i64 a0_1) → Calls Try.prog 147 #[.slice A0_2 l0_2.length c0_2, .func (.func 148) #[] #[.pointer (some ⟨w.heap.size, 0, none⟩)]] W fun e w' => e = .returned (.bool (!r)) ∧ Drawn0 W w' := by
          intro W hW hcell
          rw [e]
          exact isBoardContains A0_2 c0_2 l0_2 a0_1 w.heap.size W hW hc0_2 (by omega) hcell h2.1 h2.2
        have CX := Lib.hid C
        have HR := Aside0.mk hr0_2
        clear C hr0_2 hc0_2 h1 h2 h3 e hB
        go_enter Try.func117, Try.ntmps117
        go_wp2_with (first | (go_at_call 104; (with_reducible refine (impl_isSide.calls a0_0 true _ s1.out).mono ?_); rintro e w' ⟨rfl, ⟨nd, rfl⟩⟩) | (go_at_call 104; (with_reducible refine (impl_isSide.calls a0_1 true _ s2.out).mono ?_); rintro e w' ⟨rfl, ⟨nd, rfl⟩⟩) | (go_at_call 147; (refine (CX.out _ ?side1 ?side2).mono ?_); (case side1 => repeat (first | exact HR.out | (with_reducible refine Kd.C_alloc ?_ _) | (with_reducible refine Kd.C_drewN ?_ _) | (with_reducible refine Kd.C_drew ?_))); (case side2 => first | rfl | (simp; done)); rintro e w' ⟨rfl, ⟨nd, rfl⟩⟩))
        go_ret
        exact ⟨by first | rfl | (simp; done), by repeat (first | exact Below.refl _ _ | apply below_alloc | apply pw_below_drewN | apply below_drew1)⟩
      · have e : r = false := by rw [← hB, decide_eq_false (fun hh => h3 hh.2.2.2.2), Bool.false_and]
        have t1 : ((l0_2.length : Int) != a0_0) = true := bne_iff_ne.mpr h3
        subst e
        clear hr0_2 hc0_2 h1 h2 h3 hB
        go_enter Try.func117, Try.ntmps117
        go_wp2_with (first | (go_at_call 104; (with_reducible refine (impl_isSide.calls a0_0 true _ s1.out).mono ?_); rintro e w' ⟨rfl, ⟨nd, rfl⟩⟩) | (go_at_call 104; (with_reducible refine (impl_isSide.calls a0_1 true _ s2.out).mono ?_); rintro e w' ⟨rfl, ⟨nd, rfl⟩⟩))
        go_ret
        exact ⟨by first | rfl | (simp; done), by repeat (first | exact Below.refl _ _ | apply below_alloc | apply pw_below_drewN | apply below_drew1)⟩
    · rw [decide_eq_false h2] at s2
      have e : r = false := by rw [← hB, decide_eq_false (fun hh => h2 ⟨hh.2.2.1, hh.2.2.2.1⟩), Bool.false_and]
      subst e
      clear hr0_2 hc0_2 h1 h2 hB
      go_enter Try.func117, Try.ntmps117
      go_wp2_with (first | (go_at_call 104; (with_reducible refine (impl_isSide.calls a0_0 true _ s1.out).mono ?_); rintro e w' ⟨rfl, ⟨nd, rfl⟩⟩) | (go_at_call 104; (with_reducible refine (impl_isSide.calls a0_1 false _ s2.out).mono ?_); rintro e w' ⟨rfl, ⟨nd, rfl⟩⟩))
      go_ret
      exact ⟨by first | rfl | (simp; done), by repeat (first | exact Below.refl _ _ | apply below_alloc | apply pw_below_drewN | apply below_drew1)⟩
  · rw [decide_eq_false h1] at s1
    have e : r = false := by rw [← hB, decide_eq_false (fun hh => h1 ⟨hh.1, hh.2.1⟩), Bool.false_and]
    subst e
    clear hr0_2 hc0_2 h1 hB s2
    go_enter Try.func117, Try.ntmps117
    go_wp2_with (first | (go_at_call 104; (with_reducible refine (impl_isSide.calls a0_0 false _ s1.out).mono ?_); rintro e w' ⟨rfl, ⟨nd, rfl⟩⟩))
    go_ret
    exact ⟨by first | rfl | (simp; done), by repeat (first | exact Below.refl _ _ | apply below_alloc | apply pw_below_drewN | apply below_drew1)⟩
end Go.Proofs.Ytiopnmgcajohfaa.Q
end
section
namespace Go.Proofs.Ytiopnmgcajohfaa.Q
open Go.RowKit Go.Proofs.YtiopnmgcajohfaaW.PrintWords Go.Proofs.YtiopnmgcajohfaaW.PrintLast Go.Proofs.YtiopnmgcajohfaaW.PrintMore
attribute [local go_sem] max2_int min2_int max_two min_two max_three min_three max_four min_four   -- for this text's walks alone
set_option linter.unusedVariables false
set_option linter.unusedSimpArgs false
def impl_Board_has.f (a0_0 : Int) (a0_1 : Int) (l0_2 : List Int) (a1 : Int) (a2 : Int) : Option (Bool) := if 0 ≤ a1 then (if a1 < (l0_2.length : Int) then (if 0 ≤ a2 then (some ((Go.bits .and .i64 (shr .i64 (rd l0_2 a1) a2) 1) == 1)) else (none)) else (none)) else (none)
set_option maxHeartbeats 8000000 in
set_option maxRecDepth 100000 in
theorem impl_Board_has.calls (a0_0 : Int) (a0_1 : Int) (A0_2 : Option Addr) (c0_2 : Nat) (l0_2 : List Int) (a1 : Int) (a2 : Int) (r : Bool) (w : World) (hr0_2 : Kd.C (Kd.int .i64) w A0_2 l0_2.length l0_2) (hc0_2 : l0_2.length ≤ c0_2) (h : impl_Board_has.f a0_0 a0_1 l0_2 a1 a2 = some r) :
  Calls Try.prog 136 #[.agg #[.int .i64 a0_0, .int .i64 a0_1, .slice A0_2 l0_2.length c0_2], .int .i64 a1, .int .i64 a2] w fun e w' => e = .returned (.bool r) ∧ Below w.heap.size w w' := by
 have hu43 := Try.underlying43
 have HR0_2 := za hr0_2
 have HC0_2 := za hc0_2
 clear hr0_2 hc0_2
 have HB := za (Below.refl w.heap.size w)
 have H : (if 0 ≤ a1 then (if a1 < (l0_2.length : Int) then (if 0 ≤ a2 then (some ((Go.bits .and .i64 (shr .i64 (rd l0_2 a1) a2) 1) == 1)) else (none)) else (none)) else (none)) = some r := h
 clear h
 by_cases c4 : 0 ≤ a1
 ·
  rw [if_pos c4] at H
  have c4b0 : decide (0 ≤ a1) = true := decide_eq_true c4
  clear c4
  by_cases c5 : a1 < (l0_2.length : Int)
  ·
   rw [if_pos c5] at H
   have c5b0 : decide (a1 < (l0_2.length : Int)) = true := decide_eq_true c5
   clear c5
   by_cases c6 : 0 ≤ a2
   ·
    rw [if_pos c6] at H
    have c6b0 := eq_true c6
    have c6b1 : decide (0 ≤ a2) = true := decide_eq_true c6
    clear c6
    obtain ⟨ji7, hji7⟩ : ∃ j_ : Int, (shr .i64 (rd l0_2 a1) a2) = j_ := ⟨_, rfl⟩
    replace H : (some ((Go.bits .and .i64 (ji7) 1) == 1)) = some r := by first | (rw [hji7] at H; exact H) | (simp only [hji7] at H ⊢; exact H)
    have hji7_ : ((rd l0_2 a1) / 2 ^ min a2.toNat 64) = ji7 := hji7
    have hji7z : a2 ≤ 64 → ((rd l0_2 a1) / 2 ^ a2.toNat) = ji7 := shr_small hji7
    obtain rfl := Option.some.inj H
    go_enter Try.func136, Try.ntmps136
    go_wp2_with (first | ((with_reducible refine zF (N := 3) rfl ?_); refine zG ?hg (N := 3) ?hd (cs := #[.int .i64 a0_0, .int .i64 a0_1, .slice A0_2 l0_2.length c0_2]) (t := 43) ?hr ?_; (case hd => rfl); (case hg => rfl); (case hr => first | (go_simp; done) | (go_simp; rfl)); intro gb101 hg w8 hbox hb; have n0_ := za (zw (by repeat (first | (with_reducible first | exact HB.out | apply zc | apply zd | apply zb) | exact HB.out)) hb); have n1_ := za (hbox); have n2_ := za ((by rw [hg]; exact (zo (by repeat (first | (with_reducible first | exact HB.out | apply zc | apply zd | apply zb) | exact HB.out))) : w.heap.size ≤ gb101)); have n3_ := za ((by rw [hg]; exact (zo (by repeat (first | (with_reducible first | exact HB.out | apply zc | apply zd | apply zb) | exact HB.out))) : w.heap.size ≤ gb101)); clear HB; have HB := n0_; have BK101 := n1_; have GW101 := n2_; have GE101 := n3_; clear n0_ n1_ n2_ n3_; clear hb hbox hg; have hcz9_0 : w8.cell? ⟨gb101, 0, none⟩ = some (.int .i64 a0_0) := (zi BK101.out 0).trans rfl; have hcz9_1 : w8.cell? ⟨gb101, 1, none⟩ = some (.int .i64 a0_1) := (zi BK101.out 1).trans rfl; have hcz9_2 : w8.cell? ⟨gb101, 2, none⟩ = some (.slice A0_2 l0_2.length c0_2) := (zi BK101.out 2).trans rfl; have hfz9_0 := zj BK101.out 0; have hfz9_1 := zj BK101.out 1; have hfz9_2 := zj BK101.out 2; have p102 : 0 ≤ (a1 : Int) := of_decide_eq_true (by first | (with_reducible assumption) | assumption); have q102 : a1 < (l0_2.length : Int) := of_decide_eq_true (by first | (with_reducible assumption) | assumption); obtain ⟨ad102, e102, hx102_0⟩ := Kd.at_int HR0_2.out a1 p102 q102; cases e102; replace hx102_0 := (HB.out.cell (World.block_lt_of_cell? w _ hx102_0)).trans hx102_0; replace p102 := eq_true p102; replace q102 := eq_true q102))
    go_ret
    exact ⟨by first | rfl | (simp [errW_none, errW_some] <;> rfl) | (simp only [← hji7]; first | rfl | (simp [errW_none, errW_some] <;> rfl)) | (simp [*, errW_none, errW_some] <;> rfl), by repeat (first | (with_reducible first | exact HB.out | apply zc | apply zd | apply zb | refine ze ?_ GE101.out) | exact HB.out)⟩
   ·
    rw [if_neg c6] at H
    exact absurd H (by simp)
  ·
   rw [if_neg c5] at H
   exact absurd H (by simp)
 ·
  rw [if_neg c4] at H
  exact absurd H (by simp)
end Go.Proofs.Ytiopnmgcajohfaa.Q
end
section
namespace Go.Proofs.Ytiopnmgcajohfaa.Q
open Go.RowKit Go.Proofs.YtiopnmgcajohfaaW.PrintWords Go.Proofs.YtiopnmgcajohfaaW.PrintLast Go.Proofs.YtiopnmgcajohfaaW.PrintMore
attribute [local go_sem] max2_int min2_int max_two min_two max_three min_three max_four min_four   -- for this text's walks alone
set_option linter.unusedVariables false
set_option linter.unusedSimpArgs false
def laws_toIntS.l0 : Nat → List Int → List Int → Int → Option (List Int)
 | 0, _, _, _ => none
 | k + 1, x0, x3, x4 => if x4 < (x0.length : Int) then (if 0 ≤ x4 then (if x4 < (x3.length : Int) then (laws_toIntS.l0 k x0 (x3.set (x4 : Int).toNat (rd x0 x4)) (wrap64 (x4 + 1))) else (none)) else (none)) else (some x3)
def laws_toIntS.f (k : Nat) (l0 : List Int) : Option (List Int) := if 0 ≤ (l0.length : Int) then (if ((l0.length : Int) : Int).toNat ≤ 35184372088832 then (laws_toIntS.l0 k l0 (List.replicate ((l0.length : Int) : Int).toNat 0) 0) else (none)) else (none)
end Go.Proofs.Ytiopnmgcajohfaa.Q
end
section
namespace Go.Proofs.Ytiopnmgcajohfaa.Q
open Go.RowKit Go.Proofs.YtiopnmgcajohfaaW.PrintWords Go.Proofs.YtiopnmgcajohfaaW.PrintLast Go.Proofs.YtiopnmgcajohfaaW.PrintMore
attribute [local go_sem] max2_int min2_int max_two min_two max_three min_three max_four min_four   -- for this text's walks alone
set_option linter.unusedVariables false
set_option linter.unusedSimpArgs false
def laws_toBoard.f (k : Nat) (a0_0 : Int) (a0_1 : Int) (l0_2 : List Int) : Option (Int × Int × List Int) := (laws_toIntS.f k l0_2).bind fun t104 => (some (a0_0, a0_1, t104))
end Go.Proofs.Ytiopnmgcajohfaa.Q
end
section
namespace Go.Proofs.Ytiopnmgcajohfaa.Q
open Go.RowKit Go.Proofs.YtiopnmgcajohfaaW.PrintWords Go.Proofs.YtiopnmgcajohfaaW.PrintLast Go.Proofs.YtiopnmgcajohfaaW.PrintMore
attribute [local go_sem] max2_int min2_int max_two min_two max_three min_three max_four min_four   -- for this text's walks alone
set_option linter.unusedVariables false
set_option linter.unusedSimpArgs false
def laws_szIntS.f (l0 : List Int) (a1 : Int) : Option (Int) := if (wrap64 (a1 - (l0.length : Int))) < 0 then (some (-1)) else (some (wrap64 (a1 - (l0.length : Int))))
end Go.Proofs.Ytiopnmgcajohfaa.Q
end
section
namespace Go.Proofs.Ytiopnmgcajohfaa.Q
open Go.RowKit Go.Proofs.YtiopnmgcajohfaaW.PrintWords Go.Proofs.YtiopnmgcajohfaaW.PrintLast Go.Proofs.YtiopnmgcajohfaaW.PrintMore
attribute [local go_sem] max2_int min2_int max_two min_two max_three min_three max_four min_four   -- for this text's walks alone
set_option linter.unusedVariables false
set_option linter.unusedSimpArgs false
def laws_szBoard.f (a0_0 : Int) (a0_1 : Int) (l0_2 : List Int) (a1 : Int) : Option (Int) := (laws_szIntS.f l0_2 a1).bind fun t102 => (if t102 < 0 then (some (-1)) else (some t102))
end Go.Proofs.Ytiopnmgcajohfaa.Q
end
section
namespace Go.Proofs.Ytiopnmgcajohfaa.Q
open Go.RowKit Go.Proofs.YtiopnmgcajohfaaW.PrintWords Go.Proofs.YtiopnmgcajohfaaW.PrintLast Go.Proofs.YtiopnmgcajohfaaW.PrintMore
attribute [local go_sem] max2_int min2_int max_two min_two max_three min_three max_four min_four   -- for this text's walks alone
set_option linter.unusedVariables false
set_option linter.unusedSimpArgs false
def laws_eqIntS.l0 : Nat → List Int → List Int → Int → Option (Bool)
 | 0, _, _, _ => none
 | k + 1, x0, x1, x5 => if x5 < (x0.length : Int) then (if 0 ≤ x5 then (if x5 < (x1.length : Int) then (if (rd x0 x5) = (rd x1 x5) then (laws_eqIntS.l0 k x0 x1 (wrap64 (x5 + 1))) else (some false)) else (none)) else (none)) else (some true)
def laws_eqIntS.f (k : Nat) (l0 : List Int) (l1 : List Int) : Option (Bool) := if (l0.length : Int) = (l1.length : Int) then (laws_eqIntS.l0 k l0 l1 0) else (some false)
end Go.Proofs.Ytiopnmgcajohfaa.Q
end
section
namespace Go.Proofs.Ytiopnmgcajohfaa.Q
open Go.RowKit Go.Proofs.YtiopnmgcajohfaaW.PrintWords Go.Proofs.YtiopnmgcajohfaaW.PrintLast Go.Proofs.YtiopnmgcajohfaaW.PrintMore
attribute [local go_sem] max2_int min2_int max_two min_two max_three min_three max_four min_four   -- for this text's walks alone
set_option linter.unusedVariables false
set_option linter.unusedSimpArgs false
def laws_eqBoard.f (k : Nat) (a0_0 : Int) (a0_1 : Int) (l0_2 : List Int) (a1_0 : Int) (a1_1 : Int) (l1_2 : List Int) : Option (Bool) := if a0_0 = a1_0 then (if a0_1 = a1_1 then ((laws_eqIntS.f k l0_2 l1_2).bind fun t103 => (if t103 = true then (some true) else (some false))) else (some false)) else (some false)
end Go.Proofs.Ytiopnmgcajohfaa.Q
end
section
namespace Go.Proofs.Ytiopnmgcajohfaa.Q
open Go.RowKit Go.Proofs.YtiopnmgcajohfaaW.PrintWords Go.Proofs.YtiopnmgcajohfaaW.PrintLast Go.Proofs.YtiopnmgcajohfaaW.PrintMore
attribute [local go_sem] max2_int min2_int max_two min_two max_three min_three max_four min_four   -- for this text's walks alone
set_option linter.unusedVariables false
set_option linter.unusedSimpArgs false
def laws_markIntS.l0 : Nat → List Int → Int → Int → Option (Int × List Int)
 | 0, _, _, _ => none
 | k + 1, x0, x1, x5 => if x5 < (x0.length : Int) then (if 0 ≤ x5 then (laws_markIntS.l0 k (x0.set (x5 : Int).toNat x1) (wrap64 (x1 + 1)) (wrap64 (x5 + 1))) else (none)) else (some (x1, x0))
def laws_markIntS.f (k : Nat) (l0 : List Int) (a1 : Int) : Option (Int × List Int) := laws_markIntS.l0 k l0 a1 0
end Go.Proofs.Ytiopnmgcajohfaa.Q
end
section
namespace Go.Proofs.Ytiopnmgcajohfaa.Q
open Go.RowKit Go.Proofs.YtiopnmgcajohfaaW.PrintWords Go.Proofs.YtiopnmgcajohfaaW.PrintLast Go.Proofs.YtiopnmgcajohfaaW.PrintMore
attribute [local go_sem] max2_int min2_int max_two min_two max_three min_three max_four min_four   -- for this text's walks alone
set_option linter.unusedVariables false
set_option linter.unusedSimpArgs false
def laws_heldIntS.l0 : Nat → List Int → Int → Int → Option (Int)
 | 0, _, _, _ => none
 | k + 1, x0, x1, x5 => if x5 < (x0.length : Int) then (if 0 ≤ x5 then (if (rd x0 x5) = x1 then (laws_heldIntS.l0 k x0 (wrap64 (x1 + 1)) (wrap64 (x5 + 1))) else (some (-1))) else (none)) else (some x1)
def laws_heldIntS.f (k : Nat) (l0 : List Int) (a1 : Int) : Option (Int) := laws_heldIntS.l0 k l0 a1 0
end Go.Proofs.Ytiopnmgcajohfaa.Q
end
section
namespace Go.Proofs.Ytiopnmgcajohfaa.LawK
set_option linter.unusedVariables false
open Go.RowKit Go.Proofs.Ytiopnmgcajohfaa.Q Go.Proofs.YtiopnmgcajohfaaW.PrintWords Go.Proofs.YtiopnmgcajohfaaW.PrintLast Go.Proofs.YtiopnmgcajohfaaW.PrintMore
open Go.Proofs.YtiopnmgcajohfaaL
theorem toIntS_l0 {l : List Int} (hl : l.length ≤ 1048576) : ∀ (d i : Nat) (x : List Int), i + d = l.length → x.length = l.length → x.take i = l.take i → Ev (fun k => laws_toIntS.l0 k l x i) l
  | 0, i, x, hi, hx, ht => by
    refine Ev.step (f := fun _ => some l) (fun k => ?_) (Ev.now _)
    rw [laws_toIntS.l0, if_neg (by omega)]
    rw [List.take_of_length_le (by omega), List.take_of_length_le (by omega)] at ht
    rw [ht]
  | d + 1, i, x, hi, hx, ht => by
    have h1 : wrap64 ((i : Int) + 1) = ((i + 1 : Nat) : Int) := by rw [w64 (by omega) (by omega)]; rfl
    refine Ev.step (fun k => ?_) (toIntS_l0 hl d (i + 1) (x.set i l[i]) (by omega) (by simpa using hx) ?_)
    · rw [laws_toIntS.l0, if_pos (by omega), if_pos (by omega), if_pos (by omega), h1, rd_lt _ _ (by omega), Int.toNat_natCast]
    · rw [List.take_succ_eq_append_getElem (by simp; omega), List.take_succ_eq_append_getElem (by omega), List.take_set_of_le (by omega), ht]
      simp
theorem toIntS {l : List Int} (hl : l.length ≤ 1048576) : Ev (fun k => laws_toIntS.f k l) l := by
  refine Ev.congr (fun k => ?_) (toIntS_l0 hl l.length 0 (List.replicate l.length 0) (by omega) (by simp) (by simp))
  unfold laws_toIntS.f
  rw [if_pos (by omega), Int.toNat_natCast, if_pos (by omega)]; rfl
theorem eqIntS_l0 {a b : List Int} (hl : a.length ≤ 9223372036854775806) (h : a.length = b.length) : ∀ (d i : Nat), i + d = a.length → a.take i = b.take i → Ev (fun k => laws_eqIntS.l0 k a b i) (decide (a = b))
  | 0, i, hi, ht => by
    refine Ev.step (f := fun _ => some (decide (a = b))) (fun k => ?_) (Ev.now _)
    rw [laws_eqIntS.l0, if_neg (by omega)]
    rw [List.take_of_length_le (by omega), List.take_of_length_le (by omega)] at ht
    simp [ht]
  | d + 1, i, hi, ht => by
    have h1 : wrap64 ((i : Int) + 1) = ((i + 1 : Nat) : Int) := by rw [w64 (by omega) (by omega)]; rfl
    by_cases e : a[i] = b[i]
    · refine Ev.step (fun k => ?_) (eqIntS_l0 hl h d (i + 1) (by omega) ?_)
      · rw [laws_eqIntS.l0, if_pos (by omega), if_pos (by omega), if_pos (by omega), h1, rd_lt _ _ (by omega), rd_lt _ _ (by omega), if_pos e]
      · rw [List.take_succ_eq_append_getElem (by omega), List.take_succ_eq_append_getElem (by omega), ht, e]
    · refine Ev.step (f := fun _ => some (decide (a = b))) (fun k => ?_) (Ev.now _)
      rw [laws_eqIntS.l0, if_pos (by omega), if_pos (by omega), if_pos (by omega), rd_lt _ _ (by omega), rd_lt _ _ (by omega), if_neg e]
      have : a ≠ b := fun hab => e (by simp [hab])
      simp [this]
theorem eqIntS {a b : List Int} (hl : a.length ≤ 9223372036854775806) : Ev (fun k => laws_eqIntS.f k a b) (decide (a = b)) := by
  by_cases h : a.length = b.length
  · refine Ev.congr (fun k => ?_) (eqIntS_l0 hl h a.length 0 (by omega) (by simp))
    unfold laws_eqIntS.f
    rw [if_pos (by omega)]; rfl
  · refine Ev.congr (f := fun _ => some (decide (a = b))) (fun k => ?_) (Ev.now _)
    unfold laws_eqIntS.f
    rw [if_neg (by omega)]
    have : a ≠ b := fun hab => h (by simp [hab])
    simp [this]
def iota : Int → Nat → List Int
  | _, 0 => []
  | m, n + 1 => m :: iota (m + 1) n
theorem iota_length : ∀ (m : Int) (n : Nat), (iota m n).length = n
  | _, 0 => rfl
  | m, n + 1 => by rw [iota, List.length_cons, iota_length]
theorem iota_get : ∀ (n : Nat) (m : Int) (i : Nat) (h : i < (iota m n).length), (iota m n)[i] = m + i
  | 0, _, _, h => by simp [iota] at h
  | n + 1, m, 0, _ => by simp [iota]
  | n + 1, m, i + 1, h => by
    have := iota_get n (m + 1) i (by simpa [iota] using h)
    simp only [iota, List.getElem_cons_succ, this]; omega
theorem iota_snoc : ∀ (n : Nat) (m : Int), iota m (n + 1) = iota m n ++ [m + n]
  | 0, m => by simp [iota]
  | n + 1, m => by
    rw [iota, iota_snoc n (m + 1), iota, List.cons_append]
    congr 2
    simp; omega
theorem markIntS_l0 {n : Nat} {m : Int} (h0 : 0 ≤ m) (hm : m + n ≤ 4611686018427387904) : ∀ (d i : Nat) (x : List Int), i + d = n → x.length = n → x.take i = iota m i → Ev (fun k => laws_markIntS.l0 k x (m + i) i) (m + n, iota m n)
  | 0, i, x, hi, hx, ht => by
    refine Ev.step (f := fun _ => some (m + n, iota m n)) (fun k => ?_) (Ev.now _)
    rw [laws_markIntS.l0, if_neg (by omega)]
    obtain rfl : i = n := by omega
    rw [List.take_of_length_le (by omega)] at ht
    rw [ht]
  | d + 1, i, x, hi, hx, ht => by
    have h1 : wrap64 ((i : Int) + 1) = ((i + 1 : Nat) : Int) := by rw [w64 (by omega) (by omega)]; rfl
    have h2 : wrap64 (m + (i : Int) + 1) = m + ((i + 1 : Nat) : Int) := by rw [w64 (by omega) (by omega)]; omega
    refine Ev.step (fun k => ?_) (markIntS_l0 h0 hm d (i + 1) (x.set i (m + i)) (by omega) (by simpa using hx) ?_)
    · rw [laws_markIntS.l0, if_pos (by omega), if_pos (by omega), h1, h2, Int.toNat_natCast]
    · rw [List.take_succ_eq_append_getElem (by simp; omega), List.take_set_of_le (by omega), ht, iota_snoc]
      simp
theorem markIntS (l : List Int) {m : Int} (h0 : 0 ≤ m) (hm : m + l.length ≤ 4611686018427387904) : Ev (fun k => laws_markIntS.f k l m) (m + l.length, iota m l.length) := by
  refine Ev.congr (fun k => ?_) (markIntS_l0 h0 hm l.length 0 l (by omega) rfl (by simp [iota]))
  unfold laws_markIntS.f
  simp
theorem heldIntS_l0 {n : Nat} {m : Int} (h0 : 0 ≤ m) (hm : m + n ≤ 4611686018427387904) : ∀ (d i : Nat), i + d = n → Ev (fun k => laws_heldIntS.l0 k (iota m n) (m + i) i) (m + n)
  | 0, i, hi => by
    refine Ev.step (f := fun _ => some (m + n)) (fun k => ?_) (Ev.now _)
    rw [laws_heldIntS.l0, iota_length, if_neg (by omega)]
    obtain rfl : i = n := by omega
    rfl
  | d + 1, i, hi => by
    have h1 : wrap64 ((i : Int) + 1) = ((i + 1 : Nat) : Int) := by rw [w64 (by omega) (by omega)]; rfl
    have h2 : wrap64 (m + (i : Int) + 1) = m + ((i + 1 : Nat) : Int) := by rw [w64 (by omega) (by omega)]; omega
    refine Ev.step (fun k => ?_) (heldIntS_l0 h0 hm d (i + 1) (by omega))
    rw [laws_heldIntS.l0, iota_length, if_pos (by omega), if_pos (by omega), rd_lt _ _ (by rw [iota_length]; omega), iota_get, if_pos rfl, h1, h2]
theorem heldIntS (n : Nat) {m : Int} (h0 : 0 ≤ m) (hm : m + n ≤ 4611686018427387904) : Ev (fun k => laws_heldIntS.f k (iota m n) m) (m + n) := by
  refine Ev.congr (fun k => ?_) (heldIntS_l0 h0 hm n 0 (by omega))
  unfold laws_heldIntS.f
  simp
theorem ends {g : Nat → Option Bool} (h : Ev g true) : ∃ k, g k = some true := h.rounds
end Go.Proofs.Ytiopnmgcajohfaa.LawK
end
section
namespace Go.Proofs.Ytiopnmgcajohfaa.BoardK
set_option linter.unusedVariables false
open Go.RowKit Go.Proofs.Ytiopnmgcajohfaa.Q Go.Proofs.YtiopnmgcajohfaaW.PrintWords Go.Proofs.YtiopnmgcajohfaaW.PrintLast Go.Proofs.YtiopnmgcajohfaaW.PrintMore
open Go.Proofs.YtiopnmgcajohfaaL Go.Proofs.Ytiopnmgcajohfaa.LawK
def inR (lo hi x : Int) : Bool := decide (lo ≤ x ∧ x ≤ hi)
theorem l1In_f (a b c : Int) : spec_l1In.f a b c = some (inR b c a) := by
  unfold spec_l1In.f inR
  by_cases h : a ≥ b
  · rw [if_pos h]; simp [h]
  · rw [if_neg h]; congr 1; exact (decide_eq_false (by omega)).symm
theorem l1All_l0 {l : List Int} (lo hi : Int) (hl : l.length ≤ 4611686018427387904) : ∀ (d i : Nat), i + d = l.length → Ev (fun k => spec_l1All.l0 k lo hi l (l.length : Int) i) ((l.drop i).all (inR lo hi))
  | 0, i, hi' => by
    refine Ev.step (f := fun _ => some ((l.drop i).all (inR lo hi))) (fun k => ?_) (Ev.now _)
    rw [spec_l1All.l0, if_neg (by omega), List.drop_eq_nil_of_le (by omega)]; rfl
  | d + 1, i, hi' => by
    have h1 : wrap64 ((i : Int) + 1) = ((i + 1 : Nat) : Int) := by rw [w64 (by omega) (by omega)]; rfl
    have hi2 : i < l.length := by omega
    rw [List.drop_eq_getElem_cons hi2, List.all_cons]
    by_cases e : inR lo hi l[i] = true
    · rw [e, Bool.true_and]
      refine Ev.step (fun k => ?_) (l1All_l0 lo hi hl d (i + 1) (by omega))
      rw [spec_l1All.l0, if_pos (by omega), if_pos (by omega), if_pos (by omega), l1In_f, Option.bind_some, rd_lt _ _ hi2, if_pos e, h1]
    · have e' : inR lo hi l[i] = false := by simpa using e
      rw [e', Bool.false_and]
      refine Ev.step (f := fun _ => some false) (fun k => ?_) (Ev.now _)
      rw [spec_l1All.l0, if_pos (by omega), if_pos (by omega), if_pos (by omega), l1In_f, Option.bind_some, rd_lt _ _ hi2, if_neg e]
theorem l1All {l : List Int} (lo hi : Int) (hl : l.length ≤ 4611686018427387904) : Ev (fun k => spec_l1All.f k l lo hi) (l.all (inR lo hi)) := by
  refine Ev.congr (fun k => ?_) (l1All_l0 lo hi hl l.length 0 (by omega))
  unfold spec_l1All.f; rfl
theorem boSide_f (a : Int) : spec_boSide.f a = some (inR 1 6 a) := by unfold spec_boSide.f; rw [l1In_f]; rfl
theorem rowIn_inR {c : Int} : rowIn c = inR 0 (2 ^ c.toNat - 1) := rfl
theorem boGood {l : List Int} (r c : Int) (hl : l.length ≤ 4611686018427387904) : Ev (fun k => spec_boGood.f k r c l) (isBoardB r c l) := by
  unfold spec_boGood.f
  by_cases h1 : 1 ≤ r ∧ r ≤ 6
  · refine Ev.congr (fun k => by rw [boSide_f, Option.bind_some, if_pos (show inR 1 6 r = true from decide_eq_true h1)]) ?_
    by_cases h2 : 1 ≤ c ∧ c ≤ 6
    · refine Ev.congr (fun k => by rw [boSide_f, Option.bind_some, if_pos (show inR 1 6 c = true from decide_eq_true h2)]) ?_
      by_cases h3 : (l.length : Int) = r
      · refine Ev.congr (fun k => by rw [if_pos h3, if_pos (by omega : 0 ≤ c)]) ?_
        have e : wrap64 (shl .i64 1 c - 1) = 2 ^ c.toNat - 1 := by
          obtain ⟨n, rfl⟩ : ∃ n : Nat, c = n := ⟨c.toNat, by omega⟩
          have h4 : 2 ^ n ≤ 2 ^ 6 := Nat.pow_le_pow_right (by decide) (by omega)
          have h5 : 0 < 2 ^ n := Nat.two_pow_pos n
          rw [shl_one n (by omega), w64 (by omega) (by omega), Int.toNat_natCast]; simp
        have eb : isBoardB r c l = l.all (inR 0 (2 ^ c.toNat - 1)) := by
          unfold isBoardB
          rw [decide_eq_true ⟨h1.1, h1.2, h2.1, h2.2, h3⟩, Bool.true_and, rowIn_inR]
        rw [e, eb]
        exact Ev.bind (l1All _ _ hl) (Ev.now _)
      · have eb : isBoardB r c l = false := by unfold isBoardB; rw [decide_eq_false (fun h => h3 h.2.2.2.2), Bool.false_and]
        rw [eb]
        exact Ev.congr (fun k => by rw [if_neg h3]) (Ev.now _)
    · have eb : isBoardB r c l = false := by unfold isBoardB; rw [decide_eq_false (fun h => h2 ⟨h.2.2.1, h.2.2.2.1⟩), Bool.false_and]
      rw [eb]
      exact Ev.congr (fun k => by rw [boSide_f, Option.bind_some, if_neg (by simp [inR, h2])]) (Ev.now _)
  · have eb : isBoardB r c l = false := by unfold isBoardB; rw [decide_eq_false (fun h => h1 ⟨h.1, h.2.1⟩), Bool.false_and]
    rw [eb]
    exact Ev.congr (fun k => by rw [boSide_f, Option.bind_some, if_neg (by simp [inR, h1])]) (Ev.now _)
def cell (l : List Int) (r c : Nat) : Bool := (l.getD r 0).toNat.testBit c
theorem board_of {r c : Int} {l : List Int} (h : isBoardB r c l = true) : ∃ R C : Nat, r = R ∧ c = C ∧ l.length = R ∧ 1 ≤ R ∧ R ≤ 6 ∧ 1 ≤ C ∧ C ≤ 6 ∧ ∀ i (hi : i < l.length), 0 ≤ l[i] ∧ l[i] < 2 ^ C := by
  unfold isBoardB at h
  simp only [Bool.and_eq_true, decide_eq_true_eq, List.all_eq_true] at h
  obtain ⟨⟨h1, h2, h3, h4, h5⟩, h6⟩ := h
  refine ⟨r.toNat, c.toNat, by omega, by omega, by omega, by omega, by omega, by omega, by omega, fun i hi => ?_⟩
  have := h6 l[i] (List.getElem_mem hi)
  unfold rowIn at this
  simp only [decide_eq_true_eq] at this
  omega
theorem two_pow_six {C : Nat} (h : C ≤ 6) : (2 : Int) ^ C ≤ 64 := by
  have : 2 ^ C ≤ 2 ^ 6 := Nat.pow_le_pow_right (by decide) h
  exact_mod_cast this
theorem boHas_f {l : List Int} (r c : Int) {i j : Nat} (hi : i < l.length) (h0 : 0 ≤ l[i]) (h1 : l[i] < 64) (hj : j ≤ 64) : spec_boHas.f r c l i j = some (cell l i j) := by
  unfold spec_boHas.f
  rw [if_pos (by omega), if_pos (by omega), if_pos (by omega), rd_lt _ _ hi]
  obtain ⟨m, hm⟩ : ∃ m : Nat, l[i] = m := ⟨l[i].toNat, by omega⟩
  rw [hm, bit_mod m j hj]
  unfold cell
  rw [gD_lt _ _ hi, hm, Int.toNat_natCast]
  by_cases hb : m.testBit j = true <;> simp [hb]
theorem has_f {l : List Int} (r c : Int) {i j : Nat} (hi : i < l.length) (h0 : 0 ≤ l[i]) (h1 : l[i] < 64) (hj : j ≤ 64) : impl_Board_has.f r c l i j = some (cell l i j) := by
  unfold impl_Board_has.f
  rw [if_pos (by omega), if_pos (by omega), if_pos (by omega), rd_lt _ _ hi]
  obtain ⟨m, hm⟩ : ∃ m : Nat, l[i] = m := ⟨l[i].toNat, by omega⟩
  rw [hm, bit_and m j (by omega) hj]
  unfold cell
  rw [gD_lt _ _ hi, hm, Int.toNat_natCast]
  by_cases hb : m.testBit j = true <;> simp [hb]
theorem toBoard (r c : Int) {l : List Int} (hl : l.length ≤ 1048576) : Ev (fun k => laws_toBoard.f k r c l) (r, c, l) := by
  unfold laws_toBoard.f
  exact Ev.bind (toIntS hl) (Ev.now _)
theorem szBoard_f (r c : Int) (l : List Int) (hl : l.length * 8 ≤ 140737488351232) : laws_szBoard.f r c l 1048576 = some (if l.length ≤ 1048576 then 1048576 - (l.length : Int) else -1) := by
  unfold laws_szBoard.f laws_szIntS.f
  rw [w64 (by omega) (by omega)]
  by_cases h : l.length ≤ 1048576
  · rw [if_neg (by omega), Option.bind_some, if_neg (by omega), if_pos h]
  · rw [if_pos (by omega), Option.bind_some, if_pos (by omega), if_neg h]
theorem eqBoard (r c : Int) {l : List Int} (hl : l.length ≤ 9223372036854775806) : Ev (fun k => laws_eqBoard.f k r c l r c l) true := by
  unfold laws_eqBoard.f
  refine Ev.congr (fun k => by rw [if_pos rfl, if_pos rfl]) ?_
  refine Ev.bind (eqIntS hl) ?_
  exact Ev.congr (fun k => by rw [if_pos (by simp)]) (Ev.now _)
end Go.Proofs.Ytiopnmgcajohfaa.BoardK
end
section
namespace Go.Proofs.Ytiopnmgcajohfaa.Walk
set_option linter.unusedVariables false
open Go.RowKit Go.Proofs.YtiopnmgcajohfaaW.PrintWords Go.Proofs.YtiopnmgcajohfaaW.PrintLast Go.Proofs.YtiopnmgcajohfaaW.PrintMore
open Go.Proofs.YtiopnmgcajohfaaL Go.Proofs.Ytiopnmgcajohfaa.LawK Go.Proofs.Ytiopnmgcajohfaa.BoardK
def colWays (l : List Int) (r t : Nat) (pre : List Int) (next : Nat → List Int → List (List Int)) (c : Int) : List (List Int) :=
  if c < 0 then next t (pre ++ [c])
  else if cell l r c.toNat && !t.testBit c.toNat then next (t ||| 2 ^ c.toNat) (pre ++ [c]) else []
def waysFrom (l : List Int) (C : Nat) : Nat → Nat → Nat → List Int → List (List Int)
  | 0, _, _, pre => [pre]
  | d + 1, r, t, pre => (iota (-1) (C + 1)).flatMap (colWays l r t pre (waysFrom l C d (r + 1)))
theorem iota_cut : ∀ (j n : Nat) (m : Int), j < n → iota m n = iota m j ++ (m + j) :: iota (m + j + 1) (n - j - 1)
  | 0, n + 1, m, _ => by rw [iota, iota]; simp
  | j + 1, n + 1, m, h => by
    rw [iota, iota, iota_cut j n (m + 1) (by omega), List.cons_append]
    have e1 : m + 1 + (j : Int) = m + ((j + 1 : Nat) : Int) := by omega
    rw [e1, show n + 1 - (j + 1) - 1 = n - j - 1 by omega]
theorem ways_cut (l : List Int) (C d r t : Nat) (pre : List Int) (j : Nat) (hj : j < C + 1) {x : Int} (hx : x = -1 + j) :
    waysFrom l C (d + 1) r t pre = (iota (-1) j).flatMap (colWays l r t pre (waysFrom l C d (r + 1))) ++ (colWays l r t pre (waysFrom l C d (r + 1)) x ++ (iota (x + 1) (C + 1 - j - 1)).flatMap (colWays l r t pre (waysFrom l C d (r + 1)))) := by
  rw [waysFrom, iota_cut j (C + 1) (-1) hj, List.flatMap_append, List.flatMap_cons, hx]
theorem ways_len (l : List Int) (C : Nat) : ∀ (d r t : Nat) (pre : List Int), (waysFrom l C d r t pre).length ≤ (C + 1) ^ d
  | 0, r, t, pre => by simp [waysFrom]
  | d + 1, r, t, pre => by
    have hc : ∀ c, (colWays l r t pre (waysFrom l C d (r + 1)) c).length ≤ (C + 1) ^ d := by
      intro c
      unfold colWays
      split
      · exact ways_len l C d (r + 1) _ _
      · split
        · exact ways_len l C d (r + 1) _ _
        · exact Nat.zero_le _
    have hf : ∀ (n : Nat) (m : Int), ((iota m n).flatMap (colWays l r t pre (waysFrom l C d (r + 1)))).length ≤ n * (C + 1) ^ d := by
      intro n
      induction n with
      | zero => intro m; simp [iota]
      | succ n ih =>
        intro m
        rw [iota, List.flatMap_cons, List.length_append, Nat.succ_mul]
        have h1 := hc m
        have h2 := ih (m + 1)
        omega
    rw [waysFrom, Nat.pow_succ, Nat.mul_comm]
    exact hf (C + 1) (-1)
structure Blks where (b d a p g r : Nat)
structure Blks.Apart (k : Blks) : Prop where
  bd : k.b ≠ k.d
  ba : k.b ≠ k.a
  bp : k.b ≠ k.p
  bg : k.b ≠ k.g
  br : k.b ≠ k.r
  da : k.d ≠ k.a
  dp : k.d ≠ k.p
  dg : k.d ≠ k.g
  dr : k.d ≠ k.r
  ap : k.a ≠ k.p
  ag : k.a ≠ k.g
  ar : k.a ≠ k.r
  pg : k.p ≠ k.g
  pr : k.p ≠ k.r
  gr : k.g ≠ k.r
def Blks.has (k : Blks) (i : Nat) : Prop := i = k.b ∨ i = k.d ∨ i = k.a ∨ i = k.p ∨ i = k.g ∨ i = k.r
structure Still (S : Nat → Prop) (w w' : World) : Prop where
  kept : Kept w w' S
  os : w'.os = w.os
  tape : w'.tape = w.tape
  output : w'.output = w.output
theorem Still.refl (S : Nat → Prop) (w : World) : Still S w w := ⟨Kept.refl _ _, rfl, rfl, rfl⟩
theorem Still.of_below {S : Nat → Prop} {w w' : World} (h : Below w.heap.size w w') : Still S w w' := ⟨Kept.of_below h S, h.os, h.tape, h.output⟩
theorem Still.set {S : Nat → Prop} (w : World) {a : Addr} (h : S a.block) (v : Value) : Still S w (w.setCell a v) := ⟨Kept.setCell (Kept.refl _ _) (.inl h) v, rfl, rfl, rfl⟩
theorem Still.drewN {S : Nat → Prop} (w : World) (n : Nat) : Still S w (w.drewN n) := ⟨Kept.drewN (Kept.refl _ _) n, rfl, rfl, rfl⟩
theorem Still.trans {S : Nat → Prop} {a b c : World} (h : Still S a b) (k : Still S b c) : Still S a c := ⟨h.kept.then_ k.kept (fun _ hk => .inl hk), k.os.trans h.os, k.tape.trans h.tape, k.output.trans h.output⟩
theorem Still.below {S : Nat → Prop} {w0 w w' : World} (h : Below w0.heap.size w0 w) (k : Still S w w') (hS : ∀ i, S i → w0.heap.size ≤ i) : Below w0.heap.size w0 w' :=
  ⟨k.os.trans h.os, k.tape.trans h.tape, k.output.trans h.output, Nat.le_trans h.size k.kept.1, fun i hi => (k.kept.2 i (Nat.lt_of_lt_of_le hi h.size) (fun hs => by have := hS i hs; omega)).trans (h.block i hi)⟩
structure WSt (k : Blks) (Inv : List (List Int) → World → Prop) (RI CI : Int) (n cp : Nat) (l : List Int) (A0 : Option Addr) (c0 : Nat) (F : Value) (vis : List (List Int)) (ps : List Int) (w : World) : Prop where
  cB : w.heap[k.b]? = some (.cells #[.int .i64 RI, .int .i64 CI, .slice A0 l.length c0] 43 (0, 0))
  cD : w.heap[k.d]? = some (.cells #[F] 37 (0, 0))
  cA : Kd.R (Kd.int .i64) 3 w 0 (fun i => i = k.a) (.slice (some ⟨k.a, 0, none⟩) n cp) ps
  cP : w.heap[k.p]? = some (.cells #[.slice (some ⟨k.a, 0, none⟩) n cp] 28 (0, 0))
  cG : w.heap[k.g]? = some (.cells #[.bool true] 4 (0, 0))
  cR : w.heap[k.r]? = some (.cells #[.func (.func 152) #[] #[.pointer (some ⟨k.b, 0, none⟩), .pointer (some ⟨k.d, 0, none⟩), .pointer (some ⟨k.p, 0, none⟩), .pointer (some ⟨k.g, 0, none⟩), .pointer (some ⟨k.r, 0, none⟩)]] 106 (0, 0))
  inv : Inv vis w
section
variable {k : Blks} {Inv : List (List Int) → World → Prop} {RI CI : Int} {n cp : Nat} {l : List Int} {A0 : Option Addr} {c0 : Nat} {F : Value} {vis : List (List Int)} {ps : List Int} {w w' : World}
theorem WSt.below (hI : ∀ vis w w', Inv vis w → Still k.has w w' → Inv vis w') (h : WSt k Inv RI CI n cp l A0 c0 F vis ps w) (hb : Below w.heap.size w w') : WSt k Inv RI CI n cp l A0 c0 F vis ps w' :=
  ⟨blk_below h.cB hb, blk_below h.cD hb, Kd.R_below h.cA hb, blk_below h.cP hb, blk_below h.cG hb, blk_below h.cR hb, hI _ _ _ h.inv (Still.of_below hb)⟩
theorem WSt.drewN (hI : ∀ vis w w', Inv vis w → Still k.has w w' → Inv vis w') (h : WSt k Inv RI CI n cp l A0 c0 F vis ps w) (m : Nat) : WSt k Inv RI CI n cp l A0 c0 F vis ps (w.drewN m) :=
  h.below hI (pw_below_drewN (Below.refl _ _) m)
theorem WSt.setA (hI : ∀ vis w w', Inv vis w → Still k.has w w' → Inv vis w') (hk : k.Apart) (h : WSt k Inv RI CI n cp l A0 c0 F vis ps w) (i c : Int) : WSt k Inv RI CI n cp l A0 c0 F vis (ps.set i.toNat c) (w.setCell ⟨k.a, i.toNat, none⟩ (.int .i64 c)) :=
  ⟨blk_far h.cB hk.ba _, blk_far h.cD hk.da _, Kd.R_putn h.cA i c, blk_far h.cP hk.ap.symm _, blk_far h.cG hk.ag.symm _, blk_far h.cR hk.ar.symm _, hI _ _ _ h.inv (Still.set w (.inr (.inr (.inl rfl))) _)⟩
theorem WSt.setG (hI : ∀ vis w w', Inv vis w → Still k.has w w' → Inv vis w') (hk : k.Apart) (h : WSt k Inv RI CI n cp l A0 c0 F vis ps w) : WSt k Inv RI CI n cp l A0 c0 F vis ps (w.setCell ⟨k.g, 0, none⟩ (.bool true)) :=
  ⟨blk_far h.cB hk.bg _, blk_far h.cD hk.dg _, Kd.R_far h.cA (fun i hi => by rw [hi]; exact hk.ag) _, blk_far h.cP hk.pg _, blk_put h.cG 0 _ rfl, blk_far h.cR hk.gr.symm _, hI _ _ _ h.inv (Still.set w (.inr (.inr (.inr (.inr (.inl rfl))))) _)⟩
end
end Go.Proofs.Ytiopnmgcajohfaa.Walk
end
section
namespace Go.Proofs.Ytiopnmgcajohfaa.Q
open Go.RowKit Go.Proofs.YtiopnmgcajohfaaW.PrintWords Go.Proofs.YtiopnmgcajohfaaW.PrintLast Go.Proofs.YtiopnmgcajohfaaW.PrintMore
attribute [local go_sem] max2_int min2_int max_two min_two max_three min_three max_four min_four   -- for this text's walks alone
set_option linter.unusedVariables false
set_option linter.unusedSimpArgs false
def impl_rooks.l0 : Nat → Int → List Int → Int → Int → Option (Int)
 | 0, _, _, _, _ => none
 | k + 1, x3, x6, x7, x8 => if x8 < x7 then (if 0 ≤ x8 then (if x8 < (x6.length : Int) then (if (rd x6 x8) = (-1) then (impl_rooks.l0 k x3 x6 x7 (wrap64 (x8 + 1))) else (impl_rooks.l0 k (wrap64 (x3 + 1)) x6 x7 (wrap64 (x8 + 1)))) else (none)) else (none)) else (some x3)
def impl_rooks.f (k : Nat) (l0 : List Int) : Option (Int) := impl_rooks.l0 k 0 l0 (l0.length : Int) 0
set_option maxHeartbeats 8000000 in
set_option maxRecDepth 100000 in
theorem impl_rooks.calls (k : Nat) (A0 : Option Addr) (c0 : Nat) (l0 : List Int) (r : Int) (w : World) (hr0 : Kd.C (Kd.int .i64) w A0 l0.length l0) (hc0 : l0.length ≤ c0) (h : impl_rooks.f k l0 = some r) :
  Calls Try.prog 141 #[.slice A0 l0.length c0] w fun e w' => e = .returned (.int .i64 r) ∧ Drawn0 w w' := by
 have HR0 := za hr0
 have HC0 := za hc0
 clear hr0 hc0
 have H : (impl_rooks.l0 k 0 l0 (l0.length : Int) 0) = some r := h
 clear h
 have H' := za H
 clear H
 go_enter Try.func141, Try.ntmps141
 go_wp2
 go_loopg [3, 8] k (fun kq v3 v8 w' => ∃ (x3_1 : Int) (x8_1 : Int), v3 = .int .i64 x3_1 ∧ v8 = .int .i64 x8_1 ∧ Aside0 (impl_rooks.l0 kq x3_1 l0 (l0.length : Int) x8_1 = some r) ∧ Aside0 (kq ≤ k) ∧ Drawn0 w w')
 case atStart => exact ⟨(0), (0), (by first | rfl | (simp; done) | (simp [*]; done)), (by first | rfl | (simp; done) | (simp [*]; done)), H', ⟨Nat.le_refl _⟩, by repeat (first | exact Drawn0.refl _ | apply Drawn0.step)⟩
 case round =>
  clear H'
  try clear c1
  obtain ⟨x3_1, x8_1, rfl, rfl, HA, HK1, ⟨m1, rfl⟩⟩ := hrel
  cases gk with
  | zero => exact absurd HA.out (by simp [impl_rooks.l0])
  | succ k1 =>
   have H := HA.out
   clear HA
   simp only [impl_rooks.l0] at H
   by_cases c2 : x8_1 < (l0.length : Int)
   ·
    rw [if_pos c2] at H
    have c2b0 : decide (x8_1 < (l0.length : Int)) = true := decide_eq_true c2
    clear c2
    by_cases c3 : 0 ≤ x8_1
    ·
     rw [if_pos c3] at H
     have c3b0 : decide (0 ≤ x8_1) = true := decide_eq_true c3
     clear c3
     by_cases c4 : x8_1 < (l0.length : Int)
     ·
      rw [if_pos c4] at H
      have c4b0 : decide (x8_1 < (l0.length : Int)) = true := decide_eq_true c4
      clear c4
      by_cases c5 : (rd l0 x8_1) = (-1)
      ·
       rw [if_pos c5] at H
       have c5b0 : ((rd l0 x8_1) == (-1)) = true := beq_iff_eq.mpr c5
       have c5b1 : ((rd l0 x8_1) != (-1)) = false := bne_eq_false_iff_eq.mpr c5
       clear c5
       have H' := za H
       clear H
       have p101 : 0 ≤ (x8_1 : Int) := of_decide_eq_true (by first | (with_reducible assumption) | assumption)
       have q101 : x8_1 < (l0.length : Int) := of_decide_eq_true (by first | (with_reducible assumption) | assumption)
       obtain ⟨ad101, e101, hx101_0⟩ := Kd.at_int HR0.out x8_1 p101 q101
       cases e101
       replace p101 := eq_true p101
       replace q101 := eq_true q101
       go_wp2
       go_roundg k1
       case measure => have := HK1.out; omega
       case rel => exact ⟨(x3_1), (wrap64 (x8_1 + 1)), (by first | rfl | (simp; done) | (simp [*]; done)), (by first | rfl | (simp; done) | (simp [*]; done)), H', ⟨by have := HK1.out; omega⟩, by repeat (first | exact Drawn0.refl _ | apply Drawn0.step)⟩
      ·
       rw [if_neg c5] at H
       have c5b0 : ((rd l0 x8_1) == (-1)) = false := beq_eq_false_iff_ne.mpr c5
       have c5b1 : ((rd l0 x8_1) != (-1)) = true := bne_iff_ne.mpr c5
       have H' := za H
       clear H
       have p101 : 0 ≤ (x8_1 : Int) := of_decide_eq_true (by first | (with_reducible assumption) | assumption)
       have q101 : x8_1 < (l0.length : Int) := of_decide_eq_true (by first | (with_reducible assumption) | assumption)
       obtain ⟨ad101, e101, hx101_0⟩ := Kd.at_int HR0.out x8_1 p101 q101
       cases e101
       replace p101 := eq_true p101
       replace q101 := eq_true q101
       go_wp2
       go_roundg k1
       case measure => have := HK1.out; omega
       case rel => exact ⟨(wrap64 (x3_1 + 1)), (wrap64 (x8_1 + 1)), (by first | rfl | (simp; done) | (simp [*]; done)), (by first | rfl | (simp; done) | (simp [*]; done)), H', ⟨by have := HK1.out; omega⟩, by repeat (first | exact Drawn0.refl _ | apply Drawn0.step)⟩
     ·
      rw [if_neg c4] at H
      exact absurd H (by simp)
    ·
     rw [if_neg c3] at H
     exact absurd H (by simp)
   ·
    rw [if_neg c2] at H
    have c2b0 : decide (x8_1 < (l0.length : Int)) = false := decide_eq_false c2
    clear c2
    obtain rfl := Option.some.inj H
    go_wp2
    go_ret
    exact ⟨by first | rfl | (simp; done) | (simp [*]; done), by repeat (first | exact Drawn0.refl _ | apply Drawn0.step)⟩
end Go.Proofs.Ytiopnmgcajohfaa.Q
end
section
namespace Go.Proofs.Ytiopnmgcajohfaa.Walk
set_option linter.unusedVariables false
open Go.RowKit Go.Proofs.YtiopnmgcajohfaaW.PrintWords Go.Proofs.YtiopnmgcajohfaaW.PrintLast Go.Proofs.YtiopnmgcajohfaaW.PrintMore
open Go.Proofs.YtiopnmgcajohfaaL Go.Proofs.Ytiopnmgcajohfaa.LawK Go.Proofs.Ytiopnmgcajohfaa.BoardK Go.Proofs.Ytiopnmgcajohfaa.Q
def rooksN (l : List Int) : Nat := l.countP (fun x => x != -1)
theorem rooks_l0 {l : List Int} (hl : l.length ≤ 1048576) : ∀ (d i n : Nat), i + d = l.length → n ≤ i → Ev (fun k => impl_rooks.l0 k n l (l.length : Int) i) ((n + rooksN (l.drop i) : Nat) : Int)
  | 0, i, n, hi, hn => by
    refine Ev.step (f := fun _ => some ((n + rooksN (l.drop i) : Nat) : Int)) (fun k => ?_) (Ev.now _)
    rw [impl_rooks.l0, if_neg (by omega), List.drop_eq_nil_of_le (by omega)]; rfl
  | d + 1, i, n, hi, hn => by
    have h1 : wrap64 ((i : Int) + 1) = ((i + 1 : Nat) : Int) := by rw [w64 (by omega) (by omega)]; rfl
    have h2 : wrap64 ((n : Int) + 1) = ((n + 1 : Nat) : Int) := by rw [w64 (by omega) (by omega)]; rfl
    have hi2 : i < l.length := by omega
    rw [List.drop_eq_getElem_cons hi2, rooksN, List.countP_cons]
    by_cases hx : l[i] = -1
    · have ih := rooks_l0 hl d (i + 1) n (by omega) (by omega)
      rw [rooksN] at ih
      rw [if_neg (by simp [hx]), Nat.add_zero]
      refine Ev.step (fun k => ?_) ih
      rw [impl_rooks.l0, if_pos (by omega), if_pos (by omega), if_pos (by omega), rd_lt _ _ hi2, if_pos hx, h1]
    · have ih := rooks_l0 hl d (i + 1) (n + 1) (by omega) (by omega)
      rw [rooksN] at ih
      rw [if_pos (by simpa using hx)]
      rw [show n + (List.countP (fun x => x != -1) (List.drop (i + 1) l) + 1) = n + 1 + List.countP (fun x => x != -1) (List.drop (i + 1) l) by omega]
      refine Ev.step (fun k => ?_) ih
      rw [impl_rooks.l0, if_pos (by omega), if_pos (by omega), if_pos (by omega), rd_lt _ _ hi2, if_neg hx, h1, h2]
theorem rooks_f {l : List Int} (hl : l.length ≤ 1048576) : ∃ k, impl_rooks.f k l = some (rooksN l : Int) := by
  have h := rooks_l0 hl l.length 0 0 (by omega) (by omega)
  rw [List.drop_zero, Nat.zero_add] at h
  exact h.rounds
end Go.Proofs.Ytiopnmgcajohfaa.Walk
end
section
namespace Go.Proofs.Ytiopnmgcajohfaa.Q
open Go.RowKit Go.Proofs.YtiopnmgcajohfaaW.PrintWords Go.Proofs.YtiopnmgcajohfaaW.PrintLast Go.Proofs.YtiopnmgcajohfaaW.PrintMore
attribute [local go_sem] max2_int min2_int max_two min_two max_three min_three max_four min_four   -- for this text's walks alone
set_option linter.unusedVariables false
set_option linter.unusedSimpArgs false
def impl_newBoard.f (a0 : Int) (a1 : Int) : Option (Int × Int × List Int) := if 0 ≤ a0 then (if (a0 : Int).toNat ≤ 35184372088832 then (some (a0, a1, (List.replicate (a0 : Int).toNat 0))) else (none)) else (none)
set_option maxHeartbeats 8000000 in
set_option maxRecDepth 100000 in
theorem impl_newBoard.calls (a0 : Int) (a1 : Int) (r1 : Int) (r2 : Int) (r3 : List Int) (w : World) (h : impl_newBoard.f a0 a1 = some (r1, r2, r3)) :
  Calls Try.prog 145 #[.int .i64 a0, .int .i64 a1] w fun e w' => ∃ v2_ : Value, e = .returned (.agg #[.int .i64 r1, .int .i64 r2, v2_]) ∧ Kd.R (Kd.int .i64) 3 w' w.heap.size (fun _ => True) v2_ r3 ∧ Below w.heap.size w w' := by
 have hu43 := Try.underlying43
 have HB := za (Below.refl w.heap.size w)
 have H : (if 0 ≤ a0 then (if (a0 : Int).toNat ≤ 35184372088832 then (some (a0, a1, (List.replicate (a0 : Int).toNat 0))) else (none)) else (none)) = some (r1, r2, r3) := h
 clear h
 by_cases c3 : 0 ≤ a0
 ·
  rw [if_pos c3] at H
  have c3b0 := eq_true c3
  have c3b1 : decide (0 ≤ a0) = true := decide_eq_true c3
  clear c3
  by_cases c4 : (a0 : Int).toNat ≤ 35184372088832
  ·
   rw [if_pos c4] at H
   have c4b0 := eq_true c4
   have c4b1 : decide ((a0 : Int).toNat ≤ 35184372088832) = true := decide_eq_true c4
   clear c4
   obtain ⟨y102, hy102⟩ : ∃ y_ : List Int, y_ = (List.replicate (a0 : Int).toNat 0) := ⟨_, rfl⟩
   replace H : (some (a0, a1, y102)) = some (r1, r2, r3) := by first | (rw [hy102]; with_reducible exact H) | (have H2_ := (Option.bind_some _ _).symm.trans H; rw [hy102]; with_reducible exact H2_) | (have H2_ := (Option.bind_some _ _).symm.trans H; with_reducible exact H2_) | with_reducible exact H | (rw [hy102]; exact H) | exact H
   have Ny102 := za hy102
   clear hy102
   simp only [Option.some.injEq, Prod.mk.injEq] at H
   obtain ⟨rfl, rfl, rfl⟩ := H
   go_enter Try.func145, Try.ntmps145
   go_wp2_with (first | ((with_reducible refine zF (N := 4) rfl ?_); refine zG ?hg (N := 4) ?hd (cs := #[.int .i64 0, .int .i64 0, .slice none 0 0]) (t := 43) ?hr ?_; (case hd => rfl); (case hg => rfl); (case hr => first | (go_simp; done) | (go_simp; rfl)); intro gb101 hg w5 hbox hb; have n0_ := za (zw (by repeat (first | (with_reducible first | exact HB.out | apply zc | apply zd | apply zb) | exact HB.out)) hb); have n1_ := za (hbox); have n2_ := za ((by rw [hg]; exact (zo (by repeat (first | (with_reducible first | exact HB.out | apply zc | apply zd | apply zb) | exact HB.out))) : w.heap.size ≤ gb101)); have n3_ := za ((by rw [hg]; exact (zo (by repeat (first | (with_reducible first | exact HB.out | apply zc | apply zd | apply zb) | exact HB.out))) : w.heap.size ≤ gb101)); clear HB; have HB := n0_; have BK101 := n1_; have GW101 := n2_; have GE101 := n3_; clear n0_ n1_ n2_ n3_; clear hb hbox hg) | ((with_reducible refine zF (N := 8) rfl ?_); refine Kd.R_make (Kd.int .i64) _ 3 rfl (N := 8) rfl 28 _ _ rfl a0 rfl rfl Try.underlying28 (.int .i64 0) 8 info3 rfl (by decide) (by omega) 0 (ok := fun _ => True) (okp := fun _ => True) rfl (fun _ hk => hk) trivial (of_decide_eq_true (by first | (with_reducible assumption) | assumption)) (Nat.le_trans (Nat.mul_le_mul_right _ (of_decide_eq_true (by first | (with_reducible assumption) | assumption) : a0.toNat ≤ 35184372088832)) (by omega)) (Below.refl _ _) (Nat.le_refl _) ?_; intro v103 w6 ho7 hb hg_ hnew_; clear hg_ hnew_; (first | rw [← Ny102.out] at ho7 | (simp only [Int.reduceToNat] at ho7; rw [← Ny102.out] at ho7)); have n0_ := za (Kd.R_lower ho7 (zo (by repeat (first | (with_reducible first | exact HB.out | apply zc | apply zd | apply zb | refine ze ?_ GE101.out) | exact HB.out)))); have n1_ := za (zA (g := gb101) (o := .cells #[.int .i64 0, .int .i64 0, .slice none 0 0] 43 (0, 0)) (by (with_reducible repeat (first | refine zg ?_ _ | refine zf ?_ | refine zh ?_ _)); exact BK101.out) hb); have n2_ := za (zw (by repeat (first | (with_reducible first | exact HB.out | apply zc | apply zd | apply zb | refine ze ?_ GE101.out) | exact HB.out)) hb); clear BK101 HB; have HO104 := n0_; have BK101 := n1_; have HB := n2_; clear n0_ n1_ n2_; clear hb ho7; obtain ⟨Ao8, co8, eo8⟩ := Kd.R_slice HO104.out; subst eo8; have hcz9_0 : w6.cell? ⟨gb101, 0, none⟩ = some (.int .i64 0) := (zi BK101.out 0).trans rfl; have hcz9_1 : w6.cell? ⟨gb101, 1, none⟩ = some (.int .i64 0) := (zi BK101.out 1).trans rfl; have hcz9_2 : w6.cell? ⟨gb101, 2, none⟩ = some (.slice none 0 0) := (zi BK101.out 2).trans rfl; have hfz9_0 := zj BK101.out 0; have hfz9_1 := zj BK101.out 1; have hfz9_2 := zj BK101.out 2))
   refine bodyPost_ret (results_cell_row rfl _ _ gb101 43 #[.int .i64 a0, .int .i64 a1, .slice Ao8 y102.length co8] (0, 0) _ rfl (by (with_reducible repeat (first | refine zg ?_ _ | refine zf ?_ | refine zh ?_ _)); refine blk_put (cs := #[.int .i64 a0, .int .i64 a1, .slice none 0 0]) ?_ 2 _ rfl; (with_reducible repeat (first | refine zg ?_ _ | refine zf ?_ | refine zh ?_ _)); refine blk_put (cs := #[.int .i64 a0, .int .i64 0, .slice none 0 0]) ?_ 1 _ rfl; (with_reducible repeat (first | refine zg ?_ _ | refine zf ?_ | refine zh ?_ _)); refine blk_put (cs := #[.int .i64 0, .int .i64 0, .slice none 0 0]) ?_ 0 _ rfl; (with_reducible repeat (first | refine zg ?_ _ | refine zf ?_ | refine zh ?_ _)); exact BK101.out) Try.underlying43 rfl (by kernel_rfl)) rfl ?_
   exact ⟨_, by first | rfl | (simp [errW_none, errW_some] <;> rfl) | (simp [*, errW_none, errW_some] <;> rfl), by (with_reducible repeat (first | apply zl | apply zm | apply zk)); exact zz (zn (p := ⟨gb101, 2, none⟩) (zn (p := ⟨gb101, 1, none⟩) (zn (p := ⟨gb101, 0, none⟩) (Kd.R_types HO104.out BK101.out (by decide)) (fun _ hk => hk.2) (.int .i64 a0)) (fun _ hk => hk.2) (.int .i64 a1)) (fun _ hk => hk.2) (.slice Ao8 y102.length co8)) (fun _ hk => trivial), by repeat (first | (with_reducible first | exact HB.out | apply zc | apply zd | apply zb | refine ze ?_ GE101.out) | exact HB.out)⟩
  ·
   rw [if_neg c4] at H
   exact absurd H (by simp)
 ·
  rw [if_neg c3] at H
  exact absurd H (by simp)
end Go.Proofs.Ytiopnmgcajohfaa.Q
end
