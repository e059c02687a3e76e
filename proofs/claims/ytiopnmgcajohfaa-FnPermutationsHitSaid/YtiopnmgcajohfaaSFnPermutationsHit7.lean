/- Texts of this claim put together (7): words, what the functions compute, and plain facts. No conditions. -/
import Derived.Test.YtiopnmgcajohfaaSFnPermutationsHit4
import Derived.Test.YtiopnmgcajohfaaSFnPermutationsHit5
import Derived.Test.YtiopnmgcajohfaaSFnPermutationsHit6
import Derived.Deep.RegionWith
import Derived.Deep.RegionLaw
import Derived.Test.YtiopnmgcajohfaaSFnPermutationsHit0
section
namespace Go.Proofs.Ytiopnmgcajohfaa.Q
open Go.RowKit Go.Proofs.YtiopnmgcajohfaaW.PrintWords Go.Proofs.YtiopnmgcajohfaaW.PrintLast Go.Proofs.YtiopnmgcajohfaaW.PrintMore
attribute [local go_sem] max2_int min2_int max_two min_two max_three min_three max_four min_four   -- for this text's walks alone
set_option linter.unusedVariables false
set_option linter.unusedSimpArgs false
def slices_Index_int_int.l0 : Nat → List Int → Int → Int → Int → Option (Int)
 | 0, _, _, _, _ => none
 | k + 1, x0, x1, x7, x8 => if x8 < x7 then (if 0 ≤ x8 then (if x8 < (x0.length : Int) then (if x1 = (rd x0 x8) then (some x8) else (slices_Index_int_int.l0 k x0 x1 x7 (wrap64 (x8 + 1)))) else (none)) else (none)) else (some (-1))
def slices_Index_int_int.f (k : Nat) (l0 : List Int) (a1 : Int) : Option (Int) := slices_Index_int_int.l0 k l0 a1 (l0.length : Int) 0
set_option maxHeartbeats 8000000 in
set_option maxRecDepth 100000 in
theorem slices_Index_int_int.calls (k : Nat) (A0 : Option Addr) (c0 : Nat) (l0 : List Int) (a1 : Int) (r : Int) (w : World) (hr0 : Kd.C (Kd.int .i64) w A0 l0.length l0) (hc0 : l0.length ≤ c0) (h : slices_Index_int_int.f k l0 a1 = some r) :
  Calls Try.prog 137 #[.slice A0 l0.length c0, .int .i64 a1] w fun e w' => e = .returned (.int .i64 r) ∧ Drawn0 w w' := by
 have HR0 := za hr0
 have HC0 := za hc0
 clear hr0 hc0
 have H : (slices_Index_int_int.l0 k l0 a1 (l0.length : Int) 0) = some r := h
 clear h
 have H' := za H
 clear H
 go_enter Try.func137, Try.ntmps137
 go_wp2
 go_loopg [8] k (fun kq v8 w' => ∃ (x8_1 : Int), v8 = .int .i64 x8_1 ∧ Aside0 (slices_Index_int_int.l0 kq l0 a1 (l0.length : Int) x8_1 = some r) ∧ Aside0 (kq ≤ k) ∧ Drawn0 w w')
 case atStart => exact ⟨(0), (by first | rfl | (simp; done) | (simp [*]; done)), H', ⟨Nat.le_refl _⟩, by repeat (first | exact Drawn0.refl _ | apply Drawn0.step)⟩
 case round =>
  clear H'
  try clear c1
  try clear p2
  obtain ⟨x8_1, rfl, HA, HK1, ⟨m1, rfl⟩⟩ := hrel
  cases gk with
  | zero => exact absurd HA.out (by simp [slices_Index_int_int.l0])
  | succ k1 =>
   have H := HA.out
   clear HA
   simp only [slices_Index_int_int.l0] at H
   by_cases c3 : x8_1 < (l0.length : Int)
   ·
    rw [if_pos c3] at H
    have c3b0 : decide (x8_1 < (l0.length : Int)) = true := decide_eq_true c3
    clear c3
    by_cases c4 : 0 ≤ x8_1
    ·
     rw [if_pos c4] at H
     have c4b0 : decide (0 ≤ x8_1) = true := decide_eq_true c4
     clear c4
     by_cases c5 : x8_1 < (l0.length : Int)
     ·
      rw [if_pos c5] at H
      have c5b0 : decide (x8_1 < (l0.length : Int)) = true := decide_eq_true c5
      clear c5
      by_cases c6 : a1 = (rd l0 x8_1)
      ·
       rw [if_pos c6] at H
       have c6b0 : (a1 == (rd l0 x8_1)) = true := beq_iff_eq.mpr c6
       have c6b1 : (a1 != (rd l0 x8_1)) = false := bne_eq_false_iff_eq.mpr c6
       clear c6
       obtain rfl := Option.some.inj H
       have p101 : 0 ≤ (x8_1 : Int) := of_decide_eq_true (by first | (with_reducible assumption) | assumption)
       have q101 : x8_1 < (l0.length : Int) := of_decide_eq_true (by first | (with_reducible assumption) | assumption)
       obtain ⟨ad101, e101, hx101_0⟩ := Kd.at_int HR0.out x8_1 p101 q101
       cases e101
       replace p101 := eq_true p101
       replace q101 := eq_true q101
       go_wp2
       go_ret
       exact ⟨by first | rfl | (simp; done) | (simp [*]; done), by repeat (first | exact Drawn0.refl _ | apply Drawn0.step)⟩
      ·
       rw [if_neg c6] at H
       have c6b0 : (a1 == (rd l0 x8_1)) = false := beq_eq_false_iff_ne.mpr c6
       have c6b1 : (a1 != (rd l0 x8_1)) = true := bne_iff_ne.mpr c6
       have H' := za H
       clear H
       have p101 : 0 ≤ (x8_1 : Int) := of_decide_eq_true (by first | (with_reducible assumption) | assumption)
       have q101 : x8_1 < (l0.length : Int) := of_decide_eq_true (by first | (with_reducible assumption) | assumption)
       obtain ⟨ad101, e101, hx101_0⟩ := Kd.at_int HR0.out x8_1 p101 q101
       cases e101
       replace p101 := eq_true p101
       replace q101 := eq_true q101
       go_wp2
       go_roundg k1
       case measure => have := HK1.out; omega
       case rel => exact ⟨(wrap64 (x8_1 + 1)), (by first | rfl | (simp; done) | (simp [*]; done)), H', ⟨by have := HK1.out; omega⟩, by repeat (first | exact Drawn0.refl _ | apply Drawn0.step)⟩
     ·
      rw [if_neg c5] at H
      exact absurd H (by simp)
    ·
     rw [if_neg c4] at H
     exact absurd H (by simp)
   ·
    rw [if_neg c3] at H
    have c3b0 : decide (x8_1 < (l0.length : Int)) = false := decide_eq_false c3
    clear c3
    obtain rfl := Option.some.inj H
    go_wp2
    go_ret
    exact ⟨by first | rfl | (simp; done) | (simp [*]; done), by repeat (first | exact Drawn0.refl _ | apply Drawn0.step)⟩
end Go.Proofs.Ytiopnmgcajohfaa.Q
end
section
namespace Go.Proofs.Ytiopnmgcajohfaa.Q
open Go.RowKit Go.Proofs.YtiopnmgcajohfaaW.PrintWords Go.Proofs.YtiopnmgcajohfaaW.PrintLast Go.Proofs.YtiopnmgcajohfaaW.PrintMore
attribute [local go_sem] max2_int min2_int max_two min_two max_three min_three max_four min_four   -- for this text's walks alone
set_option linter.unusedVariables false
set_option linter.unusedSimpArgs false
def slices_Contains_int_int.f (k : Nat) (l0 : List Int) (a1 : Int) : Option (Bool) := (slices_Index_int_int.f k l0 a1).bind fun t101 => (some (decide (t101 ≥ 0)))
set_option maxHeartbeats 8000000 in
set_option maxRecDepth 100000 in
theorem slices_Contains_int_int.calls (k : Nat) (A0 : Option Addr) (c0 : Nat) (l0 : List Int) (a1 : Int) (r : Bool) (w : World) (hr0 : Kd.C (Kd.int .i64) w A0 l0.length l0) (hc0 : l0.length ≤ c0) (h : slices_Contains_int_int.f k l0 a1 = some r) :
  Calls Try.prog 88 #[.slice A0 l0.length c0, .int .i64 a1] w fun e w' => e = .returned (.bool r) ∧ Drawn0 w w' := by
 have HR0 := za hr0
 have HC0 := za hc0
 clear hr0 hc0
 have H : ((slices_Index_int_int.f k l0 a1).bind fun t101 => (some (decide (t101 ≥ 0)))) = some r := h
 clear h
 replace H := Option.bind_eq_some_iff.mp H
 obtain ⟨t101, A30, H⟩ := H
 replace H : (some (decide (t101 ≥ 0))) = some r := H
 have A3 := za A30
 clear A30
 obtain rfl := Option.some.inj H
 go_enter Try.func88, Try.ntmps88
 go_wp2_with (first | ((with_reducible refine zy (f := 137) rfl ?_); refine goesL_ (some 7) rfl rfl Try.func137 (by kernel_rfl) rfl #[.slice A0 l0.length c0, .int .i64 a1] rfl (by (try simp only [List.map_toArray, List.map_cons, List.map_nil]); first | done | rfl | (simp only [List.length_drop, List.length_take]; rfl)) ?_; (with_reducible refine (slices_Index_int_int.calls k _ _ l0 a1 t101 _ ?side1 ?side2 A3.out).mono ?_); (case side1 => repeat (first | exact HR0.out | (with_reducible refine zp ?_ _) | (with_reducible refine zq ?_ _) | (with_reducible refine zr ?_))); (case side2 => exact HC0.out); rintro e w' ⟨rfl, ⟨nd, rfl⟩⟩; refine ⟨_, rfl, ?_⟩))
 go_ret
 exact ⟨by first | rfl | (simp; done) | (simp [*]; done), by repeat (first | exact Drawn0.refl _ | apply Drawn0.step)⟩
end Go.Proofs.Ytiopnmgcajohfaa.Q
end
section
namespace Go.Proofs.Ytiopnmgcajohfaa.Q
open Go.RowKit Go.Proofs.YtiopnmgcajohfaaW.PrintWords Go.Proofs.YtiopnmgcajohfaaW.PrintLast Go.Proofs.YtiopnmgcajohfaaW.PrintMore
attribute [local go_sem] max2_int min2_int max_two min_two max_three min_three max_four min_four   -- for this text's walks alone
set_option linter.unusedVariables false
set_option linter.unusedSimpArgs false
def impl_isPerm.l0 : Nat → List Int → Int → List Int → Int → Int → Option (Bool)
 | 0, _, _, _, _, _ => none
 | k + 1, x0, x1, x11, x12, x13 => if x13 < x12 then (if 0 ≤ x13 then (if x13 < (x11.length : Int) then ((impl_within.f (rd x11 x13) 0 (wrap64 (x1 - 1))).bind fun t102 => (if t102 = true then (if x13 ≤ (x0.length : Int) then ((slices_Contains_int_int.f k (x0.take (x13 : Int).toNat) (rd x11 x13)).bind fun t104 => (if t104 = true then (some false) else (impl_isPerm.l0 k x0 x1 x11 x12 (wrap64 (x13 + 1))))) else (none)) else (some false))) else (none)) else (none)) else (some true)
def impl_isPerm.f (k : Nat) (l0 : List Int) (a1 : Int) : Option (Bool) := if (l0.length : Int) = a1 then (impl_isPerm.l0 k l0 a1 l0 (l0.length : Int) 0) else (some false)
set_option maxHeartbeats 8000000 in
set_option maxRecDepth 100000 in
theorem impl_isPerm.calls (k : Nat) (A0 : Option Addr) (c0 : Nat) (l0 : List Int) (a1 : Int) (r : Bool) (w : World) (hr0 : Kd.C (Kd.int .i64) w A0 l0.length l0) (hc0 : l0.length ≤ c0) (h : impl_isPerm.f k l0 a1 = some r) :
  Calls Try.prog 100 #[.slice A0 l0.length c0, .int .i64 a1] w fun e w' => e = .returned (.bool r) ∧ Drawn0 w w' := by
 have HR0 := za hr0
 have HC0 := za hc0
 clear hr0 hc0
 have H : (if (l0.length : Int) = a1 then (impl_isPerm.l0 k l0 a1 l0 (l0.length : Int) 0) else (some false)) = some r := h
 clear h
 by_cases c3 : (l0.length : Int) = a1
 ·
  rw [if_pos c3] at H
  have c3b0 : ((l0.length : Int) == a1) = true := beq_iff_eq.mpr c3
  have c3b1 : ((l0.length : Int) != a1) = false := bne_eq_false_iff_eq.mpr c3
  clear c3
  have H' := za H
  clear H
  go_enter Try.func100, Try.ntmps100
  go_wp2
  go_loopg [13] k (fun kq v13 w' => ∃ (x13_1 : Int), v13 = .int .i64 x13_1 ∧ Aside0 (impl_isPerm.l0 kq l0 a1 l0 (l0.length : Int) x13_1 = some r) ∧ Aside0 (kq ≤ k) ∧ Drawn0 w w')
  case atStart => exact ⟨(0), (by first | rfl | (simp; done) | (simp [*]; done)), H', ⟨Nat.le_refl _⟩, by repeat (first | exact Drawn0.refl _ | apply Drawn0.step)⟩
  case round =>
   clear H'
   try clear c1
   try clear p2
   try clear c3
   try clear c3b0
   try clear c3b1
   obtain ⟨x13_1, rfl, HA, HK1, ⟨m1, rfl⟩⟩ := hrel
   cases gk with
   | zero => exact absurd HA.out (by simp [impl_isPerm.l0])
   | succ k1 =>
    have H := HA.out
    clear HA
    simp only [impl_isPerm.l0] at H
    by_cases c4 : x13_1 < (l0.length : Int)
    ·
     rw [if_pos c4] at H
     have c4b0 : decide (x13_1 < (l0.length : Int)) = true := decide_eq_true c4
     clear c4
     by_cases c5 : 0 ≤ x13_1
     ·
      rw [if_pos c5] at H
      have c5b0 : decide (0 ≤ x13_1) = true := decide_eq_true c5
      clear c5
      by_cases c6 : x13_1 < (l0.length : Int)
      ·
       rw [if_pos c6] at H
       have c6b0 : decide (x13_1 < (l0.length : Int)) = true := decide_eq_true c6
       clear c6
       replace H := Option.bind_eq_some_iff.mp H
       obtain ⟨t102, A70, H⟩ := H
       replace H : (if t102 = true then (if x13_1 ≤ (l0.length : Int) then ((slices_Contains_int_int.f k1 (l0.take (x13_1 : Int).toNat) (rd l0 x13_1)).bind fun t104 => (if t104 = true then (some false) else (impl_isPerm.l0 k1 l0 a1 l0 (l0.length : Int) (wrap64 (x13_1 + 1))))) else (none)) else (some false)) = some r := H
       have A7 := za A70
       clear A70
       by_cases c8 : t102 = true
       ·
        subst c8
        have H1 : (if x13_1 ≤ (l0.length : Int) then ((slices_Contains_int_int.f k1 (l0.take (x13_1 : Int).toNat) (rd l0 x13_1)).bind fun t104 => (if t104 = true then (some false) else (impl_isPerm.l0 k1 l0 a1 l0 (l0.length : Int) (wrap64 (x13_1 + 1))))) else (none)) = some r := by rw [if_pos rfl] at H; exact H
        clear H
        have H := H1
        clear H1
        have c9b0 := eq_true (of_decide_eq_true (by first | (with_reducible assumption) | assumption) : 0 ≤ x13_1)
        by_cases c10 : x13_1 ≤ (l0.length : Int)
        ·
         rw [if_pos c10] at H
         have c10b0 := eq_true c10
         have c10b1 : decide (x13_1 ≤ (l0.length : Int)) = true := decide_eq_true c10
         clear c10
         replace H := Option.bind_eq_some_iff.mp H
         obtain ⟨t104, A110, H⟩ := H
         replace H : (if t104 = true then (some false) else (impl_isPerm.l0 k1 l0 a1 l0 (l0.length : Int) (wrap64 (x13_1 + 1)))) = some r := H
         have A11 := za A110
         clear A110
         by_cases c12 : t104 = true
         ·
          subst c12
          have H1 : (some false) = some r := by rw [if_pos rfl] at H; exact H
          clear H
          have H := H1
          clear H1
          obtain rfl := Option.some.inj H
          have p101 : 0 ≤ (x13_1 : Int) := of_decide_eq_true (by first | (with_reducible assumption) | assumption)
          have q101 : x13_1 < (l0.length : Int) := of_decide_eq_true (by first | (with_reducible assumption) | assumption)
          obtain ⟨ad101, e101, hx101_0⟩ := Kd.at_int HR0.out x13_1 p101 q101
          cases e101
          replace p101 := eq_true p101
          replace q101 := eq_true q101
          go_wp2_with (first | ((with_reducible refine zy (f := 79) rfl ?_); refine goesL_ (some 21) rfl rfl Try.func79 (by kernel_rfl) rfl #[.int .i64 (rd l0 x13_1), .int .i64 0, .int .i64 (wrap64 (a1 - 1))] rfl (by (try simp only [List.map_toArray, List.map_cons, List.map_nil]); first | done | rfl | (simp only [List.length_drop, List.length_take]; rfl)) ?_; (with_reducible refine (impl_within.calls (rd l0 x13_1) 0 (wrap64 (a1 - 1)) true _ A7.out).mono ?_); rintro e w' ⟨rfl, ⟨nd, rfl⟩⟩; refine ⟨_, rfl, ?_⟩; obtain ⟨i013, hi013, _, hsz13, _⟩ := info_parts info3; obtain ⟨hcut13, hA13, hC13⟩ := print_take_of (P := Try.prog) (Value.int .i64) 0 28 3 .i64 Try.underlying28 hi013 hsz13 (some ad101) c0 l0 x13_1 (of_decide_eq_true (by first | (with_reducible assumption) | assumption)) (of_decide_eq_true (by first | (with_reducible assumption) | assumption)) HC0.out; have HR103 := za (Kd.C_of_reads (h1 := fun _ => rfl) (hA13 _ (Kd.reads_of_C HR0.out))); have HC103 := za hC13; clear hA13 hC13 hi013 hsz13) | (go_at_call 88; refine calls_of_args (args' := #[.slice (some ad101) (l0.take (x13_1 : Int).toNat).length c0, .int .i64 (rd l0 x13_1)]) (by first | (rw [show (l0.take (x13_1 : Int).toNat).length = x13_1.toNat from (by rw [List.length_take]; have h_ : (x13_1 : Int) ≤ (l0.length : Int) := of_decide_eq_true (by first | (with_reducible assumption) | assumption); omega)] <;> rfl) | rfl) ?_; (with_reducible refine (slices_Contains_int_int.calls k1 _ _ (l0.take (x13_1 : Int).toNat) (rd l0 x13_1) true _ ?side1 ?side2 A11.out).mono ?_); (case side1 => repeat (first | exact HR103.out | (with_reducible refine zp ?_ _) | (with_reducible refine zq ?_ _) | (with_reducible refine zr ?_))); (case side2 => exact HC103.out); rintro e w' ⟨rfl, ⟨nd, rfl⟩⟩))
          go_ret
          exact ⟨by first | rfl | (simp; done) | (simp [*]; done), by repeat (first | exact Drawn0.refl _ | apply Drawn0.step)⟩
         ·
          replace c12 := Bool.eq_false_iff.mpr c12
          subst c12
          have H1 : (impl_isPerm.l0 k1 l0 a1 l0 (l0.length : Int) (wrap64 (x13_1 + 1))) = some r := by rw [if_neg (show ¬ (false = true) by decide)] at H; exact H
          clear H
          have H := H1
          clear H1
          have H' := za H
          clear H
          have p101 : 0 ≤ (x13_1 : Int) := of_decide_eq_true (by first | (with_reducible assumption) | assumption)
          have q101 : x13_1 < (l0.length : Int) := of_decide_eq_true (by first | (with_reducible assumption) | assumption)
          obtain ⟨ad101, e101, hx101_0⟩ := Kd.at_int HR0.out x13_1 p101 q101
          cases e101
          replace p101 := eq_true p101
          replace q101 := eq_true q101
          go_wp2_with (first | ((with_reducible refine zy (f := 79) rfl ?_); refine goesL_ (some 21) rfl rfl Try.func79 (by kernel_rfl) rfl #[.int .i64 (rd l0 x13_1), .int .i64 0, .int .i64 (wrap64 (a1 - 1))] rfl (by (try simp only [List.map_toArray, List.map_cons, List.map_nil]); first | done | rfl | (simp only [List.length_drop, List.length_take]; rfl)) ?_; (with_reducible refine (impl_within.calls (rd l0 x13_1) 0 (wrap64 (a1 - 1)) true _ A7.out).mono ?_); rintro e w' ⟨rfl, ⟨nd, rfl⟩⟩; refine ⟨_, rfl, ?_⟩; obtain ⟨i014, hi014, _, hsz14, _⟩ := info_parts info3; obtain ⟨hcut14, hA14, hC14⟩ := print_take_of (P := Try.prog) (Value.int .i64) 0 28 3 .i64 Try.underlying28 hi014 hsz14 (some ad101) c0 l0 x13_1 (of_decide_eq_true (by first | (with_reducible assumption) | assumption)) (of_decide_eq_true (by first | (with_reducible assumption) | assumption)) HC0.out; have HR103 := za (Kd.C_of_reads (h1 := fun _ => rfl) (hA14 _ (Kd.reads_of_C HR0.out))); have HC103 := za hC14; clear hA14 hC14 hi014 hsz14) | (go_at_call 88; refine calls_of_args (args' := #[.slice (some ad101) (l0.take (x13_1 : Int).toNat).length c0, .int .i64 (rd l0 x13_1)]) (by first | (rw [show (l0.take (x13_1 : Int).toNat).length = x13_1.toNat from (by rw [List.length_take]; have h_ : (x13_1 : Int) ≤ (l0.length : Int) := of_decide_eq_true (by first | (with_reducible assumption) | assumption); omega)] <;> rfl) | rfl) ?_; (with_reducible refine (slices_Contains_int_int.calls k1 _ _ (l0.take (x13_1 : Int).toNat) (rd l0 x13_1) false _ ?side1 ?side2 A11.out).mono ?_); (case side1 => repeat (first | exact HR103.out | (with_reducible refine zp ?_ _) | (with_reducible refine zq ?_ _) | (with_reducible refine zr ?_))); (case side2 => exact HC103.out); rintro e w' ⟨rfl, ⟨nd, rfl⟩⟩))
          go_roundg k1
          case measure => have := HK1.out; omega
          case rel => exact ⟨(wrap64 (x13_1 + 1)), (by first | rfl | (simp; done) | (simp [*]; done)), H', ⟨by have := HK1.out; omega⟩, by repeat (first | exact Drawn0.refl _ | apply Drawn0.step)⟩
        ·
         rw [if_neg c10] at H
         exact absurd H (by simp)
       ·
        replace c8 := Bool.eq_false_iff.mpr c8
        subst c8
        have H1 : (some false) = some r := by rw [if_neg (show ¬ (false = true) by decide)] at H; exact H
        clear H
        have H := H1
        clear H1
        obtain rfl := Option.some.inj H
        have p101 : 0 ≤ (x13_1 : Int) := of_decide_eq_true (by first | (with_reducible assumption) | assumption)
        have q101 : x13_1 < (l0.length : Int) := of_decide_eq_true (by first | (with_reducible assumption) | assumption)
        obtain ⟨ad101, e101, hx101_0⟩ := Kd.at_int HR0.out x13_1 p101 q101
        cases e101
        replace p101 := eq_true p101
        replace q101 := eq_true q101
        go_wp2_with (first | ((with_reducible refine zy (f := 79) rfl ?_); refine goesL_ (some 21) rfl rfl Try.func79 (by kernel_rfl) rfl #[.int .i64 (rd l0 x13_1), .int .i64 0, .int .i64 (wrap64 (a1 - 1))] rfl (by (try simp only [List.map_toArray, List.map_cons, List.map_nil]); first | done | rfl | (simp only [List.length_drop, List.length_take]; rfl)) ?_; (with_reducible refine (impl_within.calls (rd l0 x13_1) 0 (wrap64 (a1 - 1)) false _ A7.out).mono ?_); rintro e w' ⟨rfl, ⟨nd, rfl⟩⟩; refine ⟨_, rfl, ?_⟩))
        go_ret
        exact ⟨by first | rfl | (simp; done) | (simp [*]; done), by repeat (first | exact Drawn0.refl _ | apply Drawn0.step)⟩
      ·
       rw [if_neg c6] at H
       exact absurd H (by simp)
     ·
      rw [if_neg c5] at H
      exact absurd H (by simp)
    ·
     rw [if_neg c4] at H
     have c4b0 : decide (x13_1 < (l0.length : Int)) = false := decide_eq_false c4
     clear c4
     obtain rfl := Option.some.inj H
     go_wp2
     go_ret
     exact ⟨by first | rfl | (simp; done) | (simp [*]; done), by repeat (first | exact Drawn0.refl _ | apply Drawn0.step)⟩
 ·
  rw [if_neg c3] at H
  have c3b0 : ((l0.length : Int) == a1) = false := beq_eq_false_iff_ne.mpr c3
  have c3b1 : ((l0.length : Int) != a1) = true := bne_iff_ne.mpr c3
  obtain rfl := Option.some.inj H
  go_enter Try.func100, Try.ntmps100
  go_wp2
  go_ret
  exact ⟨by first | rfl | (simp; done) | (simp [*]; done), by repeat (first | exact Drawn0.refl _ | apply Drawn0.step)⟩
end Go.Proofs.Ytiopnmgcajohfaa.Q
end
section
namespace Go.Proofs.Ytiopnmgcajohfaa.Q
open Go.RowKit Go.Proofs.YtiopnmgcajohfaaW.PrintWords Go.Proofs.YtiopnmgcajohfaaW.PrintLast Go.Proofs.YtiopnmgcajohfaaW.PrintMore
attribute [local go_sem] max2_int min2_int max_two min_two max_three min_three max_four min_four   -- for this text's walks alone
set_option linter.unusedVariables false
set_option linter.unusedSimpArgs false
def impl_HitsOf.f (k : Nat) (a0_0 : Int) (a0_1 : Int) (l0_2 : List Int) (l1 : List Int) : Option (Int × Bool) := (impl_isSquare.f a0_0 a0_1 l0_2).bind fun t102 => (if t102 = true then ((impl_isPerm.f k l1 a0_0).bind fun t103 => (if t103 = true then ((impl_Board_hits.f k a0_0 a0_1 l0_2 l1).bind fun t104 => (some (t104, true))) else (some (0, false)))) else (some (0, false)))
set_option maxHeartbeats 8000000 in
set_option maxRecDepth 100000 in
theorem impl_HitsOf.calls (k : Nat) (a0_0 : Int) (a0_1 : Int) (A0_2 : Option Addr) (c0_2 : Nat) (l0_2 : List Int) (A1 : Option Addr) (c1 : Nat) (l1 : List Int) (r1 : Int) (r2 : Bool) (w : World) (hr0_2 : Kd.C (Kd.int .i64) w A0_2 l0_2.length l0_2) (hc0_2 : l0_2.length ≤ c0_2) (hr1 : Kd.C (Kd.int .i64) w A1 l1.length l1) (hc1 : l1.length ≤ c1) (h : impl_HitsOf.f k a0_0 a0_1 l0_2 l1 = some (r1, r2)) :
  Calls Try.prog 37 #[.agg #[.int .i64 a0_0, .int .i64 a0_1, .slice A0_2 l0_2.length c0_2], .slice A1 l1.length c1] w fun e w' => e = .returned (.tuple #[.int .i64 r1, .bool r2]) ∧ Below w.heap.size w w' := by
 have hu43 := Try.underlying43
 have HR0_2 := za hr0_2
 have HC0_2 := za hc0_2
 clear hr0_2 hc0_2
 have HR1 := za hr1
 have HC1 := za hc1
 clear hr1 hc1
 have HB := za (Below.refl w.heap.size w)
 have H : ((impl_isSquare.f a0_0 a0_1 l0_2).bind fun t102 => (if t102 = true then ((impl_isPerm.f k l1 a0_0).bind fun t103 => (if t103 = true then ((impl_Board_hits.f k a0_0 a0_1 l0_2 l1).bind fun t104 => (some (t104, true))) else (some (0, false)))) else (some (0, false)))) = some (r1, r2) := h
 clear h
 replace H := Option.bind_eq_some_iff.mp H
 obtain ⟨t102, A30, H⟩ := H
 replace H : (if t102 = true then ((impl_isPerm.f k l1 a0_0).bind fun t103 => (if t103 = true then ((impl_Board_hits.f k a0_0 a0_1 l0_2 l1).bind fun t104 => (some (t104, true))) else (some (0, false)))) else (some (0, false))) = some (r1, r2) := H
 have A3 := za A30
 clear A30
 by_cases c4 : t102 = true
 ·
  subst c4
  have H1 : ((impl_isPerm.f k l1 a0_0).bind fun t103 => (if t103 = true then ((impl_Board_hits.f k a0_0 a0_1 l0_2 l1).bind fun t104 => (some (t104, true))) else (some (0, false)))) = some (r1, r2) := by rw [if_pos rfl] at H; exact H
  clear H
  have H := H1
  clear H1
  replace H := Option.bind_eq_some_iff.mp H
  obtain ⟨t103, A50, H⟩ := H
  replace H : (if t103 = true then ((impl_Board_hits.f k a0_0 a0_1 l0_2 l1).bind fun t104 => (some (t104, true))) else (some (0, false))) = some (r1, r2) := H
  have A5 := za A50
  clear A50
  by_cases c6 : t103 = true
  ·
   subst c6
   have H1 : ((impl_Board_hits.f k a0_0 a0_1 l0_2 l1).bind fun t104 => (some (t104, true))) = some (r1, r2) := by rw [if_pos rfl] at H; exact H
   clear H
   have H := H1
   clear H1
   replace H := Option.bind_eq_some_iff.mp H
   obtain ⟨t104, A70, H⟩ := H
   replace H : (some (t104, true)) = some (r1, r2) := H
   have A7 := za A70
   clear A70
   simp only [Option.some.injEq, Prod.mk.injEq] at H
   obtain ⟨rfl, rfl⟩ := H
   go_enter Try.func37, Try.ntmps37
   go_wp2_with (first | ((with_reducible refine zF (N := 2) rfl ?_); refine zG ?hg (N := 2) ?hd (cs := #[.int .i64 a0_0, .int .i64 a0_1, .slice A0_2 l0_2.length c0_2]) (t := 43) ?hr ?_; (case hd => rfl); (case hg => rfl); (case hr => first | (go_simp; done) | (go_simp; rfl)); intro gb101 hg w8 hbox hb; have n0_ := za (zw (by repeat (first | (with_reducible first | exact HB.out | apply zc | apply zd | apply zb) | exact HB.out)) hb); have n1_ := za (hbox); have n2_ := za ((by rw [hg]; exact (zo (by repeat (first | (with_reducible first | exact HB.out | apply zc | apply zd | apply zb) | exact HB.out))) : w.heap.size ≤ gb101)); have n3_ := za ((by rw [hg]; exact (zo (by repeat (first | (with_reducible first | exact HB.out | apply zc | apply zd | apply zb) | exact HB.out))) : w.heap.size ≤ gb101)); clear HB; have HB := n0_; have BK101 := n1_; have GW101 := n2_; have GE101 := n3_; clear n0_ n1_ n2_ n3_; clear hb hbox hg; have hcz9_0 : w8.cell? ⟨gb101, 0, none⟩ = some (.int .i64 a0_0) := (zi BK101.out 0).trans rfl; have hcz9_1 : w8.cell? ⟨gb101, 1, none⟩ = some (.int .i64 a0_1) := (zi BK101.out 1).trans rfl; have hcz9_2 : w8.cell? ⟨gb101, 2, none⟩ = some (.slice A0_2 l0_2.length c0_2) := (zi BK101.out 2).trans rfl; have hfz9_0 := zj BK101.out 0; have hfz9_1 := zj BK101.out 1; have hfz9_2 := zj BK101.out 2) | ((with_reducible refine zy (f := 93) rfl ?_); refine goesL_ (some 7) rfl rfl Try.func93 (by kernel_rfl) rfl #[.agg #[.int .i64 a0_0, .int .i64 a0_1, .slice A0_2 l0_2.length c0_2]] rfl (by (try simp only [List.map_toArray, List.map_cons, List.map_nil]); first | done | rfl | (simp only [List.length_drop, List.length_take]; rfl)) ?_; (with_reducible refine (impl_isSquare.calls a0_0 a0_1 _ _ l0_2 true _ ?side1 ?side2 A3.out).mono ?_); (case side1 => repeat (first | exact (Kd.C_below HR0_2.out HB.out) | (with_reducible refine zp ?_ _) | (with_reducible refine zq ?_ _) | (with_reducible refine zr ?_))); (case side2 => exact HC0_2.out); rintro e w10 ⟨rfl, hb⟩; refine ⟨_, rfl, ?_⟩; have n0_ := za (zA (g := gb101) (o := .cells #[.int .i64 a0_0, .int .i64 a0_1, .slice A0_2 l0_2.length c0_2] 43 (0, 0)) (by (with_reducible repeat (first | refine zg ?_ _ | refine zf ?_ | refine zh ?_ _)); exact BK101.out) hb); have n1_ := za (zw (by repeat (first | (with_reducible first | exact HB.out | apply zc | apply zd | apply zb | refine ze ?_ GE101.out) | exact HB.out)) hb); clear BK101 HB; have BK101 := n0_; have HB := n1_; clear n0_ n1_; (try clear hb); (try clear hb2); (try clear hk); (try clear hi); have hcz11_0 : w10.cell? ⟨gb101, 0, none⟩ = some (.int .i64 a0_0) := (zi BK101.out 0).trans rfl; have hcz11_1 : w10.cell? ⟨gb101, 1, none⟩ = some (.int .i64 a0_1) := (zi BK101.out 1).trans rfl; have hcz11_2 : w10.cell? ⟨gb101, 2, none⟩ = some (.slice A0_2 l0_2.length c0_2) := (zi BK101.out 2).trans rfl; have hfz11_0 := zj BK101.out 0; have hfz11_1 := zj BK101.out 1; have hfz11_2 := zj BK101.out 2) | (go_at_call 100; (with_reducible refine (impl_isPerm.calls k _ _ l1 a0_0 true _ ?side1 ?side2 A5.out).mono ?_); (case side1 => repeat (first | exact (Kd.C_below HR1.out HB.out) | (with_reducible refine zp ?_ _) | (with_reducible refine zq ?_ _) | (with_reducible refine zr ?_))); (case side2 => exact HC1.out); rintro e w' ⟨rfl, ⟨nd, rfl⟩⟩) | ((with_reducible refine zy (f := 96) rfl ?_); refine goesL_ (some 18) rfl rfl Try.func96 (by kernel_rfl) rfl #[.agg #[.int .i64 a0_0, .int .i64 a0_1, .slice A0_2 l0_2.length c0_2], .slice A1 l1.length c1] rfl (by (try simp only [List.map_toArray, List.map_cons, List.map_nil]); first | done | rfl | (simp only [List.length_drop, List.length_take]; rfl)) ?_; (with_reducible refine (impl_Board_hits.calls k a0_0 a0_1 _ _ l0_2 _ _ l1 t104 _ ?side1 ?side2 ?side3 ?side4 A7.out).mono ?_); (case side1 => repeat (first | exact (Kd.C_below HR0_2.out (by repeat (first | (with_reducible first | exact HB.out | apply zc | apply zd | apply zb | refine ze ?_ GE101.out) | exact HB.out))) | (with_reducible refine zp ?_ _) | (with_reducible refine zq ?_ _) | (with_reducible refine zr ?_))); (case side2 => exact HC0_2.out); (case side3 => repeat (first | exact (Kd.C_below HR1.out (by repeat (first | (with_reducible first | exact HB.out | apply zc | apply zd | apply zb | refine ze ?_ GE101.out) | exact HB.out))) | (with_reducible refine zp ?_ _) | (with_reducible refine zq ?_ _) | (with_reducible refine zr ?_))); (case side4 => exact HC1.out); rintro e w12 ⟨rfl, hb⟩; refine ⟨_, rfl, ?_⟩; have n0_ := za (zA (g := gb101) (o := .cells #[.int .i64 a0_0, .int .i64 a0_1, .slice A0_2 l0_2.length c0_2] 43 (0, 0)) (by (with_reducible repeat (first | refine zg ?_ _ | refine zf ?_ | refine zh ?_ _)); exact BK101.out) hb); have n1_ := za (zw (by repeat (first | (with_reducible first | exact HB.out | apply zc | apply zd | apply zb | refine ze ?_ GE101.out) | exact HB.out)) hb); clear BK101 HB; have BK101 := n0_; have HB := n1_; clear n0_ n1_; (try clear hb); (try clear hb2); (try clear hk); (try clear hi)))
   go_ret2
   exact ⟨by first | rfl | (simp [errW_none, errW_some] <;> rfl) | (simp [*, errW_none, errW_some] <;> rfl), by repeat (first | (with_reducible first | exact HB.out | apply zc | apply zd | apply zb | refine ze ?_ GE101.out) | exact HB.out)⟩
  ·
   replace c6 := Bool.eq_false_iff.mpr c6
   subst c6
   have H1 : (some (0, false)) = some (r1, r2) := by rw [if_neg (show ¬ (false = true) by decide)] at H; exact H
   clear H
   have H := H1
   clear H1
   simp only [Option.some.injEq, Prod.mk.injEq] at H
   obtain ⟨rfl, rfl⟩ := H
   go_enter Try.func37, Try.ntmps37
   go_wp2_with (first | ((with_reducible refine zF (N := 2) rfl ?_); refine zG ?hg (N := 2) ?hd (cs := #[.int .i64 a0_0, .int .i64 a0_1, .slice A0_2 l0_2.length c0_2]) (t := 43) ?hr ?_; (case hd => rfl); (case hg => rfl); (case hr => first | (go_simp; done) | (go_simp; rfl)); intro gb101 hg w13 hbox hb; have n0_ := za (zw (by repeat (first | (with_reducible first | exact HB.out | apply zc | apply zd | apply zb) | exact HB.out)) hb); have n1_ := za (hbox); have n2_ := za ((by rw [hg]; exact (zo (by repeat (first | (with_reducible first | exact HB.out | apply zc | apply zd | apply zb) | exact HB.out))) : w.heap.size ≤ gb101)); have n3_ := za ((by rw [hg]; exact (zo (by repeat (first | (with_reducible first | exact HB.out | apply zc | apply zd | apply zb) | exact HB.out))) : w.heap.size ≤ gb101)); clear HB; have HB := n0_; have BK101 := n1_; have GW101 := n2_; have GE101 := n3_; clear n0_ n1_ n2_ n3_; clear hb hbox hg; have hcz14_0 : w13.cell? ⟨gb101, 0, none⟩ = some (.int .i64 a0_0) := (zi BK101.out 0).trans rfl; have hcz14_1 : w13.cell? ⟨gb101, 1, none⟩ = some (.int .i64 a0_1) := (zi BK101.out 1).trans rfl; have hcz14_2 : w13.cell? ⟨gb101, 2, none⟩ = some (.slice A0_2 l0_2.length c0_2) := (zi BK101.out 2).trans rfl; have hfz14_0 := zj BK101.out 0; have hfz14_1 := zj BK101.out 1; have hfz14_2 := zj BK101.out 2) | ((with_reducible refine zy (f := 93) rfl ?_); refine goesL_ (some 7) rfl rfl Try.func93 (by kernel_rfl) rfl #[.agg #[.int .i64 a0_0, .int .i64 a0_1, .slice A0_2 l0_2.length c0_2]] rfl (by (try simp only [List.map_toArray, List.map_cons, List.map_nil]); first | done | rfl | (simp only [List.length_drop, List.length_take]; rfl)) ?_; (with_reducible refine (impl_isSquare.calls a0_0 a0_1 _ _ l0_2 true _ ?side1 ?side2 A3.out).mono ?_); (case side1 => repeat (first | exact (Kd.C_below HR0_2.out HB.out) | (with_reducible refine zp ?_ _) | (with_reducible refine zq ?_ _) | (with_reducible refine zr ?_))); (case side2 => exact HC0_2.out); rintro e w15 ⟨rfl, hb⟩; refine ⟨_, rfl, ?_⟩; have n0_ := za (zA (g := gb101) (o := .cells #[.int .i64 a0_0, .int .i64 a0_1, .slice A0_2 l0_2.length c0_2] 43 (0, 0)) (by (with_reducible repeat (first | refine zg ?_ _ | refine zf ?_ | refine zh ?_ _)); exact BK101.out) hb); have n1_ := za (zw (by repeat (first | (with_reducible first | exact HB.out | apply zc | apply zd | apply zb | refine ze ?_ GE101.out) | exact HB.out)) hb); clear BK101 HB; have BK101 := n0_; have HB := n1_; clear n0_ n1_; (try clear hb); (try clear hb2); (try clear hk); (try clear hi); have hcz16_0 : w15.cell? ⟨gb101, 0, none⟩ = some (.int .i64 a0_0) := (zi BK101.out 0).trans rfl; have hcz16_1 : w15.cell? ⟨gb101, 1, none⟩ = some (.int .i64 a0_1) := (zi BK101.out 1).trans rfl; have hcz16_2 : w15.cell? ⟨gb101, 2, none⟩ = some (.slice A0_2 l0_2.length c0_2) := (zi BK101.out 2).trans rfl; have hfz16_0 := zj BK101.out 0; have hfz16_1 := zj BK101.out 1; have hfz16_2 := zj BK101.out 2) | (go_at_call 100; (with_reducible refine (impl_isPerm.calls k _ _ l1 a0_0 false _ ?side1 ?side2 A5.out).mono ?_); (case side1 => repeat (first | exact (Kd.C_below HR1.out HB.out) | (with_reducible refine zp ?_ _) | (with_reducible refine zq ?_ _) | (with_reducible refine zr ?_))); (case side2 => exact HC1.out); rintro e w' ⟨rfl, ⟨nd, rfl⟩⟩))
   go_ret2
   exact ⟨by first | rfl | (simp [errW_none, errW_some] <;> rfl) | (simp [*, errW_none, errW_some] <;> rfl), by repeat (first | (with_reducible first | exact HB.out | apply zc | apply zd | apply zb | refine ze ?_ GE101.out) | exact HB.out)⟩
 ·
  replace c4 := Bool.eq_false_iff.mpr c4
  subst c4
  have H1 : (some (0, false)) = some (r1, r2) := by rw [if_neg (show ¬ (false = true) by decide)] at H; exact H
  clear H
  have H := H1
  clear H1
  simp only [Option.some.injEq, Prod.mk.injEq] at H
  obtain ⟨rfl, rfl⟩ := H
  go_enter Try.func37, Try.ntmps37
  go_wp2_with (first | ((with_reducible refine zF (N := 2) rfl ?_); refine zG ?hg (N := 2) ?hd (cs := #[.int .i64 a0_0, .int .i64 a0_1, .slice A0_2 l0_2.length c0_2]) (t := 43) ?hr ?_; (case hd => rfl); (case hg => rfl); (case hr => first | (go_simp; done) | (go_simp; rfl)); intro gb101 hg w17 hbox hb; have n0_ := za (zw (by repeat (first | (with_reducible first | exact HB.out | apply zc | apply zd | apply zb) | exact HB.out)) hb); have n1_ := za (hbox); have n2_ := za ((by rw [hg]; exact (zo (by repeat (first | (with_reducible first | exact HB.out | apply zc | apply zd | apply zb) | exact HB.out))) : w.heap.size ≤ gb101)); have n3_ := za ((by rw [hg]; exact (zo (by repeat (first | (with_reducible first | exact HB.out | apply zc | apply zd | apply zb) | exact HB.out))) : w.heap.size ≤ gb101)); clear HB; have HB := n0_; have BK101 := n1_; have GW101 := n2_; have GE101 := n3_; clear n0_ n1_ n2_ n3_; clear hb hbox hg; have hcz18_0 : w17.cell? ⟨gb101, 0, none⟩ = some (.int .i64 a0_0) := (zi BK101.out 0).trans rfl; have hcz18_1 : w17.cell? ⟨gb101, 1, none⟩ = some (.int .i64 a0_1) := (zi BK101.out 1).trans rfl; have hcz18_2 : w17.cell? ⟨gb101, 2, none⟩ = some (.slice A0_2 l0_2.length c0_2) := (zi BK101.out 2).trans rfl; have hfz18_0 := zj BK101.out 0; have hfz18_1 := zj BK101.out 1; have hfz18_2 := zj BK101.out 2) | ((with_reducible refine zy (f := 93) rfl ?_); refine goesL_ (some 7) rfl rfl Try.func93 (by kernel_rfl) rfl #[.agg #[.int .i64 a0_0, .int .i64 a0_1, .slice A0_2 l0_2.length c0_2]] rfl (by (try simp only [List.map_toArray, List.map_cons, List.map_nil]); first | done | rfl | (simp only [List.length_drop, List.length_take]; rfl)) ?_; (with_reducible refine (impl_isSquare.calls a0_0 a0_1 _ _ l0_2 false _ ?side1 ?side2 A3.out).mono ?_); (case side1 => repeat (first | exact (Kd.C_below HR0_2.out HB.out) | (with_reducible refine zp ?_ _) | (with_reducible refine zq ?_ _) | (with_reducible refine zr ?_))); (case side2 => exact HC0_2.out); rintro e w19 ⟨rfl, hb⟩; refine ⟨_, rfl, ?_⟩; have n0_ := za (zA (g := gb101) (o := .cells #[.int .i64 a0_0, .int .i64 a0_1, .slice A0_2 l0_2.length c0_2] 43 (0, 0)) (by (with_reducible repeat (first | refine zg ?_ _ | refine zf ?_ | refine zh ?_ _)); exact BK101.out) hb); have n1_ := za (zw (by repeat (first | (with_reducible first | exact HB.out | apply zc | apply zd | apply zb | refine ze ?_ GE101.out) | exact HB.out)) hb); clear BK101 HB; have BK101 := n0_; have HB := n1_; clear n0_ n1_; (try clear hb); (try clear hb2); (try clear hk); (try clear hi)))
  go_ret2
  exact ⟨by first | rfl | (simp [errW_none, errW_some] <;> rfl) | (simp [*, errW_none, errW_some] <;> rfl), by repeat (first | (with_reducible first | exact HB.out | apply zc | apply zd | apply zb | refine ze ?_ GE101.out) | exact HB.out)⟩
end Go.Proofs.Ytiopnmgcajohfaa.Q
end
section
namespace Go.Proofs.Ytiopnmgcajohfaa.PermK
set_option linter.unusedVariables false
open Go.RowKit Go.Proofs.Ytiopnmgcajohfaa.Q Go.Proofs.YtiopnmgcajohfaaW.PrintWords Go.Proofs.YtiopnmgcajohfaaW.PrintLast Go.Proofs.YtiopnmgcajohfaaW.PrintMore
open Go.Proofs.YtiopnmgcajohfaaL Go.Proofs.Ytiopnmgcajohfaa.LawK Go.Proofs.Ytiopnmgcajohfaa.BoardK
theorem l1Has_l0 {l : List Int} (x : Int) (hl : l.length ≤ 4611686018427387904) : ∀ (d i : Nat), i + d = l.length → Ev (fun k => spec_l1Has.l0 k x l (l.length : Int) i) (decide (x ∈ l.drop i))
  | 0, i, hi => by
    refine Ev.step (f := fun _ => some (decide (x ∈ l.drop i))) (fun k => ?_) (Ev.now _)
    rw [spec_l1Has.l0, if_neg (by omega), List.drop_eq_nil_of_le (by omega)]; rfl
  | d + 1, i, hi => by
    have h1 : wrap64 ((i : Int) + 1) = ((i + 1 : Nat) : Int) := by rw [w64 (by omega) (by omega)]; rfl
    have hi2 : i < l.length := by omega
    rw [List.drop_eq_getElem_cons hi2]
    by_cases e : l[i] = x
    · refine Ev.step (f := fun _ => some (decide (x ∈ l[i] :: l.drop (i + 1)))) (fun k => ?_) (Ev.now _)
      rw [spec_l1Has.l0, if_pos (by omega), if_pos (by omega), if_pos (by omega), rd_lt _ _ hi2, if_pos e, decide_eq_true (by simp [e])]
    · have : (x ∈ l[i] :: l.drop (i + 1)) ↔ x ∈ l.drop (i + 1) := by
        rw [List.mem_cons]; exact ⟨fun h => h.resolve_left (fun h => e h.symm), Or.inr⟩
      rw [decide_eq_decide.mpr this]
      refine Ev.step (fun k => ?_) (l1Has_l0 x hl d (i + 1) (by omega))
      rw [spec_l1Has.l0, if_pos (by omega), if_pos (by omega), if_pos (by omega), rd_lt _ _ hi2, if_neg e, h1]
theorem l1Has {l : List Int} (x : Int) (hl : l.length ≤ 4611686018427387904) : Ev (fun k => spec_l1Has.f k l x) (decide (x ∈ l)) := by
  refine Ev.congr (fun k => ?_) (l1Has_l0 x hl l.length 0 (by omega))
  unfold spec_l1Has.f; rfl
theorem index_l0 {l : List Int} (x : Int) (hl : l.length ≤ 4611686018427387904) : ∀ (d i : Nat), i + d = l.length → ∃ r : Int, (decide (r ≥ 0) = decide (x ∈ l.drop i)) ∧ Ev (fun k => slices_Index_int_int.l0 k l x (l.length : Int) i) r
  | 0, i, hi => by
    refine ⟨-1, by rw [List.drop_eq_nil_of_le (by omega)]; rfl, Ev.step (f := fun _ => some (-1)) (fun k => ?_) (Ev.now _)⟩
    rw [slices_Index_int_int.l0, if_neg (by omega)]
  | d + 1, i, hi => by
    have h1 : wrap64 ((i : Int) + 1) = ((i + 1 : Nat) : Int) := by rw [w64 (by omega) (by omega)]; rfl
    have hi2 : i < l.length := by omega
    rw [List.drop_eq_getElem_cons hi2]
    by_cases e : x = l[i]
    · refine ⟨i, by rw [decide_eq_true (show x ∈ l[i] :: l.drop (i + 1) from List.mem_cons.2 (Or.inl e))]; simp, Ev.step (f := fun _ => some (i : Int)) (fun k => ?_) (Ev.now _)⟩
      rw [slices_Index_int_int.l0, if_pos (by omega), if_pos (by omega), if_pos (by omega), rd_lt _ _ hi2, if_pos e]
    · have : (x ∈ l[i] :: l.drop (i + 1)) ↔ x ∈ l.drop (i + 1) := by
        rw [List.mem_cons]; exact ⟨fun h => h.resolve_left e, Or.inr⟩
      rw [decide_eq_decide.mpr this]
      obtain ⟨r, hr, hev⟩ := index_l0 x hl d (i + 1) (by omega)
      refine ⟨r, hr, Ev.step (fun k => ?_) hev⟩
      rw [slices_Index_int_int.l0, if_pos (by omega), if_pos (by omega), if_pos (by omega), rd_lt _ _ hi2, if_neg e, h1]
theorem contains {l : List Int} (x : Int) (hl : l.length ≤ 4611686018427387904) : Ev (fun k => slices_Contains_int_int.f k l x) (decide (x ∈ l)) := by
  obtain ⟨r, hr, hev⟩ := index_l0 x hl l.length 0 (by omega)
  rw [List.drop_zero] at hr
  rw [← hr]
  unfold slices_Contains_int_int.f slices_Index_int_int.f
  exact Ev.bind (a := r) hev (Ev.now _)
def permI (n : Int) : List Int → List Int → Bool
  | [], _ => true
  | x :: t, pre => inR 0 (n - 1) x && (!decide (x ∈ pre) && permI n t (pre ++ [x]))
def permS : List Int → List Int → Bool
  | [], _ => true
  | x :: t, pre => !decide (x ∈ pre) && permS t (pre ++ [x])
theorem permS_permI (n : Int) : ∀ (t pre : List Int), (t.all (inR 0 (n - 1)) && permS t pre) = permI n t pre
  | [], _ => rfl
  | x :: t, pre => by
    rw [List.all_cons, permS, permI, ← permS_permI n t (pre ++ [x])]
    cases inR 0 (n - 1) x <;> cases decide (x ∈ pre) <;> cases t.all (inR 0 (n - 1)) <;> simp
def permB (n : Int) (l : List Int) : Bool := decide ((l.length : Int) = n) && permI n l []
theorem spec_perm {l : List Int} (hl : l.length ≤ 4611686018427387904) : ∀ (d i : Nat), i + d = l.length → Ev (fun k => spec_boOrder.l0 k l l (l.length : Int) i) (permS (l.drop i) (l.take i))
  | 0, i, hi => by
    refine Ev.step (f := fun _ => some (permS (l.drop i) (l.take i))) (fun k => ?_) (Ev.now _)
    rw [spec_boOrder.l0, if_neg (by omega), List.drop_eq_nil_of_le (by omega)]; rfl
  | d + 1, i, hi => by
    have h1 : wrap64 ((i : Int) + 1) = ((i + 1 : Nat) : Int) := by rw [w64 (by omega) (by omega)]; rfl
    have hi2 : i < l.length := by omega
    have ih := spec_perm hl d (i + 1) (by omega)
    rw [List.take_succ_eq_append_getElem hi2] at ih
    rw [List.drop_eq_getElem_cons hi2, permS]
    refine Ev.step (fun k => by rw [spec_boOrder.l0, if_pos (by omega), if_pos (by omega), if_pos (by omega), if_pos (by omega), rd_lt _ _ hi2, Int.toNat_natCast, h1]) ?_
    refine Ev.bind (l1Has l[i] (by rw [List.length_take]; omega)) ?_
    by_cases e : l[i] ∈ l.take i
    · rw [decide_eq_true e, Bool.not_true, Bool.false_and]
      exact Ev.congr (fun k => by rw [if_pos rfl]) (Ev.now _)
    · rw [decide_eq_false e, Bool.not_false, Bool.true_and]
      exact Ev.congr (fun k => by rw [if_neg (by simp)]) ih
theorem boOrder {l : List Int} (n : Int) (hn : -4611686018427387904 ≤ n) (hn2 : n ≤ 4611686018427387904) (hl : l.length ≤ 4611686018427387904) : Ev (fun k => spec_boOrder.f k l n) (permB n l) := by
  unfold spec_boOrder.f permB
  by_cases h : (l.length : Int) = n
  · refine Ev.congr (fun k => by rw [if_pos h, w64 (by omega) (by omega)]) ?_
    rw [decide_eq_true h, Bool.true_and, ← permS_permI]
    refine Ev.bind (l1All _ _ hl) ?_
    by_cases ha : l.all (inR 0 (n - 1)) = true
    · rw [ha, Bool.true_and]
      refine Ev.step (fun k => by rw [spec_boOrder.j0, if_neg (by simp)]) ?_
      exact spec_perm hl l.length 0 (by omega)
    · have haf : l.all (inR 0 (n - 1)) = false := by simpa using ha
      rw [haf, Bool.false_and]
      exact Ev.step (fun k => by rw [spec_boOrder.j0, if_pos (by simp)]) (Ev.now _)
  · rw [decide_eq_false h, Bool.false_and]
    exact Ev.congr (fun k => by rw [if_neg h]) (Ev.step (fun k => by rw [spec_boOrder.j0, if_pos (by simp)]) (Ev.now _))
theorem impl_perm {l : List Int} {n : Int} (hn : -4611686018427387904 ≤ n) (hn2 : n ≤ 4611686018427387904) (hl : l.length ≤ 4611686018427387904) : ∀ (d i : Nat), i + d = l.length → Ev (fun k => impl_isPerm.l0 k l n l (l.length : Int) i) (permI n (l.drop i) (l.take i))
  | 0, i, hi => by
    refine Ev.step (f := fun _ => some (permI n (l.drop i) (l.take i))) (fun k => ?_) (Ev.now _)
    rw [impl_isPerm.l0, if_neg (by omega), List.drop_eq_nil_of_le (by omega)]; rfl
  | d + 1, i, hi => by
    have h1 : wrap64 ((i : Int) + 1) = ((i + 1 : Nat) : Int) := by rw [w64 (by omega) (by omega)]; rfl
    have hi2 : i < l.length := by omega
    have ih := impl_perm hn hn2 hl d (i + 1) (by omega)
    rw [List.take_succ_eq_append_getElem hi2] at ih
    rw [List.drop_eq_getElem_cons hi2, permI]
    refine Ev.step (fun k => by rw [impl_isPerm.l0, if_pos (by omega), if_pos (by omega), if_pos (by omega), within_f, Option.bind_some, rd_lt _ _ hi2, Int.toNat_natCast, h1, w64 (n := n - 1) (by omega) (by omega)]) ?_
    by_cases hin : inR 0 (n - 1) l[i] = true
    · rw [hin, Bool.true_and]
      refine Ev.congr (fun k => by rw [if_pos (show decide (0 ≤ l[i] ∧ l[i] ≤ n - 1) = true from hin), if_pos (by omega)]) ?_
      refine Ev.bind (contains l[i] (by rw [List.length_take]; omega)) ?_
      by_cases e : l[i] ∈ l.take i
      · rw [decide_eq_true e, Bool.not_true, Bool.false_and]
        exact Ev.congr (fun k => by rw [if_pos rfl]) (Ev.now _)
      · rw [decide_eq_false e, Bool.not_false, Bool.true_and]
        exact Ev.congr (fun k => by rw [if_neg (by simp)]) ih
    · have hinf : inR 0 (n - 1) l[i] = false := by simpa using hin
      rw [hinf, Bool.false_and]
      exact Ev.congr (fun k => by rw [if_neg (show ¬ decide (0 ≤ l[i] ∧ l[i] ≤ n - 1) = true from hin)]) (Ev.now _)
theorem isPerm {l : List Int} (n : Int) (hn : -4611686018427387904 ≤ n) (hn2 : n ≤ 4611686018427387904) (hl : l.length ≤ 4611686018427387904) : Ev (fun k => impl_isPerm.f k l n) (permB n l) := by
  unfold impl_isPerm.f permB
  by_cases h : (l.length : Int) = n
  · refine Ev.congr (fun k => by rw [if_pos h]) ?_
    rw [decide_eq_true h, Bool.true_and]
    exact impl_perm hn hn2 hl l.length 0 (by omega)
  · rw [decide_eq_false h, Bool.false_and]
    exact Ev.congr (fun k => by rw [if_neg h]) (Ev.now _)
theorem permI_in (n : Int) : ∀ (t pre : List Int), permI n t pre = true → ∀ x ∈ t, 0 ≤ x ∧ x < n
  | [], _, _, x, hx => by simp at hx
  | y :: t, pre, h, x, hx => by
    rw [permI] at h
    simp only [Bool.and_eq_true, inR, decide_eq_true_eq] at h
    rcases List.mem_cons.1 hx with rfl | hx
    · omega
    · exact permI_in n t _ h.2.2 x hx
def hitsF (l : List Int) : List Int → Nat → Int → Int
  | [], _, s => s
  | c :: t, i, s => hitsF l t (i + 1) (if cell l i c.toNat then s + 1 else s)
theorem spec_hits {l p : List Int} (r c : Int) (hp : p.length = l.length) (hl6 : l.length ≤ 6) (hb : ∀ i (hi : i < l.length), 0 ≤ l[i] ∧ l[i] < 64) (hin : ∀ x ∈ p, 0 ≤ x ∧ x < 64) : ∀ (d i : Nat) (s : Int), i + d = p.length → 0 ≤ s → s ≤ i → Ev (fun k => spec_hiHits.l0 k s p (p.length : Int) i r c l) (hitsF l (p.drop i) i s)
  | 0, i, s, hi, h0, hs => by
    refine Ev.step (f := fun _ => some (hitsF l (p.drop i) i s)) (fun k => ?_) (Ev.now _)
    rw [spec_hiHits.l0, if_neg (by omega), List.drop_eq_nil_of_le (by omega)]; rfl
  | d + 1, i, s, hi, h0, hs => by
    have h1 : wrap64 ((i : Int) + 1) = ((i + 1 : Nat) : Int) := by rw [w64 (by omega) (by omega)]; rfl
    have h2 : wrap64 (s + 1) = s + 1 := w64 (by omega) (by omega)
    have hi2 : i < p.length := by omega
    have hx := hin p[i] (List.getElem_mem hi2)
    obtain ⟨m, hm⟩ : ∃ m : Nat, p[i] = m := ⟨p[i].toNat, by omega⟩
    have hil : i < l.length := by omega
    have hc := boHas_f r c hil (hb i hil).1 (hb i hil).2 (show m ≤ 64 by omega)
    rw [List.drop_eq_getElem_cons hi2, hitsF, hm, Int.toNat_natCast]
    by_cases e : cell l i m = true
    · rw [if_pos e]
      refine Ev.step (fun k => ?_) (spec_hits r c hp hl6 hb hin d (i + 1) (s + 1) (by omega) (by omega) (by omega))
      rw [spec_hiHits.l0, if_pos (by omega), if_pos (by omega), if_pos (by omega), rd_lt _ _ hi2, hm, hc, Option.bind_some, if_pos e, h1, h2]
    · rw [if_neg e]
      refine Ev.step (fun k => ?_) (spec_hits r c hp hl6 hb hin d (i + 1) s (by omega) (by omega) (by omega))
      rw [spec_hiHits.l0, if_pos (by omega), if_pos (by omega), if_pos (by omega), rd_lt _ _ hi2, hm, hc, Option.bind_some, if_neg e, h1]
theorem impl_hits {l p : List Int} (r c : Int) (hp : p.length = l.length) (hl6 : l.length ≤ 6) (hb : ∀ i (hi : i < l.length), 0 ≤ l[i] ∧ l[i] < 64) (hin : ∀ x ∈ p, 0 ≤ x ∧ x < 64) : ∀ (d i : Nat) (s : Int), i + d = p.length → 0 ≤ s → s ≤ i → Ev (fun k => impl_Board_hits.l0 k s p (p.length : Int) i r c l) (hitsF l (p.drop i) i s)
  | 0, i, s, hi, h0, hs => by
    refine Ev.step (f := fun _ => some (hitsF l (p.drop i) i s)) (fun k => ?_) (Ev.now _)
    rw [impl_Board_hits.l0, if_neg (by omega), List.drop_eq_nil_of_le (by omega)]; rfl
  | d + 1, i, s, hi, h0, hs => by
    have h1 : wrap64 ((i : Int) + 1) = ((i + 1 : Nat) : Int) := by rw [w64 (by omega) (by omega)]; rfl
    have h2 : wrap64 (s + 1) = s + 1 := w64 (by omega) (by omega)
    have hi2 : i < p.length := by omega
    have hx := hin p[i] (List.getElem_mem hi2)
    obtain ⟨m, hm⟩ : ∃ m : Nat, p[i] = m := ⟨p[i].toNat, by omega⟩
    have hil : i < l.length := by omega
    have hc := has_f r c hil (hb i hil).1 (hb i hil).2 (show m ≤ 64 by omega)
    rw [List.drop_eq_getElem_cons hi2, hitsF, hm, Int.toNat_natCast]
    by_cases e : cell l i m = true
    · rw [if_pos e]
      refine Ev.step (fun k => ?_) (impl_hits r c hp hl6 hb hin d (i + 1) (s + 1) (by omega) (by omega) (by omega))
      rw [impl_Board_hits.l0, if_pos (by omega), if_pos (by omega), if_pos (by omega), rd_lt _ _ hi2, hm, hc, Option.bind_some, if_pos e, h1, h2]
    · rw [if_neg e]
      refine Ev.step (fun k => ?_) (impl_hits r c hp hl6 hb hin d (i + 1) s (by omega) (by omega) (by omega))
      rw [impl_Board_hits.l0, if_pos (by omega), if_pos (by omega), if_pos (by omega), rd_lt _ _ hi2, hm, hc, Option.bind_some, if_neg e, h1]
def squareB (r c : Int) (l : List Int) : Bool := isBoardB r c l && (r == c)
theorem hiGood {l : List Int} (r c : Int) (hl : l.length ≤ 4611686018427387904) : Ev (fun k => spec_hiGood.f k r c l) (squareB r c l) := by
  unfold spec_hiGood.f squareB
  refine Ev.bind (boGood r c hl) ?_
  by_cases h : isBoardB r c l = true
  · rw [h, Bool.true_and]
    exact Ev.congr (fun k => by rw [if_pos rfl]) (Ev.now _)
  · have hf : isBoardB r c l = false := by simpa using h
    rw [hf, Bool.false_and]
    exact Ev.congr (fun k => by rw [if_neg (by simp)]) (Ev.now _)
theorem isSquare_f (r c : Int) (l : List Int) : impl_isSquare.f r c l = some (squareB r c l) := by
  unfold impl_isSquare.f squareB impl_IsBoard.f
  rw [Option.bind_some]
  by_cases h : isBoardB r c l = true
  · rw [if_pos h, h, Bool.true_and]
  · have hf : isBoardB r c l = false := by simpa using h
    rw [if_neg h, hf, Bool.false_and]
def hitsAnswer (r c : Int) (l p : List Int) : Int × Bool := if squareB r c l && permB r p then (hitsF l p 0 0, true) else (0, false)
theorem board_bits {r c : Int} {l : List Int} (h : squareB r c l = true) : l.length ≤ 6 ∧ (l.length : Int) = r ∧ 1 ≤ l.length ∧ r = c ∧ ∀ i (hi : i < l.length), 0 ≤ l[i] ∧ l[i] < 64 := by
  unfold squareB at h
  simp only [Bool.and_eq_true, beq_iff_eq] at h
  obtain ⟨R, C, rfl, rfl, h3, h4, h5, h6, h7, hb⟩ := board_of h.1
  have h64 := two_pow_six h7
  exact ⟨by omega, by omega, by omega, h.2, fun i hi => ⟨(hb i hi).1, by have := (hb i hi).2; omega⟩⟩
theorem perm_len {n : Int} {p : List Int} (h : permB n p = true) : (p.length : Int) = n ∧ ∀ x ∈ p, 0 ≤ x ∧ x < n := by
  unfold permB at h
  simp only [Bool.and_eq_true, decide_eq_true_eq] at h
  exact ⟨h.1, permI_in n p [] h.2⟩
theorem spec_hitsOf {r c : Int} {l p : List Int} (hl : l.length ≤ 1048576) (hp : p.length ≤ 1048576) : Ev (fun k => spec_HitsOf.f k r c l p) (hitsAnswer r c l p) := by
  unfold spec_HitsOf.f hitsAnswer
  refine Ev.bind (hiGood r c (by omega)) ?_
  by_cases hg : squareB r c l = true
  · obtain ⟨h1, h2, h3, h4, hb⟩ := board_bits hg
    refine Ev.congr (fun k => by rw [if_pos hg]) ?_
    rw [hg, Bool.true_and]
    by_cases hc : (p.length : Int) = r
    · refine Ev.congr (fun k => by rw [if_pos hc]) ?_
      refine Ev.bind (boOrder r (by omega) (by omega) (by omega)) ?_
      by_cases ha : permB r p = true
      · obtain ⟨q1, q2⟩ := perm_len ha
        refine Ev.congr (fun k => by rw [if_pos ha]) ?_
        rw [if_pos ha]
        refine Ev.bind (a := hitsF l p 0 0) ?_ (Ev.now _)
        unfold spec_hiHits.f
        exact spec_hits r c (by omega) h1 hb (fun x hx => by have := q2 x hx; omega) p.length 0 0 (by omega) (by omega) (by omega)
      · rw [if_neg ha]
        exact Ev.congr (fun k => by rw [if_neg ha]) (Ev.now _)
    · rw [if_neg (fun ha => hc (perm_len ha).1)]
      exact Ev.congr (fun k => by rw [if_neg hc]) (Ev.now _)
  · have hgf : squareB r c l = false := by simpa using hg
    rw [hgf, Bool.false_and, if_neg (by simp)]
    exact Ev.congr (fun k => by rw [if_neg (by simp)]) (Ev.now _)
theorem impl_hitsOf {r c : Int} {l p : List Int} (hp : p.length ≤ 1048576) : Ev (fun k => impl_HitsOf.f k r c l p) (hitsAnswer r c l p) := by
  unfold impl_HitsOf.f hitsAnswer
  refine Ev.congr (fun k => by rw [isSquare_f, Option.bind_some]) ?_
  by_cases hg : squareB r c l = true
  · obtain ⟨h1, h2, h3, h4, hb⟩ := board_bits hg
    refine Ev.congr (fun k => by rw [if_pos hg]) ?_
    rw [hg, Bool.true_and]
    refine Ev.bind (isPerm r (by omega) (by omega) (by omega)) ?_
    by_cases ha : permB r p = true
    · obtain ⟨q1, q2⟩ := perm_len ha
      refine Ev.congr (fun k => by rw [if_pos ha]) ?_
      rw [if_pos ha]
      refine Ev.bind (a := hitsF l p 0 0) ?_ (Ev.now _)
      unfold impl_Board_hits.f
      exact impl_hits r c (by omega) h1 hb (fun x hx => by have := q2 x hx; omega) p.length 0 0 (by omega) (by omega) (by omega)
    · rw [if_neg ha]
      exact Ev.congr (fun k => by rw [if_neg ha]) (Ev.now _)
  · have hgf : squareB r c l = false := by simpa using hg
    rw [hgf, Bool.false_and, if_neg (by simp)]
    exact Ev.congr (fun k => by rw [if_neg (by simp)]) (Ev.now _)
end Go.Proofs.Ytiopnmgcajohfaa.PermK
end
section
namespace Go.Proofs.Ytiopnmgcajohfaa.PH
set_option linter.unusedVariables false
set_option linter.unusedSectionVars false
open Go.RowKit Go.Proofs.YtiopnmgcajohfaaW.PrintWords Go.Proofs.YtiopnmgcajohfaaW.PrintLast Go.Proofs.YtiopnmgcajohfaaW.PrintMore
open Go.Proofs.YtiopnmgcajohfaaL Go.Proofs.Ytiopnmgcajohfaa.LawK Go.Proofs.Ytiopnmgcajohfaa.BoardK Go.Proofs.Ytiopnmgcajohfaa.Walk Go.Proofs.Ytiopnmgcajohfaa.Q Go.Proofs.Ytiopnmgcajohfaa.PermK
section
variable (RI CI hI kI : Int) (R cp a gb gk go kk : Nat) (l ps : List Int) (A0 : Option Addr) (c0 : Nat) (w : World)
  (hps : ps.length = R) (hcp : R ≤ cp) (hc0 : l.length ≤ c0) (hr : Kd.C (Kd.int .i64) w (some ⟨a, 0, none⟩) R ps) (hL : Kd.C (Kd.int .i64) w A0 l.length l)
  (hgb : w.heap[gb]? = some (.cells #[.int .i64 RI, .int .i64 CI, .slice A0 l.length c0] 43 (0, 0))) (hgk : w.heap[gk]? = some (.cells #[.int .i64 kI] 3 (0, 0)))
  (hh : impl_Board_hits.f kk RI CI l ps = some hI)
include hps hcp hc0 hr hL hgb hgk hh
set_option maxHeartbeats 4000000 in
set_option maxRecDepth 100000 in
theorem ph1_skip (hne : hI ≠ kI) : Calls Try.prog 95 #[.slice (some ⟨a, 0, none⟩) R cp, .pointer (some ⟨gb, 0, none⟩), .pointer (some ⟨gk, 0, none⟩), .pointer (some ⟨go, 0, none⟩)] w
    fun e w' => e = .returned (.tuple #[]) ∧ Below w.heap.size w w' := by
  have CX := Lib.hid (fun (W : World) (hb : Below w.heap.size w W) => by
    have := impl_Board_hits.calls kk RI CI A0 c0 l (some ⟨a, 0, none⟩) cp ps hI W (Kd.C_below hL hb) hc0 (by rw [hps]; exact Kd.C_below hr hb) (by rw [hps]; exact hcp) hh
    rw [hps] at this
    have h2 : Calls Try.prog 96 #[.agg #[.int .i64 RI, .int .i64 CI, .slice A0 l.length c0], .slice (some ⟨a, 0, none⟩) R cp] W fun e w' => e = .returned (.int .i64 hI) ∧ Below w.heap.size w w' := this.mono (by rintro e w' ⟨rfl, h3⟩; exact ⟨rfl, hb.trans (h3.mono hb.size)⟩)
    exact h2)
  have c1 : (hI == kI) = false := beq_eq_false_iff_ne.mpr hne
  have BK := Aside0.mk hgk
  have hz2 : w.cell? ⟨gb, 0, none⟩ = some (.int .i64 RI) := (blk_cell hgb 0).trans rfl
  have hz3 : w.cell? ⟨gb, 1, none⟩ = some (.int .i64 CI) := (blk_cell hgb 1).trans rfl
  have hz4 : w.cell? ⟨gb, 2, none⟩ = some (.slice A0 l.length c0) := (blk_cell hgb 2).trans rfl
  have hz5 : w.cell? ⟨gk, 0, none⟩ = some (.int .i64 kI) := (blk_cell hgk 0).trans rfl
  have hu24 := Try.underlying43
  clear hps hcp hc0 hr hL hgb hgk hh hne
  go_enter Try.func95, Try.ntmps95
  go_wp2
  go_region_with (go_at_call 96; refine (CX.out _ (by repeat (first | exact Below.refl _ _ | apply below_drew1 | apply pw_below_drewN))).mono ?_; rintro e w2 ⟨rfl, hb⟩; have hb2 := Aside0.mk hb; have hz6 : w2.cell? ⟨gk, 0, none⟩ = some (.int .i64 kI) := (blk_cell (blk_below BK.out hb) 0).trans rfl; clear hb)
  all_goals go_wp2
  all_goals first | go_end0 | ((try simp only [Exit.inBlock, Exit.then]); refine bodyPost_ret (results_none rfl _ _ _) rfl ?_)
  all_goals exact ⟨rfl, hb2.out⟩
end
section
variable (RI CI hI : Int) (R cp a gb gk go kk bs : Nat) (l ps : List Int) (out : List (List Int)) (A0 : Option Addr) (c0 : Nat) (v : Value) (OKP : Nat → Prop) (w : World)
  (hps : ps.length = R) (hR6 : R ≤ 6) (hcp : R ≤ cp) (hc0 : l.length ≤ c0) (hr : Kd.C (Kd.int .i64) w (some ⟨a, 0, none⟩) R ps) (hL : Kd.C (Kd.int .i64) w A0 l.length l)
  (hgb : w.heap[gb]? = some (.cells #[.int .i64 RI, .int .i64 CI, .slice A0 l.length c0] 43 (0, 0))) (hgk : w.heap[gk]? = some (.cells #[.int .i64 hI] 3 (0, 0)))
  (hgo : w.heap[go]? = some (.cells #[v] 29 (0, 0))) (hng : ∀ k, OKP k → k ≠ go) (hbs : bs ≤ w.heap.size) (hnew : ∀ k, w.heap.size ≤ k → OKP k)
  (ho : Kd.S (Kd.slice 3 (Kd.int .i64)) 28 w bs OKP v out) (hol : out.length ≤ 1000000)
  (hh : impl_Board_hits.f kk RI CI l ps = some hI)
include hps hR6 hcp hc0 hr hL hgb hgk hgo hng hbs hnew ho hol hh
set_option maxHeartbeats 8000000 in
set_option maxRecDepth 100000 in
theorem ph1_take : Calls Try.prog 95 #[.slice (some ⟨a, 0, none⟩) R cp, .pointer (some ⟨gb, 0, none⟩), .pointer (some ⟨gk, 0, none⟩), .pointer (some ⟨go, 0, none⟩)] w
    fun e w' => e = .returned (.tuple #[]) ∧ ∃ v', w'.heap[go]? = some (.cells #[v'] 29 (0, 0)) ∧ Kd.S (Kd.slice 3 (Kd.int .i64)) 28 w' bs OKP v' (out ++ [ps]) ∧ Still (fun k => k = go ∨ OKP k) w w' := by
  have CX := Lib.hid (fun (W : World) (hb : Below w.heap.size w W) => by
    have := impl_Board_hits.calls kk RI CI A0 c0 l (some ⟨a, 0, none⟩) cp ps hI W (Kd.C_below hL hb) hc0 (by rw [hps]; exact Kd.C_below hr hb) (by rw [hps]; exact hcp) hh
    rw [hps] at this
    have h2 : Calls Try.prog 96 #[.agg #[.int .i64 RI, .int .i64 CI, .slice A0 l.length c0], .slice (some ⟨a, 0, none⟩) R cp] W fun e w' => e = .returned (.int .i64 hI) ∧ Below w.heap.size w w' := this.mono (by rintro e w' ⟨rfl, h3⟩; exact ⟨rfl, hb.trans (h3.mono hb.size)⟩)
    exact h2)
  have CC := Lib.hid (fun (W : World) (hb : Below w.heap.size w W) => by
    have := slices_Clone_int_int.calls (some ⟨a, 0, none⟩) cp ps ps W (by rw [hps]; exact Kd.C_below hr hb) (by rw [hps]; exact hcp) (by rw [slices_Clone_int_int.f, if_pos (by omega)])
    rw [hps] at this
    have h2 : Calls Try.prog 81 #[.slice (some ⟨a, 0, none⟩) R cp] W fun e w' => ∃ v0_ : Value, e = .returned v0_ ∧ Kd.R (Kd.int .i64) 3 w' w.heap.size (fun _ => True) v0_ ps ∧ Below w.heap.size w w' := this.mono (by rintro e w' ⟨v0, rfl, h3, h4⟩; exact ⟨v0, rfl, Kd.R_lower h3 hb.size, hb.trans (h4.mono hb.size)⟩)
    exact h2)
  have BK := Aside0.mk hgk
  have BO := Aside0.mk hgo
  have HS := Aside0.mk ho
  have HN := Lib.hid hnew
  have HL := Aside0.mk hol
  have HBS := Aside0.mk hbs
  have HGL := Lib.hid hng
  have hz2 : w.cell? ⟨gb, 0, none⟩ = some (.int .i64 RI) := (blk_cell hgb 0).trans rfl
  have hz3 : w.cell? ⟨gb, 1, none⟩ = some (.int .i64 CI) := (blk_cell hgb 1).trans rfl
  have hz4 : w.cell? ⟨gb, 2, none⟩ = some (.slice A0 l.length c0) := (blk_cell hgb 2).trans rfl
  have hz5 : w.cell? ⟨gk, 0, none⟩ = some (.int .i64 hI) := (blk_cell hgk 0).trans rfl
  have hu24 := Try.underlying43
  clear hps hR6 hcp hc0 hr hL hgb hgk hgo hh hnew ho hol hbs hng
  go_enter Try.func95, Try.ntmps95
  go_wp2
  go_region_with (go_at_call 96; refine (CX.out _ (by repeat (first | exact Below.refl _ _ | apply below_drew1 | apply pw_below_drewN))).mono ?_; rintro e w2 ⟨rfl, hb⟩; have hb2 := Aside0.mk hb; have hz6 : w2.cell? ⟨gk, 0, none⟩ = some (.int .i64 hI) := (blk_cell (blk_below BK.out hb) 0).trans rfl; have hz7 : w2.cell? ⟨go, 0, none⟩ = some v := (blk_cell (blk_below BO.out hb) 0).trans rfl; have hf7 : w2.frozen? ⟨go, 0, none⟩ = false := blk_frozen (blk_below BO.out hb) 0; clear hb)
  all_goals go_wp2
  all_goals clear hz2 hz3 hz4 hz5 hz6
  all_goals go_region_law (first | (refine Kd.S_append_step (Kd.slice 3 (Kd.int .i64)) (w0 := w) bs (by kernel_rfl) (.tmp 10) (.tmp 13) 29 28 (.slice none 0 0) 24 (by rfl) Try.underlying29 info28 rfl (by decide) (by decide) v out ps [.slice A3 ps.length c3] OKP (fun k => some k = (Value.slice A3 ps.length c3).ownBlock) (by rfl) (by rfl) ?x1 ?x2 ?x3 ?x4 ?x5 ?x6 ?x7 ?_; (case x1 => exact ⟨_, rfl, (by (with_reducible repeat (first | apply Kd.R_alloc | apply Kd.R_drewN | apply Kd.R_drew)); exact Kd.R_tight rfl (Kd.R_lower H3.out HBS.out))⟩); (case x2 => exact fun k hk => (have h1 := Kd.R_base H3.out k hk.symm; ⟨HN.out k h1, fun he => (by have h2 := Kd.S_lt HS.out k he.symm; omega)⟩)); (case x3 => exact fun k hk => HN.out k (Nat.le_trans hb3.out.size hk)); (case x4 => ((with_reducible repeat (first | apply Kd.S_alloc | apply Kd.S_drewN | apply Kd.S_drew)); exact Kd.S_mono (Kd.S_below (Kd.S_bound HS.out) hb3.out) (fun k hk => ⟨hk.1, fun he => (by have h1 := Kd.R_base H3.out k he.symm; have h2 := hk.2.2.1; omega)⟩))); (case x5 => exact (by repeat (first | (with_reducible first | exact hb3.out.mono HBS.out | apply pw_below_drewN | apply below_drew1) | exact hb3.out.mono HBS.out))); (case x6 => exact Nat.le_trans HBS.out hb3.out.size); (case x7 => (have := HL.out; omega)); intro v4 w4 hs4 hb4 hg4 hat4; obtain ⟨A4, c4, rfl⟩ := Kd.S_slice hs4; have K4 := Aside0.mk (blk_grown (g := go) (o := .cells #[v] 29 (0, 0)) (by (with_reducible repeat (first | refine blk_drewN ?_ _ | refine blk_drew ?_ | refine blk_alloc ?_ _)); exact blk_below BO.out hb3.out) hg4 (fun he => HGL.out go ((Kd.S_R HS.out).1 go he.symm) rfl)); have S4 := Aside0.mk hs4; have B4 := Aside0.mk hb4; have G4 := Aside0.mk hg4; have T4 := Aside0.mk hat4; have hz9 : w4.cell? ⟨go, 0, none⟩ = some v := (blk_cell K4.out 0).trans rfl; have hf9 : w4.frozen? ⟨go, 0, none⟩ = false := blk_frozen K4.out 0; clear hs4 hb4 hg4 hat4) | (rw [if_pos (by kernel_rfl)]; go_wp2_with (go_at_call 81; refine (CC.out _ (by repeat (first | exact hb2.out | exact Below.refl _ _ | apply below_drew1 | apply pw_below_drewN))).mono ?_; rintro e w3 ⟨v3, rfl, ho3, hb⟩; obtain ⟨A3, c3, rfl⟩ := Kd.R_slice ho3; have hb3 := Aside0.mk hb; have H3 := Aside0.mk ho3; have hz8 : w3.cell? ⟨go, 0, none⟩ = some v := (blk_cell (blk_below BO.out hb) 0).trans rfl; have hz8a : (w3.alloc (Obj.cells #[Value.slice A3 ps.length c3] 28)).cell? ⟨go, 0, none⟩ = some v := (blk_cell (blk_alloc (blk_below BO.out hb) _) 0).trans rfl; have hf8 : w3.frozen? ⟨go, 0, none⟩ = false := blk_frozen (blk_below BO.out hb) 0; clear hb ho3)))
  all_goals go_wp2
  all_goals first | go_end0 | ((try simp only [Exit.inBlock, Exit.then]); refine bodyPost_ret (results_none rfl _ _ _) rfl ?_)
  all_goals have S5 := Kd.S_far (p := ⟨go, 0, none⟩) (Kd.S_bound S4.out) (fun k hk => HGL.out k hk.1) (.slice A4 (out ++ [ps]).length c4)
  all_goals rw [show (out ++ [ps]).length = out.length + 1 by simp] at S5
  all_goals replace S5 := Kd.S_mono (ok' := OKP) S5 (fun _ hk => hk.1)
  all_goals exact ⟨rfl, _, blk_put K4.out 0 _ rfl, S5, ⟨Kept.setCell (Kept.of_grown G4.out (by repeat (first | (with_reducible first | exact Kept.of_below hb3.out _ | apply Kept.alloc | apply Kept.drewN | apply Kept.drew) | exact Kept.of_below hb3.out _)) (fun k hk => .inl (.inr ((Kd.S_R HS.out).1 k hk)))) (.inl (.inl rfl)) _, B4.out.os, B4.out.tape, B4.out.output⟩⟩
end
end Go.Proofs.Ytiopnmgcajohfaa.PH
end
section
namespace Go.Proofs.Ytiopnmgcajohfaa.HN
set_option linter.unusedVariables false
open Go.RowKit Go.Proofs.YtiopnmgcajohfaaW.PrintWords Go.Proofs.YtiopnmgcajohfaaW.PrintLast Go.Proofs.YtiopnmgcajohfaaW.PrintMore
open Go.Proofs.YtiopnmgcajohfaaL Go.Proofs.Ytiopnmgcajohfaa.LawK Go.Proofs.Ytiopnmgcajohfaa.BoardK Go.Proofs.Ytiopnmgcajohfaa.Walk Go.Proofs.Ytiopnmgcajohfaa.Q Go.Proofs.Ytiopnmgcajohfaa.PermK
def countsF (l : List Int) (m : Nat) (vis : List (List Int)) : List Int := vis.foldl (fun o p => o.set (hitsF l p 0 0).toNat (IntKind.i64.wrap (rdOf 0 o (hitsF l p 0 0) + 1))) (List.replicate m 0)
theorem hitsF_bound (l : List Int) : ∀ (p : List Int) (i : Nat) (s : Int), s ≤ hitsF l p i s ∧ hitsF l p i s ≤ s + p.length
  | [], i, s => by simp [hitsF]
  | c :: t, i, s => by
    rw [hitsF]
    by_cases e : cell l i c.toNat = true
    · have := hitsF_bound l t (i + 1) (s + 1); rw [if_pos e, List.length_cons]; omega
    · have := hitsF_bound l t (i + 1) s; rw [if_neg e, List.length_cons]; omega
theorem ways_in (l : List Int) (C : Nat) : ∀ (d r t : Nat) (pre : List Int), (∀ x ∈ pre, -1 ≤ x ∧ x < C) → ∀ q ∈ waysFrom l C d r t pre, ∀ x ∈ q, -1 ≤ x ∧ x < C
  | 0, r, t, pre, h, q, hq => by rw [waysFrom, List.mem_singleton] at hq; subst hq; exact h
  | d + 1, r, t, pre, h, q, hq => by
    rw [waysFrom, List.mem_flatMap] at hq
    obtain ⟨c, hc, hq⟩ := hq
    have hc2 : -1 ≤ c ∧ c < C := by
      obtain ⟨i, hi, e⟩ := List.mem_iff_getElem.1 hc
      rw [iota_get] at e; rw [iota_length] at hi; omega
    have hn : ∀ x ∈ pre ++ [c], -1 ≤ x ∧ x < C := by
      intro x hx
      rcases List.mem_append.1 hx with hx | hx
      · exact h x hx
      · rw [List.mem_singleton.1 hx]; exact hc2
    unfold colWays at hq
    split at hq
    · exact ways_in l C d (r + 1) t _ hn q hq
    · split at hq
      · exact ways_in l C d (r + 1) _ _ hn q hq
      · cases hq
theorem perms_in {R : Nat} {p : List Int} (h : p ∈ permsOf R) (hp : p.length = R) : ∀ x ∈ p, 0 ≤ x ∧ x < R := by
  obtain ⟨h1, h2⟩ := List.mem_filter.1 h
  have h3 := ways_in _ R R 0 0 [] (by simp) p h1
  intro x hx
  have h4 : rooksN p = p.length := by rw [hp]; simpa using h2
  have h5 := List.countP_eq_length.1 h4 x hx
  have := h3 x hx
  simp at h5
  omega
theorem hits_ok {RI CI : Int} {l p : List Int} (hs : squareB RI CI l = true) (hp : p.length = l.length) (hin : ∀ x ∈ p, 0 ≤ x ∧ x < l.length) : ∃ kk, impl_Board_hits.f kk RI CI l p = some (hitsF l p 0 0) := by
  obtain ⟨h1, h2, h3, h4, h5⟩ := board_bits hs
  have := impl_hits (l := l) (p := p) RI CI hp h1 h5 (fun x hx => by have := hin x hx; omega) p.length 0 0 (by omega) (by omega) (by omega)
  rw [List.drop_zero] at this
  obtain ⟨kk, hk⟩ := this.rounds
  exact ⟨kk, hk⟩
end Go.Proofs.Ytiopnmgcajohfaa.HN
end
section
namespace Go.Proofs.Ytiopnmgcajohfaa.Q
set_option linter.unusedVariables false
open Go.RowKit Go.Proofs.YtiopnmgcajohfaaW.PrintWords Go.Proofs.YtiopnmgcajohfaaW.PrintLast Go.Proofs.YtiopnmgcajohfaaW.PrintMore
open Go.Proofs.YtiopnmgcajohfaaL Go.Proofs.Ytiopnmgcajohfaa.LawK Go.Proofs.Ytiopnmgcajohfaa.BoardK Go.Proofs.Ytiopnmgcajohfaa.Walk Go.Proofs.Ytiopnmgcajohfaa.PermK Go.Proofs.Ytiopnmgcajohfaa.HN Go.Proofs.Ytiopnmgcajohfaa.PH
def hitting (l : List Int) (k : Int) (vis : List (List Int)) : List (List Int) := vis.filter (fun p => decide (hitsF l p 0 0 = k))
def impl_PermutationsHitting.f (a0_0 : Int) (a0_1 : Int) (l0_2 : List Int) (a1 : Int) : Option (List (List Int) × Bool) :=
  if squareB a0_0 a0_1 l0_2 = true then (if inR 0 6 a1 = true then some (hitting l0_2 a1 (permsOf l0_2.length), true) else some ([], false)) else some ([], false)
def OkP (n : Nat) (S : Nat → Prop) (go gb gk i : Nat) : Prop := n ≤ i ∧ ¬ S i ∧ i ≠ go ∧ i ≠ gb ∧ i ≠ gk
theorem perms_len {R : Nat} (h : R ≤ 6) : (permsOf R).length ≤ 117649 := by
  have h1 := List.length_filter_le (fun p => rooksN p == R) (waysFrom (fullRows R) R R 0 0 [])
  have h2 := ways_len (fullRows R) R R 0 0 []
  have h3 : ∀ R : Fin 7, (R.val + 1) ^ R.val ≤ 117649 := by decide
  have h4 := h3 ⟨R, by omega⟩
  unfold permsOf
  simp only [] at h4
  omega
structure PInv (RI CI kI : Int) (gb gk go : Nat) (l : List Int) (A0 : Option Addr) (c0 : Nat) (w0 W : World) (S : Nat → Prop) (vis : List (List Int)) (w : World) : Prop where
  b : w.heap[gb]? = some (.cells #[.int .i64 RI, .int .i64 CI, .slice A0 l.length c0] 43 (0, 0))
  k : w.heap[gk]? = some (.cells #[.int .i64 kI] 3 (0, 0))
  o : ∃ v, w.heap[go]? = some (.cells #[v] 29 (0, 0)) ∧ Kd.S (Kd.slice 3 (Kd.int .i64)) 28 w w0.heap.size (OkP w0.heap.size S go gb gk) v (hitting l kI vis)
  B : Below w0.heap.size w0 w
  s : ∀ i, S i → W.heap.size ≤ i
theorem within_R (a b c : Int) : impl_within.f a b c = some (inR b c a) := by
  unfold impl_within.f inR
  by_cases h : b ≤ a
  · rw [if_pos h]; simp [h]
  · rw [if_neg h]; congr 1; exact (decide_eq_false (by omega)).symm
set_option maxHeartbeats 8000000 in
set_option maxRecDepth 100000 in
theorem impl_PermutationsHitting.calls (a0_0 a0_1 : Int) (A0_2 : Option Addr) (c0_2 : Nat) (l0_2 : List Int) (a1 : Int) (r1 : List (List Int)) (r2 : Bool) (w : World) (hr0_2 : Kd.C (Kd.int .i64) w A0_2 l0_2.length l0_2) (hc0_2 : l0_2.length ≤ c0_2) (h : impl_PermutationsHitting.f a0_0 a0_1 l0_2 a1 = some (r1, r2)) :
    Calls Try.prog 31 #[.agg #[.int .i64 a0_0, .int .i64 a0_1, .slice A0_2 l0_2.length c0_2], .int .i64 a1] w fun e w' => ∃ v0_ : Value, e = .returned (.tuple #[v0_, .bool r2]) ∧ Kd.S (Kd.slice 3 (Kd.int .i64)) 28 w' w.heap.size (fun _ => True) v0_ r1 ∧ Below w.heap.size w w' := by
  have HB := Aside0.mk (Below.refl w.heap.size w)
  have SQ := Lib.hid (fun (W : World) (hb : Below w.heap.size w W) => by
    have := impl_isSquare.calls a0_0 a0_1 A0_2 c0_2 l0_2 (squareB a0_0 a0_1 l0_2) W (Kd.C_below hr0_2 hb) hc0_2 (isSquare_f a0_0 a0_1 l0_2)
    have h2 : Calls Try.prog 93 #[.agg #[.int .i64 a0_0, .int .i64 a0_1, .slice A0_2 l0_2.length c0_2]] W fun e w' => e = .returned (.bool (squareB a0_0 a0_1 l0_2)) ∧ Below w.heap.size w w' ∧ Below W.heap.size W w' := this.mono (by rintro e w' ⟨rfl, h3⟩; exact ⟨rfl, hb.trans (h3.mono hb.size), h3⟩)
    exact h2)
  have WI := Lib.hid (fun (W : World) => impl_within.calls0 a1 0 6 (inR 0 6 a1) W (within_R a1 0 6))
  have hu24 := Try.underlying43
  by_cases hs : squareB a0_0 a0_1 l0_2 = true
  rotate_left
  · have hs2 : squareB a0_0 a0_1 l0_2 = false := by simpa using hs
    rw [impl_PermutationsHitting.f, if_neg hs] at h
    simp only [Option.some.injEq, Prod.mk.injEq] at h
    obtain ⟨rfl, rfl⟩ := h
    rw [hs2] at SQ
    clear hs hs2 hr0_2 hc0_2 WI
    go_enter Try.func31, Try.ntmps31
    go_wp2_with (first
      | ((with_reducible refine gate_dst (N := 2) rfl ?_); refine box_event ?hg (N := 2) ?hd (cs := #[.int .i64 a0_0, .int .i64 a0_1, .slice A0_2 l0_2.length c0_2]) (t := 43) ?hr ?_; (case hd => rfl); (case hg => rfl); (case hr => first | (go_simp; done) | (go_simp; rfl)); intro gb hg w1 hbox hb; have G1 := Aside0.mk hg; have K1 := Aside0.mk hbox; have B1 := Aside0.mk hb; clear hg hbox hb)
      | ((with_reducible refine gate_dst (N := 3) rfl ?_); refine box_event ?hg (N := 3) ?hd (cs := #[.int .i64 a1]) (t := 3) ?hr ?_; (case hd => rfl); (case hg => rfl); (case hr => first | (go_simp; done) | (go_simp; rfl)); intro gk hg w2 hbox hb; have G2 := Aside0.mk hg; have K2 := Aside0.mk hbox; have B2 := Aside0.mk hb; clear hg hbox hb; have z1 : w2.cell? ⟨gb, 0, none⟩ = some (.int .i64 a0_0) := (blk_cell (blk_below K1.out B2.out) 0).trans rfl; have z2 : w2.cell? ⟨gb, 1, none⟩ = some (.int .i64 a0_1) := (blk_cell (blk_below K1.out B2.out) 1).trans rfl; have z3 : w2.cell? ⟨gb, 2, none⟩ = some (.slice A0_2 l0_2.length c0_2) := (blk_cell (blk_below K1.out B2.out) 2).trans rfl)
      | (go_at_call 93; refine (SQ.out _ (B1.out.trans (B2.out.mono B1.out.size))).mono ?_; rintro e w3 ⟨rfl, hb, hb'⟩; have B3 := Aside0.mk hb; clear hb hb'))
    go_ret2
    exact ⟨_, rfl, Kd.S_nil _ _ _ _ _, by repeat (first | exact B3.out | apply below_drew1 | apply pw_below_drewN)⟩
  rw [impl_PermutationsHitting.f, if_pos hs] at h
  rw [hs] at SQ
  by_cases hk : inR 0 6 a1 = true
  rotate_left
  · have hk2 : inR 0 6 a1 = false := by simpa using hk
    rw [if_neg hk] at h
    simp only [Option.some.injEq, Prod.mk.injEq] at h
    obtain ⟨rfl, rfl⟩ := h
    rw [hk2] at WI
    clear hs hk hk2 hr0_2 hc0_2
    go_enter Try.func31, Try.ntmps31
    go_wp2_with (first
      | ((with_reducible refine gate_dst (N := 2) rfl ?_); refine box_event ?hg (N := 2) ?hd (cs := #[.int .i64 a0_0, .int .i64 a0_1, .slice A0_2 l0_2.length c0_2]) (t := 43) ?hr ?_; (case hd => rfl); (case hg => rfl); (case hr => first | (go_simp; done) | (go_simp; rfl)); intro gb hg w1 hbox hb; have G1 := Aside0.mk hg; have K1 := Aside0.mk hbox; have B1 := Aside0.mk hb; clear hg hbox hb)
      | ((with_reducible refine gate_dst (N := 3) rfl ?_); refine box_event ?hg (N := 3) ?hd (cs := #[.int .i64 a1]) (t := 3) ?hr ?_; (case hd => rfl); (case hg => rfl); (case hr => first | (go_simp; done) | (go_simp; rfl)); intro gk hg w2 hbox hb; have G2 := Aside0.mk hg; have K2 := Aside0.mk hbox; have B2 := Aside0.mk hb; clear hg hbox hb; have z1 : w2.cell? ⟨gb, 0, none⟩ = some (.int .i64 a0_0) := (blk_cell (blk_below K1.out B2.out) 0).trans rfl; have z2 : w2.cell? ⟨gb, 1, none⟩ = some (.int .i64 a0_1) := (blk_cell (blk_below K1.out B2.out) 1).trans rfl; have z3 : w2.cell? ⟨gb, 2, none⟩ = some (.slice A0_2 l0_2.length c0_2) := (blk_cell (blk_below K1.out B2.out) 2).trans rfl)
      | (go_at_call 93; refine (SQ.out _ (B1.out.trans (B2.out.mono B1.out.size))).mono ?_; rintro e w3 ⟨rfl, hb, hb'⟩; have B3 := Aside0.mk hb; have K3 := Aside0.mk (blk_below K2.out hb'); have z4 : w3.cell? ⟨gk, 0, none⟩ = some (.int .i64 a1) := (blk_cell K3.out 0).trans rfl; clear hb hb')
      | (go_at_call 79; refine (WI.out _).mono ?_; rintro e w' ⟨rfl, rfl⟩))
    go_ret2
    exact ⟨_, rfl, Kd.S_nil _ _ _ _ _, by repeat (first | exact B3.out | apply below_drew1 | apply pw_below_drewN)⟩
  rw [if_pos hk] at h
  rw [hk] at WI
  simp only [Option.some.injEq, Prod.mk.injEq] at h
  obtain ⟨h, rfl⟩ := h
  obtain ⟨hl6, hlr, hl1, hrc, hbits⟩ := board_bits hs
  have KEY : ∀ (W : World) (gb gk go : Nat), Below w.heap.size w W → w.heap.size ≤ go → w.heap.size ≤ gb → w.heap.size ≤ gk → go ≠ gb → go ≠ gk → go < W.heap.size → gb < W.heap.size → gk < W.heap.size →
      PInv a0_0 a0_1 a1 gb gk go l0_2 A0_2 c0_2 w W (fun _ => False) [] W →
      Calls Try.prog 94 #[.int .i64 a0_0, .func (.func 95) #[] #[.pointer (some ⟨gb, 0, none⟩), .pointer (some ⟨gk, 0, none⟩), .pointer (some ⟨go, 0, none⟩)]] W fun e w' => e = .returned (.tuple #[]) ∧
        ∃ v, w'.heap[go]? = some (.cells #[v] 29 (0, 0)) ∧ Kd.S (Kd.slice 3 (Kd.int .i64)) 28 w' w.heap.size (fun _ => True) v r1 ∧ Below w.heap.size w w' := by
    intro W gb gk go hBW bo bb bk nob nok lo lb lk hst
    refine (PermsPH.perms_calls (.pointer (some ⟨gb, 0, none⟩)) (.pointer (some ⟨gk, 0, none⟩)) (.pointer (some ⟨go, 0, none⟩)) l0_2.length a0_0 hlr.symm hl1 hl6
      (PInv a0_0 a0_1 a1 gb gk go l0_2 A0_2 c0_2 w W)
      (by
        intro S vis w1 w2 hi hs1
        have kp : ∀ g, g < W.heap.size → ∀ {o}, w1.heap[g]? = some o → w2.heap[g]? = some o := fun g hg o ho => (hs1.kept.2 g (blk_lt ho) (fun h => by have := hi.s g h; omega)).trans ho
        obtain ⟨v, ho1, ho2⟩ := hi.o
        exact ⟨kp gb lb hi.b, kp gk lk hi.k, ⟨v, kp go lo ho1, Kd.S_step ho2 (fun i hi' hlt => hs1.kept.2 i hlt hi'.2.1)⟩, Still.below hi.B hs1 (fun i h => Nat.le_trans hBW.size (hi.s i h)), hi.s⟩)
      W
      (by
        intro S w1 hS hB1
        obtain ⟨v, ho1, ho2⟩ := hst.o
        exact ⟨blk_below hst.b hB1, blk_below hst.k hB1, ⟨v, blk_below ho1 hB1, Kd.S_below (Kd.S_mono (Kd.S_bound ho2) (fun i hi' => ⟨hi'.1.1, fun h => by have := hS i h; have := hi'.2.2.1; omega, hi'.1.2.2⟩)) hB1⟩, hBW.trans (hB1.mono hBW.size), hS⟩)
      (by
        intro S vis ps w1 a cp hS hSlt hps hmem hSa hC hcp hi
        have hin := perms_in (by obtain ⟨b, hb2⟩ := hmem; rw [hb2]; simp) hps
        obtain ⟨kk, hk⟩ := hits_ok hs hps hin
        obtain ⟨v, ho1, ho2⟩ := hi.o
        by_cases e : hitsF l0_2 ps 0 0 = a1
        · have hvl : (hitting l0_2 a1 vis).length ≤ 1000000 := by
            obtain ⟨b, hb2⟩ := hmem
            have h1 := perms_len hl6
            have h2 : (hitting l0_2 a1 vis).length ≤ vis.length := List.length_filter_le _ _
            rw [hb2, List.length_append] at h1
            omega
          have hgk2 := hi.k
          rw [← e] at hgk2
          refine (ph1_take a0_0 a0_1 (hitsF l0_2 ps 0 0) l0_2.length cp a gb gk go kk w.heap.size l0_2 ps (hitting l0_2 a1 vis) A0_2 c0_2 v (OkP w.heap.size S go gb gk) w1 hps hl6 hcp hc0_2 hC (Kd.C_below hr0_2 hi.B) hi.b hgk2 ho1 (fun k h => h.2.2.1) hi.B.size (fun k hk' => ⟨Nat.le_trans hi.B.size hk', fun h => by have := hSlt k h; omega, fun h => by have := blk_lt ho1; omega, fun h => by have := blk_lt hi.b; omega, fun h => by have := blk_lt hi.k; omega⟩) ho2 hvl hk).mono ?_
          rintro e' w2 ⟨rfl, v', ho3, ho4, hst2⟩
          have kp : ∀ g, g ≠ go → ¬ OkP w.heap.size S go gb gk g → ∀ {o}, w1.heap[g]? = some o → w2.heap[g]? = some o := fun g hg hn o ho => (hst2.kept.2 g (blk_lt ho) (fun h => h.elim hg hn)).trans ho
          refine ⟨rfl, ⟨kp gb (Ne.symm nob) (fun h => h.2.2.2.1 rfl) hi.b, kp gk (Ne.symm nok) (fun h => h.2.2.2.2 rfl) hi.k, ⟨v', ho3, ?_⟩, Still.below hi.B hst2 ?_, hi.s⟩, fun i hSi hlt => ?_⟩
          · unfold hitting at ho4 ⊢
            rw [List.filter_append, List.filter_cons, if_pos (decide_eq_true e), List.filter_nil]
            exact ho4
          · rintro i (rfl | h)
            · exact bo
            · exact h.1
          · exact hst2.kept.2 i hlt (fun h => h.elim (fun h => by have := hi.s i hSi; omega) (fun h => h.2.1 hSi))
        · refine (ph1_skip a0_0 a0_1 (hitsF l0_2 ps 0 0) a1 l0_2.length cp a gb gk go kk l0_2 ps A0_2 c0_2 w1 hps hcp hc0_2 hC (Kd.C_below hr0_2 hi.B) hi.b hi.k hk e).mono ?_
          rintro e' w2 ⟨rfl, hb2⟩
          refine ⟨rfl, ⟨blk_below hi.b hb2, blk_below hi.k hb2, ⟨v, blk_below ho1 hb2, ?_⟩, hi.B.trans (hb2.mono hi.B.size), hi.s⟩, fun i hSi hlt => hb2.block i hlt⟩
          unfold hitting at ho2 ⊢
          rw [List.filter_append, List.filter_cons, if_neg (by simpa using e), List.filter_nil, List.append_nil]
          exact Kd.S_below ho2 hb2)).mono ?_
    rintro e w' ⟨rfl, S, hS, hi⟩
    obtain ⟨v, ho1, ho2⟩ := hi.o
    exact ⟨rfl, v, ho1, by rw [← h]; exact Kd.S_mono ho2 (fun _ _ => trivial), hi.B⟩
  have KX := Lib.hid KEY
  clear KEY h hs hk hl6 hlr hl1 hrc hbits hr0_2 hc0_2
  go_enter Try.func31, Try.ntmps31
  go_wp2_with (first
    | ((with_reducible refine gate_dst (N := 2) rfl ?_); refine box_event ?hg (N := 2) ?hd (cs := #[.int .i64 a0_0, .int .i64 a0_1, .slice A0_2 l0_2.length c0_2]) (t := 43) ?hr ?_; (case hd => rfl); (case hg => rfl); (case hr => first | (go_simp; done) | (go_simp; rfl)); intro gb hg w1 hbox hb; have G1 := Aside0.mk hg; have K1 := Aside0.mk hbox; have B1 := Aside0.mk hb; clear hg hbox hb)
    | ((with_reducible refine gate_dst (N := 3) rfl ?_); refine box_event ?hg (N := 3) ?hd (cs := #[.int .i64 a1]) (t := 3) ?hr ?_; (case hd => rfl); (case hg => rfl); (case hr => first | (go_simp; done) | (go_simp; rfl)); intro gk hg w2 hbox hb; have G2 := Aside0.mk hg; have K2 := Aside0.mk hbox; have B2 := Aside0.mk hb; clear hg hbox hb; have z1 : w2.cell? ⟨gb, 0, none⟩ = some (.int .i64 a0_0) := (blk_cell (blk_below K1.out B2.out) 0).trans rfl; have z2 : w2.cell? ⟨gb, 1, none⟩ = some (.int .i64 a0_1) := (blk_cell (blk_below K1.out B2.out) 1).trans rfl; have z3 : w2.cell? ⟨gb, 2, none⟩ = some (.slice A0_2 l0_2.length c0_2) := (blk_cell (blk_below K1.out B2.out) 2).trans rfl)
    | (go_at_call 93; refine (SQ.out _ (B1.out.trans (B2.out.mono B1.out.size))).mono ?_; rintro e w3 ⟨rfl, hb, hb'⟩; have B3 := Aside0.mk hb; have K3 := Aside0.mk (blk_below K2.out hb'); have K3b := Aside0.mk (blk_below (blk_below K1.out B2.out) hb'); have z4 : w3.cell? ⟨gk, 0, none⟩ = some (.int .i64 a1) := (blk_cell K3.out 0).trans rfl; clear hb hb')
    | (go_at_call 79; refine (WI.out _).mono ?_; rintro e w' ⟨rfl, rfl⟩)
    | ((with_reducible refine gate_dst (N := 15) rfl ?_); refine Kd.S_lit (Kd.slice 3 (Kd.int .i64)) _ 28 ?hg (N := 15) ?hd (xs := ([] : List (List Int))) (inner := []) (ok := fun _ => True) (okp := fun _ => True) ?hr ?hp (fun _ hk => hk) trivial (Below.refl _ _) (Nat.le_refl _) (by simp) ?_; (case hd => rfl); (case hg => rfl); (case hr => first | (go_simp; done) | (go_simp; rfl)); (case hp => exact (Reps.none _ _)); intro v5 w5 ho5 hb hg_ hnew_; clear hg_ hnew_; obtain ⟨A5, c5, hv5⟩ := Kd.S_slice ho5; have hv6 : v5 = .slice A5 0 c5 := hv5; clear hv5; subst hv6; have O5 := Aside0.mk ho5; have K5 := Aside0.mk (blk_below K3.out hb); have K5b := Aside0.mk (blk_below K3b.out hb); have B5 := Aside0.mk hb; have L5 := Aside0.mk (And.intro (blk_lt K3.out) (blk_lt K3b.out)); clear ho5 hb)
    | ((with_reducible refine gate_dst (N := 6) rfl ?_); refine box_event ?hg (N := 6) ?hd (cs := #[.slice none 0 0]) (t := 29) ?hr ?_; (case hd => rfl); (case hg => rfl); (case hr => first | (go_simp; done) | (go_simp; rfl)); intro go hg w6 hbox hb; have G6 := Aside0.mk hg; have K6 := Aside0.mk hbox; have B6 := Aside0.mk hb; clear hg hbox hb; have y1 : w6.cell? ⟨go, 0, none⟩ = some (.slice none 0 0) := (blk_cell K6.out 0).trans rfl; have f1 : w6.frozen? ⟨go, 0, none⟩ = false := blk_frozen K6.out 0; have nbo := Aside0.mk (show gb ≠ go from Nat.ne_of_lt (by rw [G6.out]; exact blk_lt K5b.out)); have nko := Aside0.mk (show gk ≠ go from Nat.ne_of_lt (by rw [G6.out]; exact blk_lt K5.out)); have z5 : (w6.setCell ⟨go, 0, none⟩ (.slice A5 0 c5)).cell? ⟨gb, 0, none⟩ = some (.int .i64 a0_0) := (blk_cell (blk_far (blk_below K5b.out B6.out) nbo.out _) 0).trans rfl)
    | (go_at_call 94; (refine (KX.out _ gb gk go ?sB ?s1 ?s2 ?s3 ?s4 ?s5 ?s6 ?s7 ?s8 ?s9).mono ?_); (all_goals have o1 := G1.out); (all_goals have o2 := G2.out); (all_goals have o3 := B1.out.size); (all_goals have o4 := B3.out.size); (all_goals have o5 := B5.out.size); (all_goals have o6 := G6.out); (all_goals have o7 := blk_lt K6.out); (all_goals have o8 : ∀ v, (w6.setCell ⟨go, 0, none⟩ v).heap.size = w6.heap.size := (fun v => by simp [World.setCell])); (all_goals have o9 := blk_lt K5.out); (all_goals have o10 := blk_lt K5b.out); (case sB => exact Below.setCell ((B3.out.trans (B5.out.mono B3.out.size)).trans (B6.out.mono (by omega))) (by (try simp only []); omega) _); (case s1 => omega); (case s2 => omega); (case s3 => omega); (case s4 => exact Ne.symm nbo.out); (case s5 => exact Ne.symm nko.out); (case s6 => rw [o8]; omega); (case s7 => rw [o8]; omega); (case s8 => rw [o8]; omega); (case s9 => exact ⟨blk_far (blk_below K5b.out B6.out) nbo.out _, blk_far (blk_below K5.out B6.out) nko.out _, ⟨_, blk_put K6.out 0 _ rfl, Kd.S_far (Kd.S_mono (Kd.S_below (Kd.S_lower (Kd.S_bound O5.out) B3.out.size) B6.out) (fun i hi => (by have h1 := hi.2.1; have h2 := hi.2.2.1; have h3 := L5.out; exact ⟨by omega, fun h => h, by omega, by omega, by omega⟩))) (p := ⟨go, 0, none⟩) (fun k hk => hk.2.2.1) _⟩, Below.setCell ((B3.out.trans (B5.out.mono B3.out.size)).trans (B6.out.mono (by omega))) (by (try simp only []); omega) _, fun i hi => hi.elim⟩); clear o1 o2 o3 o4 o5 o6 o7 o8 o9 o10; rintro e w7 ⟨rfl, v7, hf1, hf2, hf3⟩; have F2 := Aside0.mk hf2; have F3 := Aside0.mk hf3; have y7 : w7.cell? ⟨go, 0, none⟩ = some v7 := (blk_cell hf1 0).trans rfl; clear hf1 hf2 hf3))
  go_ret2
  exact ⟨_, rfl, F2.out, F3.out⟩
end Go.Proofs.Ytiopnmgcajohfaa.Q
end
section
namespace Go.Proofs.Ytiopnmgcajohfaa.Q
open Go.RowKit Go.Proofs.YtiopnmgcajohfaaW.PrintWords Go.Proofs.YtiopnmgcajohfaaW.PrintLast Go.Proofs.YtiopnmgcajohfaaW.PrintMore
attribute [local go_sem] max2_int min2_int max_two min_two max_three min_three max_four min_four   -- for this text's walks alone
set_option linter.unusedVariables false
set_option linter.unusedSimpArgs false
def impl_FirstHitting.f (a0_0 : Int) (a0_1 : Int) (l0_2 : List Int) (a1 : Int) : Option (List Int × Bool) := (impl_PermutationsHitting.f a0_0 a0_1 l0_2 a1).bind fun bt102 => (if bt102.2 = true then (if (bt102.1.length : Int) = 0 then (some (([] : List Int), false)) else (if 0 < (bt102.1.length : Int) then ((slices_Clone_int_int.f (rd_L1 bt102.1 0)).bind fun t107 => (some (t107, true))) else (none))) else (some (([] : List Int), false)))
set_option maxHeartbeats 8000000 in
set_option maxRecDepth 100000 in
theorem impl_FirstHitting.calls (a0_0 : Int) (a0_1 : Int) (A0_2 : Option Addr) (c0_2 : Nat) (l0_2 : List Int) (a1 : Int) (r1 : List Int) (r2 : Bool) (w : World) (hr0_2 : Kd.C (Kd.int .i64) w A0_2 l0_2.length l0_2) (hc0_2 : l0_2.length ≤ c0_2) (h : impl_FirstHitting.f a0_0 a0_1 l0_2 a1 = some (r1, r2)) :
  Calls Try.prog 26 #[.agg #[.int .i64 a0_0, .int .i64 a0_1, .slice A0_2 l0_2.length c0_2], .int .i64 a1] w fun e w' => ∃ v0_ : Value, e = .returned (.tuple #[v0_, .bool r2]) ∧ Kd.R (Kd.int .i64) 3 w' w.heap.size (fun _ => True) v0_ r1 ∧ Below w.heap.size w w' := by
 have hu43 := Try.underlying43
 have HR0_2 := za hr0_2
 have HC0_2 := za hc0_2
 clear hr0_2 hc0_2
 have HB := za (Below.refl w.heap.size w)
 have H : ((impl_PermutationsHitting.f a0_0 a0_1 l0_2 a1).bind fun bt102 => (if bt102.2 = true then (if (bt102.1.length : Int) = 0 then (some (([] : List Int), false)) else (if 0 < (bt102.1.length : Int) then ((slices_Clone_int_int.f (rd_L1 bt102.1 0)).bind fun t107 => (some (t107, true))) else (none))) else (some (([] : List Int), false)))) = some (r1, r2) := h
 clear h
 replace H := Option.bind_eq_some_iff.mp H
 obtain ⟨⟨t102, t105⟩, A30, H⟩ := H
 replace H : (if t105 = true then (if (t102.length : Int) = 0 then (some (([] : List Int), false)) else (if 0 < (t102.length : Int) then ((slices_Clone_int_int.f (rd_L1 t102 0)).bind fun t107 => (some (t107, true))) else (none))) else (some (([] : List Int), false))) = some (r1, r2) := H
 have A3 := za A30
 clear A30
 by_cases c4 : t105 = true
 ·
  subst c4
  have H1 : (if (t102.length : Int) = 0 then (some (([] : List Int), false)) else (if 0 < (t102.length : Int) then ((slices_Clone_int_int.f (rd_L1 t102 0)).bind fun t107 => (some (t107, true))) else (none))) = some (r1, r2) := by rw [if_pos rfl] at H; exact H
  clear H
  have H := H1
  clear H1
  by_cases c5 : (t102.length : Int) = 0
  ·
   rw [if_pos c5] at H
   have c5b0 : ((t102.length : Int) == 0) = true := beq_iff_eq.mpr c5
   have c5b1 : ((t102.length : Int) != 0) = false := bne_eq_false_iff_eq.mpr c5
   clear c5
   simp only [Option.some.injEq, Prod.mk.injEq] at H
   obtain ⟨rfl, rfl⟩ := H
   go_enter Try.func26, Try.ntmps26
   go_wp2_with (first | ((with_reducible refine zF (N := 2) rfl ?_); refine zG ?hg (N := 2) ?hd (cs := #[.int .i64 a0_0, .int .i64 a0_1, .slice A0_2 l0_2.length c0_2]) (t := 43) ?hr ?_; (case hd => rfl); (case hg => rfl); (case hr => first | (go_simp; done) | (go_simp; rfl)); intro gb101 hg w6 hbox hb; have n0_ := za (zw (by repeat (first | (with_reducible first | exact HB.out | apply zc | apply zd | apply zb) | exact HB.out)) hb); have n1_ := za (hbox); have n2_ := za ((by rw [hg]; exact (zo (by repeat (first | (with_reducible first | exact HB.out | apply zc | apply zd | apply zb) | exact HB.out))) : w.heap.size ≤ gb101)); have n3_ := za ((by rw [hg]; exact (zo (by repeat (first | (with_reducible first | exact HB.out | apply zc | apply zd | apply zb) | exact HB.out))) : w.heap.size ≤ gb101)); clear HB; have HB := n0_; have BK101 := n1_; have GW101 := n2_; have GE101 := n3_; clear n0_ n1_ n2_ n3_; clear hb hbox hg; have hcz7_0 : w6.cell? ⟨gb101, 0, none⟩ = some (.int .i64 a0_0) := (zi BK101.out 0).trans rfl; have hcz7_1 : w6.cell? ⟨gb101, 1, none⟩ = some (.int .i64 a0_1) := (zi BK101.out 1).trans rfl; have hcz7_2 : w6.cell? ⟨gb101, 2, none⟩ = some (.slice A0_2 l0_2.length c0_2) := (zi BK101.out 2).trans rfl; have hfz7_0 := zj BK101.out 0; have hfz7_1 := zj BK101.out 1; have hfz7_2 := zj BK101.out 2) | ((with_reducible refine zy (f := 31) rfl ?_); refine goesL_ (some 11) rfl rfl Try.func31 (by kernel_rfl) rfl #[.agg #[.int .i64 a0_0, .int .i64 a0_1, .slice A0_2 l0_2.length c0_2], .int .i64 a1] rfl (by (try simp only [List.map_toArray, List.map_cons, List.map_nil]); first | done | rfl | (simp only [List.length_drop, List.length_take]; rfl)) ?_; (with_reducible refine (impl_PermutationsHitting.calls a0_0 a0_1 _ _ l0_2 a1 t102 true _ ?side1 ?side2 A3.out).mono ?_); (case side1 => repeat (first | exact (Kd.C_below HR0_2.out HB.out) | (with_reducible refine zp ?_ _) | (with_reducible refine zq ?_ _) | (with_reducible refine zr ?_))); (case side2 => exact HC0_2.out); rintro e w8 ⟨v103, rfl, ho0, hb⟩; refine ⟨_, rfl, ?_⟩; have n0_ := za (Kd.S_lower ho0 (zo (by repeat (first | (with_reducible first | exact HB.out | apply zc | apply zd | apply zb | refine ze ?_ GE101.out) | exact HB.out)))); have n1_ := za (zA (g := gb101) (o := .cells #[.int .i64 a0_0, .int .i64 a0_1, .slice A0_2 l0_2.length c0_2] 43 (0, 0)) (by (with_reducible repeat (first | refine zg ?_ _ | refine zf ?_ | refine zh ?_ _)); exact BK101.out) hb); have n2_ := za (zw (by repeat (first | (with_reducible first | exact HB.out | apply zc | apply zd | apply zb | refine ze ?_ GE101.out) | exact HB.out)) hb); clear BK101 HB; have HO104 := n0_; have BK101 := n1_; have HB := n2_; clear n0_ n1_ n2_; (try clear hb); (try clear hb2); (try clear hk); (try clear hi); (try clear ho0); obtain ⟨Ao9, co9, eo9⟩ := Kd.S_slice HO104.out; subst eo9))
   go_ret2
   exact ⟨_, by first | rfl | (simp [errW_none, errW_some] <;> rfl) | (simp [*, errW_none, errW_some] <;> rfl), by first | exact Kd.R_nil _ _ _ _ _ | exact Kd.N_nil _ _ _ _ _ | exact Kd.V_nil _ _ _ _ _ | exact Kd.Q_nil _ _ _ _ _ | exact Kd.S_nil _ _ _ _ _, by repeat (first | (with_reducible first | exact HB.out | apply zc | apply zd | apply zb | refine ze ?_ GE101.out) | exact HB.out)⟩
  ·
   rw [if_neg c5] at H
   have c5b0 : ((t102.length : Int) == 0) = false := beq_eq_false_iff_ne.mpr c5
   have c5b1 : ((t102.length : Int) != 0) = true := bne_iff_ne.mpr c5
   have c5b2 : ¬ (t102 = []) := fun h_ => c5 (by rw [h_]; rfl)
   by_cases c10 : 0 < (t102.length : Int)
   ·
    rw [if_pos c10] at H
    have c10b0 : decide (0 < (t102.length : Int)) = true := decide_eq_true c10
    have c10b1 : decide (0 < t102.length) = true := decide_eq_true (by omega)
    clear c10
    replace H := Option.bind_eq_some_iff.mp H
    obtain ⟨t107, A110, H⟩ := H
    replace H : (some (t107, true)) = some (r1, r2) := H
    have A11 := za A110
    clear A110
    simp only [Option.some.injEq, Prod.mk.injEq] at H
    obtain ⟨rfl, rfl⟩ := H
    go_enter Try.func26, Try.ntmps26
    go_wp2_with (first | ((with_reducible refine zF (N := 2) rfl ?_); refine zG ?hg (N := 2) ?hd (cs := #[.int .i64 a0_0, .int .i64 a0_1, .slice A0_2 l0_2.length c0_2]) (t := 43) ?hr ?_; (case hd => rfl); (case hg => rfl); (case hr => first | (go_simp; done) | (go_simp; rfl)); intro gb101 hg w12 hbox hb; have n0_ := za (zw (by repeat (first | (with_reducible first | exact HB.out | apply zc | apply zd | apply zb) | exact HB.out)) hb); have n1_ := za (hbox); have n2_ := za ((by rw [hg]; exact (zo (by repeat (first | (with_reducible first | exact HB.out | apply zc | apply zd | apply zb) | exact HB.out))) : w.heap.size ≤ gb101)); have n3_ := za ((by rw [hg]; exact (zo (by repeat (first | (with_reducible first | exact HB.out | apply zc | apply zd | apply zb) | exact HB.out))) : w.heap.size ≤ gb101)); clear HB; have HB := n0_; have BK101 := n1_; have GW101 := n2_; have GE101 := n3_; clear n0_ n1_ n2_ n3_; clear hb hbox hg; have hcz13_0 : w12.cell? ⟨gb101, 0, none⟩ = some (.int .i64 a0_0) := (zi BK101.out 0).trans rfl; have hcz13_1 : w12.cell? ⟨gb101, 1, none⟩ = some (.int .i64 a0_1) := (zi BK101.out 1).trans rfl; have hcz13_2 : w12.cell? ⟨gb101, 2, none⟩ = some (.slice A0_2 l0_2.length c0_2) := (zi BK101.out 2).trans rfl; have hfz13_0 := zj BK101.out 0; have hfz13_1 := zj BK101.out 1; have hfz13_2 := zj BK101.out 2) | ((with_reducible refine zy (f := 31) rfl ?_); refine goesL_ (some 11) rfl rfl Try.func31 (by kernel_rfl) rfl #[.agg #[.int .i64 a0_0, .int .i64 a0_1, .slice A0_2 l0_2.length c0_2], .int .i64 a1] rfl (by (try simp only [List.map_toArray, List.map_cons, List.map_nil]); first | done | rfl | (simp only [List.length_drop, List.length_take]; rfl)) ?_; (with_reducible refine (impl_PermutationsHitting.calls a0_0 a0_1 _ _ l0_2 a1 t102 true _ ?side1 ?side2 A3.out).mono ?_); (case side1 => repeat (first | exact (Kd.C_below HR0_2.out HB.out) | (with_reducible refine zp ?_ _) | (with_reducible refine zq ?_ _) | (with_reducible refine zr ?_))); (case side2 => exact HC0_2.out); rintro e w14 ⟨v103, rfl, ho0, hb⟩; refine ⟨_, rfl, ?_⟩; have n0_ := za (Kd.S_lower ho0 (zo (by repeat (first | (with_reducible first | exact HB.out | apply zc | apply zd | apply zb | refine ze ?_ GE101.out) | exact HB.out)))); have n1_ := za (zA (g := gb101) (o := .cells #[.int .i64 a0_0, .int .i64 a0_1, .slice A0_2 l0_2.length c0_2] 43 (0, 0)) (by (with_reducible repeat (first | refine zg ?_ _ | refine zf ?_ | refine zh ?_ _)); exact BK101.out) hb); have n2_ := za (zw (by repeat (first | (with_reducible first | exact HB.out | apply zc | apply zd | apply zb | refine ze ?_ GE101.out) | exact HB.out)) hb); clear BK101 HB; have HO104 := n0_; have BK101 := n1_; have HB := n2_; clear n0_ n1_ n2_; (try clear hb); (try clear hb2); (try clear hk); (try clear hi); (try clear ho0); obtain ⟨Ao15, co15, eo15⟩ := Kd.S_slice HO104.out; subst eo15; have p106 : 0 ≤ (0 : Int) := (by omega); have q106 : 0 < (t102.length : Int) := of_decide_eq_true (by first | (with_reducible assumption) | assumption); obtain ⟨ad106, A106_0, c106_0, e106, hx106_0, hl106_0, hi106_0⟩ := at_L1 (Kd.S_reads' HO104.out).2.2 0 p106 q106; cases e106; obtain ⟨ce106, hce106, hMe106, hcc106⟩ := Kd.S_get HO104.out [] 0 p106 (by first | exact q106 | exact of_decide_eq_true (by first | (with_reducible assumption) | assumption) | (have e_ := (Kd.S_reads' HO104.out).1; omega)); obtain ⟨ve106_0, rfl, ge106_0⟩ := hMe106; have hv106_0 := hcc106 0 _ rfl; rw [Nat.add_zero, show ((Kd.slice 3 (Kd.int .i64))).sz = 1 from rfl, Nat.mul_one] at hv106_0; replace hv106_0 := Option.some.inj (hv106_0.symm.trans hx106_0); rw [hv106_0] at ge106_0; have HL106_0 := za (show Kd.R (Kd.int .i64) 3 _ _ _ _ (rd_L1 t102 0) from ge106_0); clear hv106_0 ge106_0; clear hcc106 hce106; have qi106 : (0 < t102.length) = True := eq_true (by omega); (try rw [show ((0 : Int)).toNat = 0 from rfl] at hx106_0); (try rw [Addr.add_zero'] at hx106_0); have HR106_0 := za hi106_0; have HC106_0 := za hl106_0; clear hi106_0 hl106_0; replace p106 := eq_true p106; replace q106 := eq_true q106) | ((with_reducible refine zy (f := 81) rfl ?_); refine goesL_ (some 24) rfl rfl Try.func81 (by kernel_rfl) rfl #[.slice A106_0 (rd_L1 t102 0).length c106_0] rfl (by (try simp only [List.map_toArray, List.map_cons, List.map_nil]); first | done | rfl | (simp only [List.length_drop, List.length_take]; rfl)) ?_; (with_reducible refine (slices_Clone_int_int.calls _ _ (rd_L1 t102 0) t107 _ ?side1 ?side2 A11.out).mono ?_); (case side1 => repeat (first | exact (by repeat (first | (with_reducible exact HR106_0.out) | (with_reducible refine zp ?_ _) | (with_reducible refine zq ?_ _) | (with_reducible refine zr ?_) | exact HR106_0.out)) | (with_reducible refine zp ?_ _) | (with_reducible refine zq ?_ _) | (with_reducible refine zr ?_))); (case side2 => exact HC106_0.out); rintro e w16 ⟨v108, rfl, ho0, hb⟩; refine ⟨_, rfl, ?_⟩; have n0_ := za (Kd.S_elder' (by (with_reducible repeat (first | apply Kd.S_alloc | apply Kd.S_drewN | apply Kd.S_drew)); exact HO104.out) (Kd.R_base ho0) hb); have n1_ := za (Kd.R_elder' (by (with_reducible repeat (first | apply zl | apply zm | apply zk)); exact HL106_0.out) (Kd.R_base ho0) hb); have n2_ := za (Kd.R_lower (Kd.R_new' ho0 (Kd.R_lt (by (with_reducible repeat (first | apply zl | apply zm | apply zk)); exact HL106_0.out))) (zo (by repeat (first | (with_reducible first | exact HB.out | apply zc | apply zd | apply zb | refine ze ?_ GE101.out) | exact HB.out)))); have n3_ := za (zA (g := gb101) (o := .cells #[.int .i64 a0_0, .int .i64 a0_1, .slice A0_2 l0_2.length c0_2] 43 (0, 0)) (by (with_reducible repeat (first | refine zg ?_ _ | refine zf ?_ | refine zh ?_ _)); exact BK101.out) hb); have n4_ := za (Kd.C_below (by repeat (first | (with_reducible exact HR106_0.out) | (with_reducible refine zp ?_ _) | (with_reducible refine zq ?_ _) | (with_reducible refine zr ?_) | exact HR106_0.out)) hb); have n5_ := za (zw (by repeat (first | (with_reducible first | exact HB.out | apply zc | apply zd | apply zb | refine ze ?_ GE101.out) | exact HB.out)) hb); clear HO104 HL106_0; clear BK101 HR106_0 HB; have HO104 := n0_; have HL106_0 := n1_; have HO109 := n2_; have BK101 := n3_; have HR106_0 := n4_; have HB := n5_; clear n0_ n1_ n2_ n3_ n4_ n5_; (try clear hb); (try clear hb2); (try clear hk); (try clear hi); (try clear ho0)))
    go_ret2
    exact ⟨_, by first | rfl | (simp [errW_none, errW_some] <;> rfl) | (simp [*, errW_none, errW_some] <;> rfl), by (with_reducible repeat (first | apply zl | apply zm | apply zk)); exact zz HO109.out (fun _ hk => trivial), by repeat (first | (with_reducible first | exact HB.out | apply zc | apply zd | apply zb | refine ze ?_ GE101.out) | exact HB.out)⟩
   ·
    rw [if_neg c10] at H
    exact absurd H (by simp)
 ·
  replace c4 := Bool.eq_false_iff.mpr c4
  subst c4
  have H1 : (some (([] : List Int), false)) = some (r1, r2) := by rw [if_neg (show ¬ (false = true) by decide)] at H; exact H
  clear H
  have H := H1
  clear H1
  simp only [Option.some.injEq, Prod.mk.injEq] at H
  obtain ⟨rfl, rfl⟩ := H
  go_enter Try.func26, Try.ntmps26
  go_wp2_with (first | ((with_reducible refine zF (N := 2) rfl ?_); refine zG ?hg (N := 2) ?hd (cs := #[.int .i64 a0_0, .int .i64 a0_1, .slice A0_2 l0_2.length c0_2]) (t := 43) ?hr ?_; (case hd => rfl); (case hg => rfl); (case hr => first | (go_simp; done) | (go_simp; rfl)); intro gb101 hg w17 hbox hb; have n0_ := za (zw (by repeat (first | (with_reducible first | exact HB.out | apply zc | apply zd | apply zb) | exact HB.out)) hb); have n1_ := za (hbox); have n2_ := za ((by rw [hg]; exact (zo (by repeat (first | (with_reducible first | exact HB.out | apply zc | apply zd | apply zb) | exact HB.out))) : w.heap.size ≤ gb101)); have n3_ := za ((by rw [hg]; exact (zo (by repeat (first | (with_reducible first | exact HB.out | apply zc | apply zd | apply zb) | exact HB.out))) : w.heap.size ≤ gb101)); clear HB; have HB := n0_; have BK101 := n1_; have GW101 := n2_; have GE101 := n3_; clear n0_ n1_ n2_ n3_; clear hb hbox hg; have hcz18_0 : w17.cell? ⟨gb101, 0, none⟩ = some (.int .i64 a0_0) := (zi BK101.out 0).trans rfl; have hcz18_1 : w17.cell? ⟨gb101, 1, none⟩ = some (.int .i64 a0_1) := (zi BK101.out 1).trans rfl; have hcz18_2 : w17.cell? ⟨gb101, 2, none⟩ = some (.slice A0_2 l0_2.length c0_2) := (zi BK101.out 2).trans rfl; have hfz18_0 := zj BK101.out 0; have hfz18_1 := zj BK101.out 1; have hfz18_2 := zj BK101.out 2) | ((with_reducible refine zy (f := 31) rfl ?_); refine goesL_ (some 11) rfl rfl Try.func31 (by kernel_rfl) rfl #[.agg #[.int .i64 a0_0, .int .i64 a0_1, .slice A0_2 l0_2.length c0_2], .int .i64 a1] rfl (by (try simp only [List.map_toArray, List.map_cons, List.map_nil]); first | done | rfl | (simp only [List.length_drop, List.length_take]; rfl)) ?_; (with_reducible refine (impl_PermutationsHitting.calls a0_0 a0_1 _ _ l0_2 a1 t102 false _ ?side1 ?side2 A3.out).mono ?_); (case side1 => repeat (first | exact (Kd.C_below HR0_2.out HB.out) | (with_reducible refine zp ?_ _) | (with_reducible refine zq ?_ _) | (with_reducible refine zr ?_))); (case side2 => exact HC0_2.out); rintro e w19 ⟨v103, rfl, ho0, hb⟩; refine ⟨_, rfl, ?_⟩; have n0_ := za (Kd.S_lower ho0 (zo (by repeat (first | (with_reducible first | exact HB.out | apply zc | apply zd | apply zb | refine ze ?_ GE101.out) | exact HB.out)))); have n1_ := za (zA (g := gb101) (o := .cells #[.int .i64 a0_0, .int .i64 a0_1, .slice A0_2 l0_2.length c0_2] 43 (0, 0)) (by (with_reducible repeat (first | refine zg ?_ _ | refine zf ?_ | refine zh ?_ _)); exact BK101.out) hb); have n2_ := za (zw (by repeat (first | (with_reducible first | exact HB.out | apply zc | apply zd | apply zb | refine ze ?_ GE101.out) | exact HB.out)) hb); clear BK101 HB; have HO104 := n0_; have BK101 := n1_; have HB := n2_; clear n0_ n1_ n2_; (try clear hb); (try clear hb2); (try clear hk); (try clear hi); (try clear ho0)))
  go_ret2
  exact ⟨_, by first | rfl | (simp [errW_none, errW_some] <;> rfl) | (simp [*, errW_none, errW_some] <;> rfl), by first | exact Kd.R_nil _ _ _ _ _ | exact Kd.N_nil _ _ _ _ _ | exact Kd.V_nil _ _ _ _ _ | exact Kd.Q_nil _ _ _ _ _ | exact Kd.S_nil _ _ _ _ _, by repeat (first | (with_reducible first | exact HB.out | apply zc | apply zd | apply zb | refine ze ?_ GE101.out) | exact HB.out)⟩
end Go.Proofs.Ytiopnmgcajohfaa.Q
end
section
namespace Go.Proofs.Ytiopnmgcajohfaa.Q
open Go.RowKit Go.Proofs.YtiopnmgcajohfaaW.PrintWords Go.Proofs.YtiopnmgcajohfaaW.PrintLast Go.Proofs.YtiopnmgcajohfaaW.PrintMore
attribute [local go_sem] max2_int min2_int max_two min_two max_three min_three max_four min_four   -- for this text's walks alone
set_option linter.unusedVariables false
set_option linter.unusedSimpArgs false
def laws_big.f (l0 : List Int) (l1 : List Int) : Option (Bool) := if (l0.length : Int) > 1048576 then (some true) else (some (decide ((l1.length : Int) > (wrap64 (1048576 - (l0.length : Int))))))
set_option maxHeartbeats 8000000 in
set_option maxRecDepth 100000 in
theorem laws_big.calls (A0 : Option Addr) (c0 : Nat) (l0 : List Int) (A1 : Option Addr) (c1 : Nat) (l1 : List Int) (r : Bool) (w : World) (hr0 : Kd.C (Kd.int .u8) w A0 l0.length l0) (hc0 : l0.length ≤ c0) (hr1 : Kd.C (Kd.int .u8) w A1 l1.length l1) (hc1 : l1.length ≤ c1) (h : laws_big.f l0 l1 = some r) :
  Calls Try.prog 32 #[.slice A0 l0.length c0, .slice A1 l1.length c1] w fun e w' => e = .returned (.bool r) ∧ Drawn0 w w' := by
 have HR0 := za hr0
 have HC0 := za hc0
 clear hr0 hc0
 have HR1 := za hr1
 have HC1 := za hc1
 clear hr1 hc1
 have H : (if (l0.length : Int) > 1048576 then (some true) else (some (decide ((l1.length : Int) > (wrap64 (1048576 - (l0.length : Int))))))) = some r := h
 clear h
 by_cases c3 : (l0.length : Int) > 1048576
 ·
  rw [if_pos c3] at H
  have c3b0 : decide (1048576 < (l0.length : Int)) = true := decide_eq_true c3
  have c3b1 : decide (1048576 < l0.length) = true := decide_eq_true (by omega)
  clear c3
  obtain rfl := Option.some.inj H
  go_enter Try.func32, Try.ntmps32
  go_wp2
  go_ret
  exact ⟨by first | rfl | (simp; done) | (simp [*]; done), by repeat (first | exact Drawn0.refl _ | apply Drawn0.step)⟩
 ·
  rw [if_neg c3] at H
  have c3b0 : decide (1048576 < (l0.length : Int)) = false := decide_eq_false c3
  have c3b1 : decide (1048576 < l0.length) = false := decide_eq_false (by omega)
  clear c3
  obtain rfl := Option.some.inj H
  go_enter Try.func32, Try.ntmps32
  go_wp2
  go_ret
  exact ⟨by first | rfl | (simp; done) | (simp [*]; done), by repeat (first | exact Drawn0.refl _ | apply Drawn0.step)⟩
end Go.Proofs.Ytiopnmgcajohfaa.Q
end
section
namespace Go.Proofs.Ytiopnmgcajohfaa.Q
open Go.RowKit Go.Proofs.YtiopnmgcajohfaaW.PrintWords Go.Proofs.YtiopnmgcajohfaaW.PrintLast Go.Proofs.YtiopnmgcajohfaaW.PrintMore
attribute [local go_sem] max2_int min2_int max_two min_two max_three min_three max_four min_four   -- for this text's walks alone
set_option linter.unusedVariables false
set_option linter.unusedSimpArgs false
def IsS88 (w0 W : World) (g : Nat) (f0 : List Int) (f1 : Int) (f2 : Int) : Prop := ∃ A0 c0, W.heap[g]? = some (.cells #[.slice A0 f0.length c0, .int .i64 f1, .int .u64 f2] 88 (0, 0)) ∧ w0.heap.size ≤ g ∧ Kd.C (Kd.int .u8) w0 A0 f0.length f0
theorem IsS88.grown {w0 W : World} {g : Nat} {f0 : List Int} {f1 : Int} {f2 : Int} {W1 : World} {row : Option Nat} (h : IsS88 w0 W g f0 f1 f2) (hw : W.grownBy W1 row) (hne : some g ≠ row) : IsS88 w0 W1 g f0 f1 f2 := by
 obtain ⟨A0, c0, hb, hg, hr0⟩ := h
 exact ⟨A0, c0, blk_grown hb hw hne, hg, hr0⟩
theorem IsS88.kept {w0 W : World} {g : Nat} {f0 : List Int} {f1 : Int} {f2 : Int} {W1 : World} {S : Nat → Prop} (h : IsS88 w0 W g f0 f1 f2) (hk : Kept W W1 S) (hne : ¬ S g) : IsS88 w0 W1 g f0 f1 f2 := by
 obtain ⟨A0, c0, hb, hg, hr0⟩ := h
 exact ⟨A0, c0, blk_kept hb hk hne, hg, hr0⟩
theorem IsS88.below {w0 W : World} {g : Nat} {f0 : List Int} {f1 : Int} {f2 : Int} {W1 : World} (h : IsS88 w0 W g f0 f1 f2) (hw : Below W.heap.size W W1) : IsS88 w0 W1 g f0 f1 f2 := h.grown (grown_of_below hw none) (by simp)
theorem IsS88.alloc {w0 W : World} {g : Nat} {f0 : List Int} {f1 : Int} {f2 : Int} (h : IsS88 w0 W g f0 f1 f2) (o : Obj) : IsS88 w0 (W.alloc o) g f0 f1 f2 := h.below (zc (Below.refl _ _) o)
theorem IsS88.drewN {w0 W : World} {g : Nat} {f0 : List Int} {f1 : Int} {f2 : Int} (h : IsS88 w0 W g f0 f1 f2) (m : Nat) : IsS88 w0 (W.drewN m) g f0 f1 f2 := h
theorem IsS88.drew {w0 W : World} {g : Nat} {f0 : List Int} {f1 : Int} {f2 : Int} (h : IsS88 w0 W g f0 f1 f2) : IsS88 w0 W.drew g f0 f1 f2 := h
theorem IsS88.at_ {w0 W : World} {g : Nat} {f0 : List Int} {f1 : Int} {f2 : Int} {w' : World} {m : Nat} (hq : W.drewN m = w') (h : IsS88 w0 W g f0 f1 f2) : IsS88 w0 w' g f0 f1 f2 := by subst hq; exact IsS88.drewN h m
theorem IsS88.apart {w0 W : World} {g : Nat} {f0 : List Int} {f1 : Int} {f2 : Int} {α : Type} {d : Kd α} {e : Nat} {base : Nat} {ok : Nat → Prop} {v : Value} {xs : List α} (h : IsS88 w0 W g f0 f1 f2) (ho : d.R e W base ok v xs) (ht : ∀ q, q ∈ e :: d.E → q ≠ 88) : d.R e W base (fun k => ok k ∧ k ≠ g) v xs := by
 obtain ⟨A0, c0, hb, hg, hr0⟩ := h
 exact Kd.R_types ho hb ht
theorem IsS88.own_ne {w0 W : World} {g : Nat} {f0 : List Int} {f1 : Int} {f2 : Int} {α : Type} {d : Kd α} {e : Nat} {base : Nat} {ok : Nat → Prop} {v : Value} {xs : List α} (h : IsS88 w0 W g f0 f1 f2) (ho : d.R e W base ok v xs) (ht : e ≠ 88) : some g ≠ v.ownBlock := by
 obtain ⟨A0, c0, hb, hg, hr0⟩ := h
 exact Kd.R_ne ho hb ht
theorem IsS88.lt {w0 W : World} {g : Nat} {f0 : List Int} {f1 : Int} {f2 : Int} (h : IsS88 w0 W g f0 f1 f2) : g < W.heap.size := by
 obtain ⟨A0, c0, hb, hg, hr0⟩ := h
 exact blk_lt hb
theorem IsS88.ge {w0 W : World} {g : Nat} {f0 : List Int} {f1 : Int} {f2 : Int} (h : IsS88 w0 W g f0 f1 f2) : w0.heap.size ≤ g := by
 obtain ⟨A0, c0, hb, hg, hr0⟩ := h
 exact hg
theorem IsS88.far {w0 W : World} {g : Nat} {f0 : List Int} {f1 : Int} {f2 : Int} {p : Addr} (h : IsS88 w0 W g f0 f1 f2) (hne : g ≠ p.block) (u : Value) : IsS88 w0 (W.setCell p u) g f0 f1 f2 := by
 obtain ⟨A0, c0, hb, hg, hr0⟩ := h
 exact ⟨A0, c0, blk_far hb hne u, hg, hr0⟩
theorem cellS88_0 {W : World} {g : Nat} {A0 : Option Addr} {c0 : Nat} {f0 : List Int} {f1 : Int} {f2 : Int} (h : W.heap[g]? = some (.cells #[.slice A0 f0.length c0, .int .i64 f1, .int .u64 f2] 88 (0, 0))) : W.cell? ⟨g, 0, none⟩ = some (.slice A0 f0.length c0) := (zi h 0).trans rfl
theorem cellS88_1 {W : World} {g : Nat} {A0 : Option Addr} {c0 : Nat} {f0 : List Int} {f1 : Int} {f2 : Int} (h : W.heap[g]? = some (.cells #[.slice A0 f0.length c0, .int .i64 f1, .int .u64 f2] 88 (0, 0))) : W.cell? ⟨g, 1, none⟩ = some (.int .i64 f1) := (zi h 1).trans rfl
theorem IsS88.set_1 {w0 W : World} {g : Nat} {f0 : List Int} {f1 : Int} {f2 : Int} (h : IsS88 w0 W g f0 f1 f2) (x : Int) : IsS88 w0 (W.setCell ⟨g, 1, none⟩ (.int .i64 x)) g f0 x f2 := by
 obtain ⟨A0, c0, hb, hg, hr0⟩ := h
 exact ⟨A0, c0, by simpa using blk_set hb 1 (.int .i64 x), hg, hr0⟩
theorem cellS88_2 {W : World} {g : Nat} {A0 : Option Addr} {c0 : Nat} {f0 : List Int} {f1 : Int} {f2 : Int} (h : W.heap[g]? = some (.cells #[.slice A0 f0.length c0, .int .i64 f1, .int .u64 f2] 88 (0, 0))) : W.cell? ⟨g, 2, none⟩ = some (.int .u64 f2) := (zi h 2).trans rfl
theorem IsS88.set_2 {w0 W : World} {g : Nat} {f0 : List Int} {f1 : Int} {f2 : Int} (h : IsS88 w0 W g f0 f1 f2) (x : Int) : IsS88 w0 (W.setCell ⟨g, 2, none⟩ (.int .u64 x)) g f0 f1 x := by
 obtain ⟨A0, c0, hb, hg, hr0⟩ := h
 exact ⟨A0, c0, by simpa using blk_set hb 2 (.int .u64 x), hg, hr0⟩
def spec_l1Cur_next.f (s0_0 : List Int) (s0_1 : Int) (s0_2 : Int) : Option (Int × Int × Int) := if s0_1 < (s0_0.length : Int) then (if 0 ≤ s0_1 then (if (wrap64 (s0_1 + 1)) ≤ (s0_0.length : Int) then (some (wrap64 (rd s0_0 s0_1), wrap64 (s0_1 + 1), IntKind.u64.wrap ((IntKind.u64.wrap ((IntKind.u64.wrap (s0_2 * 6364136223846793005)) + (IntKind.u64.wrap (wrap64 (rd s0_0 s0_1))))) + 1442695040888963407))) else (some (wrap64 (Go.bits .and .u64 ((IntKind.u64.wrap ((IntKind.u64.wrap ((IntKind.u64.wrap (s0_2 * 6364136223846793005)) + (IntKind.u64.wrap (wrap64 (rd s0_0 s0_1))))) + 1442695040888963407)) / 1099511627776) 255), wrap64 (s0_1 + 1), IntKind.u64.wrap ((IntKind.u64.wrap ((IntKind.u64.wrap (s0_2 * 6364136223846793005)) + (IntKind.u64.wrap (wrap64 (rd s0_0 s0_1))))) + 1442695040888963407)))) else (none)) else (if (wrap64 (s0_1 + 1)) ≤ (s0_0.length : Int) then (some (0, wrap64 (s0_1 + 1), IntKind.u64.wrap ((IntKind.u64.wrap ((IntKind.u64.wrap (s0_2 * 6364136223846793005)) + 0)) + 1442695040888963407))) else (some (wrap64 (Go.bits .and .u64 ((IntKind.u64.wrap ((IntKind.u64.wrap ((IntKind.u64.wrap (s0_2 * 6364136223846793005)) + 0)) + 1442695040888963407)) / 1099511627776) 255), wrap64 (s0_1 + 1), IntKind.u64.wrap ((IntKind.u64.wrap ((IntKind.u64.wrap (s0_2 * 6364136223846793005)) + 0)) + 1442695040888963407))))
set_option maxHeartbeats 8000000 in
set_option maxRecDepth 100000 in
theorem spec_l1Cur_next.calls (g : Nat) (s0_0 : List Int) (s0_1 : Int) (s0_2 : Int) (r1 : Int) (r2 : Int) (r3 : Int) (w0 w : World) (hI : IsS88 w0 w g s0_0 s0_1 s0_2) (hB : Below w0.heap.size w0 w) (h : spec_l1Cur_next.f s0_0 s0_1 s0_2 = some (r1, r2, r3)) :
  Calls Try.prog 151 #[.pointer (some ⟨g, 0, none⟩)] w fun e w' => e = .returned (.int .i64 r1) ∧ IsS88 w0 w' g s0_0 r2 r3 ∧ Below w0.heap.size w0 w' ∧ KeepBut w w' g none := by
 have HI0 := za hI
 have HK := za (KeepBut.refl w g none)
 have HL := za hB.size
 clear hI
 have HW0 := za hB.size
 have HB := za hB
 clear hB
 have H : (if s0_1 < (s0_0.length : Int) then (if 0 ≤ s0_1 then (if (wrap64 (s0_1 + 1)) ≤ (s0_0.length : Int) then (some (wrap64 (rd s0_0 s0_1), wrap64 (s0_1 + 1), IntKind.u64.wrap ((IntKind.u64.wrap ((IntKind.u64.wrap (s0_2 * 6364136223846793005)) + (IntKind.u64.wrap (wrap64 (rd s0_0 s0_1))))) + 1442695040888963407))) else (some (wrap64 (Go.bits .and .u64 ((IntKind.u64.wrap ((IntKind.u64.wrap ((IntKind.u64.wrap (s0_2 * 6364136223846793005)) + (IntKind.u64.wrap (wrap64 (rd s0_0 s0_1))))) + 1442695040888963407)) / 1099511627776) 255), wrap64 (s0_1 + 1), IntKind.u64.wrap ((IntKind.u64.wrap ((IntKind.u64.wrap (s0_2 * 6364136223846793005)) + (IntKind.u64.wrap (wrap64 (rd s0_0 s0_1))))) + 1442695040888963407)))) else (none)) else (if (wrap64 (s0_1 + 1)) ≤ (s0_0.length : Int) then (some (0, wrap64 (s0_1 + 1), IntKind.u64.wrap ((IntKind.u64.wrap ((IntKind.u64.wrap (s0_2 * 6364136223846793005)) + 0)) + 1442695040888963407))) else (some (wrap64 (Go.bits .and .u64 ((IntKind.u64.wrap ((IntKind.u64.wrap ((IntKind.u64.wrap (s0_2 * 6364136223846793005)) + 0)) + 1442695040888963407)) / 1099511627776) 255), wrap64 (s0_1 + 1), IntKind.u64.wrap ((IntKind.u64.wrap ((IntKind.u64.wrap (s0_2 * 6364136223846793005)) + 0)) + 1442695040888963407))))) = some (r1, r2, r3) := h
 clear h
 by_cases c2 : s0_1 < (s0_0.length : Int)
 ·
  rw [if_pos c2] at H
  have c2b0 : decide (s0_1 < (s0_0.length : Int)) = true := decide_eq_true c2
  clear c2
  by_cases c3 : 0 ≤ s0_1
  ·
   rw [if_pos c3] at H
   have c3b0 : decide (0 ≤ s0_1) = true := decide_eq_true c3
   clear c3
   by_cases c4 : (wrap64 (s0_1 + 1)) ≤ (s0_0.length : Int)
   ·
    rw [if_pos c4] at H
    have c4b0 : decide ((wrap64 (s0_1 + 1)) ≤ (s0_0.length : Int)) = true := decide_eq_true c4
    clear c4
    simp only [Option.some.injEq, Prod.mk.injEq] at H
    obtain ⟨rfl, rfl, rfl⟩ := H
    obtain ⟨ASz5_0, cSz5_0, HGz5, hgz5, HSz5_0⟩ := HI0.out
    have hcz5_0 := cellS88_0 HGz5
    have hcz5_1 := cellS88_1 HGz5
    have hcz5_2 := cellS88_2 HGz5
    have hfz5_1 := zj HGz5 1
    have hfz5_2 := zj HGz5 2
    clear HGz5 hgz5
    have p101 : 0 ≤ (s0_1 : Int) := of_decide_eq_true (by first | (with_reducible assumption) | assumption)
    have q101 : s0_1 < (s0_0.length : Int) := of_decide_eq_true (by first | (with_reducible assumption) | assumption)
    obtain ⟨ad101, e101, hx101_0⟩ := Kd.at_int HSz5_0 s0_1 p101 q101
    cases e101
    replace hx101_0 := pw_cell_below HB.out hx101_0
    replace p101 := eq_true p101
    replace q101 := eq_true q101
    go_enter Try.func151, Try.ntmps151
    go_wp2
    repeat (go_quiet (fail); try go_wp2)
    go_ret
    (try simp only [Int.add_zero])
    exact ⟨by first | rfl | (simp [errW_none, errW_some] <;> rfl) | (simp [*, errW_none, errW_some] <;> rfl), by repeat (first | (with_reducible first | exact HI0.out | apply IsS88.alloc | apply IsS88.drewN | apply IsS88.drew | apply IsS88.set_1 | apply IsS88.set_2) | exact HI0.out), by repeat (first | (with_reducible first | exact HB.out | apply zc | apply zd | apply zb | refine ze ?_ (IsS88.ge HI0.out)) | exact HB.out), by repeat (first | (with_reducible first | exact HK.out | apply zt | apply zu | apply zs | apply zv) | exact HK.out)⟩
   ·
    rw [if_neg c4] at H
    have c4b0 : decide ((wrap64 (s0_1 + 1)) ≤ (s0_0.length : Int)) = false := decide_eq_false c4
    clear c4
    simp only [Option.some.injEq, Prod.mk.injEq] at H
    obtain ⟨rfl, rfl, rfl⟩ := H
    obtain ⟨ASz6_0, cSz6_0, HGz6, hgz6, HSz6_0⟩ := HI0.out
    have hcz6_0 := cellS88_0 HGz6
    have hcz6_1 := cellS88_1 HGz6
    have hcz6_2 := cellS88_2 HGz6
    have hfz6_1 := zj HGz6 1
    have hfz6_2 := zj HGz6 2
    clear HGz6 hgz6
    have p101 : 0 ≤ (s0_1 : Int) := of_decide_eq_true (by first | (with_reducible assumption) | assumption)
    have q101 : s0_1 < (s0_0.length : Int) := of_decide_eq_true (by first | (with_reducible assumption) | assumption)
    obtain ⟨ad101, e101, hx101_0⟩ := Kd.at_int HSz6_0 s0_1 p101 q101
    cases e101
    replace hx101_0 := pw_cell_below HB.out hx101_0
    replace p101 := eq_true p101
    replace q101 := eq_true q101
    go_enter Try.func151, Try.ntmps151
    go_wp2
    repeat (go_quiet (fail); try go_wp2)
    go_ret
    (try simp only [Int.add_zero])
    exact ⟨by first | rfl | (simp [errW_none, errW_some] <;> rfl) | (simp [*, errW_none, errW_some] <;> rfl), by repeat (first | (with_reducible first | exact HI0.out | apply IsS88.alloc | apply IsS88.drewN | apply IsS88.drew | apply IsS88.set_1 | apply IsS88.set_2) | exact HI0.out), by repeat (first | (with_reducible first | exact HB.out | apply zc | apply zd | apply zb | refine ze ?_ (IsS88.ge HI0.out)) | exact HB.out), by repeat (first | (with_reducible first | exact HK.out | apply zt | apply zu | apply zs | apply zv) | exact HK.out)⟩
  ·
   rw [if_neg c3] at H
   exact absurd H (by simp)
 ·
  rw [if_neg c2] at H
  have c2b0 : decide (s0_1 < (s0_0.length : Int)) = false := decide_eq_false c2
  clear c2
  by_cases c7 : (wrap64 (s0_1 + 1)) ≤ (s0_0.length : Int)
  ·
   rw [if_pos c7] at H
   have c7b0 : decide ((wrap64 (s0_1 + 1)) ≤ (s0_0.length : Int)) = true := decide_eq_true c7
   clear c7
   simp only [Option.some.injEq, Prod.mk.injEq] at H
   obtain ⟨rfl, rfl, rfl⟩ := H
   obtain ⟨ASz8_0, cSz8_0, HGz8, hgz8, HSz8_0⟩ := HI0.out
   have hcz8_0 := cellS88_0 HGz8
   have hcz8_1 := cellS88_1 HGz8
   have hcz8_2 := cellS88_2 HGz8
   have hfz8_1 := zj HGz8 1
   have hfz8_2 := zj HGz8 2
   clear HGz8 hgz8
   go_enter Try.func151, Try.ntmps151
   go_wp2
   repeat (go_quiet (fail); try go_wp2)
   go_ret
   (try simp only [Int.add_zero])
   exact ⟨by first | rfl | (simp [errW_none, errW_some] <;> rfl) | (simp [*, errW_none, errW_some] <;> rfl), by repeat (first | (with_reducible first | exact HI0.out | apply IsS88.alloc | apply IsS88.drewN | apply IsS88.drew | apply IsS88.set_1 | apply IsS88.set_2) | exact HI0.out), by repeat (first | (with_reducible first | exact HB.out | apply zc | apply zd | apply zb | refine ze ?_ (IsS88.ge HI0.out)) | exact HB.out), by repeat (first | (with_reducible first | exact HK.out | apply zt | apply zu | apply zs | apply zv) | exact HK.out)⟩
  ·
   rw [if_neg c7] at H
   have c7b0 : decide ((wrap64 (s0_1 + 1)) ≤ (s0_0.length : Int)) = false := decide_eq_false c7
   clear c7
   simp only [Option.some.injEq, Prod.mk.injEq] at H
   obtain ⟨rfl, rfl, rfl⟩ := H
   obtain ⟨ASz9_0, cSz9_0, HGz9, hgz9, HSz9_0⟩ := HI0.out
   have hcz9_0 := cellS88_0 HGz9
   have hcz9_1 := cellS88_1 HGz9
   have hcz9_2 := cellS88_2 HGz9
   have hfz9_1 := zj HGz9 1
   have hfz9_2 := zj HGz9 2
   clear HGz9 hgz9
   go_enter Try.func151, Try.ntmps151
   go_wp2
   repeat (go_quiet (fail); try go_wp2)
   go_ret
   (try simp only [Int.add_zero])
   exact ⟨by first | rfl | (simp [errW_none, errW_some] <;> rfl) | (simp [*, errW_none, errW_some] <;> rfl), by repeat (first | (with_reducible first | exact HI0.out | apply IsS88.alloc | apply IsS88.drewN | apply IsS88.drew | apply IsS88.set_1 | apply IsS88.set_2) | exact HI0.out), by repeat (first | (with_reducible first | exact HB.out | apply zc | apply zd | apply zb | refine ze ?_ (IsS88.ge HI0.out)) | exact HB.out), by repeat (first | (with_reducible first | exact HK.out | apply zt | apply zu | apply zs | apply zv) | exact HK.out)⟩
end Go.Proofs.Ytiopnmgcajohfaa.Q
end
section
namespace Go.Proofs.Ytiopnmgcajohfaa.Q
open Go.RowKit Go.Proofs.YtiopnmgcajohfaaW.PrintWords Go.Proofs.YtiopnmgcajohfaaW.PrintLast Go.Proofs.YtiopnmgcajohfaaW.PrintMore
attribute [local go_sem] max2_int min2_int max_two min_two max_three min_three max_four min_four   -- for this text's walks alone
set_option linter.unusedVariables false
set_option linter.unusedSimpArgs false
def spec_l1Cur_pick.f (s0_0 : List Int) (s0_1 : Int) (s0_2 : Int) (a1 : Int) : Option (Int × Int × Int) := if a1 ≤ 1 then (some (0, s0_1, s0_2)) else ((spec_l1Cur_next.f s0_0 s0_1 s0_2).bind fun bt101 => (if a1 > 200 then ((spec_l1Cur_next.f s0_0 bt101.2.1 bt101.2.2).bind fun bt104 => (if a1 = 0 then (none) else (some (Int.tmod (wrap64 ((wrap64 (bt101.1 * 256)) + bt104.1)) a1, bt104.2.1, bt104.2.2)))) else (if a1 = 0 then (none) else (some (Int.tmod bt101.1 a1, bt101.2.1, bt101.2.2)))))
set_option maxHeartbeats 8000000 in
set_option maxRecDepth 100000 in
theorem spec_l1Cur_pick.calls (g : Nat) (s0_0 : List Int) (s0_1 : Int) (s0_2 : Int) (a1 : Int) (r1 : Int) (r2 : Int) (r3 : Int) (w0 w : World) (hI : IsS88 w0 w g s0_0 s0_1 s0_2) (hB : Below w0.heap.size w0 w) (h : spec_l1Cur_pick.f s0_0 s0_1 s0_2 a1 = some (r1, r2, r3)) :
  Calls Try.prog 127 #[.pointer (some ⟨g, 0, none⟩), .int .i64 a1] w fun e w' => e = .returned (.int .i64 r1) ∧ IsS88 w0 w' g s0_0 r2 r3 ∧ Below w0.heap.size w0 w' ∧ KeepBut w w' g none := by
 have HI0 := za hI
 have HK := za (KeepBut.refl w g none)
 have HL := za hB.size
 clear hI
 have HW0 := za hB.size
 have HB := za hB
 clear hB
 have H : (if a1 ≤ 1 then (some (0, s0_1, s0_2)) else ((spec_l1Cur_next.f s0_0 s0_1 s0_2).bind fun bt101 => (if a1 > 200 then ((spec_l1Cur_next.f s0_0 bt101.2.1 bt101.2.2).bind fun bt104 => (if a1 = 0 then (none) else (some (Int.tmod (wrap64 ((wrap64 (bt101.1 * 256)) + bt104.1)) a1, bt104.2.1, bt104.2.2)))) else (if a1 = 0 then (none) else (some (Int.tmod bt101.1 a1, bt101.2.1, bt101.2.2)))))) = some (r1, r2, r3) := h
 clear h
 by_cases c3 : a1 ≤ 1
 ·
  rw [if_pos c3] at H
  have c3b0 : decide (a1 ≤ 1) = true := decide_eq_true c3
  clear c3
  simp only [Option.some.injEq, Prod.mk.injEq] at H
  obtain ⟨rfl, rfl, rfl⟩ := H
  go_enter Try.func127, Try.ntmps127
  go_wp2
  go_ret
  exact ⟨by first | rfl | (simp [errW_none, errW_some] <;> rfl) | (simp [*, errW_none, errW_some] <;> rfl), by repeat (first | (with_reducible first | exact HI0.out | apply IsS88.alloc | apply IsS88.drewN | apply IsS88.drew | apply IsS88.set_1 | apply IsS88.set_2) | exact HI0.out), by repeat (first | (with_reducible first | exact HB.out | apply zc | apply zd | apply zb | refine ze ?_ (IsS88.ge HI0.out)) | exact HB.out), by repeat (first | (with_reducible first | exact HK.out | apply zt | apply zu | apply zs | apply zv) | exact HK.out)⟩
 ·
  rw [if_neg c3] at H
  have c3b0 : decide (a1 ≤ 1) = false := decide_eq_false c3
  clear c3
  replace H := Option.bind_eq_some_iff.mp H
  obtain ⟨⟨t101, t102, t103⟩, A40, H⟩ := H
  replace H : (if a1 > 200 then ((spec_l1Cur_next.f s0_0 t102 t103).bind fun bt104 => (if a1 = 0 then (none) else (some (Int.tmod (wrap64 ((wrap64 (t101 * 256)) + bt104.1)) a1, bt104.2.1, bt104.2.2)))) else (if a1 = 0 then (none) else (some (Int.tmod t101 a1, t102, t103)))) = some (r1, r2, r3) := H
  have A4 := za A40
  clear A40
  by_cases c5 : a1 > 200
  ·
   rw [if_pos c5] at H
   have c5b0 : decide (200 < a1) = true := decide_eq_true c5
   clear c5
   replace H := Option.bind_eq_some_iff.mp H
   obtain ⟨⟨t104, t105, t106⟩, A60, H⟩ := H
   replace H : (if a1 = 0 then (none) else (some (Int.tmod (wrap64 ((wrap64 (t101 * 256)) + t104)) a1, t105, t106))) = some (r1, r2, r3) := H
   have A6 := za A60
   clear A60
   by_cases c7 : a1 = 0
   ·
    rw [if_pos c7] at H
    exact absurd H (by simp)
   ·
    rw [if_neg c7] at H
    have c7b0 : (a1 == 0) = false := beq_eq_false_iff_ne.mpr c7
    have c7b1 : (a1 != 0) = true := bne_iff_ne.mpr c7
    simp only [Option.some.injEq, Prod.mk.injEq] at H
    obtain ⟨rfl, rfl, rfl⟩ := H
    go_enter Try.func127, Try.ntmps127
    go_wp2_with (first | ((with_reducible refine zy (f := 151) rfl ?_); refine goesL_ (some 9) rfl rfl Try.func151 (by kernel_rfl) rfl #[.pointer (some ⟨g, 0, none⟩)] rfl (by (try simp only [List.map_toArray, List.map_cons, List.map_nil]); first | done | rfl | (simp only [List.length_drop, List.length_take]; rfl)) ?_; (with_reducible refine (spec_l1Cur_next.calls g s0_0 s0_1 s0_2 t101 t102 t103 w0 _ ?side1 ?side2 A4.out).mono ?_); (case side1 => repeat (first | (with_reducible first | exact HI0.out | apply IsS88.alloc | apply IsS88.drewN | apply IsS88.drew | apply IsS88.set_1 | apply IsS88.set_2) | exact HI0.out)); (case side2 => repeat (first | (with_reducible first | exact HB.out | apply zc | apply zd | apply zb | refine ze ?_ (IsS88.ge HI0.out)) | exact HB.out)); rintro e w8 ⟨rfl, hi, hb, hk⟩; refine ⟨_, rfl, ?_⟩; have n0_ := za (zH (by repeat (first | (with_reducible first | exact HK.out | apply zt | apply zu | apply zs | apply zv) | exact HK.out)) hk (.inl rfl)); have n1_ := za (hb); have n2_ := za (hi); clear HK HB HI0; have HK := n0_; have HB := n1_; have HI0 := n2_; clear n0_ n1_ n2_; (try clear hb); (try clear hb2); (try clear hk); (try clear hi)) | ((with_reducible refine zy (f := 151) rfl ?_); refine goesL_ (some 15) rfl rfl Try.func151 (by kernel_rfl) rfl #[.pointer (some ⟨g, 0, none⟩)] rfl (by (try simp only [List.map_toArray, List.map_cons, List.map_nil]); first | done | rfl | (simp only [List.length_drop, List.length_take]; rfl)) ?_; (with_reducible refine (spec_l1Cur_next.calls g s0_0 t102 t103 t104 t105 t106 w0 _ ?side1 ?side2 A6.out).mono ?_); (case side1 => repeat (first | (with_reducible first | exact HI0.out | apply IsS88.alloc | apply IsS88.drewN | apply IsS88.drew | apply IsS88.set_1 | apply IsS88.set_2) | exact HI0.out)); (case side2 => repeat (first | (with_reducible first | exact HB.out | apply zc | apply zd | apply zb | refine ze ?_ (IsS88.ge HI0.out)) | exact HB.out)); rintro e w9 ⟨rfl, hi, hb, hk⟩; refine ⟨_, rfl, ?_⟩; have n0_ := za (zH (by repeat (first | (with_reducible first | exact HK.out | apply zt | apply zu | apply zs | apply zv) | exact HK.out)) hk (.inl rfl)); have n1_ := za (hb); have n2_ := za (hi); clear HK HB HI0; have HK := n0_; have HB := n1_; have HI0 := n2_; clear n0_ n1_ n2_; (try clear hb); (try clear hb2); (try clear hk); (try clear hi)))
    go_ret
    exact ⟨by first | rfl | (simp [errW_none, errW_some] <;> rfl) | (simp [*, errW_none, errW_some] <;> rfl), by repeat (first | (with_reducible first | exact HI0.out | apply IsS88.alloc | apply IsS88.drewN | apply IsS88.drew | apply IsS88.set_1 | apply IsS88.set_2) | exact HI0.out), by repeat (first | (with_reducible first | exact HB.out | apply zc | apply zd | apply zb | refine ze ?_ (IsS88.ge HI0.out)) | exact HB.out), by repeat (first | (with_reducible first | exact HK.out | apply zt | apply zu | apply zs | apply zv) | exact HK.out)⟩
  ·
   rw [if_neg c5] at H
   have c5b0 : decide (200 < a1) = false := decide_eq_false c5
   clear c5
   by_cases c10 : a1 = 0
   ·
    rw [if_pos c10] at H
    exact absurd H (by simp)
   ·
    rw [if_neg c10] at H
    have c10b0 : (a1 == 0) = false := beq_eq_false_iff_ne.mpr c10
    have c10b1 : (a1 != 0) = true := bne_iff_ne.mpr c10
    simp only [Option.some.injEq, Prod.mk.injEq] at H
    obtain ⟨rfl, rfl, rfl⟩ := H
    go_enter Try.func127, Try.ntmps127
    go_wp2_with (first | ((with_reducible refine zy (f := 151) rfl ?_); refine goesL_ (some 9) rfl rfl Try.func151 (by kernel_rfl) rfl #[.pointer (some ⟨g, 0, none⟩)] rfl (by (try simp only [List.map_toArray, List.map_cons, List.map_nil]); first | done | rfl | (simp only [List.length_drop, List.length_take]; rfl)) ?_; (with_reducible refine (spec_l1Cur_next.calls g s0_0 s0_1 s0_2 t101 t102 t103 w0 _ ?side1 ?side2 A4.out).mono ?_); (case side1 => repeat (first | (with_reducible first | exact HI0.out | apply IsS88.alloc | apply IsS88.drewN | apply IsS88.drew | apply IsS88.set_1 | apply IsS88.set_2) | exact HI0.out)); (case side2 => repeat (first | (with_reducible first | exact HB.out | apply zc | apply zd | apply zb | refine ze ?_ (IsS88.ge HI0.out)) | exact HB.out)); rintro e w11 ⟨rfl, hi, hb, hk⟩; refine ⟨_, rfl, ?_⟩; have n0_ := za (zH (by repeat (first | (with_reducible first | exact HK.out | apply zt | apply zu | apply zs | apply zv) | exact HK.out)) hk (.inl rfl)); have n1_ := za (hb); have n2_ := za (hi); clear HK HB HI0; have HK := n0_; have HB := n1_; have HI0 := n2_; clear n0_ n1_ n2_; (try clear hb); (try clear hb2); (try clear hk); (try clear hi)))
    go_ret
    exact ⟨by first | rfl | (simp [errW_none, errW_some] <;> rfl) | (simp [*, errW_none, errW_some] <;> rfl), by repeat (first | (with_reducible first | exact HI0.out | apply IsS88.alloc | apply IsS88.drewN | apply IsS88.drew | apply IsS88.set_1 | apply IsS88.set_2) | exact HI0.out), by repeat (first | (with_reducible first | exact HB.out | apply zc | apply zd | apply zb | refine ze ?_ (IsS88.ge HI0.out)) | exact HB.out), by repeat (first | (with_reducible first | exact HK.out | apply zt | apply zu | apply zs | apply zv) | exact HK.out)⟩
end Go.Proofs.Ytiopnmgcajohfaa.Q
end
