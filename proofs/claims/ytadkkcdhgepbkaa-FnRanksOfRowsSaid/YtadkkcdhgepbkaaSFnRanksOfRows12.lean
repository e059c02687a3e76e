/- Texts of this claim put together (12): words, what the functions compute, and plain facts. No conditions. -/
import Derived.Test.YtadkkcdhgepbkaaSFnRanksOfRows4
import Derived.Test.YtadkkcdhgepbkaaSFnRanksOfRows5
import Derived.Test.YtadkkcdhgepbkaaSFnRanksOfRows6
import Derived.Test.YtadkkcdhgepbkaaSFnRanksOfRows7
import Derived.Test.YtadkkcdhgepbkaaSFnRanksOfRows9
import Derived.Test.YtadkkcdhgepbkaaSFnRanksOfRows10
import Derived.Test.YtadkkcdhgepbkaaSFnRanksOfRows11
section
namespace Go.Proofs.Ytadkkcdhgepbkaa.Q
open Go.RowKit Go.Proofs.YtadkkcdhgepbkaaW.PrintWords Go.Proofs.YtadkkcdhgepbkaaW.PrintLast Go.Proofs.YtadkkcdhgepbkaaW.PrintMore
attribute [local go_sem] max2_int min2_int max_two min_two max_three min_three max_four min_four   -- for this text's walks alone
set_option linter.unusedVariables false
set_option linter.unusedSimpArgs false
mutual
def laws_FnRanksOfRows.j0 : Nat → List Int → List (List Int) → Int → Int → Bool → List Int → Bool → Option (Bool)
  | 0, _, _, _, _, _, _, _ => none
  | k + 1, x1, x5, x6, x7, x8, x11, x105 => if x105 = true then (some false) else (if x8 = true then (laws_FnRanksOfRows.l0 k x1 x5 x6 x7 x11 0 x11 (x11.length : Int) 0) else (laws_FnRanksOfRows.j5 k x1))
def laws_FnRanksOfRows.j5 : Nat → List Int → Option (Bool)
  | 0, _ => none
  | k + 1, x1 => (spec_DrawMatrixWith.f k x1).bind fun bt143 => ((impl_MatrixWith.f k bt143.1 bt143.2.1 bt143.2.2).bind fun bt148 => ((spec_MatrixWith.f k bt143.1 bt143.2.1 bt143.2.2).bind fun bt152 => (if (bt148.2 != bt152.2) = true then (laws_FnRanksOfRows.j6 k x1 bt143.1 bt143.2.1 bt143.2.2 bt148.1 bt148.2 true) else ((laws_rSameRows.f k bt148.1 bt152.1).bind fun t156 => (laws_FnRanksOfRows.j6 k x1 bt143.1 bt143.2.1 bt143.2.2 bt148.1 bt148.2 (!t156))))))
def laws_FnRanksOfRows.j6 : Nat → List Int → List Int → Int → Int → List (List Int) → Bool → Bool → Option (Bool)
  | 0, _, _, _, _, _, _, _ => none
  | k + 1, x1, x29, x30, x31, x32, x33, x232 => if x232 = true then (some false) else (if x33 = true then ((impl_FitsBoard.f k x29 x32 x30).bind fun bt157 => (if bt157.2 = true then (laws_FnRanksOfRows.j7 k x1 x29 x30 x31 x32 (!bt157.1)) else (laws_FnRanksOfRows.j7 k x1 x29 x30 x31 x32 true))) else ((spec_DrawFitsBoard.f k x1).bind fun bt173 => ((impl_FitsBoard.f k bt173.1 bt173.2.1 bt173.2.2).bind fun bt180 => ((spec_FitsBoard.f k bt173.1 bt173.2.1 bt173.2.2).bind fun bt182 => (if (bt180.2 == bt182.2) = true then (some (bt180.1 == bt182.1)) else (some false))))))
def laws_FnRanksOfRows.j7 : Nat → List Int → List Int → Int → Int → List (List Int) → Bool → Option (Bool)
  | 0, _, _, _, _, _, _ => none
  | k + 1, x1, x29, x30, x31, x32, x246 => if x246 = true then (some false) else (laws_FnRanksOfRows.l4 k x1 x30 x31 x32 0 1 x29 (x29.length : Int) 0)
def laws_FnRanksOfRows.l4 : Nat → List Int → Int → Int → List (List Int) → Int → Int → List Int → Int → Int → Option (Bool)
  | 0, _, _, _, _, _, _, _, _, _ => none
  | k + 1, x1, x30, x31, x32, x38, x39, x247, x248, x249 => if x249 < x248 then (if 0 ≤ x249 then (if x249 < (x247.length : Int) then (laws_FnRanksOfRows.l5 k x1 x30 x31 x32 x38 x39 x249 (rd x247 x249) 0 x247 x248 x249) else (none)) else (none)) else (if x38 = x31 then ((spec_DrawFitsBoard.f k x1).bind fun bt162 => ((impl_FitsBoard.f k bt162.1 bt162.2.1 bt162.2.2).bind fun bt169 => ((spec_FitsBoard.f k bt162.1 bt162.2.1 bt162.2.2).bind fun bt171 => (if (bt169.2 == bt171.2) = true then (some (bt169.1 == bt171.1)) else (some false))))) else (some false))
def laws_FnRanksOfRows.l5 : Nat → List Int → Int → Int → List (List Int) → Int → Int → Int → Int → Int → List Int → Int → Int → Option (Bool)
  | 0, _, _, _, _, _, _, _, _, _, _, _, _ => none
  | k + 1, x1, x30, x31, x32, x38, x39, x40, x41, x42, x247, x248, x249 => if x42 < x41 then (if 0 ≤ x40 then (if x40 < (x32.length : Int) then (if 0 ≤ x42 then (if x42 < ((rd_L2 x32 x40).length : Int) then (laws_FnRanksOfRows.l5 k x1 x30 x31 x32 (wrap64 (x38 + (wrap64 ((rd (rd_L2 x32 x40) x42) * x39)))) (wrap64 (x39 * x30)) x40 x41 (wrap64 (x42 + 1)) x247 x248 x249) else (none)) else (none)) else (none)) else (none)) else (laws_FnRanksOfRows.l4 k x1 x30 x31 x32 x38 x39 x247 x248 (wrap64 (x249 + 1)))
def laws_FnRanksOfRows.l0 : Nat → List Int → List (List Int) → Int → Int → List Int → Int → List Int → Int → Int → Option (Bool)
  | 0, _, _, _, _, _, _, _, _, _ => none
  | k + 1, x1, x5, x6, x7, x11, x15, x107, x108, x109 => if x109 < x108 then (if 0 ≤ x109 then (if x109 < (x107.length : Int) then (if (rd x107 x109) ≥ 0 then (if x109 ≤ (x11.length : Int) then ((laws_rHas.f k (x11.take (x109 : Int).toNat) (rd x107 x109)).bind fun t125 => (if t125 = true then (some false) else (laws_FnRanksOfRows.l0 k x1 x5 x6 x7 x11 (wrap64 (x15 + 1)) x107 x108 (wrap64 (x109 + 1))))) else (none)) else (laws_FnRanksOfRows.l0 k x1 x5 x6 x7 x11 x15 x107 x108 (wrap64 (x109 + 1)))) else (none)) else (none)) else (laws_FnRanksOfRows.l1 k x1 x5 x6 x7 x11 x15 ([] : List (List Int)) (wrap64 ((x5.length : Int) - 1)))
def laws_FnRanksOfRows.l1 : Nat → List Int → List (List Int) → Int → Int → List Int → Int → List (List Int) → Int → Option (Bool)
  | 0, _, _, _, _, _, _, _, _ => none
  | k + 1, x1, x5, x6, x7, x11, x15, x18, x19 => if x19 ≥ 0 then (if 0 ≤ x19 then (if x19 < (x5.length : Int) then (if x18.length < 5864062014805 then (laws_FnRanksOfRows.l1 k x1 x5 x6 x7 x11 x15 (x18 ++ [rd_L2 x5 x19]) (wrap64 (x19 - 1))) else (none)) else (none)) else (none)) else ((impl_RankModulo.f k x18 x6).bind fun bt130 => (if 0 < (x5.length : Int) then (laws_FnRanksOfRows.l2 k x1 x5 x6 x7 x11 x15 bt130.1 bt130.2 ([] : List (List Int)) ((rd_L2 x5 0).length : Int) 0) else (none)))
def laws_FnRanksOfRows.l2 : Nat → List Int → List (List Int) → Int → Int → List Int → Int → Int → Bool → List (List Int) → Int → Int → Option (Bool)
  | 0, _, _, _, _, _, _, _, _, _, _, _ => none
  | k + 1, x1, x5, x6, x7, x11, x15, x20, x21, x22, x147, x148 => if x148 < x147 then (laws_FnRanksOfRows.l3 k x1 x5 x6 x7 x11 x15 x20 x21 x22 x148 ([] : List Int) x147 x148 x5 (x5.length : Int) 0) else ((impl_RankModulo.f k x22 x6).bind fun bt133 => (if x15 = x7 then (if (x11.length : Int) = (x5.length : Int) then (if x21 = true then (if x20 = x7 then (if bt133.2 = true then (if bt133.1 = x7 then (laws_FnRanksOfRows.j5 k x1) else (some false)) else (some false)) else (some false)) else (some false)) else (some false)) else (some false)))
def laws_FnRanksOfRows.l3 : Nat → List Int → List (List Int) → Int → Int → List Int → Int → Int → Bool → List (List Int) → Int → List Int → Int → Int → List (List Int) → Int → Int → Option (Bool)
  | 0, _, _, _, _, _, _, _, _, _, _, _, _, _, _, _, _ => none
  | k + 1, x1, x5, x6, x7, x11, x15, x20, x21, x22, x23, x24, x147, x148, x151, x152, x153 => if x153 < x152 then (if 0 ≤ x153 then (if x153 < (x151.length : Int) then (if 0 ≤ x23 then (if x23 < ((rd_L2 x151 x153).length : Int) then (if x24.length < 17592186044416 then (laws_FnRanksOfRows.l3 k x1 x5 x6 x7 x11 x15 x20 x21 x22 x23 (x24 ++ [rd (rd_L2 x151 x153) x23]) x147 x148 x151 x152 (wrap64 (x153 + 1))) else (none)) else (none)) else (none)) else (none)) else (none)) else (if x22.length < 5864062014805 then (laws_FnRanksOfRows.l2 k x1 x5 x6 x7 x11 x15 x20 x21 (x22 ++ [x24]) x147 (wrap64 (x148 + 1))) else (none))
end
def laws_FnRanksOfRows.f (k : Nat) (l0 : List Int) (l1 : List Int) : Option (Bool) := (laws_big.f l0 l1).bind fun t101 => (if t101 = true then (some true) else ((spec_DrawRankModulo.f k l0).bind fun bt102 => ((impl_RankModulo.f k bt102.1 bt102.2).bind fun bt106 => ((spec_RankModulo.f k bt102.1 bt102.2).bind fun bt108 => ((impl_LeadsOf.f bt102.1 bt102.2).bind fun bt110 => ((spec_LeadsOf.f k bt102.1 bt102.2).bind fun bt114 => (if (bt106.2 != bt108.2) = true then (laws_FnRanksOfRows.j0 k l1 bt102.1 bt102.2 bt106.1 bt106.2 bt110.1 true) else (if bt106.1 = bt108.1 then (if (bt110.2 != bt114.2) = true then (laws_FnRanksOfRows.j0 k l1 bt102.1 bt102.2 bt106.1 bt106.2 bt110.1 true) else ((laws_rSame.f k bt110.1 bt114.1).bind fun t118 => (if t118 = true then (laws_FnRanksOfRows.j0 k l1 bt102.1 bt102.2 bt106.1 bt106.2 bt110.1 (bt110.2 != bt106.2)) else (laws_FnRanksOfRows.j0 k l1 bt102.1 bt102.2 bt106.1 bt106.2 bt110.1 true)))) else (laws_FnRanksOfRows.j0 k l1 bt102.1 bt102.2 bt106.1 bt106.2 bt110.1 true)))))))))
set_option maxHeartbeats 8000000 in
set_option maxRecDepth 100000 in
theorem laws_FnRanksOfRows.calls (k : Nat) (A0 : Option Addr) (c0 : Nat) (l0 : List Int) (A1 : Option Addr) (c1 : Nat) (l1 : List Int) (r : Bool) (w : World) (hr0 : Kd.C (Kd.int .u8) w A0 l0.length l0) (hc0 : l0.length ≤ c0) (hr1 : Kd.C (Kd.int .u8) w A1 l1.length l1) (hc1 : l1.length ≤ c1) (h : laws_FnRanksOfRows.f k l0 l1 = some r) :
    Calls Try.prog 3 #[.slice A0 l0.length c0, .slice A1 l1.length c1] w fun e w' => e = .returned (.bool r) ∧ Below w.heap.size w w' := by
  have HR0 := Aside0.mk hr0
  have HC0 := Aside0.mk hc0
  clear hr0 hc0
  have HR1 := Aside0.mk hr1
  have HC1 := Aside0.mk hc1
  clear hr1 hc1
  have HB := Aside0.mk (Below.refl w.heap.size w)
  have H : ((laws_big.f l0 l1).bind fun t101 => (if t101 = true then (some true) else ((spec_DrawRankModulo.f k l0).bind fun bt102 => ((impl_RankModulo.f k bt102.1 bt102.2).bind fun bt106 => ((spec_RankModulo.f k bt102.1 bt102.2).bind fun bt108 => ((impl_LeadsOf.f bt102.1 bt102.2).bind fun bt110 => ((spec_LeadsOf.f k bt102.1 bt102.2).bind fun bt114 => (if (bt106.2 != bt108.2) = true then (laws_FnRanksOfRows.j0 k l1 bt102.1 bt102.2 bt106.1 bt106.2 bt110.1 true) else (if bt106.1 = bt108.1 then (if (bt110.2 != bt114.2) = true then (laws_FnRanksOfRows.j0 k l1 bt102.1 bt102.2 bt106.1 bt106.2 bt110.1 true) else ((laws_rSame.f k bt110.1 bt114.1).bind fun t118 => (if t118 = true then (laws_FnRanksOfRows.j0 k l1 bt102.1 bt102.2 bt106.1 bt106.2 bt110.1 (bt110.2 != bt106.2)) else (laws_FnRanksOfRows.j0 k l1 bt102.1 bt102.2 bt106.1 bt106.2 bt110.1 true)))) else (laws_FnRanksOfRows.j0 k l1 bt102.1 bt102.2 bt106.1 bt106.2 bt110.1 true)))))))))) = some r := h
  clear h
  replace H := Option.bind_eq_some_iff.mp H
  obtain ⟨t101, A30, H⟩ := H
  replace H : (if t101 = true then (some true) else ((spec_DrawRankModulo.f k l0).bind fun bt102 => ((impl_RankModulo.f k bt102.1 bt102.2).bind fun bt106 => ((spec_RankModulo.f k bt102.1 bt102.2).bind fun bt108 => ((impl_LeadsOf.f bt102.1 bt102.2).bind fun bt110 => ((spec_LeadsOf.f k bt102.1 bt102.2).bind fun bt114 => (if (bt106.2 != bt108.2) = true then (laws_FnRanksOfRows.j0 k l1 bt102.1 bt102.2 bt106.1 bt106.2 bt110.1 true) else (if bt106.1 = bt108.1 then (if (bt110.2 != bt114.2) = true then (laws_FnRanksOfRows.j0 k l1 bt102.1 bt102.2 bt106.1 bt106.2 bt110.1 true) else ((laws_rSame.f k bt110.1 bt114.1).bind fun t118 => (if t118 = true then (laws_FnRanksOfRows.j0 k l1 bt102.1 bt102.2 bt106.1 bt106.2 bt110.1 (bt110.2 != bt106.2)) else (laws_FnRanksOfRows.j0 k l1 bt102.1 bt102.2 bt106.1 bt106.2 bt110.1 true)))) else (laws_FnRanksOfRows.j0 k l1 bt102.1 bt102.2 bt106.1 bt106.2 bt110.1 true))))))))) = some r := H
  have A3 := Aside0.mk A30
  clear A30
  by_cases c4 : t101 = true
  · subst c4
    have H1 : (some true) = some r := by rw [if_pos rfl] at H; exact H
    clear H
    have H := H1
    clear H1
    obtain rfl := Option.some.inj H
    go_enter Try.func3, Try.ntmps3
    go_wp2_with (first | ((with_reducible refine gate_callee (f := 5) rfl ?_); refine goesL_ (some 52) rfl rfl Try.func5 (by kernel_rfl) rfl #[.slice A0 l0.length c0, .slice A1 l1.length c1] rfl (by (try simp only [List.map_toArray, List.map_cons, List.map_nil]); first | done | rfl | (simp only [List.length_drop, List.length_take]; rfl)) ?_; (with_reducible refine (laws_big.calls _ _ l0 _ _ l1 true _ ?side1 ?side2 ?side3 ?side4 A3.out).mono ?_); (case side1 => repeat (first | exact HR0.out | (with_reducible refine Kd.C_alloc ?_ _) | (with_reducible refine Kd.C_drewN ?_ _) | (with_reducible refine Kd.C_drew ?_))); (case side2 => exact HC0.out); (case side3 => repeat (first | exact HR1.out | (with_reducible refine Kd.C_alloc ?_ _) | (with_reducible refine Kd.C_drewN ?_ _) | (with_reducible refine Kd.C_drew ?_))); (case side4 => exact HC1.out); rintro e w' ⟨rfl, ⟨nd, rfl⟩⟩; refine ⟨_, rfl, ?_⟩))
    go_ret
    exact ⟨by first | rfl | (simp [errW_none, errW_some] <;> rfl) | (simp [*, errW_none, errW_some] <;> rfl), by repeat (first | (with_reducible first | exact HB.out | apply below_alloc | apply pw_below_drewN | apply below_drew1) | exact HB.out)⟩
  · replace c4 := Bool.eq_false_iff.mpr c4
    subst c4
    have H1 : ((spec_DrawRankModulo.f k l0).bind fun bt102 => ((impl_RankModulo.f k bt102.1 bt102.2).bind fun bt106 => ((spec_RankModulo.f k bt102.1 bt102.2).bind fun bt108 => ((impl_LeadsOf.f bt102.1 bt102.2).bind fun bt110 => ((spec_LeadsOf.f k bt102.1 bt102.2).bind fun bt114 => (if (bt106.2 != bt108.2) = true then (laws_FnRanksOfRows.j0 k l1 bt102.1 bt102.2 bt106.1 bt106.2 bt110.1 true) else (if bt106.1 = bt108.1 then (if (bt110.2 != bt114.2) = true then (laws_FnRanksOfRows.j0 k l1 bt102.1 bt102.2 bt106.1 bt106.2 bt110.1 true) else ((laws_rSame.f k bt110.1 bt114.1).bind fun t118 => (if t118 = true then (laws_FnRanksOfRows.j0 k l1 bt102.1 bt102.2 bt106.1 bt106.2 bt110.1 (bt110.2 != bt106.2)) else (laws_FnRanksOfRows.j0 k l1 bt102.1 bt102.2 bt106.1 bt106.2 bt110.1 true)))) else (laws_FnRanksOfRows.j0 k l1 bt102.1 bt102.2 bt106.1 bt106.2 bt110.1 true)))))))) = some r := by rw [if_neg (show ¬ (false = true) by decide)] at H; exact H
    clear H
    have H := H1
    clear H1
    replace H := Option.bind_eq_some_iff.mp H
    obtain ⟨⟨t102, t103⟩, A50, H⟩ := H
    replace H : ((impl_RankModulo.f k t102 t103).bind fun bt106 => ((spec_RankModulo.f k t102 t103).bind fun bt108 => ((impl_LeadsOf.f t102 t103).bind fun bt110 => ((spec_LeadsOf.f k t102 t103).bind fun bt114 => (if (bt106.2 != bt108.2) = true then (laws_FnRanksOfRows.j0 k l1 t102 t103 bt106.1 bt106.2 bt110.1 true) else (if bt106.1 = bt108.1 then (if (bt110.2 != bt114.2) = true then (laws_FnRanksOfRows.j0 k l1 t102 t103 bt106.1 bt106.2 bt110.1 true) else ((laws_rSame.f k bt110.1 bt114.1).bind fun t118 => (if t118 = true then (laws_FnRanksOfRows.j0 k l1 t102 t103 bt106.1 bt106.2 bt110.1 (bt110.2 != bt106.2)) else (laws_FnRanksOfRows.j0 k l1 t102 t103 bt106.1 bt106.2 bt110.1 true)))) else (laws_FnRanksOfRows.j0 k l1 t102 t103 bt106.1 bt106.2 bt110.1 true))))))) = some r := H
    have A5 := Aside0.mk A50
    clear A50
    replace H := Option.bind_eq_some_iff.mp H
    obtain ⟨⟨t106, t107⟩, A60, H⟩ := H
    replace H : ((spec_RankModulo.f k t102 t103).bind fun bt108 => ((impl_LeadsOf.f t102 t103).bind fun bt110 => ((spec_LeadsOf.f k t102 t103).bind fun bt114 => (if (t107 != bt108.2) = true then (laws_FnRanksOfRows.j0 k l1 t102 t103 t106 t107 bt110.1 true) else (if t106 = bt108.1 then (if (bt110.2 != bt114.2) = true then (laws_FnRanksOfRows.j0 k l1 t102 t103 t106 t107 bt110.1 true) else ((laws_rSame.f k bt110.1 bt114.1).bind fun t118 => (if t118 = true then (laws_FnRanksOfRows.j0 k l1 t102 t103 t106 t107 bt110.1 (bt110.2 != t107)) else (laws_FnRanksOfRows.j0 k l1 t102 t103 t106 t107 bt110.1 true)))) else (laws_FnRanksOfRows.j0 k l1 t102 t103 t106 t107 bt110.1 true)))))) = some r := H
    have A6 := Aside0.mk A60
    clear A60
    replace H := Option.bind_eq_some_iff.mp H
    obtain ⟨⟨t108, t109⟩, A70, H⟩ := H
    replace H : ((impl_LeadsOf.f t102 t103).bind fun bt110 => ((spec_LeadsOf.f k t102 t103).bind fun bt114 => (if (t107 != t109) = true then (laws_FnRanksOfRows.j0 k l1 t102 t103 t106 t107 bt110.1 true) else (if t106 = t108 then (if (bt110.2 != bt114.2) = true then (laws_FnRanksOfRows.j0 k l1 t102 t103 t106 t107 bt110.1 true) else ((laws_rSame.f k bt110.1 bt114.1).bind fun t118 => (if t118 = true then (laws_FnRanksOfRows.j0 k l1 t102 t103 t106 t107 bt110.1 (bt110.2 != t107)) else (laws_FnRanksOfRows.j0 k l1 t102 t103 t106 t107 bt110.1 true)))) else (laws_FnRanksOfRows.j0 k l1 t102 t103 t106 t107 bt110.1 true))))) = some r := H
    have A7 := Aside0.mk A70
    clear A70
    replace H := Option.bind_eq_some_iff.mp H
    obtain ⟨⟨t110, t111⟩, A80, H⟩ := H
    replace H : ((spec_LeadsOf.f k t102 t103).bind fun bt114 => (if (t107 != t109) = true then (laws_FnRanksOfRows.j0 k l1 t102 t103 t106 t107 t110 true) else (if t106 = t108 then (if (t111 != bt114.2) = true then (laws_FnRanksOfRows.j0 k l1 t102 t103 t106 t107 t110 true) else ((laws_rSame.f k t110 bt114.1).bind fun t118 => (if t118 = true then (laws_FnRanksOfRows.j0 k l1 t102 t103 t106 t107 t110 (t111 != t107)) else (laws_FnRanksOfRows.j0 k l1 t102 t103 t106 t107 t110 true)))) else (laws_FnRanksOfRows.j0 k l1 t102 t103 t106 t107 t110 true)))) = some r := H
    have A8 := Aside0.mk A80
    clear A80
    replace H := Option.bind_eq_some_iff.mp H
    obtain ⟨⟨t114, t115⟩, A90, H⟩ := H
    replace H : (if (t107 != t109) = true then (laws_FnRanksOfRows.j0 k l1 t102 t103 t106 t107 t110 true) else (if t106 = t108 then (if (t111 != t115) = true then (laws_FnRanksOfRows.j0 k l1 t102 t103 t106 t107 t110 true) else ((laws_rSame.f k t110 t114).bind fun t118 => (if t118 = true then (laws_FnRanksOfRows.j0 k l1 t102 t103 t106 t107 t110 (t111 != t107)) else (laws_FnRanksOfRows.j0 k l1 t102 t103 t106 t107 t110 true)))) else (laws_FnRanksOfRows.j0 k l1 t102 t103 t106 t107 t110 true))) = some r := H
    have A9 := Aside0.mk A90
    clear A90
    have HC10 := Aside0.mk H
    clear H
    go_enter Try.func3, Try.ntmps3
    go_upto_region 8 with (first | ((with_reducible refine gate_callee (f := 5) rfl ?_); refine goesL_ (some 52) rfl rfl Try.func5 (by kernel_rfl) rfl #[.slice A0 l0.length c0, .slice A1 l1.length c1] rfl (by (try simp only [List.map_toArray, List.map_cons, List.map_nil]); first | done | rfl | (simp only [List.length_drop, List.length_take]; rfl)) ?_; (with_reducible refine (laws_big.calls _ _ l0 _ _ l1 false _ ?side1 ?side2 ?side3 ?side4 A3.out).mono ?_); (case side1 => repeat (first | exact HR0.out | (with_reducible refine Kd.C_alloc ?_ _) | (with_reducible refine Kd.C_drewN ?_ _) | (with_reducible refine Kd.C_drew ?_))); (case side2 => exact HC0.out); (case side3 => repeat (first | exact HR1.out | (with_reducible refine Kd.C_alloc ?_ _) | (with_reducible refine Kd.C_drewN ?_ _) | (with_reducible refine Kd.C_drew ?_))); (case side4 => exact HC1.out); rintro e w' ⟨rfl, ⟨nd, rfl⟩⟩; refine ⟨_, rfl, ?_⟩) | ((with_reducible refine gate_callee (f := 6) rfl ?_); refine goesL_ (some 55) rfl rfl Try.func6 (by kernel_rfl) rfl #[.slice A0 l0.length c0] rfl (by (try simp only [List.map_toArray, List.map_cons, List.map_nil]); first | done | rfl | (simp only [List.length_drop, List.length_take]; rfl)) ?_; (with_reducible refine (spec_DrawRankModulo.calls k _ _ l0 t102 t103 _ ?side1 ?side2 A5.out).mono ?_); (case side1 => repeat (first | exact HR0.out | (with_reducible refine Kd.C_alloc ?_ _) | (with_reducible refine Kd.C_drewN ?_ _) | (with_reducible refine Kd.C_drew ?_))); (case side2 => exact HC0.out); rintro e w11 ⟨v104, rfl, ho0, hb⟩; refine ⟨_, rfl, ?_⟩; have n0_ := Aside0.mk (Kd.N_lower (Kd.N_mono (ok' := fun k_ => True) (Kd.S_N (Kd.S_bound ho0)) (fun k_ hk_ => trivial)) (below_size (by repeat (first | (with_reducible first | exact HB.out | apply below_alloc | apply pw_below_drewN | apply below_drew1) | exact HB.out)))); have n1_ := Aside0.mk (below_step (by repeat (first | (with_reducible first | exact HB.out | apply below_alloc | apply pw_below_drewN | apply below_drew1) | exact HB.out)) hb); clear HB; have HO105 := n0_; have HB := n1_; clear n0_ n1_; (try clear hb); (try clear hb2); (try clear hk); (try clear hi); (try clear ho0); obtain ⟨Ao12, co12, eo12⟩ := Kd.N_slice HO105.out; subst eo12) | ((with_reducible refine gate_callee (f := 7) rfl ?_); refine goesL_ (some 61) rfl rfl Try.func7 (by kernel_rfl) rfl #[.slice Ao12 t102.length co12, .int .i64 t103] rfl (by (try simp only [List.map_toArray, List.map_cons, List.map_nil]); first | done | rfl | (simp only [List.length_drop, List.length_take]; rfl)) ?_; (with_reducible refine (impl_RankModulo.calls k _ _ t102 t103 t106 t107 _ ?side1 ?side2 A6.out).mono ?_); (case side1 => repeat (first | exact (Kd.N_reads' HO105.out).2.2 | (with_reducible refine Kd.C_alloc ?_ _) | (with_reducible refine Kd.C_drewN ?_ _) | (with_reducible refine Kd.C_drew ?_))); (case side2 => exact (Kd.N_reads' HO105.out).2.1); rintro e w13 ⟨rfl, hb⟩; refine ⟨_, rfl, ?_⟩; have n0_ := Aside0.mk (Kd.N_below (by (with_reducible repeat (first | apply Kd.N_alloc | apply Kd.N_drewN | apply Kd.N_drew)); exact HO105.out) hb); have n1_ := Aside0.mk (below_step (by repeat (first | (with_reducible first | exact HB.out | apply below_alloc | apply pw_below_drewN | apply below_drew1) | exact HB.out)) hb); clear HO105; clear HB; have HO105 := n0_; have HB := n1_; clear n0_ n1_; (try clear hb); (try clear hb2); (try clear hk); (try clear hi)) | ((with_reducible refine gate_callee (f := 8) rfl ?_); refine goesL_ (some 67) rfl rfl Try.func8 (by kernel_rfl) rfl #[.slice Ao12 t102.length co12, .int .i64 t103] rfl (by (try simp only [List.map_toArray, List.map_cons, List.map_nil]); first | done | rfl | (simp only [List.length_drop, List.length_take]; rfl)) ?_; (with_reducible refine (spec_RankModulo.calls k _ _ t102 t103 t108 t109 _ ?side1 ?side2 A7.out).mono ?_); (case side1 => repeat (first | exact (Kd.N_reads' HO105.out).2.2 | (with_reducible refine Kd.C_alloc ?_ _) | (with_reducible refine Kd.C_drewN ?_ _) | (with_reducible refine Kd.C_drew ?_))); (case side2 => exact (Kd.N_reads' HO105.out).2.1); rintro e w14 ⟨rfl, hb⟩; refine ⟨_, rfl, ?_⟩; have n0_ := Aside0.mk (Kd.N_below (by (with_reducible repeat (first | apply Kd.N_alloc | apply Kd.N_drewN | apply Kd.N_drew)); exact HO105.out) hb); have n1_ := Aside0.mk (below_step (by repeat (first | (with_reducible first | exact HB.out | apply below_alloc | apply pw_below_drewN | apply below_drew1) | exact HB.out)) hb); clear HO105; clear HB; have HO105 := n0_; have HB := n1_; clear n0_ n1_; (try clear hb); (try clear hb2); (try clear hk); (try clear hi)) | ((with_reducible refine gate_callee (f := 9) rfl ?_); refine goesL_ (some 73) rfl rfl Try.func9 (by kernel_rfl) rfl #[.slice Ao12 t102.length co12, .int .i64 t103] rfl (by (try simp only [List.map_toArray, List.map_cons, List.map_nil]); first | done | rfl | (simp only [List.length_drop, List.length_take]; rfl)) ?_; (with_reducible refine (impl_LeadsOf.calls _ _ t102 t103 t110 t111 _ ?side1 ?side2 A8.out).mono ?_); (case side1 => repeat (first | exact (Kd.N_reads' HO105.out).2.2 | (with_reducible refine Kd.C_alloc ?_ _) | (with_reducible refine Kd.C_drewN ?_ _) | (with_reducible refine Kd.C_drew ?_))); (case side2 => exact (Kd.N_reads' HO105.out).2.1); rintro e w15 ⟨v112, rfl, ho0, hb⟩; refine ⟨_, rfl, ?_⟩; have n0_ := Aside0.mk (Kd.N_elder' (by (with_reducible repeat (first | apply Kd.N_alloc | apply Kd.N_drewN | apply Kd.N_drew)); exact HO105.out) (Kd.R_base ho0) hb); have n1_ := Aside0.mk (Kd.R_lower ho0 (below_size (by repeat (first | (with_reducible first | exact HB.out | apply below_alloc | apply pw_below_drewN | apply below_drew1) | exact HB.out)))); have n2_ := Aside0.mk (below_step (by repeat (first | (with_reducible first | exact HB.out | apply below_alloc | apply pw_below_drewN | apply below_drew1) | exact HB.out)) hb); clear HO105; clear HB; have HO105 := n0_; have HO113 := n1_; have HB := n2_; clear n0_ n1_ n2_; (try clear hb); (try clear hb2); (try clear hk); (try clear hi); (try clear ho0)) | ((with_reducible refine gate_callee (f := 10) rfl ?_); refine goesL_ (some 79) rfl rfl Try.func10 (by kernel_rfl) rfl #[.slice Ao12 t102.length co12, .int .i64 t103] rfl (by (try simp only [List.map_toArray, List.map_cons, List.map_nil]); first | done | rfl | (simp only [List.length_drop, List.length_take]; rfl)) ?_; (with_reducible refine (spec_LeadsOf.calls k _ _ t102 t103 t114 t115 _ ?side1 ?side2 A9.out).mono ?_); (case side1 => repeat (first | exact (Kd.N_reads' HO105.out).2.2 | (with_reducible refine Kd.C_alloc ?_ _) | (with_reducible refine Kd.C_drewN ?_ _) | (with_reducible refine Kd.C_drew ?_))); (case side2 => exact (Kd.N_reads' HO105.out).2.1); rintro e w16 ⟨v116, rfl, ho0, hb⟩; refine ⟨_, rfl, ?_⟩; have n0_ := Aside0.mk (Kd.N_elder' (by (with_reducible repeat (first | apply Kd.N_alloc | apply Kd.N_drewN | apply Kd.N_drew)); exact HO105.out) (Kd.R_base ho0) hb); have n1_ := Aside0.mk (Kd.R_elder' (by (with_reducible repeat (first | apply Kd.R_alloc | apply Kd.R_drewN | apply Kd.R_drew)); exact HO113.out) (Kd.R_base ho0) hb); have n2_ := Aside0.mk (Kd.R_lower (Kd.R_new' ho0 (Kd.R_lt (by (with_reducible repeat (first | apply Kd.R_alloc | apply Kd.R_drewN | apply Kd.R_drew)); exact HO113.out))) (below_size (by repeat (first | (with_reducible first | exact HB.out | apply below_alloc | apply pw_below_drewN | apply below_drew1) | exact HB.out)))); have n3_ := Aside0.mk (below_step (by repeat (first | (with_reducible first | exact HB.out | apply below_alloc | apply pw_below_drewN | apply below_drew1) | exact HB.out)) hb); clear HO105; clear HO113; clear HB; have HO105 := n0_; have HO113 := n1_; have HO117 := n2_; have HB := n3_; clear n0_ n1_ n2_ n3_; (try clear hb); (try clear hb2); (try clear hk); (try clear hi); (try clear ho0)))
    (try simp only [Act.put, List.setIfInBounds_toArray, List.set_cons_zero, List.set_cons_succ])
    go_cut [105] (fun v105 wc => ∃ (kq : Nat) (x105_9 : Bool), v105 = .bool x105_9 ∧ Aside0 (laws_FnRanksOfRows.j0 kq l1 t102 t103 t106 t107 t110 x105_9 = some r) ∧ Aside0 (kq ≤ k) ∧ Aside0 (Kd.N (Kd.slice 3 (Kd.int .i64)) 29 wc w.heap.size (fun k_ => some k_ ≠ (v112 : Value).ownBlock) (.slice Ao12 t102.length co12) t102) ∧ Aside0 (Kd.R (Kd.int .i64) 3 wc w.heap.size (fun _ => True) v112 t110) ∧ Aside0 (Below w.heap.size w wc))
    case first =>
      as_aux_lemma =>
        have H := HC10.out
        clear HC10
        by_cases c17 : (t107 != t109) = true
        · rw [if_pos c17] at H
          have c17b0 : (t107 != t109) = true := c17
          (try (have c17b1 : decide (t107 = t109) = false := by simpa using c17))
          (try (have c17b2 : (t107 == t109) = false := by simpa using c17))
          (try (have c17b3 : ¬ (t107 = t109) := by simpa using c17))
          clear c17
          (first | rw [c17b0] | (simp only [i64_w, i32_w]; rw [c17b0]) | skip)
          have H' := Aside0.mk H
          clear H
          go_wp2
          go_meet
          case rel => exact ⟨_, (true), (by first | rfl | (simp; done) | (simp [*]; done)), H', ⟨by first | omega | exact Nat.le_refl _⟩, ⟨by (with_reducible repeat (first | apply Kd.N_alloc | apply Kd.N_drewN | apply Kd.N_drew)); exact Kd.N_mono HO105.out (fun _ hk => hk.1.2)⟩, ⟨by (with_reducible repeat (first | apply Kd.R_alloc | apply Kd.R_drewN | apply Kd.R_drew)); exact Kd.R_mono HO113.out (fun _ hk => trivial)⟩, ⟨by repeat (first | (with_reducible first | exact HB.out | apply below_alloc | apply pw_below_drewN | apply below_drew1) | exact HB.out)⟩⟩
        · rw [if_neg c17] at H
          have c17b0 : (t107 != t109) = false := by simpa using c17
          (try (have c17b1 : decide (t107 = t109) = true := by simpa using c17))
          (try (have c17b2 : (t107 == t109) = true := by simpa using c17))
          clear c17
          (first | rw [c17b0] | (simp only [i64_w, i32_w]; rw [c17b0]) | skip)
          by_cases c18 : t106 = t108
          · rw [if_pos c18] at H
            have c18b0 : (t106 == t108) = true := beq_iff_eq.mpr c18
            have c18b1 : (t106 != t108) = false := bne_eq_false_iff_eq.mpr c18
            clear c18
            by_cases c19 : (t111 != t115) = true
            · rw [if_pos c19] at H
              have c19b0 : (t111 != t115) = true := c19
              (try (have c19b1 : decide (t111 = t115) = false := by simpa using c19))
              (try (have c19b2 : (t111 == t115) = false := by simpa using c19))
              (try (have c19b3 : ¬ (t111 = t115) := by simpa using c19))
              clear c19
              have H' := Aside0.mk H
              clear H
              go_wp2
              go_meet
              case rel => exact ⟨_, (true), (by first | rfl | (simp; done) | (simp [*]; done)), H', ⟨by first | omega | exact Nat.le_refl _⟩, ⟨by (with_reducible repeat (first | apply Kd.N_alloc | apply Kd.N_drewN | apply Kd.N_drew)); exact Kd.N_mono HO105.out (fun _ hk => hk.1.2)⟩, ⟨by (with_reducible repeat (first | apply Kd.R_alloc | apply Kd.R_drewN | apply Kd.R_drew)); exact Kd.R_mono HO113.out (fun _ hk => trivial)⟩, ⟨by repeat (first | (with_reducible first | exact HB.out | apply below_alloc | apply pw_below_drewN | apply below_drew1) | exact HB.out)⟩⟩
            · rw [if_neg c19] at H
              have c19b0 : (t111 != t115) = false := by simpa using c19
              (try (have c19b1 : decide (t111 = t115) = true := by simpa using c19))
              (try (have c19b2 : (t111 == t115) = true := by simpa using c19))
              clear c19
              replace H := Option.bind_eq_some_iff.mp H
              obtain ⟨t118, A200, H⟩ := H
              replace H : (if t118 = true then (laws_FnRanksOfRows.j0 k l1 t102 t103 t106 t107 t110 (t111 != t107)) else (laws_FnRanksOfRows.j0 k l1 t102 t103 t106 t107 t110 true)) = some r := H
              have A20 := Aside0.mk A200
              clear A200
              by_cases c21 : t118 = true
              · subst c21
                have H1 : (laws_FnRanksOfRows.j0 k l1 t102 t103 t106 t107 t110 (t111 != t107)) = some r := by rw [if_pos rfl] at H; exact H
                clear H
                have H := H1
                clear H1
                have H' := Aside0.mk H
                clear H
                obtain ⟨Ao22, co22, eo22⟩ := Kd.R_slice HO113.out
                subst eo22
                obtain ⟨Ao23, co23, eo23⟩ := Kd.R_slice HO117.out
                subst eo23
                go_wp2_with (first | (go_at_call 11; (with_reducible refine (laws_rSame.calls k _ _ t110 _ _ t114 true _ ?side1 ?side2 ?side3 ?side4 A20.out).mono ?_); (case side1 => repeat (first | exact (Kd.R_reads' HO113.out).2.2 | (with_reducible refine Kd.C_alloc ?_ _) | (with_reducible refine Kd.C_drewN ?_ _) | (with_reducible refine Kd.C_drew ?_))); (case side2 => exact (Kd.R_reads' HO113.out).2.1); (case side3 => repeat (first | exact (Kd.R_reads' HO117.out).2.2 | (with_reducible refine Kd.C_alloc ?_ _) | (with_reducible refine Kd.C_drewN ?_ _) | (with_reducible refine Kd.C_drew ?_))); (case side4 => exact (Kd.R_reads' HO117.out).2.1); rintro e w' ⟨rfl, ⟨nd, rfl⟩⟩))
                go_meet
                case rel => exact ⟨_, ((t111 != t107)), (by first | rfl | (simp; done) | (simp [*]; done)), H', ⟨by first | omega | exact Nat.le_refl _⟩, ⟨by (with_reducible repeat (first | apply Kd.N_alloc | apply Kd.N_drewN | apply Kd.N_drew)); exact Kd.N_mono HO105.out (fun _ hk => hk.1.2)⟩, ⟨by (with_reducible repeat (first | apply Kd.R_alloc | apply Kd.R_drewN | apply Kd.R_drew)); exact Kd.R_mono HO113.out (fun _ hk => trivial)⟩, ⟨by repeat (first | (with_reducible first | exact HB.out | apply below_alloc | apply pw_below_drewN | apply below_drew1) | exact HB.out)⟩⟩
              · replace c21 := Bool.eq_false_iff.mpr c21
                subst c21
                have H1 : (laws_FnRanksOfRows.j0 k l1 t102 t103 t106 t107 t110 true) = some r := by rw [if_neg (show ¬ (false = true) by decide)] at H; exact H
                clear H
                have H := H1
                clear H1
                have H' := Aside0.mk H
                clear H
                obtain ⟨Ao24, co24, eo24⟩ := Kd.R_slice HO113.out
                subst eo24
                obtain ⟨Ao25, co25, eo25⟩ := Kd.R_slice HO117.out
                subst eo25
                go_wp2_with (first | (go_at_call 11; (with_reducible refine (laws_rSame.calls k _ _ t110 _ _ t114 false _ ?side1 ?side2 ?side3 ?side4 A20.out).mono ?_); (case side1 => repeat (first | exact (Kd.R_reads' HO113.out).2.2 | (with_reducible refine Kd.C_alloc ?_ _) | (with_reducible refine Kd.C_drewN ?_ _) | (with_reducible refine Kd.C_drew ?_))); (case side2 => exact (Kd.R_reads' HO113.out).2.1); (case side3 => repeat (first | exact (Kd.R_reads' HO117.out).2.2 | (with_reducible refine Kd.C_alloc ?_ _) | (with_reducible refine Kd.C_drewN ?_ _) | (with_reducible refine Kd.C_drew ?_))); (case side4 => exact (Kd.R_reads' HO117.out).2.1); rintro e w' ⟨rfl, ⟨nd, rfl⟩⟩))
                go_meet
                case rel => exact ⟨_, (true), (by first | rfl | (simp; done) | (simp [*]; done)), H', ⟨by first | omega | exact Nat.le_refl _⟩, ⟨by (with_reducible repeat (first | apply Kd.N_alloc | apply Kd.N_drewN | apply Kd.N_drew)); exact Kd.N_mono HO105.out (fun _ hk => hk.1.2)⟩, ⟨by (with_reducible repeat (first | apply Kd.R_alloc | apply Kd.R_drewN | apply Kd.R_drew)); exact Kd.R_mono HO113.out (fun _ hk => trivial)⟩, ⟨by repeat (first | (with_reducible first | exact HB.out | apply below_alloc | apply pw_below_drewN | apply below_drew1) | exact HB.out)⟩⟩
          · rw [if_neg c18] at H
            have c18b0 : (t106 == t108) = false := beq_eq_false_iff_ne.mpr c18
            have c18b1 : (t106 != t108) = true := bne_iff_ne.mpr c18
            have H' := Aside0.mk H
            clear H
            go_wp2
            go_meet
            case rel => exact ⟨_, (true), (by first | rfl | (simp; done) | (simp [*]; done)), H', ⟨by first | omega | exact Nat.le_refl _⟩, ⟨by (with_reducible repeat (first | apply Kd.N_alloc | apply Kd.N_drewN | apply Kd.N_drew)); exact Kd.N_mono HO105.out (fun _ hk => hk.1.2)⟩, ⟨by (with_reducible repeat (first | apply Kd.R_alloc | apply Kd.R_drewN | apply Kd.R_drew)); exact Kd.R_mono HO113.out (fun _ hk => trivial)⟩, ⟨by repeat (first | (with_reducible first | exact HB.out | apply below_alloc | apply pw_below_drewN | apply below_drew1) | exact HB.out)⟩⟩
    case rest =>
      as_aux_lemma =>
        clear HC10
        try clear c1
        try clear c4
        obtain ⟨kq, x105_9, rfl, HA, HJ9, HO_5, HO_11, HB⟩ := hcut
        cases kq with
        | zero => exact absurd HA.out (by simp [laws_FnRanksOfRows.j0])
        | succ kj9 =>
          have H := HA.out
          clear HA
          simp only [laws_FnRanksOfRows.j0] at H
          by_cases c26 : x105_9 = true
          · subst c26
            have H1 : (some false) = some r := by rw [if_pos rfl] at H; exact H
            clear H
            have H := H1
            clear H1
            obtain rfl := Option.some.inj H
            go_wp2
            go_ret
            exact ⟨by first | rfl | (simp [errW_none, errW_some] <;> rfl) | (simp [*, errW_none, errW_some] <;> rfl), by repeat (first | (with_reducible first | exact HB.out | apply below_alloc | apply pw_below_drewN | apply below_drew1) | exact HB.out)⟩
          · replace c26 := Bool.eq_false_iff.mpr c26
            subst c26
            have H1 : (if t107 = true then (laws_FnRanksOfRows.l0 kj9 l1 t102 t103 t106 t110 0 t110 (t110.length : Int) 0) else (laws_FnRanksOfRows.j5 kj9 l1)) = some r := by rw [if_neg (show ¬ (false = true) by decide)] at H; exact H
            clear H
            have H := H1
            clear H1
            have HC27 := Aside0.mk H
            clear H
            go_upto_if 106 with (fail)
            go_cut [] (fun wc => ∃ (kq : Nat), Aside0 (laws_FnRanksOfRows.j5 kq l1 = some r) ∧ Aside0 (kq ≤ kj9) ∧ Aside0 (Below w.heap.size w wc))
            case first =>
              as_aux_lemma =>
                have H := HC27.out
                clear HC27
                by_cases c28 : t107 = true
                · subst c28
                  have H1 : (laws_FnRanksOfRows.l0 kj9 l1 t102 t103 t106 t110 0 t110 (t110.length : Int) 0) = some r := by rw [if_pos rfl] at H; exact H
                  clear H
                  have H := H1
                  clear H1
                  have H' := Aside0.mk H
                  clear H
                  obtain ⟨Ao29, co29, eo29⟩ := Kd.R_slice HO_11.out
                  subst eo29
                  go_wp2
                  go_loopg [15, 109] kj9 (fun kq v15 v109 w' => ∃ (x15_2 : Int) (x109_2 : Int), v15 = .int .i64 x15_2 ∧ v109 = .int .i64 x109_2 ∧ Aside0 (laws_FnRanksOfRows.l0 kq l1 t102 t103 t106 t110 x15_2 t110 (t110.length : Int) x109_2 = some r) ∧ Aside0 (kq ≤ kj9) ∧ Aside0 (Kd.N (Kd.slice 3 (Kd.int .i64)) 29 w' w.heap.size (fun k_ => some k_ ≠ ((.slice Ao29 t110.length co29) : Value).ownBlock ∧ some k_ ≠ ((.slice Ao29 t110.length co29) : Value).ownBlock) (.slice Ao12 t102.length co12) t102) ∧ Aside0 (Kd.R (Kd.int .i64) 3 w' w.heap.size (fun _ => True) (.slice Ao29 t110.length co29) t110) ∧ Aside0 (Kd.R (Kd.int .i64) 3 w' w.heap.size (fun _ => True) (.slice Ao29 t110.length co29) t110) ∧ Aside0 (Below w.heap.size w w'))
                  case atStart => exact ⟨(0), (0), (by first | rfl | (simp; done) | (simp [*]; done)), (by first | rfl | (simp; done) | (simp [*]; done)), H', ⟨Nat.le_refl _⟩, ⟨by (with_reducible repeat (first | apply Kd.N_alloc | apply Kd.N_drewN | apply Kd.N_drew)); exact Kd.N_mono HO_5.out (fun _ hk => ⟨hk, hk⟩)⟩, ⟨by (with_reducible repeat (first | apply Kd.R_alloc | apply Kd.R_drewN | apply Kd.R_drew)); exact HO_11.out⟩, ⟨by (with_reducible repeat (first | apply Kd.R_alloc | apply Kd.R_drewN | apply Kd.R_drew)); exact HO_11.out⟩, ⟨by repeat (first | (with_reducible first | exact HB.out | apply below_alloc | apply pw_below_drewN | apply below_drew1) | exact HB.out)⟩⟩
                  case round =>
                    as_aux_lemma =>
                      clear H'
                      try clear c1
                      try clear c4
                      try clear c26
                      try clear c28
                      obtain ⟨x15_2, x109_2, rfl, rfl, HA, HK2, HO_5, HO_11, HO_107, HB⟩ := hrel
                      cases gk with
                      | zero => exact absurd HA.out (by simp [laws_FnRanksOfRows.l0])
                      | succ k2 =>
                        have H := HA.out
                        clear HA
                        simp only [laws_FnRanksOfRows.l0] at H
                        by_cases c30 : x109_2 < (t110.length : Int)
                        · rw [if_pos c30] at H
                          have c30b0 : decide (x109_2 < (t110.length : Int)) = true := decide_eq_true c30
                          clear c30
                          (first | rw [c30b0] | (simp only [i64_w, i32_w]; rw [c30b0]) | skip)
                          by_cases c31 : 0 ≤ x109_2
                          · rw [if_pos c31] at H
                            have c31b0 : decide (0 ≤ x109_2) = true := decide_eq_true c31
                            clear c31
                            by_cases c32 : x109_2 < (t110.length : Int)
                            · rw [if_pos c32] at H
                              have c32b0 : decide (x109_2 < (t110.length : Int)) = true := decide_eq_true c32
                              clear c32
                              by_cases c33 : (rd t110 x109_2) ≥ 0
                              · rw [if_pos c33] at H
                                have c33b0 : decide (0 ≤ (rd t110 x109_2)) = true := decide_eq_true c33
                                clear c33
                                have c34b0 := eq_true (of_decide_eq_true (by first | (with_reducible assumption) | assumption) : 0 ≤ x109_2)
                                by_cases c35 : x109_2 ≤ (t110.length : Int)
                                · rw [if_pos c35] at H
                                  have c35b0 := eq_true c35
                                  have c35b1 : decide (x109_2 ≤ (t110.length : Int)) = true := decide_eq_true c35
                                  clear c35
                                  obtain ⟨y120, hy120⟩ : ∃ y_ : List Int, y_ = (t110.take (x109_2 : Int).toNat) := ⟨_, rfl⟩
                                  replace H : ((laws_rHas.f k2 y120 (rd t110 x109_2)).bind fun t125 => (if t125 = true then (some false) else (laws_FnRanksOfRows.l0 k2 l1 t102 t103 t106 t110 (wrap64 (x15_2 + 1)) t110 (t110.length : Int) (wrap64 (x109_2 + 1))))) = some r := by first | (rw [hy120]; with_reducible exact H) | (have H2_ := (Option.bind_some _ _).symm.trans H; rw [hy120]; with_reducible exact H2_) | (have H2_ := (Option.bind_some _ _).symm.trans H; with_reducible exact H2_) | with_reducible exact H | (rw [hy120]; exact H) | exact H
                                  have Ny120 := Aside0.mk hy120
                                  clear hy120
                                  replace H := Option.bind_eq_some_iff.mp H
                                  obtain ⟨t125, A360, H⟩ := H
                                  replace H : (if t125 = true then (some false) else (laws_FnRanksOfRows.l0 k2 l1 t102 t103 t106 t110 (wrap64 (x15_2 + 1)) t110 (t110.length : Int) (wrap64 (x109_2 + 1)))) = some r := H
                                  have A36 := Aside0.mk A360
                                  clear A360
                                  by_cases c37 : t125 = true
                                  · subst c37
                                    have H1 : (some false) = some r := by rw [if_pos rfl] at H; exact H
                                    clear H
                                    have H := H1
                                    clear H1
                                    obtain rfl := Option.some.inj H
                                    have p119 : 0 ≤ (x109_2 : Int) := of_decide_eq_true (by first | (with_reducible assumption) | assumption)
                                    have q119 : x109_2 < (t110.length : Int) := of_decide_eq_true (by first | (with_reducible assumption) | assumption)
                                    obtain ⟨ad119, e119, hx119_0⟩ := Kd.at_int (Kd.R_reads' HO_107.out).2.2 x109_2 p119 q119
                                    cases e119
                                    replace p119 := eq_true p119
                                    replace q119 := eq_true q119
                                    have q38 : (x109_2 : Int) ≤ ((t110.length : Int) : Int) := of_decide_eq_true (by first | (with_reducible assumption) | assumption)
                                    obtain ⟨i038, hi038, _, hsz38, _⟩ := info_parts info3
                                    have hroom38 : t110.length ≤ co29 := (Kd.R_reads' HO_11.out).2.1
                                    have hC38 : Kd.F (Kd.int .i64) _ _ (some ad119) t110.length t110 := (Kd.V_at (base := w.heap.size) (Kd.R_V (Kd.R_apart' (HO_11.out) (Kd.N_typed HO_5.out) (by decide)))).2.2
                                    have hcut38 := cut_to (P := Try.prog) 29 3 .i64 Try.underlying29 hi038 (some ad119) t110.length co29 x109_2 (of_decide_eq_true (by first | (with_reducible assumption) | assumption)) q38 hroom38
                                    have hr38 := Kd.F_take (m := (x109_2 : Int).toNat) hC38 (by omega)
                                    have hy38 : y120.length = (x109_2 : Int).toNat := (by rw [Ny120.out, List.length_take]; omega)
                                    rw [← Ny120.out] at hr38
                                    rw [← hy38] at hcut38
                                    have HO124 := Aside0.mk (show Kd.V (Kd.int .i64) 3 _ w.heap.size _ (.slice (some ad119) y120.length co29) y120 from Kd.V_mk (by omega) hr38)
                                    have HC124 := Aside0.mk (show y120.length ≤ co29 from by omega)
                                    clear hr38 hC38 hroom38 hi038 hsz38
                                    have KY38 := Aside0.mk hy38
                                    clear hy38
                                    replace q38 := eq_true q38
                                    go_wp2_with (first | ((with_reducible refine gate_callee (f := 12) rfl ?_); refine goesL_ (some 122) rfl rfl Try.func12 (by kernel_rfl) rfl #[.slice (some ad119) y120.length co29, .int .i64 (rd t110 x109_2)] rfl (by (try simp only [List.map_toArray, List.map_cons, List.map_nil]); first | done | rfl | (simp only [List.length_drop, List.length_take]; rfl)) ?_; (with_reducible refine (laws_rHas.calls k2 _ _ y120 (rd t110 x109_2) true _ ?side1 ?side2 A36.out).mono ?_); (case side1 => repeat (first | exact (Kd.V_reads' HO124.out).2.2 | (with_reducible refine Kd.C_alloc ?_ _) | (with_reducible refine Kd.C_drewN ?_ _) | (with_reducible refine Kd.C_drew ?_))); (case side2 => exact (Kd.V_reads' HO124.out).2.1); rintro e w' ⟨rfl, ⟨nd, rfl⟩⟩; refine ⟨_, rfl, ?_⟩))
                                    go_ret
                                    exact ⟨by first | rfl | (simp [errW_none, errW_some] <;> rfl) | (simp [*, errW_none, errW_some] <;> rfl), by repeat (first | (with_reducible first | exact HB.out | apply below_alloc | apply pw_below_drewN | apply below_drew1) | exact HB.out)⟩
                                  · replace c37 := Bool.eq_false_iff.mpr c37
                                    subst c37
                                    have H1 : (laws_FnRanksOfRows.l0 k2 l1 t102 t103 t106 t110 (wrap64 (x15_2 + 1)) t110 (t110.length : Int) (wrap64 (x109_2 + 1))) = some r := by rw [if_neg (show ¬ (false = true) by decide)] at H; exact H
                                    clear H
                                    have H := H1
                                    clear H1
                                    have H' := Aside0.mk H
                                    clear H
                                    have p119 : 0 ≤ (x109_2 : Int) := of_decide_eq_true (by first | (with_reducible assumption) | assumption)
                                    have q119 : x109_2 < (t110.length : Int) := of_decide_eq_true (by first | (with_reducible assumption) | assumption)
                                    obtain ⟨ad119, e119, hx119_0⟩ := Kd.at_int (Kd.R_reads' HO_107.out).2.2 x109_2 p119 q119
                                    cases e119
                                    replace p119 := eq_true p119
                                    replace q119 := eq_true q119
                                    have q39 : (x109_2 : Int) ≤ ((t110.length : Int) : Int) := of_decide_eq_true (by first | (with_reducible assumption) | assumption)
                                    obtain ⟨i039, hi039, _, hsz39, _⟩ := info_parts info3
                                    have hroom39 : t110.length ≤ co29 := (Kd.R_reads' HO_11.out).2.1
                                    have hC39 : Kd.F (Kd.int .i64) _ _ (some ad119) t110.length t110 := (Kd.V_at (base := w.heap.size) (Kd.R_V (Kd.R_apart' (HO_11.out) (Kd.N_typed HO_5.out) (by decide)))).2.2
                                    have hcut39 := cut_to (P := Try.prog) 29 3 .i64 Try.underlying29 hi039 (some ad119) t110.length co29 x109_2 (of_decide_eq_true (by first | (with_reducible assumption) | assumption)) q39 hroom39
                                    have hr39 := Kd.F_take (m := (x109_2 : Int).toNat) hC39 (by omega)
                                    have hy39 : y120.length = (x109_2 : Int).toNat := (by rw [Ny120.out, List.length_take]; omega)
                                    rw [← Ny120.out] at hr39
                                    rw [← hy39] at hcut39
                                    have HO124 := Aside0.mk (show Kd.V (Kd.int .i64) 3 _ w.heap.size _ (.slice (some ad119) y120.length co29) y120 from Kd.V_mk (by omega) hr39)
                                    have HC124 := Aside0.mk (show y120.length ≤ co29 from by omega)
                                    clear hr39 hC39 hroom39 hi039 hsz39
                                    have KY39 := Aside0.mk hy39
                                    clear hy39
                                    replace q39 := eq_true q39
                                    go_wp2_with (first | ((with_reducible refine gate_callee (f := 12) rfl ?_); refine goesL_ (some 122) rfl rfl Try.func12 (by kernel_rfl) rfl #[.slice (some ad119) y120.length co29, .int .i64 (rd t110 x109_2)] rfl (by (try simp only [List.map_toArray, List.map_cons, List.map_nil]); first | done | rfl | (simp only [List.length_drop, List.length_take]; rfl)) ?_; (with_reducible refine (laws_rHas.calls k2 _ _ y120 (rd t110 x109_2) false _ ?side1 ?side2 A36.out).mono ?_); (case side1 => repeat (first | exact (Kd.V_reads' HO124.out).2.2 | (with_reducible refine Kd.C_alloc ?_ _) | (with_reducible refine Kd.C_drewN ?_ _) | (with_reducible refine Kd.C_drew ?_))); (case side2 => exact (Kd.V_reads' HO124.out).2.1); rintro e w' ⟨rfl, ⟨nd, rfl⟩⟩; refine ⟨_, rfl, ?_⟩))
                                    go_roundg k2
                                    case measure => have := HJ9.out; have := HK2.out; omega
                                    case rel => exact ⟨(wrap64 (x15_2 + 1)), (wrap64 (x109_2 + 1)), (by first | rfl | (simp; done) | (simp [*]; done)), (by first | rfl | (simp; done) | (simp [*]; done)), H', ⟨by have := HJ9.out; have := HK2.out; omega⟩, ⟨by (with_reducible repeat (first | apply Kd.N_alloc | apply Kd.N_drewN | apply Kd.N_drew)); exact HO_5.out⟩, ⟨by (with_reducible repeat (first | apply Kd.R_alloc | apply Kd.R_drewN | apply Kd.R_drew)); exact HO_11.out⟩, ⟨by (with_reducible repeat (first | apply Kd.R_alloc | apply Kd.R_drewN | apply Kd.R_drew)); exact HO_107.out⟩, ⟨by repeat (first | (with_reducible first | exact HB.out | apply below_alloc | apply pw_below_drewN | apply below_drew1) | exact HB.out)⟩⟩
                                · rw [if_neg c35] at H
                                  exact absurd H (by simp)
                              · rw [if_neg c33] at H
                                have c33b0 : decide (0 ≤ (rd t110 x109_2)) = false := decide_eq_false c33
                                clear c33
                                have H' := Aside0.mk H
                                clear H
                                have p119 : 0 ≤ (x109_2 : Int) := of_decide_eq_true (by first | (with_reducible assumption) | assumption)
                                have q119 : x109_2 < (t110.length : Int) := of_decide_eq_true (by first | (with_reducible assumption) | assumption)
                                obtain ⟨ad119, e119, hx119_0⟩ := Kd.at_int (Kd.R_reads' HO_107.out).2.2 x109_2 p119 q119
                                cases e119
                                replace p119 := eq_true p119
                                replace q119 := eq_true q119
                                go_wp2
                                go_roundg k2
                                case measure => have := HJ9.out; have := HK2.out; omega
                                case rel => exact ⟨(x15_2), (wrap64 (x109_2 + 1)), (by first | rfl | (simp; done) | (simp [*]; done)), (by first | rfl | (simp; done) | (simp [*]; done)), H', ⟨by have := HJ9.out; have := HK2.out; omega⟩, ⟨by (with_reducible repeat (first | apply Kd.N_alloc | apply Kd.N_drewN | apply Kd.N_drew)); exact HO_5.out⟩, ⟨by (with_reducible repeat (first | apply Kd.R_alloc | apply Kd.R_drewN | apply Kd.R_drew)); exact HO_11.out⟩, ⟨by (with_reducible repeat (first | apply Kd.R_alloc | apply Kd.R_drewN | apply Kd.R_drew)); exact HO_107.out⟩, ⟨by repeat (first | (with_reducible first | exact HB.out | apply below_alloc | apply pw_below_drewN | apply below_drew1) | exact HB.out)⟩⟩
                            · rw [if_neg c32] at H
                              exact absurd H (by simp)
                          · rw [if_neg c31] at H
                            exact absurd H (by simp)
                        · rw [if_neg c30] at H
                          have c30b0 : decide (x109_2 < (t110.length : Int)) = false := decide_eq_false c30
                          clear c30
                          (first | rw [c30b0] | (simp only [i64_w, i32_w]; rw [c30b0]) | skip)
                          have H' := Aside0.mk H
                          clear H
                          go_wp2
                          go_loopg [18, 19] k2 (fun kq v18 v19 w' => ∃ (x18_3 : List (List Int)) (x19_3 : Int), v19 = .int .i64 x19_3 ∧ Aside0 (laws_FnRanksOfRows.l1 kq l1 t102 t103 t106 t110 x15_2 x18_3 x19_3 = some r) ∧ Aside0 (kq ≤ k2) ∧ Aside0 (Kd.N (Kd.slice 3 (Kd.int .i64)) 29 w' w.heap.size (fun k_ => some k_ ≠ ((.slice Ao29 t110.length co29) : Value).ownBlock ∧ some k_ ≠ (v18 : Value).ownBlock) (.slice Ao12 t102.length co12) t102) ∧ Aside0 (Kd.R (Kd.int .i64) 3 w' w.heap.size (fun _ => True) (.slice Ao29 t110.length co29) t110) ∧ Aside0 (Kd.N (Kd.slice 3 (Kd.int .i64)) 29 w' w.heap.size (fun k_ => some k_ ≠ ((.slice Ao12 t102.length co12) : Value).ownBlock ∧ some k_ ≠ ((.slice Ao29 t110.length co29) : Value).ownBlock) v18 x18_3) ∧ Aside0 (Below w.heap.size w w'))
                          case atStart => exact ⟨(([] : List (List Int))), (wrap64 ((t102.length : Int) - 1)), (by first | rfl | (simp; done) | (simp [*]; done)), H', ⟨Nat.le_refl _⟩, ⟨by (with_reducible repeat (first | apply Kd.N_alloc | apply Kd.N_drewN | apply Kd.N_drew)); exact Kd.N_mono HO_5.out (fun _ hk => ⟨hk.1, (by simp [Value.ownBlock])⟩)⟩, ⟨by (with_reducible repeat (first | apply Kd.R_alloc | apply Kd.R_drewN | apply Kd.R_drew)); exact HO_11.out⟩, ⟨by first | exact Kd.S_nil _ _ _ _ _ | exact Kd.N_nil _ _ _ _ _ | exact Kd.V_nil _ _ _ _ _ | exact Kd.Q_nil _ _ _ _ _ | exact Kd.R_nil _ _ _ _ _⟩, ⟨by repeat (first | (with_reducible first | exact HB.out | apply below_alloc | apply pw_below_drewN | apply below_drew1) | exact HB.out)⟩⟩
                          case round =>
                            as_aux_lemma =>
                              clear H'
                              try clear c1
                              try clear c4
                              try clear c26
                              try clear c28
                              try clear c30
                              try clear c30b0
                              obtain ⟨x18_3, x19_3, rfl, HA, HK3, HO_5, HO_11, HO_18, HB⟩ := hrel
                              cases gk with
                              | zero => exact absurd HA.out (by simp [laws_FnRanksOfRows.l1])
                              | succ k3 =>
                                have H := HA.out
                                clear HA
                                simp only [laws_FnRanksOfRows.l1] at H
                                by_cases c40 : x19_3 ≥ 0
                                · rw [if_pos c40] at H
                                  have c40b0 : decide (0 ≤ x19_3) = true := decide_eq_true c40
                                  clear c40
                                  by_cases c41 : 0 ≤ x19_3
                                  · rw [if_pos c41] at H
                                    have c41b0 : decide (0 ≤ x19_3) = true := decide_eq_true c41
                                    clear c41
                                    by_cases c42 : x19_3 < (t102.length : Int)
                                    · rw [if_pos c42] at H
                                      have c42b0 : decide (x19_3 < (t102.length : Int)) = true := decide_eq_true c42
                                      clear c42
                                      by_cases c43 : x18_3.length < 5864062014805
                                      · rw [if_pos c43] at H
                                        have LMc43 := Aside0.mk c43
                                        clear c43
                                        obtain ⟨y127, hy127⟩ : ∃ y_ : List (List Int), y_ = (x18_3 ++ [rd_L2 t102 x19_3]) := ⟨_, rfl⟩
                                        replace H : (laws_FnRanksOfRows.l1 k3 l1 t102 t103 t106 t110 x15_2 y127 (wrap64 (x19_3 - 1))) = some r := by first | (rw [hy127]; with_reducible exact H) | (have H2_ := (Option.bind_some _ _).symm.trans H; rw [hy127]; with_reducible exact H2_) | (have H2_ := (Option.bind_some _ _).symm.trans H; with_reducible exact H2_) | with_reducible exact H | (rw [hy127]; exact H) | exact H
                                        have Ny127 := Aside0.mk hy127
                                        clear hy127
                                        have H' := Aside0.mk H
                                        clear H
                                        have p126 : 0 ≤ (x19_3 : Int) := of_decide_eq_true (by first | (with_reducible assumption) | assumption)
                                        have q126 : x19_3 < (t102.length : Int) := of_decide_eq_true (by first | (with_reducible assumption) | assumption)
                                        obtain ⟨ad126, A126_0, c126_0, e126, hx126_0, hl126_0, hi126_0⟩ := at_L2 (Kd.N_reads' HO_5.out).2.2 x19_3 p126 q126
                                        cases e126
                                        obtain ⟨ce126, hce126, hMe126, hcc126⟩ := Kd.N_get HO_5.out [] x19_3 p126 (by first | exact q126 | exact of_decide_eq_true (by first | (with_reducible assumption) | assumption) | (have e_ := (Kd.N_reads' HO_5.out).1; omega))
                                        obtain ⟨ua126_0, uc126_0, rfl, ul126_0, ge126_0⟩ := Kd.FK_slice_open hMe126
                                        have hv126_0 := hcc126 0 _ rfl
                                        rw [Nat.add_zero, show ((Kd.slice 3 (Kd.int .i64))).sz = 1 from rfl, Nat.mul_one] at hv126_0
                                        replace hv126_0 := Option.some.inj (hv126_0.symm.trans hx126_0)
                                        injection hv126_0 with hva_ hvn_ hvc_
                                        rw [hva_] at ge126_0
                                        rw [hvc_] at ul126_0
                                        have HL126_0 := Aside0.mk (show Kd.V (Kd.int .i64) 3 _ w.heap.size _ _ (rd_L2 t102 x19_3) from Kd.V_mk ul126_0 ge126_0)
                                        clear hva_ hvn_ hvc_ ge126_0 ul126_0
                                        clear hcc126 hce126
                                        have HR126_0 := Aside0.mk hi126_0
                                        have HC126_0 := Aside0.mk hl126_0
                                        clear hi126_0 hl126_0
                                        replace p126 := eq_true p126
                                        replace q126 := eq_true q126
                                        go_wp2_with (first | ((with_reducible refine gate_builtin (b := .append) (xs := #[.tmp 131, .tmp 136]) rfl ?_); at_builtin; refine Kd.N_append (Kd.slice 3 (Kd.int .i64)) (w0 := w) w.heap.size rfl (.tmp 131) (.tmp 136) 24 29 (.slice none 0 0) 24 rfl Try.underlying24 info29 rfl (by decide) (by omega) u18 x18_3 (rd_L2 t102 x19_3) [.slice A126_0 (rd_L2 t102 x19_3).length c126_0] (fun k_ => some k_ ≠ (.slice (some ad126) t102.length co12 : Value).ownBlock ∧ some k_ ≠ (.slice Ao29 t110.length co29 : Value).ownBlock) (fun k_ => ((fun k_ => some k_ ≠ (.slice (some ad126) t102.length co12 : Value).ownBlock ∧ some k_ ≠ (.slice Ao29 t110.length co29 : Value).ownBlock)) k_ ∧ some k_ ≠ (u18 : Value).ownBlock) rfl rfl ?aP (fun _ hk => hk) ?aF ?aO ?aB ?aS ?aL ?_; (case aP => exact (Kd.FK_slice_mk (Kd.V_reads' (Kd.V_mono (ok' := (fun k_ => ((fun k_ => some k_ ≠ (.slice (some ad126) t102.length co12 : Value).ownBlock ∧ some k_ ≠ (.slice Ao29 t110.length co29 : Value).ownBlock)) k_ ∧ some k_ ≠ (u18 : Value).ownBlock)) (HL126_0.out) (fun k_ hk => ⟨⟨hk.2, hk.1.1⟩, hk.1.2⟩))).2.1 (Kd.V_F (Kd.V_mono (ok' := (fun k_ => ((fun k_ => some k_ ≠ (.slice (some ad126) t102.length co12 : Value).ownBlock ∧ some k_ ≠ (.slice Ao29 t110.length co29 : Value).ownBlock)) k_ ∧ some k_ ≠ (u18 : Value).ownBlock)) (HL126_0.out) (fun k_ hk => ⟨⟨hk.2, hk.1.1⟩, hk.1.2⟩))))); (case aB => exact (by repeat (first | (with_reducible first | exact HB.out | apply below_alloc | apply pw_below_drewN | apply below_drew1) | exact HB.out))); (case aF => exact (fun k_ hk => ⟨Kd.fresh' (Kd.N_lt (by (with_reducible repeat (first | apply Kd.N_alloc | apply Kd.N_drewN | apply Kd.N_drew)); exact HO_5.out)) k_ hk, Kd.fresh' (Kd.R_lt (by (with_reducible repeat (first | apply Kd.R_alloc | apply Kd.R_drewN | apply Kd.R_drew)); exact HO_11.out)) k_ hk⟩)); (case aO => exact (by (with_reducible repeat (first | apply Kd.N_alloc | apply Kd.N_drewN | apply Kd.N_drew)); exact HO_18.out)); (case aS => exact (below_size (by repeat (first | (with_reducible first | exact HB.out | apply below_alloc | apply pw_below_drewN | apply below_drew1) | exact HB.out)))); (case aL => have := LMc43.out; omega); intro v128 w44 ho hb hg hat; rw [← Ny127.out] at ho; have n0_ := Aside0.mk (Kd.N_afterv (ok := (fun k_ => some k_ ≠ (.slice Ao29 t110.length co29 : Value).ownBlock)) (by (with_reducible repeat (first | apply Kd.N_alloc | apply Kd.N_drewN | apply Kd.N_drew)); exact HO_5.out) hg hat); have n1_ := Aside0.mk (Kd.R_over' (by (with_reducible repeat (first | apply Kd.R_alloc | apply Kd.R_drewN | apply Kd.R_drew)); exact HO_11.out) (Kd.N_typed (by (with_reducible repeat (first | apply Kd.N_alloc | apply Kd.N_drewN | apply Kd.N_drew)); exact HO_18.out)) (by decide) hg); have n2_ := Aside0.mk (Kd.V_afterv (ok := (fun k_ => some k_ ≠ (.slice (some ad126) t102.length co12 : Value).ownBlock ∧ some k_ ≠ (.slice Ao29 t110.length co29 : Value).ownBlock)) (by (with_reducible repeat (first | apply Kd.V_alloc | apply Kd.V_drewN | apply Kd.V_drew)); exact Kd.V_mono HL126_0.out (fun _ hk => ⟨⟨hk.2, hk.1.1⟩, hk.1.2⟩)) hg hat); have n3_ := Aside0.mk (hb); have n4_ := Aside0.mk (ho); clear HO_5; clear HO_11; clear HL126_0; clear HB; clear HO_18; have HO_5 := n0_; have HO_11 := n1_; have HL126_0 := n2_; have HB := n3_; have HO129 := n4_; clear n0_ n1_ n2_ n3_ n4_; clear ho hb hg hat))
                                        go_roundg k3
                                        case measure => have := HJ9.out; have := HK2.out; have := HK3.out; omega
                                        case rel => exact ⟨(y127), (wrap64 (x19_3 - 1)), (by first | rfl | (simp; done) | (simp [*]; done)), H', ⟨by have := HJ9.out; have := HK2.out; have := HK3.out; omega⟩, ⟨by (with_reducible repeat (first | apply Kd.N_alloc | apply Kd.N_drewN | apply Kd.N_drew)); exact HO_5.out⟩, ⟨by (with_reducible repeat (first | apply Kd.R_alloc | apply Kd.R_drewN | apply Kd.R_drew)); exact HO_11.out⟩, ⟨by (with_reducible repeat (first | apply Kd.N_alloc | apply Kd.N_drewN | apply Kd.N_drew)); exact HO129.out⟩, ⟨by repeat (first | (with_reducible first | exact HB.out | apply below_alloc | apply pw_below_drewN | apply below_drew1) | exact HB.out)⟩⟩
                                      · rw [if_neg c43] at H
                                        exact absurd H (by simp)
                                    · rw [if_neg c42] at H
                                      exact absurd H (by simp)
                                  · rw [if_neg c41] at H
                                    exact absurd H (by simp)
                                · rw [if_neg c40] at H
                                  have c40b0 : decide (0 ≤ x19_3) = false := decide_eq_false c40
                                  clear c40
                                  replace H := Option.bind_eq_some_iff.mp H
                                  obtain ⟨⟨t130, t131⟩, A450, H⟩ := H
                                  replace H : (if 0 < (t102.length : Int) then (laws_FnRanksOfRows.l2 k3 l1 t102 t103 t106 t110 x15_2 t130 t131 ([] : List (List Int)) ((rd_L2 t102 0).length : Int) 0) else (none)) = some r := H
                                  have A45 := Aside0.mk A450
                                  clear A450
                                  by_cases c46 : 0 < (t102.length : Int)
                                  · rw [if_pos c46] at H
                                    have c46b0 : decide (0 < (t102.length : Int)) = true := decide_eq_true c46
                                    have c46b1 : decide (0 < t102.length) = true := decide_eq_true (by omega)
                                    clear c46
                                    have H' := Aside0.mk H
                                    clear H
                                    obtain ⟨Ao47, co47, eo47⟩ := Kd.N_slice HO_18.out
                                    subst eo47
                                    go_wp2_with (first | ((with_reducible refine gate_callee (f := 7) rfl ?_); refine goesL_ (some 141) rfl rfl Try.func7 (by kernel_rfl) rfl #[.slice Ao47 x18_3.length co47, .int .i64 t103] rfl (by (try simp only [List.map_toArray, List.map_cons, List.map_nil]); first | done | rfl | (simp only [List.length_drop, List.length_take]; rfl)) ?_; (with_reducible refine (impl_RankModulo.calls k3 _ _ x18_3 t103 t130 t131 _ ?side1 ?side2 A45.out).mono ?_); (case side1 => repeat (first | exact (Kd.N_reads' HO_18.out).2.2 | (with_reducible refine Kd.C_alloc ?_ _) | (with_reducible refine Kd.C_drewN ?_ _) | (with_reducible refine Kd.C_drew ?_))); (case side2 => exact (Kd.N_reads' HO_18.out).2.1); rintro e w48 ⟨rfl, hb⟩; refine ⟨_, rfl, ?_⟩; have n0_ := Aside0.mk (Kd.N_below (by (with_reducible repeat (first | apply Kd.N_alloc | apply Kd.N_drewN | apply Kd.N_drew)); exact HO_5.out) hb); have n1_ := Aside0.mk (Kd.R_below (by (with_reducible repeat (first | apply Kd.R_alloc | apply Kd.R_drewN | apply Kd.R_drew)); exact HO_11.out) hb); have n2_ := Aside0.mk (Kd.N_below (by (with_reducible repeat (first | apply Kd.N_alloc | apply Kd.N_drewN | apply Kd.N_drew)); exact HO_18.out) hb); have n3_ := Aside0.mk (below_step (by repeat (first | (with_reducible first | exact HB.out | apply below_alloc | apply pw_below_drewN | apply below_drew1) | exact HB.out)) hb); clear HO_5; clear HO_11; clear HO_18; clear HB; have HO_5 := n0_; have HO_11 := n1_; have HO_18 := n2_; have HB := n3_; clear n0_ n1_ n2_ n3_; (try clear hb); (try clear hb2); (try clear hk); (try clear hi); have p132 : 0 ≤ (0 : Int) := (by omega); have q132 : 0 < (t102.length : Int) := of_decide_eq_true (by first | (with_reducible assumption) | assumption); obtain ⟨ad132, A132_0, c132_0, e132, hx132_0, hl132_0, hi132_0⟩ := at_L2 (Kd.N_reads' HO_5.out).2.2 0 p132 q132; cases e132; obtain ⟨ce132, hce132, hMe132, hcc132⟩ := Kd.N_get HO_5.out [] 0 p132 (by first | exact q132 | exact of_decide_eq_true (by first | (with_reducible assumption) | assumption) | (have e_ := (Kd.N_reads' HO_5.out).1; omega)); obtain ⟨ua132_0, uc132_0, rfl, ul132_0, ge132_0⟩ := Kd.FK_slice_open hMe132; have hv132_0 := hcc132 0 _ rfl; rw [Nat.add_zero, show ((Kd.slice 3 (Kd.int .i64))).sz = 1 from rfl, Nat.mul_one] at hv132_0; replace hv132_0 := Option.some.inj (hv132_0.symm.trans hx132_0); injection hv132_0 with hva_ hvn_ hvc_; rw [hva_] at ge132_0; rw [hvc_] at ul132_0; have HL132_0 := Aside0.mk (show Kd.V (Kd.int .i64) 3 _ w.heap.size _ _ (rd_L2 t102 0) from Kd.V_mk ul132_0 ge132_0); clear hva_ hvn_ hvc_ ge132_0 ul132_0; clear hcc132 hce132; have qi132 : (0 < t102.length) = True := eq_true (by omega); (try rw [show ((0 : Int)).toNat = 0 from rfl] at hx132_0); (try rw [Addr.add_zero'] at hx132_0); have HR132_0 := Aside0.mk hi132_0; have HC132_0 := Aside0.mk hl132_0; clear hi132_0 hl132_0; replace p132 := eq_true p132; replace q132 := eq_true q132))
                                    go_loopg [22, 148] k3 (fun kq v22 v148 w' => ∃ (x22_4 : List (List Int)) (x148_4 : Int), v148 = .int .i64 x148_4 ∧ Aside0 (laws_FnRanksOfRows.l2 kq l1 t102 t103 t106 t110 x15_2 t130 t131 x22_4 ((rd_L2 t102 0).length : Int) x148_4 = some r) ∧ Aside0 (kq ≤ k3) ∧ Aside0 (Kd.N (Kd.slice 3 (Kd.int .i64)) 29 w' w.heap.size (fun k_ => some k_ ≠ ((.slice Ao29 t110.length co29) : Value).ownBlock ∧ some k_ ≠ (v22 : Value).ownBlock) (.slice (some ad132) t102.length co12) t102) ∧ Aside0 (Kd.R (Kd.int .i64) 3 w' w.heap.size (fun _ => True) (.slice Ao29 t110.length co29) t110) ∧ Aside0 (Kd.N (Kd.slice 3 (Kd.int .i64)) 29 w' w.heap.size (fun k_ => some k_ ≠ ((.slice (some ad132) t102.length co12) : Value).ownBlock ∧ some k_ ≠ ((.slice Ao29 t110.length co29) : Value).ownBlock) v22 x22_4) ∧ Aside0 (Below w.heap.size w w'))
                                    case atStart => exact ⟨(([] : List (List Int))), (0), (by first | rfl | (simp; done) | (simp [*]; done)), H', ⟨Nat.le_refl _⟩, ⟨by (with_reducible repeat (first | apply Kd.N_alloc | apply Kd.N_drewN | apply Kd.N_drew)); exact Kd.N_mono HO_5.out (fun _ hk => ⟨hk.1, (by simp [Value.ownBlock])⟩)⟩, ⟨by (with_reducible repeat (first | apply Kd.R_alloc | apply Kd.R_drewN | apply Kd.R_drew)); exact HO_11.out⟩, ⟨by first | exact Kd.S_nil _ _ _ _ _ | exact Kd.N_nil _ _ _ _ _ | exact Kd.V_nil _ _ _ _ _ | exact Kd.Q_nil _ _ _ _ _ | exact Kd.R_nil _ _ _ _ _⟩, ⟨by repeat (first | (with_reducible first | exact HB.out | apply below_alloc | apply pw_below_drewN | apply below_drew1) | exact HB.out)⟩⟩
                                    case round =>
                                      as_aux_lemma =>
                                        clear H'
                                        try clear c1
                                        try clear c4
                                        try clear c26
                                        try clear c28
                                        try clear c30
                                        try clear c30b0
                                        try clear c40
                                        try clear c40b0
                                        try clear c46
                                        try clear c46b0
                                        try clear c46b1
                                        try clear hx132_0
                                        try clear p132
                                        try clear q132
                                        obtain ⟨x22_4, x148_4, rfl, HA, HK4, HO_5, HO_11, HO_22, HB⟩ := hrel
                                        cases gk with
                                        | zero => exact absurd HA.out (by simp [laws_FnRanksOfRows.l2])
                                        | succ k4 =>
                                          have H := HA.out
                                          clear HA
                                          simp only [laws_FnRanksOfRows.l2] at H
                                          by_cases c49 : x148_4 < ((rd_L2 t102 0).length : Int)
                                          · rw [if_pos c49] at H
                                            have c49b0 : decide (x148_4 < ((rd_L2 t102 0).length : Int)) = true := decide_eq_true c49
                                            clear c49
                                            have H' := Aside0.mk H
                                            clear H
                                            go_wp2
                                            go_loopg [24, 153] k4 (fun kq v24 v153 w' => ∃ (x24_5 : List Int) (x153_5 : Int), v153 = .int .i64 x153_5 ∧ Aside0 (laws_FnRanksOfRows.l3 kq l1 t102 t103 t106 t110 x15_2 t130 t131 x22_4 x148_4 x24_5 ((rd_L2 t102 0).length : Int) x148_4 t102 (t102.length : Int) x153_5 = some r) ∧ Aside0 (kq ≤ k4) ∧ Aside0 (Kd.N (Kd.slice 3 (Kd.int .i64)) 29 w' w.heap.size (fun k_ => some k_ ≠ ((.slice Ao29 t110.length co29) : Value).ownBlock ∧ some k_ ≠ (u22 : Value).ownBlock ∧ some k_ ≠ (v24 : Value).ownBlock) (.slice (some ad132) t102.length co12) t102) ∧ Aside0 (Kd.R (Kd.int .i64) 3 w' w.heap.size (fun k_ => some k_ ≠ (v24 : Value).ownBlock) (.slice Ao29 t110.length co29) t110) ∧ Aside0 (Kd.N (Kd.slice 3 (Kd.int .i64)) 29 w' w.heap.size (fun k_ => some k_ ≠ ((.slice (some ad132) t102.length co12) : Value).ownBlock ∧ some k_ ≠ ((.slice Ao29 t110.length co29) : Value).ownBlock ∧ some k_ ≠ (v24 : Value).ownBlock ∧ some k_ ≠ ((.slice (some ad132) t102.length co12) : Value).ownBlock) u22 x22_4) ∧ Aside0 (Kd.R (Kd.int .i64) 3 w' w.heap.size (fun k_ => some k_ ≠ ((.slice Ao29 t110.length co29) : Value).ownBlock) v24 x24_5) ∧ Aside0 (Kd.N (Kd.slice 3 (Kd.int .i64)) 29 w' w.heap.size (fun k_ => some k_ ≠ ((.slice Ao29 t110.length co29) : Value).ownBlock ∧ some k_ ≠ (u22 : Value).ownBlock ∧ some k_ ≠ (v24 : Value).ownBlock) (.slice (some ad132) t102.length co12) t102) ∧ Aside0 (Below w.heap.size w w'))
                                            case atStart => exact ⟨(([] : List Int)), (0), (by first | rfl | (simp; done) | (simp [*]; done)), H', ⟨Nat.le_refl _⟩, ⟨by (with_reducible repeat (first | apply Kd.N_alloc | apply Kd.N_drewN | apply Kd.N_drew)); exact Kd.N_mono HO_5.out (fun _ hk => ⟨hk.1, ⟨hk.2, (by simp [Value.ownBlock])⟩⟩)⟩, ⟨by (with_reducible repeat (first | apply Kd.R_alloc | apply Kd.R_drewN | apply Kd.R_drew)); exact Kd.R_mono HO_11.out (fun _ hk => (by simp [Value.ownBlock]))⟩, ⟨by (with_reducible repeat (first | apply Kd.N_alloc | apply Kd.N_drewN | apply Kd.N_drew)); exact Kd.N_mono HO_22.out (fun _ hk => ⟨hk.1, ⟨hk.2, ⟨(by simp [Value.ownBlock]), hk.1⟩⟩⟩)⟩, ⟨by first | exact Kd.R_nil _ _ _ _ _ | exact Kd.N_nil _ _ _ _ _ | exact Kd.V_nil _ _ _ _ _ | exact Kd.Q_nil _ _ _ _ _ | exact Kd.S_nil _ _ _ _ _⟩, ⟨by (with_reducible repeat (first | apply Kd.N_alloc | apply Kd.N_drewN | apply Kd.N_drew)); exact Kd.N_mono HO_5.out (fun _ hk => ⟨hk.1, ⟨hk.2, (by simp [Value.ownBlock])⟩⟩)⟩, ⟨by repeat (first | (with_reducible first | exact HB.out | apply below_alloc | apply pw_below_drewN | apply below_drew1) | exact HB.out)⟩⟩
                                            case round =>
                                              as_aux_lemma =>
                                                clear H'
                                                try clear c1
                                                try clear c4
                                                try clear c26
                                                try clear c28
                                                try clear c30
                                                try clear c30b0
                                                try clear c40
                                                try clear c40b0
                                                try clear c46
                                                try clear c46b0
                                                try clear c46b1
                                                try clear c49
                                                try clear c49b0
                                                try clear hx132_0
                                                try clear p132
                                                try clear q132
                                                obtain ⟨x24_5, x153_5, rfl, HA, HK5, HO_5, HO_11, HO_22, HO_24, HO_151, HB⟩ := hrel
                                                cases gk with
                                                | zero => exact absurd HA.out (by simp [laws_FnRanksOfRows.l3])
                                                | succ k5 =>
                                                  have H := HA.out
                                                  clear HA
                                                  simp only [laws_FnRanksOfRows.l3] at H
                                                  by_cases c50 : x153_5 < (t102.length : Int)
                                                  · rw [if_pos c50] at H
                                                    have c50b0 : decide (x153_5 < (t102.length : Int)) = true := decide_eq_true c50
                                                    clear c50
                                                    by_cases c51 : 0 ≤ x153_5
                                                    · rw [if_pos c51] at H
                                                      have c51b0 : decide (0 ≤ x153_5) = true := decide_eq_true c51
                                                      clear c51
                                                      by_cases c52 : x153_5 < (t102.length : Int)
                                                      · rw [if_pos c52] at H
                                                        have c52b0 : decide (x153_5 < (t102.length : Int)) = true := decide_eq_true c52
                                                        clear c52
                                                        by_cases c53 : 0 ≤ x148_4
                                                        · rw [if_pos c53] at H
                                                          have c53b0 : decide (0 ≤ x148_4) = true := decide_eq_true c53
                                                          clear c53
                                                          by_cases c54 : x148_4 < ((rd_L2 t102 x153_5).length : Int)
                                                          · rw [if_pos c54] at H
                                                            have c54b0 : decide (x148_4 < ((rd_L2 t102 x153_5).length : Int)) = true := decide_eq_true c54
                                                            clear c54
                                                            by_cases c55 : x24_5.length < 17592186044416
                                                            · rw [if_pos c55] at H
                                                              have LMc55 := Aside0.mk c55
                                                              clear c55
                                                              obtain ⟨y137, hy137⟩ : ∃ y_ : List Int, y_ = (x24_5 ++ [rd (rd_L2 t102 x153_5) x148_4]) := ⟨_, rfl⟩
                                                              replace H : (laws_FnRanksOfRows.l3 k5 l1 t102 t103 t106 t110 x15_2 t130 t131 x22_4 x148_4 y137 ((rd_L2 t102 0).length : Int) x148_4 t102 (t102.length : Int) (wrap64 (x153_5 + 1))) = some r := by first | (rw [hy137]; with_reducible exact H) | (have H2_ := (Option.bind_some _ _).symm.trans H; rw [hy137]; with_reducible exact H2_) | (have H2_ := (Option.bind_some _ _).symm.trans H; with_reducible exact H2_) | with_reducible exact H | (rw [hy137]; exact H) | exact H
                                                              have Ny137 := Aside0.mk hy137
                                                              clear hy137
                                                              have H' := Aside0.mk H
                                                              clear H
                                                              have p135 : 0 ≤ (x153_5 : Int) := of_decide_eq_true (by first | (with_reducible assumption) | assumption)
                                                              have q135 : x153_5 < (t102.length : Int) := of_decide_eq_true (by first | (with_reducible assumption) | assumption)
                                                              obtain ⟨ad135, A135_0, c135_0, e135, hx135_0, hl135_0, hi135_0⟩ := at_L2 (Kd.N_reads' HO_151.out).2.2 x153_5 p135 q135
                                                              obtain rfl : ad132 = ad135 := (by injection e135)
                                                              obtain ⟨ce135, hce135, hMe135, hcc135⟩ := Kd.N_get HO_151.out [] x153_5 p135 (by first | exact q135 | exact of_decide_eq_true (by first | (with_reducible assumption) | assumption) | (have e_ := (Kd.N_reads' HO_151.out).1; omega))
                                                              obtain ⟨ua135_0, uc135_0, rfl, ul135_0, ge135_0⟩ := Kd.FK_slice_open hMe135
                                                              have hv135_0 := hcc135 0 _ rfl
                                                              rw [Nat.add_zero, show ((Kd.slice 3 (Kd.int .i64))).sz = 1 from rfl, Nat.mul_one] at hv135_0
                                                              replace hv135_0 := Option.some.inj (hv135_0.symm.trans hx135_0)
                                                              injection hv135_0 with hva_ hvn_ hvc_
                                                              rw [hva_] at ge135_0
                                                              rw [hvc_] at ul135_0
                                                              have HL135_0 := Aside0.mk (show Kd.V (Kd.int .i64) 3 _ w.heap.size _ _ (rd_L2 t102 x153_5) from Kd.V_mk ul135_0 ge135_0)
                                                              clear hva_ hvn_ hvc_ ge135_0 ul135_0
                                                              clear hcc135 hce135
                                                              have HR135_0 := Aside0.mk hi135_0
                                                              have HC135_0 := Aside0.mk hl135_0
                                                              clear hi135_0 hl135_0
                                                              replace p135 := eq_true p135
                                                              replace q135 := eq_true q135
                                                              have p136 : 0 ≤ (x148_4 : Int) := of_decide_eq_true (by first | (with_reducible assumption) | assumption)
                                                              have q136 : x148_4 < ((rd_L2 t102 x153_5).length : Int) := of_decide_eq_true (by first | (with_reducible assumption) | assumption)
                                                              obtain ⟨ad136, e136, hx136_0⟩ := Kd.at_int (by repeat (first | (with_reducible exact HR135_0.out) | (with_reducible refine Kd.C_alloc ?_ _) | (with_reducible refine Kd.C_drewN ?_ _) | (with_reducible refine Kd.C_drew ?_) | exact HR135_0.out)) x148_4 p136 q136
                                                              cases e136
                                                              replace p136 := eq_true p136
                                                              replace q136 := eq_true q136
                                                              go_wp2_with (first | ((with_reducible refine gate_builtin (b := .append) (xs := #[.tmp 157, .tmp 162]) rfl ?_); at_builtin; refine Kd.R_append (Kd.int .i64) (w0 := w) w.heap.size rfl (.tmp 157) (.tmp 162) 29 3 (.int .i64 0) 8 rfl Try.underlying29 info3 rfl (by decide) (by omega) u24 x24_5 (rd (rd_L2 t102 x153_5) x148_4) [.int .i64 (rd (rd_L2 t102 x153_5) x148_4)] (fun k_ => some k_ ≠ (.slice Ao29 t110.length co29 : Value).ownBlock) (fun _ => False) rfl rfl ?aP (fun _ hk => hk.elim) ?aF ?aO ?aB ?aS ?aL ?_; (case aP => exact rfl); (case aB => exact (by repeat (first | (with_reducible first | exact HB.out | apply below_alloc | apply pw_below_drewN | apply below_drew1) | exact HB.out))); (case aF => exact (fun k_ hk => Kd.fresh' (Kd.R_lt (by (with_reducible repeat (first | apply Kd.R_alloc | apply Kd.R_drewN | apply Kd.R_drew)); exact HO_11.out)) k_ hk)); (case aO => exact (by (with_reducible repeat (first | apply Kd.R_alloc | apply Kd.R_drewN | apply Kd.R_drew)); exact HO_24.out)); (case aS => exact (below_size (by repeat (first | (with_reducible first | exact HB.out | apply below_alloc | apply pw_below_drewN | apply below_drew1) | exact HB.out)))); (case aL => have := LMc55.out; omega); intro v138 w56 ho hb hg hat; rw [← Ny137.out] at ho; have n0_ := Aside0.mk (Kd.N_afterv (ok := (fun k_ => some k_ ≠ (.slice Ao29 t110.length co29 : Value).ownBlock ∧ some k_ ≠ (u22 : Value).ownBlock)) (by (with_reducible repeat (first | apply Kd.N_alloc | apply Kd.N_drewN | apply Kd.N_drew)); exact Kd.N_mono HO_5.out (fun _ hk => ⟨⟨hk.1, hk.2.1⟩, hk.2.2⟩)) hg hat); have n1_ := Aside0.mk (Kd.R_after (ok := (fun _ => True)) (by (with_reducible repeat (first | apply Kd.R_alloc | apply Kd.R_drewN | apply Kd.R_drew)); exact Kd.R_mono HO_11.out (fun _ hk => ⟨trivial, hk⟩)) hg hat); have n2_ := Aside0.mk (Kd.N_afterv (ok := (fun k_ => some k_ ≠ (.slice (some ad132) t102.length co12 : Value).ownBlock ∧ some k_ ≠ (.slice Ao29 t110.length co29 : Value).ownBlock ∧ some k_ ≠ (.slice (some ad132) t102.length co12 : Value).ownBlock)) (by (with_reducible repeat (first | apply Kd.N_alloc | apply Kd.N_drewN | apply Kd.N_drew)); exact Kd.N_mono HO_22.out (fun _ hk => ⟨⟨hk.1, ⟨hk.2.1, hk.2.2.2⟩⟩, hk.2.2.1⟩)) hg hat); have n3_ := Aside0.mk (Kd.N_afterv (ok := (fun k_ => some k_ ≠ (.slice Ao29 t110.length co29 : Value).ownBlock ∧ some k_ ≠ (u22 : Value).ownBlock)) (by (with_reducible repeat (first | apply Kd.N_alloc | apply Kd.N_drewN | apply Kd.N_drew)); exact Kd.N_mono HO_151.out (fun _ hk => ⟨⟨hk.1, hk.2.1⟩, hk.2.2⟩)) hg hat); have n4_ := Aside0.mk (Kd.V_afterv (ok := (fun k_ => some k_ ≠ (.slice Ao29 t110.length co29 : Value).ownBlock ∧ some k_ ≠ (u22 : Value).ownBlock ∧ some k_ ≠ (.slice (some ad132) t102.length co12 : Value).ownBlock)) (by (with_reducible repeat (first | apply Kd.V_alloc | apply Kd.V_drewN | apply Kd.V_drew)); exact Kd.V_mono HL135_0.out (fun _ hk => ⟨⟨hk.1.1, ⟨hk.1.2.1, hk.2⟩⟩, hk.1.2.2⟩)) hg hat); have n5_ := Aside0.mk (hb); have n6_ := Aside0.mk (ho); clear HO_5; clear HO_11; clear HO_22; clear HO_151; clear HL135_0; clear HB; clear HO_24; have HO_5 := n0_; have HO_11 := n1_; have HO_22 := n2_; have HO_151 := n3_; have HL135_0 := n4_; have HB := n5_; have HO139 := n6_; clear n0_ n1_ n2_ n3_ n4_ n5_ n6_; clear ho hb hg hat))
                                                              go_roundg k5
                                                              case measure => have := HJ9.out; have := HK2.out; have := HK3.out; have := HK4.out; have := HK5.out; omega
                                                              case rel => exact ⟨(y137), (wrap64 (x153_5 + 1)), (by first | rfl | (simp; done) | (simp [*]; done)), H', ⟨by have := HJ9.out; have := HK2.out; have := HK3.out; have := HK4.out; have := HK5.out; omega⟩, ⟨by (with_reducible repeat (first | apply Kd.N_alloc | apply Kd.N_drewN | apply Kd.N_drew)); exact Kd.N_mono HO_5.out (fun _ hk => ⟨hk.1.1, ⟨hk.1.2, hk.2⟩⟩)⟩, ⟨by (with_reducible repeat (first | apply Kd.R_alloc | apply Kd.R_drewN | apply Kd.R_drew)); exact Kd.R_mono HO_11.out (fun _ hk => hk.2)⟩, ⟨by (with_reducible repeat (first | apply Kd.N_alloc | apply Kd.N_drewN | apply Kd.N_drew)); exact Kd.N_mono HO_22.out (fun _ hk => ⟨hk.1.1, ⟨hk.1.2.1, ⟨hk.2, hk.1.2.2⟩⟩⟩)⟩, ⟨by (with_reducible repeat (first | apply Kd.R_alloc | apply Kd.R_drewN | apply Kd.R_drew)); exact HO139.out⟩, ⟨by (with_reducible repeat (first | apply Kd.N_alloc | apply Kd.N_drewN | apply Kd.N_drew)); exact Kd.N_mono HO_151.out (fun _ hk => ⟨hk.1.1, ⟨hk.1.2, hk.2⟩⟩)⟩, ⟨by repeat (first | (with_reducible first | exact HB.out | apply below_alloc | apply pw_below_drewN | apply below_drew1) | exact HB.out)⟩⟩
                                                            · rw [if_neg c55] at H
                                                              exact absurd H (by simp)
                                                          · rw [if_neg c54] at H
                                                            exact absurd H (by simp)
                                                        · rw [if_neg c53] at H
                                                          exact absurd H (by simp)
                                                      · rw [if_neg c52] at H
                                                        exact absurd H (by simp)
                                                    · rw [if_neg c51] at H
                                                      exact absurd H (by simp)
                                                  · rw [if_neg c50] at H
                                                    have c50b0 : decide (x153_5 < (t102.length : Int)) = false := decide_eq_false c50
                                                    clear c50
                                                    by_cases c57 : x22_4.length < 5864062014805
                                                    · rw [if_pos c57] at H
                                                      have LMc57 := Aside0.mk c57
                                                      clear c57
                                                      obtain ⟨y140, hy140⟩ : ∃ y_ : List (List Int), y_ = (x22_4 ++ [x24_5]) := ⟨_, rfl⟩
                                                      replace H : (laws_FnRanksOfRows.l2 k5 l1 t102 t103 t106 t110 x15_2 t130 t131 y140 ((rd_L2 t102 0).length : Int) (wrap64 (x148_4 + 1))) = some r := by first | (rw [hy140]; with_reducible exact H) | (have H2_ := (Option.bind_some _ _).symm.trans H; rw [hy140]; with_reducible exact H2_) | (have H2_ := (Option.bind_some _ _).symm.trans H; with_reducible exact H2_) | with_reducible exact H | (rw [hy140]; exact H) | exact H
                                                      have Ny140 := Aside0.mk hy140
                                                      clear hy140
                                                      have H' := Aside0.mk H
                                                      clear H
                                                      obtain ⟨Ao59, co59, eo59⟩ := Kd.R_slice HO_24.out
                                                      subst eo59
                                                      go_wp2_with (first | ((with_reducible refine gate_builtin (b := .append) (xs := #[.tmp 165, .tmp 167]) rfl ?_); at_builtin; refine Kd.N_append (Kd.slice 3 (Kd.int .i64)) (w0 := w) w.heap.size rfl (.tmp 165) (.tmp 167) 24 29 (.slice none 0 0) 24 rfl Try.underlying24 info29 rfl (by decide) (by omega) u22 x22_4 x24_5 [.slice Ao59 x24_5.length co59] (fun k_ => some k_ ≠ (.slice (some ad132) t102.length co12 : Value).ownBlock ∧ some k_ ≠ (.slice Ao29 t110.length co29 : Value).ownBlock ∧ some k_ ≠ (.slice (some ad132) t102.length co12 : Value).ownBlock) (fun k_ => ((fun k_ => some k_ ≠ (.slice (some ad132) t102.length co12 : Value).ownBlock ∧ some k_ ≠ (.slice Ao29 t110.length co29 : Value).ownBlock ∧ some k_ ≠ (.slice (some ad132) t102.length co12 : Value).ownBlock)) k_ ∧ some k_ ≠ (u22 : Value).ownBlock) rfl rfl ?aP (fun _ hk => hk) ?aF ?aO ?aB ?aS ?aL ?_; (case aP => exact (Kd.FK_slice_mk (Kd.R_reads' (Kd.R_mono (ok' := (fun k_ => ((fun k_ => some k_ ≠ (.slice (some ad132) t102.length co12 : Value).ownBlock ∧ some k_ ≠ (.slice Ao29 t110.length co29 : Value).ownBlock ∧ some k_ ≠ (.slice (some ad132) t102.length co12 : Value).ownBlock)) k_ ∧ some k_ ≠ (u22 : Value).ownBlock)) (Kd.R_apart' (Kd.R_apart' (Kd.R_apart' (HO_24.out) (Kd.N_typed HO_5.out) (by decide)) (Kd.N_typed HO_151.out) (by decide)) (Kd.N_typed HO_22.out) (by decide)) (fun k_ hk => ⟨⟨hk.1.1.2, ⟨hk.1.1.1, hk.1.2⟩⟩, hk.2⟩))).2.1 (Kd.R_F (Kd.R_mono (ok' := (fun k_ => ((fun k_ => some k_ ≠ (.slice (some ad132) t102.length co12 : Value).ownBlock ∧ some k_ ≠ (.slice Ao29 t110.length co29 : Value).ownBlock ∧ some k_ ≠ (.slice (some ad132) t102.length co12 : Value).ownBlock)) k_ ∧ some k_ ≠ (u22 : Value).ownBlock)) (Kd.R_apart' (Kd.R_apart' (Kd.R_apart' (HO_24.out) (Kd.N_typed HO_5.out) (by decide)) (Kd.N_typed HO_151.out) (by decide)) (Kd.N_typed HO_22.out) (by decide)) (fun k_ hk => ⟨⟨hk.1.1.2, ⟨hk.1.1.1, hk.1.2⟩⟩, hk.2⟩))))); (case aB => exact (by repeat (first | (with_reducible first | exact HB.out | apply below_alloc | apply pw_below_drewN | apply below_drew1) | exact HB.out))); (case aF => exact (fun k_ hk => ⟨Kd.fresh' (Kd.N_lt (by (with_reducible repeat (first | apply Kd.N_alloc | apply Kd.N_drewN | apply Kd.N_drew)); exact HO_5.out)) k_ hk, Kd.fresh' (Kd.R_lt (by (with_reducible repeat (first | apply Kd.R_alloc | apply Kd.R_drewN | apply Kd.R_drew)); exact HO_11.out)) k_ hk, Kd.fresh' (Kd.N_lt (by (with_reducible repeat (first | apply Kd.N_alloc | apply Kd.N_drewN | apply Kd.N_drew)); exact HO_151.out)) k_ hk⟩)); (case aO => exact (by (with_reducible repeat (first | apply Kd.N_alloc | apply Kd.N_drewN | apply Kd.N_drew)); exact Kd.N_mono HO_22.out (fun _ hk => ⟨hk.1, ⟨hk.2.1, hk.2.2.2⟩⟩))); (case aS => exact (below_size (by repeat (first | (with_reducible first | exact HB.out | apply below_alloc | apply pw_below_drewN | apply below_drew1) | exact HB.out)))); (case aL => have := LMc57.out; omega); intro v141 w58 ho hb hg hat; rw [← Ny140.out] at ho; have n0_ := Aside0.mk (Kd.N_afterv (ok := (fun k_ => some k_ ≠ (.slice Ao29 t110.length co29 : Value).ownBlock ∧ some k_ ≠ (.slice Ao59 x24_5.length co59 : Value).ownBlock)) (by (with_reducible repeat (first | apply Kd.N_alloc | apply Kd.N_drewN | apply Kd.N_drew)); exact Kd.N_mono HO_5.out (fun _ hk => ⟨⟨hk.1, hk.2.2⟩, hk.2.1⟩)) hg hat); have n1_ := Aside0.mk (Kd.R_over' (by (with_reducible repeat (first | apply Kd.R_alloc | apply Kd.R_drewN | apply Kd.R_drew)); exact HO_11.out) (Kd.N_typed (by (with_reducible repeat (first | apply Kd.N_alloc | apply Kd.N_drewN | apply Kd.N_drew)); exact HO_22.out)) (by decide) hg); have n2_ := Aside0.mk (Kd.N_afterv (ok := (fun k_ => some k_ ≠ (.slice Ao29 t110.length co29 : Value).ownBlock ∧ some k_ ≠ (.slice Ao59 x24_5.length co59 : Value).ownBlock)) (by (with_reducible repeat (first | apply Kd.N_alloc | apply Kd.N_drewN | apply Kd.N_drew)); exact Kd.N_mono HO_151.out (fun _ hk => ⟨⟨hk.1, hk.2.2⟩, hk.2.1⟩)) hg hat); have n3_ := Aside0.mk (hb); have n4_ := Aside0.mk (ho); clear HO_5; clear HO_11; clear HO_151; clear HB; clear HO_22; clear HO_24; have HO_5 := n0_; have HO_11 := n1_; have HO_151 := n2_; have HB := n3_; have HO142 := n4_; clear n0_ n1_ n2_ n3_ n4_; clear ho hb hg hat))
                                                      go_roundg k5
                                                      case measure => have := HJ9.out; have := HK2.out; have := HK3.out; have := HK4.out; have := HK5.out; omega
                                                      case rel => exact ⟨(y140), (wrap64 (x148_4 + 1)), (by first | rfl | (simp; done) | (simp [*]; done)), H', ⟨by have := HJ9.out; have := HK2.out; have := HK3.out; have := HK4.out; have := HK5.out; omega⟩, ⟨by (with_reducible repeat (first | apply Kd.N_alloc | apply Kd.N_drewN | apply Kd.N_drew)); exact Kd.N_mono HO_5.out (fun _ hk => ⟨hk.1.1, hk.2⟩)⟩, ⟨by (with_reducible repeat (first | apply Kd.R_alloc | apply Kd.R_drewN | apply Kd.R_drew)); exact Kd.R_mono HO_11.out (fun _ hk => trivial)⟩, ⟨by (with_reducible repeat (first | apply Kd.N_alloc | apply Kd.N_drewN | apply Kd.N_drew)); exact Kd.N_mono HO142.out (fun _ hk => ⟨hk.1, hk.2.1⟩)⟩, ⟨by repeat (first | (with_reducible first | exact HB.out | apply below_alloc | apply pw_below_drewN | apply below_drew1) | exact HB.out)⟩⟩
                                                    · rw [if_neg c57] at H
                                                      exact absurd H (by simp)
                                          · rw [if_neg c49] at H
                                            have c49b0 : decide (x148_4 < ((rd_L2 t102 0).length : Int)) = false := decide_eq_false c49
                                            clear c49
                                            replace H := Option.bind_eq_some_iff.mp H
                                            obtain ⟨⟨t133, t134⟩, A600, H⟩ := H
                                            replace H : (if x15_2 = t106 then (if (t110.length : Int) = (t102.length : Int) then (if t131 = true then (if t130 = t106 then (if t134 = true then (if t133 = t106 then (laws_FnRanksOfRows.j5 k4 l1) else (some false)) else (some false)) else (some false)) else (some false)) else (some false)) else (some false)) = some r := H
                                            have A60 := Aside0.mk A600
                                            clear A600
                                            by_cases c61 : x15_2 = t106
                                            · rw [if_pos c61] at H
                                              have c61b0 : (x15_2 == t106) = true := beq_iff_eq.mpr c61
                                              have c61b1 : (x15_2 != t106) = false := bne_eq_false_iff_eq.mpr c61
                                              clear c61
                                              by_cases c62 : (t110.length : Int) = (t102.length : Int)
                                              · rw [if_pos c62] at H
                                                have c62b0 : ((t110.length : Int) == (t102.length : Int)) = true := beq_iff_eq.mpr c62
                                                have c62b1 : ((t110.length : Int) != (t102.length : Int)) = false := bne_eq_false_iff_eq.mpr c62
                                                have c62b2 : (t110.length == t102.length) = true := by first | simpa using c62 | (simp at c62 ⊢; omega)
                                                clear c62
                                                by_cases c63 : t131 = true
                                                · subst c63
                                                  have H1 : (if t130 = t106 then (if t134 = true then (if t133 = t106 then (laws_FnRanksOfRows.j5 k4 l1) else (some false)) else (some false)) else (some false)) = some r := by rw [if_pos rfl] at H; exact H
                                                  clear H
                                                  have H := H1
                                                  clear H1
                                                  by_cases c64 : t130 = t106
                                                  · rw [if_pos c64] at H
                                                    have c64b0 : (t130 == t106) = true := beq_iff_eq.mpr c64
                                                    have c64b1 : (t130 != t106) = false := bne_eq_false_iff_eq.mpr c64
                                                    clear c64
                                                    by_cases c65 : t134 = true
                                                    · subst c65
                                                      have H1 : (if t133 = t106 then (laws_FnRanksOfRows.j5 k4 l1) else (some false)) = some r := by rw [if_pos rfl] at H; exact H
                                                      clear H
                                                      have H := H1
                                                      clear H1
                                                      by_cases c66 : t133 = t106
                                                      · rw [if_pos c66] at H
                                                        have c66b0 : (t133 == t106) = true := beq_iff_eq.mpr c66
                                                        have c66b1 : (t133 != t106) = false := bne_eq_false_iff_eq.mpr c66
                                                        clear c66
                                                        have H' := Aside0.mk H
                                                        clear H
                                                        obtain ⟨Ao67, co67, eo67⟩ := Kd.N_slice HO_22.out
                                                        subst eo67
                                                        go_wp2_with (first | ((with_reducible refine gate_callee (f := 7) rfl ?_); refine goesL_ (some 173) rfl rfl Try.func7 (by kernel_rfl) rfl #[.slice Ao67 x22_4.length co67, .int .i64 t103] rfl (by (try simp only [List.map_toArray, List.map_cons, List.map_nil]); first | done | rfl | (simp only [List.length_drop, List.length_take]; rfl)) ?_; (with_reducible refine (impl_RankModulo.calls k4 _ _ x22_4 t103 t133 true _ ?side1 ?side2 A60.out).mono ?_); (case side1 => repeat (first | exact (Kd.N_reads' HO_22.out).2.2 | (with_reducible refine Kd.C_alloc ?_ _) | (with_reducible refine Kd.C_drewN ?_ _) | (with_reducible refine Kd.C_drew ?_))); (case side2 => exact (Kd.N_reads' HO_22.out).2.1); rintro e w68 ⟨rfl, hb⟩; refine ⟨_, rfl, ?_⟩; have n0_ := Aside0.mk (Kd.N_below (by (with_reducible repeat (first | apply Kd.N_alloc | apply Kd.N_drewN | apply Kd.N_drew)); exact HO_5.out) hb); have n1_ := Aside0.mk (Kd.R_below (by (with_reducible repeat (first | apply Kd.R_alloc | apply Kd.R_drewN | apply Kd.R_drew)); exact HO_11.out) hb); have n2_ := Aside0.mk (Kd.N_below (by (with_reducible repeat (first | apply Kd.N_alloc | apply Kd.N_drewN | apply Kd.N_drew)); exact HO_22.out) hb); have n3_ := Aside0.mk (below_step (by repeat (first | (with_reducible first | exact HB.out | apply below_alloc | apply pw_below_drewN | apply below_drew1) | exact HB.out)) hb); clear HO_5; clear HO_11; clear HO_22; clear HB; have HO_5 := n0_; have HO_11 := n1_; have HO_22 := n2_; have HB := n3_; clear n0_ n1_ n2_ n3_; (try clear hb); (try clear hb2); (try clear hk); (try clear hi)))
                                                        go_meet
                                                        case rel => exact ⟨_, H', ⟨by have := HJ9.out; have := HK2.out; have := HK3.out; have := HK4.out; first | omega | exact Nat.le_refl _⟩, ⟨by repeat (first | (with_reducible first | exact HB.out | apply below_alloc | apply pw_below_drewN | apply below_drew1) | exact HB.out)⟩⟩
                                                      · rw [if_neg c66] at H
                                                        have c66b0 : (t133 == t106) = false := beq_eq_false_iff_ne.mpr c66
                                                        have c66b1 : (t133 != t106) = true := bne_iff_ne.mpr c66
                                                        obtain rfl := Option.some.inj H
                                                        obtain ⟨Ao69, co69, eo69⟩ := Kd.N_slice HO_22.out
                                                        subst eo69
                                                        go_wp2_with (first | ((with_reducible refine gate_callee (f := 7) rfl ?_); refine goesL_ (some 173) rfl rfl Try.func7 (by kernel_rfl) rfl #[.slice Ao69 x22_4.length co69, .int .i64 t103] rfl (by (try simp only [List.map_toArray, List.map_cons, List.map_nil]); first | done | rfl | (simp only [List.length_drop, List.length_take]; rfl)) ?_; (with_reducible refine (impl_RankModulo.calls k4 _ _ x22_4 t103 t133 true _ ?side1 ?side2 A60.out).mono ?_); (case side1 => repeat (first | exact (Kd.N_reads' HO_22.out).2.2 | (with_reducible refine Kd.C_alloc ?_ _) | (with_reducible refine Kd.C_drewN ?_ _) | (with_reducible refine Kd.C_drew ?_))); (case side2 => exact (Kd.N_reads' HO_22.out).2.1); rintro e w70 ⟨rfl, hb⟩; refine ⟨_, rfl, ?_⟩; have n0_ := Aside0.mk (Kd.N_below (by (with_reducible repeat (first | apply Kd.N_alloc | apply Kd.N_drewN | apply Kd.N_drew)); exact HO_5.out) hb); have n1_ := Aside0.mk (Kd.R_below (by (with_reducible repeat (first | apply Kd.R_alloc | apply Kd.R_drewN | apply Kd.R_drew)); exact HO_11.out) hb); have n2_ := Aside0.mk (Kd.N_below (by (with_reducible repeat (first | apply Kd.N_alloc | apply Kd.N_drewN | apply Kd.N_drew)); exact HO_22.out) hb); have n3_ := Aside0.mk (below_step (by repeat (first | (with_reducible first | exact HB.out | apply below_alloc | apply pw_below_drewN | apply below_drew1) | exact HB.out)) hb); clear HO_5; clear HO_11; clear HO_22; clear HB; have HO_5 := n0_; have HO_11 := n1_; have HO_22 := n2_; have HB := n3_; clear n0_ n1_ n2_ n3_; (try clear hb); (try clear hb2); (try clear hk); (try clear hi)))
                                                        go_ret
                                                        exact ⟨by first | rfl | (simp [errW_none, errW_some] <;> rfl) | (simp [*, errW_none, errW_some] <;> rfl), by repeat (first | (with_reducible first | exact HB.out | apply below_alloc | apply pw_below_drewN | apply below_drew1) | exact HB.out)⟩
                                                    · replace c65 := Bool.eq_false_iff.mpr c65
                                                      subst c65
                                                      have H1 : (some false) = some r := by rw [if_neg (show ¬ (false = true) by decide)] at H; exact H
                                                      clear H
                                                      have H := H1
                                                      clear H1
                                                      obtain rfl := Option.some.inj H
                                                      obtain ⟨Ao71, co71, eo71⟩ := Kd.N_slice HO_22.out
                                                      subst eo71
                                                      go_wp2_with (first | ((with_reducible refine gate_callee (f := 7) rfl ?_); refine goesL_ (some 173) rfl rfl Try.func7 (by kernel_rfl) rfl #[.slice Ao71 x22_4.length co71, .int .i64 t103] rfl (by (try simp only [List.map_toArray, List.map_cons, List.map_nil]); first | done | rfl | (simp only [List.length_drop, List.length_take]; rfl)) ?_; (with_reducible refine (impl_RankModulo.calls k4 _ _ x22_4 t103 t133 false _ ?side1 ?side2 A60.out).mono ?_); (case side1 => repeat (first | exact (Kd.N_reads' HO_22.out).2.2 | (with_reducible refine Kd.C_alloc ?_ _) | (with_reducible refine Kd.C_drewN ?_ _) | (with_reducible refine Kd.C_drew ?_))); (case side2 => exact (Kd.N_reads' HO_22.out).2.1); rintro e w72 ⟨rfl, hb⟩; refine ⟨_, rfl, ?_⟩; have n0_ := Aside0.mk (Kd.N_below (by (with_reducible repeat (first | apply Kd.N_alloc | apply Kd.N_drewN | apply Kd.N_drew)); exact HO_5.out) hb); have n1_ := Aside0.mk (Kd.R_below (by (with_reducible repeat (first | apply Kd.R_alloc | apply Kd.R_drewN | apply Kd.R_drew)); exact HO_11.out) hb); have n2_ := Aside0.mk (Kd.N_below (by (with_reducible repeat (first | apply Kd.N_alloc | apply Kd.N_drewN | apply Kd.N_drew)); exact HO_22.out) hb); have n3_ := Aside0.mk (below_step (by repeat (first | (with_reducible first | exact HB.out | apply below_alloc | apply pw_below_drewN | apply below_drew1) | exact HB.out)) hb); clear HO_5; clear HO_11; clear HO_22; clear HB; have HO_5 := n0_; have HO_11 := n1_; have HO_22 := n2_; have HB := n3_; clear n0_ n1_ n2_ n3_; (try clear hb); (try clear hb2); (try clear hk); (try clear hi)))
                                                      go_ret
                                                      exact ⟨by first | rfl | (simp [errW_none, errW_some] <;> rfl) | (simp [*, errW_none, errW_some] <;> rfl), by repeat (first | (with_reducible first | exact HB.out | apply below_alloc | apply pw_below_drewN | apply below_drew1) | exact HB.out)⟩
                                                  · rw [if_neg c64] at H
                                                    have c64b0 : (t130 == t106) = false := beq_eq_false_iff_ne.mpr c64
                                                    have c64b1 : (t130 != t106) = true := bne_iff_ne.mpr c64
                                                    obtain rfl := Option.some.inj H
                                                    obtain ⟨Ao73, co73, eo73⟩ := Kd.N_slice HO_22.out
                                                    subst eo73
                                                    go_wp2_with (first | ((with_reducible refine gate_callee (f := 7) rfl ?_); refine goesL_ (some 173) rfl rfl Try.func7 (by kernel_rfl) rfl #[.slice Ao73 x22_4.length co73, .int .i64 t103] rfl (by (try simp only [List.map_toArray, List.map_cons, List.map_nil]); first | done | rfl | (simp only [List.length_drop, List.length_take]; rfl)) ?_; (with_reducible refine (impl_RankModulo.calls k4 _ _ x22_4 t103 t133 t134 _ ?side1 ?side2 A60.out).mono ?_); (case side1 => repeat (first | exact (Kd.N_reads' HO_22.out).2.2 | (with_reducible refine Kd.C_alloc ?_ _) | (with_reducible refine Kd.C_drewN ?_ _) | (with_reducible refine Kd.C_drew ?_))); (case side2 => exact (Kd.N_reads' HO_22.out).2.1); rintro e w74 ⟨rfl, hb⟩; refine ⟨_, rfl, ?_⟩; have n0_ := Aside0.mk (Kd.N_below (by (with_reducible repeat (first | apply Kd.N_alloc | apply Kd.N_drewN | apply Kd.N_drew)); exact HO_5.out) hb); have n1_ := Aside0.mk (Kd.R_below (by (with_reducible repeat (first | apply Kd.R_alloc | apply Kd.R_drewN | apply Kd.R_drew)); exact HO_11.out) hb); have n2_ := Aside0.mk (Kd.N_below (by (with_reducible repeat (first | apply Kd.N_alloc | apply Kd.N_drewN | apply Kd.N_drew)); exact HO_22.out) hb); have n3_ := Aside0.mk (below_step (by repeat (first | (with_reducible first | exact HB.out | apply below_alloc | apply pw_below_drewN | apply below_drew1) | exact HB.out)) hb); clear HO_5; clear HO_11; clear HO_22; clear HB; have HO_5 := n0_; have HO_11 := n1_; have HO_22 := n2_; have HB := n3_; clear n0_ n1_ n2_ n3_; (try clear hb); (try clear hb2); (try clear hk); (try clear hi)))
                                                    go_ret
                                                    exact ⟨by first | rfl | (simp [errW_none, errW_some] <;> rfl) | (simp [*, errW_none, errW_some] <;> rfl), by repeat (first | (with_reducible first | exact HB.out | apply below_alloc | apply pw_below_drewN | apply below_drew1) | exact HB.out)⟩
                                                · replace c63 := Bool.eq_false_iff.mpr c63
                                                  subst c63
                                                  have H1 : (some false) = some r := by rw [if_neg (show ¬ (false = true) by decide)] at H; exact H
                                                  clear H
                                                  have H := H1
                                                  clear H1
                                                  obtain rfl := Option.some.inj H
                                                  obtain ⟨Ao75, co75, eo75⟩ := Kd.N_slice HO_22.out
                                                  subst eo75
                                                  go_wp2_with (first | ((with_reducible refine gate_callee (f := 7) rfl ?_); refine goesL_ (some 173) rfl rfl Try.func7 (by kernel_rfl) rfl #[.slice Ao75 x22_4.length co75, .int .i64 t103] rfl (by (try simp only [List.map_toArray, List.map_cons, List.map_nil]); first | done | rfl | (simp only [List.length_drop, List.length_take]; rfl)) ?_; (with_reducible refine (impl_RankModulo.calls k4 _ _ x22_4 t103 t133 t134 _ ?side1 ?side2 A60.out).mono ?_); (case side1 => repeat (first | exact (Kd.N_reads' HO_22.out).2.2 | (with_reducible refine Kd.C_alloc ?_ _) | (with_reducible refine Kd.C_drewN ?_ _) | (with_reducible refine Kd.C_drew ?_))); (case side2 => exact (Kd.N_reads' HO_22.out).2.1); rintro e w76 ⟨rfl, hb⟩; refine ⟨_, rfl, ?_⟩; have n0_ := Aside0.mk (Kd.N_below (by (with_reducible repeat (first | apply Kd.N_alloc | apply Kd.N_drewN | apply Kd.N_drew)); exact HO_5.out) hb); have n1_ := Aside0.mk (Kd.R_below (by (with_reducible repeat (first | apply Kd.R_alloc | apply Kd.R_drewN | apply Kd.R_drew)); exact HO_11.out) hb); have n2_ := Aside0.mk (Kd.N_below (by (with_reducible repeat (first | apply Kd.N_alloc | apply Kd.N_drewN | apply Kd.N_drew)); exact HO_22.out) hb); have n3_ := Aside0.mk (below_step (by repeat (first | (with_reducible first | exact HB.out | apply below_alloc | apply pw_below_drewN | apply below_drew1) | exact HB.out)) hb); clear HO_5; clear HO_11; clear HO_22; clear HB; have HO_5 := n0_; have HO_11 := n1_; have HO_22 := n2_; have HB := n3_; clear n0_ n1_ n2_ n3_; (try clear hb); (try clear hb2); (try clear hk); (try clear hi)))
                                                  go_ret
                                                  exact ⟨by first | rfl | (simp [errW_none, errW_some] <;> rfl) | (simp [*, errW_none, errW_some] <;> rfl), by repeat (first | (with_reducible first | exact HB.out | apply below_alloc | apply pw_below_drewN | apply below_drew1) | exact HB.out)⟩
                                              · rw [if_neg c62] at H
                                                have c62b0 : ((t110.length : Int) == (t102.length : Int)) = false := beq_eq_false_iff_ne.mpr c62
                                                have c62b1 : ((t110.length : Int) != (t102.length : Int)) = true := bne_iff_ne.mpr c62
                                                have c62b2 : (t110.length == t102.length) = false := by first | simpa using c62 | (simp at c62 ⊢; omega)
                                                obtain rfl := Option.some.inj H
                                                obtain ⟨Ao77, co77, eo77⟩ := Kd.N_slice HO_22.out
                                                subst eo77
                                                go_wp2_with (first | ((with_reducible refine gate_callee (f := 7) rfl ?_); refine goesL_ (some 173) rfl rfl Try.func7 (by kernel_rfl) rfl #[.slice Ao77 x22_4.length co77, .int .i64 t103] rfl (by (try simp only [List.map_toArray, List.map_cons, List.map_nil]); first | done | rfl | (simp only [List.length_drop, List.length_take]; rfl)) ?_; (with_reducible refine (impl_RankModulo.calls k4 _ _ x22_4 t103 t133 t134 _ ?side1 ?side2 A60.out).mono ?_); (case side1 => repeat (first | exact (Kd.N_reads' HO_22.out).2.2 | (with_reducible refine Kd.C_alloc ?_ _) | (with_reducible refine Kd.C_drewN ?_ _) | (with_reducible refine Kd.C_drew ?_))); (case side2 => exact (Kd.N_reads' HO_22.out).2.1); rintro e w78 ⟨rfl, hb⟩; refine ⟨_, rfl, ?_⟩; have n0_ := Aside0.mk (Kd.N_below (by (with_reducible repeat (first | apply Kd.N_alloc | apply Kd.N_drewN | apply Kd.N_drew)); exact HO_5.out) hb); have n1_ := Aside0.mk (Kd.R_below (by (with_reducible repeat (first | apply Kd.R_alloc | apply Kd.R_drewN | apply Kd.R_drew)); exact HO_11.out) hb); have n2_ := Aside0.mk (Kd.N_below (by (with_reducible repeat (first | apply Kd.N_alloc | apply Kd.N_drewN | apply Kd.N_drew)); exact HO_22.out) hb); have n3_ := Aside0.mk (below_step (by repeat (first | (with_reducible first | exact HB.out | apply below_alloc | apply pw_below_drewN | apply below_drew1) | exact HB.out)) hb); clear HO_5; clear HO_11; clear HO_22; clear HB; have HO_5 := n0_; have HO_11 := n1_; have HO_22 := n2_; have HB := n3_; clear n0_ n1_ n2_ n3_; (try clear hb); (try clear hb2); (try clear hk); (try clear hi)))
                                                go_ret
                                                exact ⟨by first | rfl | (simp [errW_none, errW_some] <;> rfl) | (simp [*, errW_none, errW_some] <;> rfl), by repeat (first | (with_reducible first | exact HB.out | apply below_alloc | apply pw_below_drewN | apply below_drew1) | exact HB.out)⟩
                                            · rw [if_neg c61] at H
                                              have c61b0 : (x15_2 == t106) = false := beq_eq_false_iff_ne.mpr c61
                                              have c61b1 : (x15_2 != t106) = true := bne_iff_ne.mpr c61
                                              obtain rfl := Option.some.inj H
                                              obtain ⟨Ao79, co79, eo79⟩ := Kd.N_slice HO_22.out
                                              subst eo79
                                              go_wp2_with (first | ((with_reducible refine gate_callee (f := 7) rfl ?_); refine goesL_ (some 173) rfl rfl Try.func7 (by kernel_rfl) rfl #[.slice Ao79 x22_4.length co79, .int .i64 t103] rfl (by (try simp only [List.map_toArray, List.map_cons, List.map_nil]); first | done | rfl | (simp only [List.length_drop, List.length_take]; rfl)) ?_; (with_reducible refine (impl_RankModulo.calls k4 _ _ x22_4 t103 t133 t134 _ ?side1 ?side2 A60.out).mono ?_); (case side1 => repeat (first | exact (Kd.N_reads' HO_22.out).2.2 | (with_reducible refine Kd.C_alloc ?_ _) | (with_reducible refine Kd.C_drewN ?_ _) | (with_reducible refine Kd.C_drew ?_))); (case side2 => exact (Kd.N_reads' HO_22.out).2.1); rintro e w80 ⟨rfl, hb⟩; refine ⟨_, rfl, ?_⟩; have n0_ := Aside0.mk (Kd.N_below (by (with_reducible repeat (first | apply Kd.N_alloc | apply Kd.N_drewN | apply Kd.N_drew)); exact HO_5.out) hb); have n1_ := Aside0.mk (Kd.R_below (by (with_reducible repeat (first | apply Kd.R_alloc | apply Kd.R_drewN | apply Kd.R_drew)); exact HO_11.out) hb); have n2_ := Aside0.mk (Kd.N_below (by (with_reducible repeat (first | apply Kd.N_alloc | apply Kd.N_drewN | apply Kd.N_drew)); exact HO_22.out) hb); have n3_ := Aside0.mk (below_step (by repeat (first | (with_reducible first | exact HB.out | apply below_alloc | apply pw_below_drewN | apply below_drew1) | exact HB.out)) hb); clear HO_5; clear HO_11; clear HO_22; clear HB; have HO_5 := n0_; have HO_11 := n1_; have HO_22 := n2_; have HB := n3_; clear n0_ n1_ n2_ n3_; (try clear hb); (try clear hb2); (try clear hk); (try clear hi)))
                                              go_ret
                                              exact ⟨by first | rfl | (simp [errW_none, errW_some] <;> rfl) | (simp [*, errW_none, errW_some] <;> rfl), by repeat (first | (with_reducible first | exact HB.out | apply below_alloc | apply pw_below_drewN | apply below_drew1) | exact HB.out)⟩
                                  · rw [if_neg c46] at H
                                    exact absurd H (by simp)
                · replace c28 := Bool.eq_false_iff.mpr c28
                  subst c28
                  have H1 : (laws_FnRanksOfRows.j5 kj9 l1) = some r := by rw [if_neg (show ¬ (false = true) by decide)] at H; exact H
                  clear H
                  have H := H1
                  clear H1
                  have H' := Aside0.mk H
                  clear H
                  go_wp2
                  go_meet
                  case rel => exact ⟨_, H', ⟨by have := HJ9.out; first | omega | exact Nat.le_refl _⟩, ⟨by repeat (first | (with_reducible first | exact HB.out | apply below_alloc | apply pw_below_drewN | apply below_drew1) | exact HB.out)⟩⟩
            case rest =>
              as_aux_lemma =>
                clear HC27
                try clear c1
                try clear c4
                try clear c26
                obtain ⟨kq, HA, HJ26, HB⟩ := hcut
                cases kq with
                | zero => exact absurd HA.out (by simp [laws_FnRanksOfRows.j5])
                | succ kj26 =>
                  have H := HA.out
                  clear HA
                  simp only [laws_FnRanksOfRows.j5] at H
                  replace H := Option.bind_eq_some_iff.mp H
                  obtain ⟨⟨t143, t144, t145⟩, A810, H⟩ := H
                  replace H : ((impl_MatrixWith.f kj26 t143 t144 t145).bind fun bt148 => ((spec_MatrixWith.f kj26 t143 t144 t145).bind fun bt152 => (if (bt148.2 != bt152.2) = true then (laws_FnRanksOfRows.j6 kj26 l1 t143 t144 t145 bt148.1 bt148.2 true) else ((laws_rSameRows.f kj26 bt148.1 bt152.1).bind fun t156 => (laws_FnRanksOfRows.j6 kj26 l1 t143 t144 t145 bt148.1 bt148.2 (!t156)))))) = some r := H
                  have A81 := Aside0.mk A810
                  clear A810
                  replace H := Option.bind_eq_some_iff.mp H
                  obtain ⟨⟨t148, t149⟩, A820, H⟩ := H
                  replace H : ((spec_MatrixWith.f kj26 t143 t144 t145).bind fun bt152 => (if (t149 != bt152.2) = true then (laws_FnRanksOfRows.j6 kj26 l1 t143 t144 t145 t148 t149 true) else ((laws_rSameRows.f kj26 t148 bt152.1).bind fun t156 => (laws_FnRanksOfRows.j6 kj26 l1 t143 t144 t145 t148 t149 (!t156))))) = some r := H
                  have A82 := Aside0.mk A820
                  clear A820
                  replace H := Option.bind_eq_some_iff.mp H
                  obtain ⟨⟨t152, t153⟩, A830, H⟩ := H
                  replace H : (if (t149 != t153) = true then (laws_FnRanksOfRows.j6 kj26 l1 t143 t144 t145 t148 t149 true) else ((laws_rSameRows.f kj26 t148 t152).bind fun t156 => (laws_FnRanksOfRows.j6 kj26 l1 t143 t144 t145 t148 t149 (!t156)))) = some r := H
                  have A83 := Aside0.mk A830
                  clear A830
                  have HC84 := Aside0.mk H
                  clear H
                  go_upto_region 44 with (first | ((with_reducible refine gate_callee (f := 13) rfl ?_); refine goesL_ (some 206) rfl rfl Try.func13 (by kernel_rfl) rfl #[.slice A1 l1.length c1] rfl (by (try simp only [List.map_toArray, List.map_cons, List.map_nil]); first | done | rfl | (simp only [List.length_drop, List.length_take]; rfl)) ?_; (with_reducible refine (spec_DrawMatrixWith.calls kj26 _ _ l1 t143 t144 t145 _ ?side1 ?side2 A81.out).mono ?_); (case side1 => repeat (first | exact (Kd.C_below HR1.out HB.out) | (with_reducible refine Kd.C_alloc ?_ _) | (with_reducible refine Kd.C_drewN ?_ _) | (with_reducible refine Kd.C_drew ?_))); (case side2 => exact HC1.out); rintro e w85 ⟨v146, rfl, ho0, hb⟩; refine ⟨_, rfl, ?_⟩; have n0_ := Aside0.mk (Kd.R_lower ho0 (below_size (by repeat (first | (with_reducible first | exact HB.out | apply below_alloc | apply pw_below_drewN | apply below_drew1) | exact HB.out)))); have n1_ := Aside0.mk (below_step (by repeat (first | (with_reducible first | exact HB.out | apply below_alloc | apply pw_below_drewN | apply below_drew1) | exact HB.out)) hb); clear HB; have HO147 := n0_; have HB := n1_; clear n0_ n1_; (try clear hb); (try clear hb2); (try clear hk); (try clear hi); (try clear ho0); obtain ⟨Ao86, co86, eo86⟩ := Kd.R_slice HO147.out; subst eo86) | ((with_reducible refine gate_callee (f := 14) rfl ?_); refine goesL_ (some 214) rfl rfl Try.func14 (by kernel_rfl) rfl #[.slice Ao86 t143.length co86, .int .i64 t144, .int .i64 t145] rfl (by (try simp only [List.map_toArray, List.map_cons, List.map_nil]); first | done | rfl | (simp only [List.length_drop, List.length_take]; rfl)) ?_; (with_reducible refine (impl_MatrixWith.calls kj26 _ _ t143 t144 t145 t148 t149 _ ?side1 ?side2 A82.out).mono ?_); (case side1 => repeat (first | exact (Kd.R_reads' HO147.out).2.2 | (with_reducible refine Kd.C_alloc ?_ _) | (with_reducible refine Kd.C_drewN ?_ _) | (with_reducible refine Kd.C_drew ?_))); (case side2 => exact (Kd.R_reads' HO147.out).2.1); rintro e w87 ⟨v150, rfl, ho0, hb⟩; refine ⟨_, rfl, ?_⟩; have n0_ := Aside0.mk (Kd.R_below (by (with_reducible repeat (first | apply Kd.R_alloc | apply Kd.R_drewN | apply Kd.R_drew)); exact HO147.out) hb); have n1_ := Aside0.mk (Kd.N_lower (Kd.N_mono (ok' := fun k_ => some k_ ≠ (.slice Ao86 t143.length co86 : Value).ownBlock) (Kd.S_N (Kd.S_bound ho0)) (fun k_ hk_ => (Kd.fresh' (Kd.R_lt (by (with_reducible repeat (first | apply Kd.R_alloc | apply Kd.R_drewN | apply Kd.R_drew)); exact HO147.out)) k_ hk_.2.1))) (below_size (by repeat (first | (with_reducible first | exact HB.out | apply below_alloc | apply pw_below_drewN | apply below_drew1) | exact HB.out)))); have n2_ := Aside0.mk (below_step (by repeat (first | (with_reducible first | exact HB.out | apply below_alloc | apply pw_below_drewN | apply below_drew1) | exact HB.out)) hb); clear HO147; clear HB; have HO147 := n0_; have HO151 := n1_; have HB := n2_; clear n0_ n1_ n2_; (try clear hb); (try clear hb2); (try clear hk); (try clear hi); (try clear ho0)) | ((with_reducible refine gate_callee (f := 15) rfl ?_); refine goesL_ (some 221) rfl rfl Try.func15 (by kernel_rfl) rfl #[.slice Ao86 t143.length co86, .int .i64 t144, .int .i64 t145] rfl (by (try simp only [List.map_toArray, List.map_cons, List.map_nil]); first | done | rfl | (simp only [List.length_drop, List.length_take]; rfl)) ?_; (with_reducible refine (spec_MatrixWith.calls kj26 _ _ t143 t144 t145 t152 t153 _ ?side1 ?side2 A83.out).mono ?_); (case side1 => repeat (first | exact (Kd.R_reads' HO147.out).2.2 | (with_reducible refine Kd.C_alloc ?_ _) | (with_reducible refine Kd.C_drewN ?_ _) | (with_reducible refine Kd.C_drew ?_))); (case side2 => exact (Kd.R_reads' HO147.out).2.1); rintro e w88 ⟨v154, rfl, ho0, hb⟩; refine ⟨_, rfl, ?_⟩; have n0_ := Aside0.mk (Kd.R_below (by (with_reducible repeat (first | apply Kd.R_alloc | apply Kd.R_drewN | apply Kd.R_drew)); exact HO147.out) hb); have n1_ := Aside0.mk (Kd.N_elder' (by (with_reducible repeat (first | apply Kd.N_alloc | apply Kd.N_drewN | apply Kd.N_drew)); exact HO151.out) (Kd.S_base ho0) hb); have n2_ := Aside0.mk (Kd.N_lower (Kd.N_mono (ok' := fun k_ => some k_ ≠ (.slice Ao86 t143.length co86 : Value).ownBlock ∧ some k_ ≠ (v150 : Value).ownBlock) (Kd.S_N (Kd.S_bound ho0)) (fun k_ hk_ => ⟨(Kd.fresh' (Kd.R_lt (by (with_reducible repeat (first | apply Kd.R_alloc | apply Kd.R_drewN | apply Kd.R_drew)); exact HO147.out)) k_ hk_.2.1), (Kd.fresh' (Kd.N_lt (by (with_reducible repeat (first | apply Kd.N_alloc | apply Kd.N_drewN | apply Kd.N_drew)); exact HO151.out)) k_ hk_.2.1)⟩)) (below_size (by repeat (first | (with_reducible first | exact HB.out | apply below_alloc | apply pw_below_drewN | apply below_drew1) | exact HB.out)))); have n3_ := Aside0.mk (below_step (by repeat (first | (with_reducible first | exact HB.out | apply below_alloc | apply pw_below_drewN | apply below_drew1) | exact HB.out)) hb); clear HO147; clear HO151; clear HB; have HO147 := n0_; have HO151 := n1_; have HO155 := n2_; have HB := n3_; clear n0_ n1_ n2_ n3_; (try clear hb); (try clear hb2); (try clear hk); (try clear hi); (try clear ho0)))
                  (try simp only [Act.put, List.setIfInBounds_toArray, List.set_cons_zero, List.set_cons_succ])
                  go_cut [232] (fun v232 wc => ∃ (kq : Nat) (x232_83 : Bool), v232 = .bool x232_83 ∧ Aside0 (laws_FnRanksOfRows.j6 kq l1 t143 t144 t145 t148 t149 x232_83 = some r) ∧ Aside0 (kq ≤ kj26) ∧ Aside0 (Kd.R (Kd.int .i64) 3 wc w.heap.size (fun _ => True) (.slice Ao86 t143.length co86) t143) ∧ Aside0 (Kd.N (Kd.slice 3 (Kd.int .i64)) 29 wc w.heap.size (fun k_ => some k_ ≠ ((.slice Ao86 t143.length co86) : Value).ownBlock) v150 t148) ∧ Aside0 (Below w.heap.size w wc))
                  case first =>
                    have H := HC84.out
                    clear HC84
                    by_cases c89 : (t149 != t153) = true
                    · rw [if_pos c89] at H
                      have c89b0 : (t149 != t153) = true := c89
                      (try (have c89b1 : decide (t149 = t153) = false := by simpa using c89))
                      (try (have c89b2 : (t149 == t153) = false := by simpa using c89))
                      (try (have c89b3 : ¬ (t149 = t153) := by simpa using c89))
                      clear c89
                      (first | rw [c89b0] | (simp only [i64_w, i32_w]; rw [c89b0]) | skip)
                      have H' := Aside0.mk H
                      clear H
                      go_wp2
                      go_meet
                      case rel => exact ⟨_, (true), (by first | rfl | (simp; done) | (simp [*]; done)), H', ⟨by have := HJ9.out; have := HJ26.out; first | omega | exact Nat.le_refl _⟩, ⟨by (with_reducible repeat (first | apply Kd.R_alloc | apply Kd.R_drewN | apply Kd.R_drew)); exact HO147.out⟩, ⟨by (with_reducible repeat (first | apply Kd.N_alloc | apply Kd.N_drewN | apply Kd.N_drew)); exact Kd.N_mono HO151.out (fun _ hk => hk.1)⟩, ⟨by repeat (first | (with_reducible first | exact HB.out | apply below_alloc | apply pw_below_drewN | apply below_drew1) | exact HB.out)⟩⟩
                    · rw [if_neg c89] at H
                      have c89b0 : (t149 != t153) = false := by simpa using c89
                      (try (have c89b1 : decide (t149 = t153) = true := by simpa using c89))
                      (try (have c89b2 : (t149 == t153) = true := by simpa using c89))
                      clear c89
                      (first | rw [c89b0] | (simp only [i64_w, i32_w]; rw [c89b0]) | skip)
                      replace H := Option.bind_eq_some_iff.mp H
                      obtain ⟨t156, A900, H⟩ := H
                      replace H : (laws_FnRanksOfRows.j6 kj26 l1 t143 t144 t145 t148 t149 (!t156)) = some r := H
                      have A90 := Aside0.mk A900
                      clear A900
                      have H' := Aside0.mk H
                      clear H
                      obtain ⟨Ao91, co91, eo91⟩ := Kd.N_slice HO151.out
                      subst eo91
                      obtain ⟨Ao92, co92, eo92⟩ := Kd.N_slice HO155.out
                      subst eo92
                      go_wp2_with (first | (go_at_call 16; (with_reducible refine (laws_rSameRows.calls kj26 _ _ t148 _ _ t152 t156 _ ?side1 ?side2 ?side3 ?side4 A90.out).mono ?_); (case side1 => repeat (first | exact (Kd.N_reads' HO151.out).2.2 | (with_reducible refine Kd.C_alloc ?_ _) | (with_reducible refine Kd.C_drewN ?_ _) | (with_reducible refine Kd.C_drew ?_))); (case side2 => exact (Kd.N_reads' HO151.out).2.1); (case side3 => repeat (first | exact (Kd.N_reads' HO155.out).2.2 | (with_reducible refine Kd.C_alloc ?_ _) | (with_reducible refine Kd.C_drewN ?_ _) | (with_reducible refine Kd.C_drew ?_))); (case side4 => exact (Kd.N_reads' HO155.out).2.1); rintro e w' ⟨rfl, ⟨nd, rfl⟩⟩))
                      go_meet
                      case rel => exact ⟨_, (!t156), (by first | rfl | (simp; done) | (simp [*]; done)), H', ⟨by have := HJ9.out; have := HJ26.out; first | omega | exact Nat.le_refl _⟩, ⟨by (with_reducible repeat (first | apply Kd.R_alloc | apply Kd.R_drewN | apply Kd.R_drew)); exact HO147.out⟩, ⟨by (with_reducible repeat (first | apply Kd.N_alloc | apply Kd.N_drewN | apply Kd.N_drew)); exact Kd.N_mono HO151.out (fun _ hk => hk.1)⟩, ⟨by repeat (first | (with_reducible first | exact HB.out | apply below_alloc | apply pw_below_drewN | apply below_drew1) | exact HB.out)⟩⟩
                  case rest =>
                    as_aux_lemma =>
                      clear HC84
                      try clear c1
                      try clear c4
                      try clear c26
                      obtain ⟨kq, x232_83, rfl, HA, HJ83, HO_29, HO_32, HB⟩ := hcut
                      cases kq with
                      | zero => exact absurd HA.out (by simp [laws_FnRanksOfRows.j6])
                      | succ kj83 =>
                        have H := HA.out
                        clear HA
                        simp only [laws_FnRanksOfRows.j6] at H
                        by_cases c93 : x232_83 = true
                        · subst c93
                          have H1 : (some false) = some r := by rw [if_pos rfl] at H; exact H
                          clear H
                          have H := H1
                          clear H1
                          obtain rfl := Option.some.inj H
                          go_wp2
                          go_ret
                          exact ⟨by first | rfl | (simp [errW_none, errW_some] <;> rfl) | (simp [*, errW_none, errW_some] <;> rfl), by repeat (first | (with_reducible first | exact HB.out | apply below_alloc | apply pw_below_drewN | apply below_drew1) | exact HB.out)⟩
                        · replace c93 := Bool.eq_false_iff.mpr c93
                          subst c93
                          have H1 : (if t149 = true then ((impl_FitsBoard.f kj83 t143 t148 t144).bind fun bt157 => (if bt157.2 = true then (laws_FnRanksOfRows.j7 kj83 l1 t143 t144 t145 t148 (!bt157.1)) else (laws_FnRanksOfRows.j7 kj83 l1 t143 t144 t145 t148 true))) else ((spec_DrawFitsBoard.f kj83 l1).bind fun bt173 => ((impl_FitsBoard.f kj83 bt173.1 bt173.2.1 bt173.2.2).bind fun bt180 => ((spec_FitsBoard.f kj83 bt173.1 bt173.2.1 bt173.2.2).bind fun bt182 => (if (bt180.2 == bt182.2) = true then (some (bt180.1 == bt182.1)) else (some false)))))) = some r := by rw [if_neg (show ¬ (false = true) by decide)] at H; exact H
                          clear H
                          have H := H1
                          clear H1
                          by_cases c94 : t149 = true
                          · subst c94
                            have H1 : ((impl_FitsBoard.f kj83 t143 t148 t144).bind fun bt157 => (if bt157.2 = true then (laws_FnRanksOfRows.j7 kj83 l1 t143 t144 t145 t148 (!bt157.1)) else (laws_FnRanksOfRows.j7 kj83 l1 t143 t144 t145 t148 true))) = some r := by rw [if_pos rfl] at H; exact H
                            clear H
                            have H := H1
                            clear H1
                            replace H := Option.bind_eq_some_iff.mp H
                            obtain ⟨⟨t157, t158⟩, A950, H⟩ := H
                            replace H : (if t158 = true then (laws_FnRanksOfRows.j7 kj83 l1 t143 t144 t145 t148 (!t157)) else (laws_FnRanksOfRows.j7 kj83 l1 t143 t144 t145 t148 true)) = some r := H
                            have A95 := Aside0.mk A950
                            clear A950
                            have HC96 := Aside0.mk H
                            clear H
                            obtain ⟨Ao97, co97, eo97⟩ := Kd.N_slice HO_32.out
                            subst eo97
                            go_upto_region 48 with (first | ((with_reducible refine gate_callee (f := 17) rfl ?_); refine goesL_ (some 238) rfl rfl Try.func17 (by kernel_rfl) rfl #[.slice Ao86 t143.length co86, .slice Ao97 t148.length co97, .int .i64 t144] rfl (by (try simp only [List.map_toArray, List.map_cons, List.map_nil]); first | done | rfl | (simp only [List.length_drop, List.length_take]; rfl)) ?_; (with_reducible refine (impl_FitsBoard.calls kj83 _ _ t143 _ _ t148 t144 t157 t158 _ ?side1 ?side2 ?side3 ?side4 A95.out).mono ?_); (case side1 => repeat (first | exact (Kd.R_reads' HO_29.out).2.2 | (with_reducible refine Kd.C_alloc ?_ _) | (with_reducible refine Kd.C_drewN ?_ _) | (with_reducible refine Kd.C_drew ?_))); (case side2 => exact (Kd.R_reads' HO_29.out).2.1); (case side3 => repeat (first | exact (Kd.N_reads' HO_32.out).2.2 | (with_reducible refine Kd.C_alloc ?_ _) | (with_reducible refine Kd.C_drewN ?_ _) | (with_reducible refine Kd.C_drew ?_))); (case side4 => exact (Kd.N_reads' HO_32.out).2.1); rintro e w' ⟨rfl, ⟨nd, rfl⟩⟩; refine ⟨_, rfl, ?_⟩))
                            (try simp only [Act.put, List.setIfInBounds_toArray, List.set_cons_zero, List.set_cons_succ])
                            go_cut [246] (fun v246 wc => ∃ (kq : Nat) (x246_95 : Bool), v246 = .bool x246_95 ∧ Aside0 (laws_FnRanksOfRows.j7 kq l1 t143 t144 t145 t148 x246_95 = some r) ∧ Aside0 (kq ≤ kj83) ∧ Aside0 (Kd.R (Kd.int .i64) 3 wc w.heap.size (fun _ => True) (.slice Ao86 t143.length co86) t143) ∧ Aside0 (Kd.N (Kd.slice 3 (Kd.int .i64)) 29 wc w.heap.size (fun k_ => some k_ ≠ ((.slice Ao86 t143.length co86) : Value).ownBlock) (.slice Ao97 t148.length co97) t148) ∧ Aside0 (Below w.heap.size w wc))
                            case first =>
                              have H := HC96.out
                              clear HC96
                              by_cases c98 : t158 = true
                              · subst c98
                                have H1 : (laws_FnRanksOfRows.j7 kj83 l1 t143 t144 t145 t148 (!t157)) = some r := by rw [if_pos rfl] at H; exact H
                                clear H
                                have H := H1
                                clear H1
                                have H' := Aside0.mk H
                                clear H
                                go_wp2
                                go_meet
                                case rel => exact ⟨_, (!t157), (by first | rfl | (simp; done) | (simp [*]; done)), H', ⟨by have := HJ9.out; have := HJ26.out; have := HJ83.out; first | omega | exact Nat.le_refl _⟩, ⟨by (with_reducible repeat (first | apply Kd.R_alloc | apply Kd.R_drewN | apply Kd.R_drew)); exact HO_29.out⟩, ⟨by (with_reducible repeat (first | apply Kd.N_alloc | apply Kd.N_drewN | apply Kd.N_drew)); exact HO_32.out⟩, ⟨by repeat (first | (with_reducible first | exact HB.out | apply below_alloc | apply pw_below_drewN | apply below_drew1) | exact HB.out)⟩⟩
                              · replace c98 := Bool.eq_false_iff.mpr c98
                                subst c98
                                have H1 : (laws_FnRanksOfRows.j7 kj83 l1 t143 t144 t145 t148 true) = some r := by rw [if_neg (show ¬ (false = true) by decide)] at H; exact H
                                clear H
                                have H := H1
                                clear H1
                                have H' := Aside0.mk H
                                clear H
                                go_wp2
                                go_meet
                                case rel => exact ⟨_, (true), (by first | rfl | (simp; done) | (simp [*]; done)), H', ⟨by have := HJ9.out; have := HJ26.out; have := HJ83.out; first | omega | exact Nat.le_refl _⟩, ⟨by (with_reducible repeat (first | apply Kd.R_alloc | apply Kd.R_drewN | apply Kd.R_drew)); exact HO_29.out⟩, ⟨by (with_reducible repeat (first | apply Kd.N_alloc | apply Kd.N_drewN | apply Kd.N_drew)); exact HO_32.out⟩, ⟨by repeat (first | (with_reducible first | exact HB.out | apply below_alloc | apply pw_below_drewN | apply below_drew1) | exact HB.out)⟩⟩
                            case rest =>
                              as_aux_lemma =>
                                clear HC96
                                try clear c1
                                try clear c4
                                try clear c26
                                try clear c93
                                try clear c94
                                obtain ⟨kq, x246_95, rfl, HA, HJ95, HO_29, HO_32, HB⟩ := hcut
                                cases kq with
                                | zero => exact absurd HA.out (by simp [laws_FnRanksOfRows.j7])
                                | succ kj95 =>
                                  have H := HA.out
                                  clear HA
                                  simp only [laws_FnRanksOfRows.j7] at H
                                  by_cases c99 : x246_95 = true
                                  · subst c99
                                    have H1 : (some false) = some r := by rw [if_pos rfl] at H; exact H
                                    clear H
                                    have H := H1
                                    clear H1
                                    obtain rfl := Option.some.inj H
                                    go_wp2
                                    go_ret
                                    exact ⟨by first | rfl | (simp [errW_none, errW_some] <;> rfl) | (simp [*, errW_none, errW_some] <;> rfl), by repeat (first | (with_reducible first | exact HB.out | apply below_alloc | apply pw_below_drewN | apply below_drew1) | exact HB.out)⟩
                                  · replace c99 := Bool.eq_false_iff.mpr c99
                                    subst c99
                                    have H1 : (laws_FnRanksOfRows.l4 kj95 l1 t144 t145 t148 0 1 t143 (t143.length : Int) 0) = some r := by rw [if_neg (show ¬ (false = true) by decide)] at H; exact H
                                    clear H
                                    have H := H1
                                    clear H1
                                    have H' := Aside0.mk H
                                    clear H
                                    go_wp2
                                    go_loopg [38, 39, 249] kj95 (fun kq v38 v39 v249 w' => ∃ (x38_5 : Int) (x39_5 : Int) (x249_5 : Int), v38 = .int .i64 x38_5 ∧ v39 = .int .i64 x39_5 ∧ v249 = .int .i64 x249_5 ∧ Aside0 (laws_FnRanksOfRows.l4 kq l1 t144 t145 t148 x38_5 x39_5 t143 (t143.length : Int) x249_5 = some r) ∧ Aside0 (kq ≤ kj95) ∧ Aside0 (Kd.N (Kd.slice 3 (Kd.int .i64)) 29 w' w.heap.size (fun k_ => some k_ ≠ ((.slice Ao86 t143.length co86) : Value).ownBlock) (.slice Ao97 t148.length co97) t148) ∧ Aside0 (Kd.R (Kd.int .i64) 3 w' w.heap.size (fun _ => True) (.slice Ao86 t143.length co86) t143) ∧ Aside0 (Below w.heap.size w w'))
                                    case atStart => exact ⟨(0), (1), (0), (by first | rfl | (simp; done) | (simp [*]; done)), (by first | rfl | (simp; done) | (simp [*]; done)), (by first | rfl | (simp; done) | (simp [*]; done)), H', ⟨Nat.le_refl _⟩, ⟨by (with_reducible repeat (first | apply Kd.N_alloc | apply Kd.N_drewN | apply Kd.N_drew)); exact HO_32.out⟩, ⟨by (with_reducible repeat (first | apply Kd.R_alloc | apply Kd.R_drewN | apply Kd.R_drew)); exact HO_29.out⟩, ⟨by repeat (first | (with_reducible first | exact HB.out | apply below_alloc | apply pw_below_drewN | apply below_drew1) | exact HB.out)⟩⟩
                                    case round =>
                                      as_aux_lemma =>
                                        clear H'
                                        try clear c1
                                        try clear c4
                                        try clear c26
                                        try clear c93
                                        try clear c94
                                        try clear c99
                                        obtain ⟨x38_5, x39_5, x249_5, rfl, rfl, rfl, HA, HK5, HO_32, HO_247, HB⟩ := hrel
                                        cases gk with
                                        | zero => exact absurd HA.out (by simp [laws_FnRanksOfRows.l4])
                                        | succ k5 =>
                                          have H := HA.out
                                          clear HA
                                          simp only [laws_FnRanksOfRows.l4] at H
                                          by_cases c100 : x249_5 < (t143.length : Int)
                                          · rw [if_pos c100] at H
                                            have c100b0 : decide (x249_5 < (t143.length : Int)) = true := decide_eq_true c100
                                            clear c100
                                            by_cases c101 : 0 ≤ x249_5
                                            · rw [if_pos c101] at H
                                              have c101b0 : decide (0 ≤ x249_5) = true := decide_eq_true c101
                                              clear c101
                                              by_cases c102 : x249_5 < (t143.length : Int)
                                              · rw [if_pos c102] at H
                                                have c102b0 : decide (x249_5 < (t143.length : Int)) = true := decide_eq_true c102
                                                clear c102
                                                have H' := Aside0.mk H
                                                clear H
                                                have p159 : 0 ≤ (x249_5 : Int) := of_decide_eq_true (by first | (with_reducible assumption) | assumption)
                                                have q159 : x249_5 < (t143.length : Int) := of_decide_eq_true (by first | (with_reducible assumption) | assumption)
                                                obtain ⟨ad159, e159, hx159_0⟩ := Kd.at_int (Kd.R_reads' HO_247.out).2.2 x249_5 p159 q159
                                                cases e159
                                                replace p159 := eq_true p159
                                                replace q159 := eq_true q159
                                                go_wp2
                                                go_loopg [38, 39, 42] k5 (fun kq v38 v39 v42 w' => ∃ (x38_6 : Int) (x39_6 : Int) (x42_6 : Int), v38 = .int .i64 x38_6 ∧ v39 = .int .i64 x39_6 ∧ v42 = .int .i64 x42_6 ∧ Aside0 (laws_FnRanksOfRows.l5 kq l1 t144 t145 t148 x38_6 x39_6 x249_5 (rd t143 x249_5) x42_6 t143 (t143.length : Int) x249_5 = some r) ∧ Aside0 (kq ≤ k5) ∧ Aside0 (Kd.N (Kd.slice 3 (Kd.int .i64)) 29 w' w.heap.size (fun k_ => some k_ ≠ ((.slice (some ad159) t143.length co86) : Value).ownBlock) (.slice Ao97 t148.length co97) t148) ∧ Aside0 (Kd.R (Kd.int .i64) 3 w' w.heap.size (fun _ => True) (.slice (some ad159) t143.length co86) t143) ∧ Aside0 (Below w.heap.size w w'))
                                                case atStart => exact ⟨(x38_5), (x39_5), (0), (by first | rfl | (simp; done) | (simp [*]; done)), (by first | rfl | (simp; done) | (simp [*]; done)), (by first | rfl | (simp; done) | (simp [*]; done)), H', ⟨Nat.le_refl _⟩, ⟨by (with_reducible repeat (first | apply Kd.N_alloc | apply Kd.N_drewN | apply Kd.N_drew)); exact HO_32.out⟩, ⟨by (with_reducible repeat (first | apply Kd.R_alloc | apply Kd.R_drewN | apply Kd.R_drew)); exact HO_247.out⟩, ⟨by repeat (first | (with_reducible first | exact HB.out | apply below_alloc | apply pw_below_drewN | apply below_drew1) | exact HB.out)⟩⟩
                                                case round =>
                                                  as_aux_lemma =>
                                                    clear H'
                                                    try clear c1
                                                    try clear c4
                                                    try clear c26
                                                    try clear c93
                                                    try clear c94
                                                    try clear c99
                                                    try clear c100
                                                    try clear c100b0
                                                    try clear c101
                                                    try clear c101b0
                                                    try clear c102
                                                    try clear c102b0
                                                    try clear hx159_0
                                                    try clear p159
                                                    try clear q159
                                                    obtain ⟨x38_6, x39_6, x42_6, rfl, rfl, rfl, HA, HK6, HO_32, HO_247, HB⟩ := hrel
                                                    cases gk with
                                                    | zero => exact absurd HA.out (by simp [laws_FnRanksOfRows.l5])
                                                    | succ k6 =>
                                                      have H := HA.out
                                                      clear HA
                                                      simp only [laws_FnRanksOfRows.l5] at H
                                                      by_cases c103 : x42_6 < (rd t143 x249_5)
                                                      · rw [if_pos c103] at H
                                                        have c103b0 : decide (x42_6 < (rd t143 x249_5)) = true := decide_eq_true c103
                                                        clear c103
                                                        by_cases c104 : 0 ≤ x249_5
                                                        · rw [if_pos c104] at H
                                                          have c104b0 : decide (0 ≤ x249_5) = true := decide_eq_true c104
                                                          clear c104
                                                          by_cases c105 : x249_5 < (t148.length : Int)
                                                          · rw [if_pos c105] at H
                                                            have c105b0 : decide (x249_5 < (t148.length : Int)) = true := decide_eq_true c105
                                                            clear c105
                                                            by_cases c106 : 0 ≤ x42_6
                                                            · rw [if_pos c106] at H
                                                              have c106b0 : decide (0 ≤ x42_6) = true := decide_eq_true c106
                                                              clear c106
                                                              by_cases c107 : x42_6 < ((rd_L2 t148 x249_5).length : Int)
                                                              · rw [if_pos c107] at H
                                                                have c107b0 : decide (x42_6 < ((rd_L2 t148 x249_5).length : Int)) = true := decide_eq_true c107
                                                                clear c107
                                                                have H' := Aside0.mk H
                                                                clear H
                                                                have p160 : 0 ≤ (x249_5 : Int) := of_decide_eq_true (by first | (with_reducible assumption) | assumption)
                                                                have q160 : x249_5 < (t148.length : Int) := of_decide_eq_true (by first | (with_reducible assumption) | assumption)
                                                                obtain ⟨ad160, A160_0, c160_0, e160, hx160_0, hl160_0, hi160_0⟩ := at_L2 (Kd.N_reads' HO_32.out).2.2 x249_5 p160 q160
                                                                cases e160
                                                                obtain ⟨ce160, hce160, hMe160, hcc160⟩ := Kd.N_get HO_32.out [] x249_5 p160 (by first | exact q160 | exact of_decide_eq_true (by first | (with_reducible assumption) | assumption) | (have e_ := (Kd.N_reads' HO_32.out).1; omega))
                                                                obtain ⟨ua160_0, uc160_0, rfl, ul160_0, ge160_0⟩ := Kd.FK_slice_open hMe160
                                                                have hv160_0 := hcc160 0 _ rfl
                                                                rw [Nat.add_zero, show ((Kd.slice 3 (Kd.int .i64))).sz = 1 from rfl, Nat.mul_one] at hv160_0
                                                                replace hv160_0 := Option.some.inj (hv160_0.symm.trans hx160_0)
                                                                injection hv160_0 with hva_ hvn_ hvc_
                                                                rw [hva_] at ge160_0
                                                                rw [hvc_] at ul160_0
                                                                have HL160_0 := Aside0.mk (show Kd.V (Kd.int .i64) 3 _ w.heap.size _ _ (rd_L2 t148 x249_5) from Kd.V_mk ul160_0 ge160_0)
                                                                clear hva_ hvn_ hvc_ ge160_0 ul160_0
                                                                clear hcc160 hce160
                                                                have HR160_0 := Aside0.mk hi160_0
                                                                have HC160_0 := Aside0.mk hl160_0
                                                                clear hi160_0 hl160_0
                                                                replace p160 := eq_true p160
                                                                replace q160 := eq_true q160
                                                                have p161 : 0 ≤ (x42_6 : Int) := of_decide_eq_true (by first | (with_reducible assumption) | assumption)
                                                                have q161 : x42_6 < ((rd_L2 t148 x249_5).length : Int) := of_decide_eq_true (by first | (with_reducible assumption) | assumption)
                                                                obtain ⟨ad161, e161, hx161_0⟩ := Kd.at_int (by repeat (first | (with_reducible exact HR160_0.out) | (with_reducible refine Kd.C_alloc ?_ _) | (with_reducible refine Kd.C_drewN ?_ _) | (with_reducible refine Kd.C_drew ?_) | exact HR160_0.out)) x42_6 p161 q161
                                                                cases e161
                                                                replace p161 := eq_true p161
                                                                replace q161 := eq_true q161
                                                                go_wp2
                                                                go_roundg k6
                                                                case measure => have := HJ9.out; have := HJ26.out; have := HJ83.out; have := HJ95.out; have := HK5.out; have := HK6.out; omega
                                                                case rel => exact ⟨(wrap64 (x38_6 + (wrap64 ((rd (rd_L2 t148 x249_5) x42_6) * x39_6)))), (wrap64 (x39_6 * t144)), (wrap64 (x42_6 + 1)), (by first | rfl | (simp; done) | (simp [*]; done)), (by first | rfl | (simp; done) | (simp [*]; done)), (by first | rfl | (simp; done) | (simp [*]; done)), H', ⟨by have := HJ9.out; have := HJ26.out; have := HJ83.out; have := HJ95.out; have := HK5.out; have := HK6.out; omega⟩, ⟨by (with_reducible repeat (first | apply Kd.N_alloc | apply Kd.N_drewN | apply Kd.N_drew)); exact HO_32.out⟩, ⟨by (with_reducible repeat (first | apply Kd.R_alloc | apply Kd.R_drewN | apply Kd.R_drew)); exact HO_247.out⟩, ⟨by repeat (first | (with_reducible first | exact HB.out | apply below_alloc | apply pw_below_drewN | apply below_drew1) | exact HB.out)⟩⟩
                                                              · rw [if_neg c107] at H
                                                                exact absurd H (by simp)
                                                            · rw [if_neg c106] at H
                                                              exact absurd H (by simp)
                                                          · rw [if_neg c105] at H
                                                            exact absurd H (by simp)
                                                        · rw [if_neg c104] at H
                                                          exact absurd H (by simp)
                                                      · rw [if_neg c103] at H
                                                        have c103b0 : decide (x42_6 < (rd t143 x249_5)) = false := decide_eq_false c103
                                                        clear c103
                                                        have H' := Aside0.mk H
                                                        clear H
                                                        go_wp2
                                                        go_roundg k6
                                                        case measure => have := HJ9.out; have := HJ26.out; have := HJ83.out; have := HJ95.out; have := HK5.out; have := HK6.out; omega
                                                        case rel => exact ⟨(x38_6), (x39_6), (wrap64 (x249_5 + 1)), (by first | rfl | (simp; done) | (simp [*]; done)), (by first | rfl | (simp; done) | (simp [*]; done)), (by first | rfl | (simp; done) | (simp [*]; done)), H', ⟨by have := HJ9.out; have := HJ26.out; have := HJ83.out; have := HJ95.out; have := HK5.out; have := HK6.out; omega⟩, ⟨by (with_reducible repeat (first | apply Kd.N_alloc | apply Kd.N_drewN | apply Kd.N_drew)); exact HO_32.out⟩, ⟨by (with_reducible repeat (first | apply Kd.R_alloc | apply Kd.R_drewN | apply Kd.R_drew)); exact HO_247.out⟩, ⟨by repeat (first | (with_reducible first | exact HB.out | apply below_alloc | apply pw_below_drewN | apply below_drew1) | exact HB.out)⟩⟩
                                              · rw [if_neg c102] at H
                                                exact absurd H (by simp)
                                            · rw [if_neg c101] at H
                                              exact absurd H (by simp)
                                          · rw [if_neg c100] at H
                                            have c100b0 : decide (x249_5 < (t143.length : Int)) = false := decide_eq_false c100
                                            clear c100
                                            by_cases c108 : x38_5 = t145
                                            · rw [if_pos c108] at H
                                              have c108b0 : (x38_5 == t145) = true := beq_iff_eq.mpr c108
                                              have c108b1 : (x38_5 != t145) = false := bne_eq_false_iff_eq.mpr c108
                                              clear c108
                                              replace H := Option.bind_eq_some_iff.mp H
                                              obtain ⟨⟨t162, t163, t164⟩, A1090, H⟩ := H
                                              replace H : ((impl_FitsBoard.f k5 t162 t163 t164).bind fun bt169 => ((spec_FitsBoard.f k5 t162 t163 t164).bind fun bt171 => (if (bt169.2 == bt171.2) = true then (some (bt169.1 == bt171.1)) else (some false)))) = some r := H
                                              have A109 := Aside0.mk A1090
                                              clear A1090
                                              replace H := Option.bind_eq_some_iff.mp H
                                              obtain ⟨⟨t169, t170⟩, A1100, H⟩ := H
                                              replace H : ((spec_FitsBoard.f k5 t162 t163 t164).bind fun bt171 => (if (t170 == bt171.2) = true then (some (t169 == bt171.1)) else (some false))) = some r := H
                                              have A110 := Aside0.mk A1100
                                              clear A1100
                                              replace H := Option.bind_eq_some_iff.mp H
                                              obtain ⟨⟨t171, t172⟩, A1110, H⟩ := H
                                              replace H : (if (t170 == t172) = true then (some (t169 == t171)) else (some false)) = some r := H
                                              have A111 := Aside0.mk A1110
                                              clear A1110
                                              by_cases c112 : (t170 == t172) = true
                                              · rw [if_pos c112] at H
                                                have c112b0 : (t170 == t172) = true := c112
                                                (try (have c112b1 : decide (t170 = t172) = true := by simpa using c112))
                                                (try (have c112b2 : (t170 == t172) = true := by simpa using c112))
                                                clear c112
                                                obtain rfl := Option.some.inj H
                                                go_wp2_with (first | ((with_reducible refine gate_callee (f := 18) rfl ?_); refine goesL_ (some 279) rfl rfl Try.func18 (by kernel_rfl) rfl #[.slice A1 l1.length c1] rfl (by (try simp only [List.map_toArray, List.map_cons, List.map_nil]); first | done | rfl | (simp only [List.length_drop, List.length_take]; rfl)) ?_; (with_reducible refine (spec_DrawFitsBoard.calls k5 _ _ l1 t162 t163 t164 _ ?side1 ?side2 A109.out).mono ?_); (case side1 => repeat (first | exact (Kd.C_below HR1.out HB.out) | (with_reducible refine Kd.C_alloc ?_ _) | (with_reducible refine Kd.C_drewN ?_ _) | (with_reducible refine Kd.C_drew ?_))); (case side2 => exact HC1.out); rintro e w113 ⟨v165, v167, rfl, ho0, ho1, hb⟩; refine ⟨_, rfl, ?_⟩; have n0_ := Aside0.mk (Kd.N_mono (Kd.N_told (Kd.N_told (Kd.N_old (by (with_reducible repeat (first | apply Kd.N_alloc | apply Kd.N_drewN | apply Kd.N_drew)); exact HO_32.out) hb) (Kd.R_base ho0)) (Kd.S_base ho1)) (fun _ h_ => h_.1)); have n1_ := Aside0.mk (Kd.R_elder' (by (with_reducible repeat (first | apply Kd.R_alloc | apply Kd.R_drewN | apply Kd.R_drew)); exact HO_247.out) (Kd.R_base ho0) hb); have n2_ := Aside0.mk (Kd.R_lower (Kd.R_new' ho0 (Kd.R_lt (by (with_reducible repeat (first | apply Kd.R_alloc | apply Kd.R_drewN | apply Kd.R_drew)); exact HO_247.out))) (below_size (by repeat (first | (with_reducible first | exact HB.out | apply below_alloc | apply pw_below_drewN | apply below_drew1) | exact HB.out)))); have n3_ := Aside0.mk (Kd.N_lower (Kd.N_mono (ok' := fun k_ => some k_ ≠ (v165 : Value).ownBlock ∧ some k_ ≠ (.slice Ao97 t148.length co97 : Value).ownBlock ∧ some k_ ≠ (.slice Ao86 t143.length co86 : Value).ownBlock) (Kd.S_N (Kd.S_bound ho1)) (fun k_ hk_ => ⟨hk_.1, (Kd.fresh' (Kd.N_lt (by (with_reducible repeat (first | apply Kd.N_alloc | apply Kd.N_drewN | apply Kd.N_drew)); exact HO_32.out)) k_ hk_.2.1), (Kd.fresh' (Kd.R_lt (by (with_reducible repeat (first | apply Kd.R_alloc | apply Kd.R_drewN | apply Kd.R_drew)); exact HO_247.out)) k_ hk_.2.1)⟩)) (below_size (by repeat (first | (with_reducible first | exact HB.out | apply below_alloc | apply pw_below_drewN | apply below_drew1) | exact HB.out)))); have n4_ := Aside0.mk (below_step (by repeat (first | (with_reducible first | exact HB.out | apply below_alloc | apply pw_below_drewN | apply below_drew1) | exact HB.out)) hb); clear HO_32; clear HO_247; clear HB; have HO_32 := n0_; have HO_247 := n1_; have HO166 := n2_; have HO168 := n3_; have HB := n4_; clear n0_ n1_ n2_ n3_ n4_; (try clear hb); (try clear hb2); (try clear hk); (try clear hi); (try clear ho0); (try clear ho1); obtain ⟨Ao114, co114, eo114⟩ := Kd.R_slice HO166.out; subst eo114; obtain ⟨Ao115, co115, eo115⟩ := Kd.N_slice HO168.out; subst eo115) | ((with_reducible refine gate_callee (f := 17) rfl ?_); refine goesL_ (some 287) rfl rfl Try.func17 (by kernel_rfl) rfl #[.slice Ao114 t162.length co114, .slice Ao115 t163.length co115, .int .i64 t164] rfl (by (try simp only [List.map_toArray, List.map_cons, List.map_nil]); first | done | rfl | (simp only [List.length_drop, List.length_take]; rfl)) ?_; (with_reducible refine (impl_FitsBoard.calls k5 _ _ t162 _ _ t163 t164 t169 t170 _ ?side1 ?side2 ?side3 ?side4 A110.out).mono ?_); (case side1 => repeat (first | exact (Kd.R_reads' HO166.out).2.2 | (with_reducible refine Kd.C_alloc ?_ _) | (with_reducible refine Kd.C_drewN ?_ _) | (with_reducible refine Kd.C_drew ?_))); (case side2 => exact (Kd.R_reads' HO166.out).2.1); (case side3 => repeat (first | exact (Kd.N_reads' HO168.out).2.2 | (with_reducible refine Kd.C_alloc ?_ _) | (with_reducible refine Kd.C_drewN ?_ _) | (with_reducible refine Kd.C_drew ?_))); (case side4 => exact (Kd.N_reads' HO168.out).2.1); rintro e w' ⟨rfl, ⟨nd, rfl⟩⟩; refine ⟨_, rfl, ?_⟩) | ((with_reducible refine gate_callee (f := 19) rfl ?_); refine goesL_ (some 294) rfl rfl Try.func19 (by kernel_rfl) rfl #[.slice Ao114 t162.length co114, .slice Ao115 t163.length co115, .int .i64 t164] rfl (by (try simp only [List.map_toArray, List.map_cons, List.map_nil]); first | done | rfl | (simp only [List.length_drop, List.length_take]; rfl)) ?_; (with_reducible refine (spec_FitsBoard.calls k5 _ _ t162 _ _ t163 t164 t171 t172 _ ?side1 ?side2 ?side3 ?side4 A111.out).mono ?_); (case side1 => repeat (first | exact (Kd.R_reads' HO166.out).2.2 | (with_reducible refine Kd.C_alloc ?_ _) | (with_reducible refine Kd.C_drewN ?_ _) | (with_reducible refine Kd.C_drew ?_))); (case side2 => exact (Kd.R_reads' HO166.out).2.1); (case side3 => repeat (first | exact (Kd.N_reads' HO168.out).2.2 | (with_reducible refine Kd.C_alloc ?_ _) | (with_reducible refine Kd.C_drewN ?_ _) | (with_reducible refine Kd.C_drew ?_))); (case side4 => exact (Kd.N_reads' HO168.out).2.1); rintro e w' ⟨rfl, ⟨nd, rfl⟩⟩; refine ⟨_, rfl, ?_⟩))
                                                go_ret
                                                exact ⟨by first | rfl | (simp [errW_none, errW_some] <;> rfl) | (simp [*, errW_none, errW_some] <;> rfl), by repeat (first | (with_reducible first | exact HB.out | apply below_alloc | apply pw_below_drewN | apply below_drew1) | exact HB.out)⟩
                                              · rw [if_neg c112] at H
                                                have c112b0 : (t170 == t172) = false := by simpa using c112
                                                (try (have c112b1 : decide (t170 = t172) = false := by simpa using c112))
                                                (try (have c112b2 : (t170 == t172) = false := by simpa using c112))
                                                (try (have c112b3 : ¬ (t170 = t172) := by simpa using c112))
                                                clear c112
                                                obtain rfl := Option.some.inj H
                                                go_wp2_with (first | ((with_reducible refine gate_callee (f := 18) rfl ?_); refine goesL_ (some 279) rfl rfl Try.func18 (by kernel_rfl) rfl #[.slice A1 l1.length c1] rfl (by (try simp only [List.map_toArray, List.map_cons, List.map_nil]); first | done | rfl | (simp only [List.length_drop, List.length_take]; rfl)) ?_; (with_reducible refine (spec_DrawFitsBoard.calls k5 _ _ l1 t162 t163 t164 _ ?side1 ?side2 A109.out).mono ?_); (case side1 => repeat (first | exact (Kd.C_below HR1.out HB.out) | (with_reducible refine Kd.C_alloc ?_ _) | (with_reducible refine Kd.C_drewN ?_ _) | (with_reducible refine Kd.C_drew ?_))); (case side2 => exact HC1.out); rintro e w116 ⟨v165, v167, rfl, ho0, ho1, hb⟩; refine ⟨_, rfl, ?_⟩; have n0_ := Aside0.mk (Kd.N_mono (Kd.N_told (Kd.N_told (Kd.N_old (by (with_reducible repeat (first | apply Kd.N_alloc | apply Kd.N_drewN | apply Kd.N_drew)); exact HO_32.out) hb) (Kd.R_base ho0)) (Kd.S_base ho1)) (fun _ h_ => h_.1)); have n1_ := Aside0.mk (Kd.R_elder' (by (with_reducible repeat (first | apply Kd.R_alloc | apply Kd.R_drewN | apply Kd.R_drew)); exact HO_247.out) (Kd.R_base ho0) hb); have n2_ := Aside0.mk (Kd.R_lower (Kd.R_new' ho0 (Kd.R_lt (by (with_reducible repeat (first | apply Kd.R_alloc | apply Kd.R_drewN | apply Kd.R_drew)); exact HO_247.out))) (below_size (by repeat (first | (with_reducible first | exact HB.out | apply below_alloc | apply pw_below_drewN | apply below_drew1) | exact HB.out)))); have n3_ := Aside0.mk (Kd.N_lower (Kd.N_mono (ok' := fun k_ => some k_ ≠ (v165 : Value).ownBlock ∧ some k_ ≠ (.slice Ao97 t148.length co97 : Value).ownBlock ∧ some k_ ≠ (.slice Ao86 t143.length co86 : Value).ownBlock) (Kd.S_N (Kd.S_bound ho1)) (fun k_ hk_ => ⟨hk_.1, (Kd.fresh' (Kd.N_lt (by (with_reducible repeat (first | apply Kd.N_alloc | apply Kd.N_drewN | apply Kd.N_drew)); exact HO_32.out)) k_ hk_.2.1), (Kd.fresh' (Kd.R_lt (by (with_reducible repeat (first | apply Kd.R_alloc | apply Kd.R_drewN | apply Kd.R_drew)); exact HO_247.out)) k_ hk_.2.1)⟩)) (below_size (by repeat (first | (with_reducible first | exact HB.out | apply below_alloc | apply pw_below_drewN | apply below_drew1) | exact HB.out)))); have n4_ := Aside0.mk (below_step (by repeat (first | (with_reducible first | exact HB.out | apply below_alloc | apply pw_below_drewN | apply below_drew1) | exact HB.out)) hb); clear HO_32; clear HO_247; clear HB; have HO_32 := n0_; have HO_247 := n1_; have HO166 := n2_; have HO168 := n3_; have HB := n4_; clear n0_ n1_ n2_ n3_ n4_; (try clear hb); (try clear hb2); (try clear hk); (try clear hi); (try clear ho0); (try clear ho1); obtain ⟨Ao117, co117, eo117⟩ := Kd.R_slice HO166.out; subst eo117; obtain ⟨Ao118, co118, eo118⟩ := Kd.N_slice HO168.out; subst eo118) | ((with_reducible refine gate_callee (f := 17) rfl ?_); refine goesL_ (some 287) rfl rfl Try.func17 (by kernel_rfl) rfl #[.slice Ao117 t162.length co117, .slice Ao118 t163.length co118, .int .i64 t164] rfl (by (try simp only [List.map_toArray, List.map_cons, List.map_nil]); first | done | rfl | (simp only [List.length_drop, List.length_take]; rfl)) ?_; (with_reducible refine (impl_FitsBoard.calls k5 _ _ t162 _ _ t163 t164 t169 t170 _ ?side1 ?side2 ?side3 ?side4 A110.out).mono ?_); (case side1 => repeat (first | exact (Kd.R_reads' HO166.out).2.2 | (with_reducible refine Kd.C_alloc ?_ _) | (with_reducible refine Kd.C_drewN ?_ _) | (with_reducible refine Kd.C_drew ?_))); (case side2 => exact (Kd.R_reads' HO166.out).2.1); (case side3 => repeat (first | exact (Kd.N_reads' HO168.out).2.2 | (with_reducible refine Kd.C_alloc ?_ _) | (with_reducible refine Kd.C_drewN ?_ _) | (with_reducible refine Kd.C_drew ?_))); (case side4 => exact (Kd.N_reads' HO168.out).2.1); rintro e w' ⟨rfl, ⟨nd, rfl⟩⟩; refine ⟨_, rfl, ?_⟩) | ((with_reducible refine gate_callee (f := 19) rfl ?_); refine goesL_ (some 294) rfl rfl Try.func19 (by kernel_rfl) rfl #[.slice Ao117 t162.length co117, .slice Ao118 t163.length co118, .int .i64 t164] rfl (by (try simp only [List.map_toArray, List.map_cons, List.map_nil]); first | done | rfl | (simp only [List.length_drop, List.length_take]; rfl)) ?_; (with_reducible refine (spec_FitsBoard.calls k5 _ _ t162 _ _ t163 t164 t171 t172 _ ?side1 ?side2 ?side3 ?side4 A111.out).mono ?_); (case side1 => repeat (first | exact (Kd.R_reads' HO166.out).2.2 | (with_reducible refine Kd.C_alloc ?_ _) | (with_reducible refine Kd.C_drewN ?_ _) | (with_reducible refine Kd.C_drew ?_))); (case side2 => exact (Kd.R_reads' HO166.out).2.1); (case side3 => repeat (first | exact (Kd.N_reads' HO168.out).2.2 | (with_reducible refine Kd.C_alloc ?_ _) | (with_reducible refine Kd.C_drewN ?_ _) | (with_reducible refine Kd.C_drew ?_))); (case side4 => exact (Kd.N_reads' HO168.out).2.1); rintro e w' ⟨rfl, ⟨nd, rfl⟩⟩; refine ⟨_, rfl, ?_⟩))
                                                go_ret
                                                exact ⟨by first | rfl | (simp [errW_none, errW_some] <;> rfl) | (simp [*, errW_none, errW_some] <;> rfl), by repeat (first | (with_reducible first | exact HB.out | apply below_alloc | apply pw_below_drewN | apply below_drew1) | exact HB.out)⟩
                                            · rw [if_neg c108] at H
                                              have c108b0 : (x38_5 == t145) = false := beq_eq_false_iff_ne.mpr c108
                                              have c108b1 : (x38_5 != t145) = true := bne_iff_ne.mpr c108
                                              obtain rfl := Option.some.inj H
                                              go_wp2
                                              go_ret
                                              exact ⟨by first | rfl | (simp [errW_none, errW_some] <;> rfl) | (simp [*, errW_none, errW_some] <;> rfl), by repeat (first | (with_reducible first | exact HB.out | apply below_alloc | apply pw_below_drewN | apply below_drew1) | exact HB.out)⟩
                          · replace c94 := Bool.eq_false_iff.mpr c94
                            subst c94
                            have H1 : ((spec_DrawFitsBoard.f kj83 l1).bind fun bt173 => ((impl_FitsBoard.f kj83 bt173.1 bt173.2.1 bt173.2.2).bind fun bt180 => ((spec_FitsBoard.f kj83 bt173.1 bt173.2.1 bt173.2.2).bind fun bt182 => (if (bt180.2 == bt182.2) = true then (some (bt180.1 == bt182.1)) else (some false))))) = some r := by rw [if_neg (show ¬ (false = true) by decide)] at H; exact H
                            clear H
                            have H := H1
                            clear H1
                            replace H := Option.bind_eq_some_iff.mp H
                            obtain ⟨⟨t173, t174, t175⟩, A1190, H⟩ := H
                            replace H : ((impl_FitsBoard.f kj83 t173 t174 t175).bind fun bt180 => ((spec_FitsBoard.f kj83 t173 t174 t175).bind fun bt182 => (if (bt180.2 == bt182.2) = true then (some (bt180.1 == bt182.1)) else (some false)))) = some r := H
                            have A119 := Aside0.mk A1190
                            clear A1190
                            replace H := Option.bind_eq_some_iff.mp H
                            obtain ⟨⟨t180, t181⟩, A1200, H⟩ := H
                            replace H : ((spec_FitsBoard.f kj83 t173 t174 t175).bind fun bt182 => (if (t181 == bt182.2) = true then (some (t180 == bt182.1)) else (some false))) = some r := H
                            have A120 := Aside0.mk A1200
                            clear A1200
                            replace H := Option.bind_eq_some_iff.mp H
                            obtain ⟨⟨t182, t183⟩, A1210, H⟩ := H
                            replace H : (if (t181 == t183) = true then (some (t180 == t182)) else (some false)) = some r := H
                            have A121 := Aside0.mk A1210
                            clear A1210
                            by_cases c122 : (t181 == t183) = true
                            · rw [if_pos c122] at H
                              have c122b0 : (t181 == t183) = true := c122
                              (try (have c122b1 : decide (t181 = t183) = true := by simpa using c122))
                              (try (have c122b2 : (t181 == t183) = true := by simpa using c122))
                              clear c122
                              obtain rfl := Option.some.inj H
                              go_wp2_with (first | ((with_reducible refine gate_callee (f := 18) rfl ?_); refine goesL_ (some 279) rfl rfl Try.func18 (by kernel_rfl) rfl #[.slice A1 l1.length c1] rfl (by (try simp only [List.map_toArray, List.map_cons, List.map_nil]); first | done | rfl | (simp only [List.length_drop, List.length_take]; rfl)) ?_; (with_reducible refine (spec_DrawFitsBoard.calls kj83 _ _ l1 t173 t174 t175 _ ?side1 ?side2 A119.out).mono ?_); (case side1 => repeat (first | exact (Kd.C_below HR1.out HB.out) | (with_reducible refine Kd.C_alloc ?_ _) | (with_reducible refine Kd.C_drewN ?_ _) | (with_reducible refine Kd.C_drew ?_))); (case side2 => exact HC1.out); rintro e w123 ⟨v176, v178, rfl, ho0, ho1, hb⟩; refine ⟨_, rfl, ?_⟩; have n0_ := Aside0.mk (Kd.R_elder' (by (with_reducible repeat (first | apply Kd.R_alloc | apply Kd.R_drewN | apply Kd.R_drew)); exact HO_29.out) (Kd.R_base ho0) hb); have n1_ := Aside0.mk (Kd.N_mono (Kd.N_told (Kd.N_told (Kd.N_old (by (with_reducible repeat (first | apply Kd.N_alloc | apply Kd.N_drewN | apply Kd.N_drew)); exact HO_32.out) hb) (Kd.R_base ho0)) (Kd.S_base ho1)) (fun _ h_ => h_.1)); have n2_ := Aside0.mk (Kd.R_lower (Kd.R_new' ho0 (Kd.R_lt (by (with_reducible repeat (first | apply Kd.R_alloc | apply Kd.R_drewN | apply Kd.R_drew)); exact HO_29.out))) (below_size (by repeat (first | (with_reducible first | exact HB.out | apply below_alloc | apply pw_below_drewN | apply below_drew1) | exact HB.out)))); have n3_ := Aside0.mk (Kd.N_lower (Kd.N_mono (ok' := fun k_ => some k_ ≠ (v176 : Value).ownBlock ∧ some k_ ≠ (.slice Ao86 t143.length co86 : Value).ownBlock ∧ some k_ ≠ (v150 : Value).ownBlock) (Kd.S_N (Kd.S_bound ho1)) (fun k_ hk_ => ⟨hk_.1, (Kd.fresh' (Kd.R_lt (by (with_reducible repeat (first | apply Kd.R_alloc | apply Kd.R_drewN | apply Kd.R_drew)); exact HO_29.out)) k_ hk_.2.1), (Kd.fresh' (Kd.N_lt (by (with_reducible repeat (first | apply Kd.N_alloc | apply Kd.N_drewN | apply Kd.N_drew)); exact HO_32.out)) k_ hk_.2.1)⟩)) (below_size (by repeat (first | (with_reducible first | exact HB.out | apply below_alloc | apply pw_below_drewN | apply below_drew1) | exact HB.out)))); have n4_ := Aside0.mk (below_step (by repeat (first | (with_reducible first | exact HB.out | apply below_alloc | apply pw_below_drewN | apply below_drew1) | exact HB.out)) hb); clear HO_29; clear HO_32; clear HB; have HO_29 := n0_; have HO_32 := n1_; have HO177 := n2_; have HO179 := n3_; have HB := n4_; clear n0_ n1_ n2_ n3_ n4_; (try clear hb); (try clear hb2); (try clear hk); (try clear hi); (try clear ho0); (try clear ho1); obtain ⟨Ao124, co124, eo124⟩ := Kd.R_slice HO177.out; subst eo124; obtain ⟨Ao125, co125, eo125⟩ := Kd.N_slice HO179.out; subst eo125) | ((with_reducible refine gate_callee (f := 17) rfl ?_); refine goesL_ (some 287) rfl rfl Try.func17 (by kernel_rfl) rfl #[.slice Ao124 t173.length co124, .slice Ao125 t174.length co125, .int .i64 t175] rfl (by (try simp only [List.map_toArray, List.map_cons, List.map_nil]); first | done | rfl | (simp only [List.length_drop, List.length_take]; rfl)) ?_; (with_reducible refine (impl_FitsBoard.calls kj83 _ _ t173 _ _ t174 t175 t180 t181 _ ?side1 ?side2 ?side3 ?side4 A120.out).mono ?_); (case side1 => repeat (first | exact (Kd.R_reads' HO177.out).2.2 | (with_reducible refine Kd.C_alloc ?_ _) | (with_reducible refine Kd.C_drewN ?_ _) | (with_reducible refine Kd.C_drew ?_))); (case side2 => exact (Kd.R_reads' HO177.out).2.1); (case side3 => repeat (first | exact (Kd.N_reads' HO179.out).2.2 | (with_reducible refine Kd.C_alloc ?_ _) | (with_reducible refine Kd.C_drewN ?_ _) | (with_reducible refine Kd.C_drew ?_))); (case side4 => exact (Kd.N_reads' HO179.out).2.1); rintro e w' ⟨rfl, ⟨nd, rfl⟩⟩; refine ⟨_, rfl, ?_⟩) | ((with_reducible refine gate_callee (f := 19) rfl ?_); refine goesL_ (some 294) rfl rfl Try.func19 (by kernel_rfl) rfl #[.slice Ao124 t173.length co124, .slice Ao125 t174.length co125, .int .i64 t175] rfl (by (try simp only [List.map_toArray, List.map_cons, List.map_nil]); first | done | rfl | (simp only [List.length_drop, List.length_take]; rfl)) ?_; (with_reducible refine (spec_FitsBoard.calls kj83 _ _ t173 _ _ t174 t175 t182 t183 _ ?side1 ?side2 ?side3 ?side4 A121.out).mono ?_); (case side1 => repeat (first | exact (Kd.R_reads' HO177.out).2.2 | (with_reducible refine Kd.C_alloc ?_ _) | (with_reducible refine Kd.C_drewN ?_ _) | (with_reducible refine Kd.C_drew ?_))); (case side2 => exact (Kd.R_reads' HO177.out).2.1); (case side3 => repeat (first | exact (Kd.N_reads' HO179.out).2.2 | (with_reducible refine Kd.C_alloc ?_ _) | (with_reducible refine Kd.C_drewN ?_ _) | (with_reducible refine Kd.C_drew ?_))); (case side4 => exact (Kd.N_reads' HO179.out).2.1); rintro e w' ⟨rfl, ⟨nd, rfl⟩⟩; refine ⟨_, rfl, ?_⟩))
                              go_ret
                              exact ⟨by first | rfl | (simp [errW_none, errW_some] <;> rfl) | (simp [*, errW_none, errW_some] <;> rfl), by repeat (first | (with_reducible first | exact HB.out | apply below_alloc | apply pw_below_drewN | apply below_drew1) | exact HB.out)⟩
                            · rw [if_neg c122] at H
                              have c122b0 : (t181 == t183) = false := by simpa using c122
                              (try (have c122b1 : decide (t181 = t183) = false := by simpa using c122))
                              (try (have c122b2 : (t181 == t183) = false := by simpa using c122))
                              (try (have c122b3 : ¬ (t181 = t183) := by simpa using c122))
                              clear c122
                              obtain rfl := Option.some.inj H
                              go_wp2_with (first | ((with_reducible refine gate_callee (f := 18) rfl ?_); refine goesL_ (some 279) rfl rfl Try.func18 (by kernel_rfl) rfl #[.slice A1 l1.length c1] rfl (by (try simp only [List.map_toArray, List.map_cons, List.map_nil]); first | done | rfl | (simp only [List.length_drop, List.length_take]; rfl)) ?_; (with_reducible refine (spec_DrawFitsBoard.calls kj83 _ _ l1 t173 t174 t175 _ ?side1 ?side2 A119.out).mono ?_); (case side1 => repeat (first | exact (Kd.C_below HR1.out HB.out) | (with_reducible refine Kd.C_alloc ?_ _) | (with_reducible refine Kd.C_drewN ?_ _) | (with_reducible refine Kd.C_drew ?_))); (case side2 => exact HC1.out); rintro e w126 ⟨v176, v178, rfl, ho0, ho1, hb⟩; refine ⟨_, rfl, ?_⟩; have n0_ := Aside0.mk (Kd.R_elder' (by (with_reducible repeat (first | apply Kd.R_alloc | apply Kd.R_drewN | apply Kd.R_drew)); exact HO_29.out) (Kd.R_base ho0) hb); have n1_ := Aside0.mk (Kd.N_mono (Kd.N_told (Kd.N_told (Kd.N_old (by (with_reducible repeat (first | apply Kd.N_alloc | apply Kd.N_drewN | apply Kd.N_drew)); exact HO_32.out) hb) (Kd.R_base ho0)) (Kd.S_base ho1)) (fun _ h_ => h_.1)); have n2_ := Aside0.mk (Kd.R_lower (Kd.R_new' ho0 (Kd.R_lt (by (with_reducible repeat (first | apply Kd.R_alloc | apply Kd.R_drewN | apply Kd.R_drew)); exact HO_29.out))) (below_size (by repeat (first | (with_reducible first | exact HB.out | apply below_alloc | apply pw_below_drewN | apply below_drew1) | exact HB.out)))); have n3_ := Aside0.mk (Kd.N_lower (Kd.N_mono (ok' := fun k_ => some k_ ≠ (v176 : Value).ownBlock ∧ some k_ ≠ (.slice Ao86 t143.length co86 : Value).ownBlock ∧ some k_ ≠ (v150 : Value).ownBlock) (Kd.S_N (Kd.S_bound ho1)) (fun k_ hk_ => ⟨hk_.1, (Kd.fresh' (Kd.R_lt (by (with_reducible repeat (first | apply Kd.R_alloc | apply Kd.R_drewN | apply Kd.R_drew)); exact HO_29.out)) k_ hk_.2.1), (Kd.fresh' (Kd.N_lt (by (with_reducible repeat (first | apply Kd.N_alloc | apply Kd.N_drewN | apply Kd.N_drew)); exact HO_32.out)) k_ hk_.2.1)⟩)) (below_size (by repeat (first | (with_reducible first | exact HB.out | apply below_alloc | apply pw_below_drewN | apply below_drew1) | exact HB.out)))); have n4_ := Aside0.mk (below_step (by repeat (first | (with_reducible first | exact HB.out | apply below_alloc | apply pw_below_drewN | apply below_drew1) | exact HB.out)) hb); clear HO_29; clear HO_32; clear HB; have HO_29 := n0_; have HO_32 := n1_; have HO177 := n2_; have HO179 := n3_; have HB := n4_; clear n0_ n1_ n2_ n3_ n4_; (try clear hb); (try clear hb2); (try clear hk); (try clear hi); (try clear ho0); (try clear ho1); obtain ⟨Ao127, co127, eo127⟩ := Kd.R_slice HO177.out; subst eo127; obtain ⟨Ao128, co128, eo128⟩ := Kd.N_slice HO179.out; subst eo128) | ((with_reducible refine gate_callee (f := 17) rfl ?_); refine goesL_ (some 287) rfl rfl Try.func17 (by kernel_rfl) rfl #[.slice Ao127 t173.length co127, .slice Ao128 t174.length co128, .int .i64 t175] rfl (by (try simp only [List.map_toArray, List.map_cons, List.map_nil]); first | done | rfl | (simp only [List.length_drop, List.length_take]; rfl)) ?_; (with_reducible refine (impl_FitsBoard.calls kj83 _ _ t173 _ _ t174 t175 t180 t181 _ ?side1 ?side2 ?side3 ?side4 A120.out).mono ?_); (case side1 => repeat (first | exact (Kd.R_reads' HO177.out).2.2 | (with_reducible refine Kd.C_alloc ?_ _) | (with_reducible refine Kd.C_drewN ?_ _) | (with_reducible refine Kd.C_drew ?_))); (case side2 => exact (Kd.R_reads' HO177.out).2.1); (case side3 => repeat (first | exact (Kd.N_reads' HO179.out).2.2 | (with_reducible refine Kd.C_alloc ?_ _) | (with_reducible refine Kd.C_drewN ?_ _) | (with_reducible refine Kd.C_drew ?_))); (case side4 => exact (Kd.N_reads' HO179.out).2.1); rintro e w' ⟨rfl, ⟨nd, rfl⟩⟩; refine ⟨_, rfl, ?_⟩) | ((with_reducible refine gate_callee (f := 19) rfl ?_); refine goesL_ (some 294) rfl rfl Try.func19 (by kernel_rfl) rfl #[.slice Ao127 t173.length co127, .slice Ao128 t174.length co128, .int .i64 t175] rfl (by (try simp only [List.map_toArray, List.map_cons, List.map_nil]); first | done | rfl | (simp only [List.length_drop, List.length_take]; rfl)) ?_; (with_reducible refine (spec_FitsBoard.calls kj83 _ _ t173 _ _ t174 t175 t182 t183 _ ?side1 ?side2 ?side3 ?side4 A121.out).mono ?_); (case side1 => repeat (first | exact (Kd.R_reads' HO177.out).2.2 | (with_reducible refine Kd.C_alloc ?_ _) | (with_reducible refine Kd.C_drewN ?_ _) | (with_reducible refine Kd.C_drew ?_))); (case side2 => exact (Kd.R_reads' HO177.out).2.1); (case side3 => repeat (first | exact (Kd.N_reads' HO179.out).2.2 | (with_reducible refine Kd.C_alloc ?_ _) | (with_reducible refine Kd.C_drewN ?_ _) | (with_reducible refine Kd.C_drew ?_))); (case side4 => exact (Kd.N_reads' HO179.out).2.1); rintro e w' ⟨rfl, ⟨nd, rfl⟩⟩; refine ⟨_, rfl, ?_⟩))
                              go_ret
                              exact ⟨by first | rfl | (simp [errW_none, errW_some] <;> rfl) | (simp [*, errW_none, errW_some] <;> rfl), by repeat (first | (with_reducible first | exact HB.out | apply below_alloc | apply pw_below_drewN | apply below_drew1) | exact HB.out)⟩
def laws_FnRanksOfRows.Pure : Prop := ∀ (l0 : List Int) (l1 : List Int), l0.length ≤ maxLen → l0.length * 1 ≤ 140737488351232 → (∀ x ∈ l0, (Lit.int .u8 x).wf = true) → l1.length ≤ maxLen → l1.length * 1 ≤ 140737488351232 → (∀ x ∈ l1, (Lit.int .u8 x).wf = true) → ∃ k, laws_FnRanksOfRows.f k l0 l1 = some true
theorem laws_FnRanksOfRows.walk (P : laws_FnRanksOfRows.Pure) (a0 : Option Addr) (len0 cap0 : Nat) (z0 : List Int) (a1 : Option Addr) (len1 cap1 : Nat) (z1 : List Int) (w : World) (w0 : (a0 = none ∧ len0 = 0 ∧ cap0 = 0 ∧ z0 = []) ∨ ∃ x, a0 = some x ∧ len0 ≤ cap0 ∧ cap0 ≤ maxLen ∧ z0.length = cap0 ∧ (∀ i, i < z0.length → w.cell? (x.add i) = some (.int .u8 (z0.getD i 0))) ∧ ∀ n ∈ z0, (Lit.int .u8 n).wf = true) (y0 : len0 * 1 ≤ 140737488351232) (w1 : (a1 = none ∧ len1 = 0 ∧ cap1 = 0 ∧ z1 = []) ∨ ∃ x, a1 = some x ∧ len1 ≤ cap1 ∧ cap1 ≤ maxLen ∧ z1.length = cap1 ∧ (∀ i, i < z1.length → w.cell? (x.add i) = some (.int .u8 (z1.getD i 0))) ∧ ∀ n ∈ z1, (Lit.int .u8 n).wf = true) (y1 : len1 * 1 ≤ 140737488351232) :
    Calls Try.prog 3 #[.slice a0 len0 cap0, .slice a1 len1 cap1] w fun e w' => e = .returned (.bool true) ∧ Below w.heap.size w w' := by
  obtain ⟨l0, rfl, hr0, hm0, hw0, hc0⟩ := ReadsInt.ofRowC w0
  obtain ⟨l1, rfl, hr1, hm1, hw1, hc1⟩ := ReadsInt.ofRowC w1
  obtain ⟨k, h⟩ := P l0 l1 hm0 y0 hw0 hm1 y1 hw1
  refine (laws_FnRanksOfRows.calls k _ _ l0 _ _ l1 true w (Kd.C_of_reads (d := (0 : Int)) (h1 := fun _ => rfl) hr0) hc0 (Kd.C_of_reads (d := (0 : Int)) (h1 := fun _ => rfl) hr1) hc1 h).mono ?_
  rintro e w' ⟨rfl, hd⟩
  exact ⟨rfl, hd⟩
end Go.Proofs.Ytadkkcdhgepbkaa.Q
end
