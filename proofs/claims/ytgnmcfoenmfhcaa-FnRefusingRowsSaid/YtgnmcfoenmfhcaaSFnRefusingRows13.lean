/- Texts of this claim put together (13): words, what the functions compute, and plain facts. No conditions. -/
import Derived.Test.YtgnmcfoenmfhcaaSFnRefusingRows4
import Derived.Test.YtgnmcfoenmfhcaaSFnRefusingRows6
import Derived.Test.YtgnmcfoenmfhcaaSFnRefusingRows12
import Derived.Test.YtgnmcfoenmfhcaaSFnRefusingRows9
import Derived.Test.YtgnmcfoenmfhcaaSFnRefusingRows10
import Derived.Test.YtgnmcfoenmfhcaaSFnRefusingRows11
import Derived.Test.YtgnmcfoenmfhcaaSFnRefusingRows0
section
namespace Go.Proofs.Ytgnmcfoenmfhcaa.Q
open Go.RowKit Go.Proofs.YtgnmcfoenmfhcaaW.PrintWords Go.Proofs.YtgnmcfoenmfhcaaW.PrintLast Go.Proofs.YtgnmcfoenmfhcaaW.PrintMore
attribute [local go_sem] max2_int min2_int max_two min_two max_three min_three max_four min_four   -- for this text's walks alone
set_option linter.unusedVariables false
set_option linter.unusedSimpArgs false
mutual
def laws_FnRefusingRows.j0 : Nat → List Int → List Int → Bool → Bool → Int → Int → List Int → Option (Bool)
 | 0, _, _, _, _, _, _, _ => none
 | k + 1, x1, x6, x7, x100, x108000, x108001, x108002 => if x100 = true then (some false) else (if x7 = true then ((impl_ColumnsOf.f k x108000 x108001 x108002 x6).bind fun bt123 => (if bt123.2 = true then (laws_FnRefusingRows.j1 k x1 x6 (decide ((bt123.1.length : Int) ≥ (x6.length : Int))) x108000 x108001 x108002) else (laws_FnRefusingRows.j1 k x1 x6 true x108000 x108001 x108002))) else (laws_FnRefusingRows.j3 k x1))
def laws_FnRefusingRows.j3 : Nat → List Int → Option (Bool)
 | 0, _ => none
 | k + 1, x1 => (spec_DrawColumnsOf.f k x1).bind fun bt148 => ((impl_ColumnsOf.f k bt148.1 bt148.2.1 bt148.2.2.1 bt148.2.2.2).bind fun bt157 => ((spec_ColumnsOf.f k bt148.1 bt148.2.1 bt148.2.2.1 bt148.2.2.2).bind fun bt161 => (if (bt157.2 == bt161.2) = true then ((laws_kSame.f k bt157.1 bt161.1).bind fun t165 => (some t165)) else (some false))))
def laws_FnRefusingRows.j1 : Nat → List Int → List Int → Bool → Int → Int → List Int → Option (Bool)
 | 0, _, _, _, _, _, _ => none
 | k + 1, x1, x6, x116, x108000, x108001, x108002 => if x116 = true then (some false) else (laws_FnRefusingRows.l0 k x1 x6 (x6.length : Int) 0 x108000 x108001 x108002)
def laws_FnRefusingRows.l0 : Nat → List Int → List Int → Int → Int → Int → Int → List Int → Option (Bool)
 | 0, _, _, _, _, _, _, _ => none
 | k + 1, x1, x6, x118, x119, x108000, x108001, x108002 => if x119 < x118 then ((some (([] : List Int) : List Int)).bind fun y127 => (if 0 ≤ x119 then (if x119 ≤ (x6.length : Int) then ((some (x6.take (x119 : Int).toNat : List Int)).bind fun y130 => (if y127.length + y130.length < 17592186044416 then ((some (y127 ++ y130 : List Int)).bind fun y134 => (if 0 ≤ (wrap64 (x119 + 1)) then (if (wrap64 (x119 + 1)) ≤ (x6.length : Int) then ((some (x6.drop ((wrap64 (x119 + 1)) : Int).toNat : List Int)).bind fun y137 => (if y134.length + y137.length < 17592186044416 then ((some (y134 ++ y137 : List Int)).bind fun y141 => ((impl_ColumnsOf.f k x108000 x108001 x108002 y141).bind fun bt144 => (if bt144.2 = true then (if (bt144.1.length : Int) < (y141.length : Int) then (some false) else (laws_FnRefusingRows.l0 k x1 x6 x118 (wrap64 (x119 + 1)) x108000 x108001 x108002)) else (some false)))) else (none))) else (none)) else (none))) else (none))) else (none)) else (none))) else (laws_FnRefusingRows.j3 k x1)
end
def laws_FnRefusingRows.f (k : Nat) (l0 : List Int) (l1 : List Int) : Option (Bool) := (laws_big.f l0 l1).bind fun t101 => (if t101 = true then (some true) else ((spec_DrawRefusingRows.f k l0).bind fun bt102 => ((impl_RefusingRows.f k bt102.1 bt102.2.1 bt102.2.2).bind fun bt108 => ((spec_RefusingRows.f k bt102.1 bt102.2.1 bt102.2.2).bind fun bt112 => ((impl_LackOf.f k bt102.1 bt102.2.1 bt102.2.2).bind fun bt116 => ((spec_LackOf.f k bt102.1 bt102.2.1 bt102.2.2).bind fun bt118 => ((impl_MostRooks.f k bt102.1 bt102.2.1 bt102.2.2).bind fun bt120 => (if (bt108.2 != bt112.2) = true then (laws_FnRefusingRows.j0 k l1 bt108.1 bt108.2 true bt102.1 bt102.2.1 bt102.2.2) else ((laws_kSame.f k bt108.1 bt112.1).bind fun t122 => (if t122 = true then (if (bt116.2 != bt118.2) = true then (laws_FnRefusingRows.j0 k l1 bt108.1 bt108.2 true bt102.1 bt102.2.1 bt102.2.2) else (if bt116.1 = bt118.1 then (if (bt120.2 != bt116.2) = true then (laws_FnRefusingRows.j0 k l1 bt108.1 bt108.2 true bt102.1 bt102.2.1 bt102.2.2) else (if bt116.2 = true then (if bt116.1 = (wrap64 (bt102.1 - bt120.1)) then (laws_FnRefusingRows.j0 k l1 bt108.1 bt108.2 (bt108.2 != (decide (bt120.1 < bt102.1))) bt102.1 bt102.2.1 bt102.2.2) else (laws_FnRefusingRows.j0 k l1 bt108.1 bt108.2 true bt102.1 bt102.2.1 bt102.2.2)) else (laws_FnRefusingRows.j0 k l1 bt108.1 bt108.2 false bt102.1 bt102.2.1 bt102.2.2))) else (laws_FnRefusingRows.j0 k l1 bt108.1 bt108.2 true bt102.1 bt102.2.1 bt102.2.2))) else (laws_FnRefusingRows.j0 k l1 bt108.1 bt108.2 true bt102.1 bt102.2.1 bt102.2.2)))))))))))
def laws_FnRefusingRows.T18 : Bool × List (List Nat × List Nat) := (true, [([], []), ([], []), ([], []), ([1, 2], [1, 2]), ([0, 3], [0, 3]), ([], []), ([], []), ([6], [6]), ([5, 7], [5, 7]), ([4, 8, 4], [4, 8]), ([9, 9, 0, 1, 2, 3, 4, 5, 6, 7, 8, 9], [9])])
def laws_FnRefusingRows.B18 : List Nat := [0, 0, 0, 6, 15, 0, 0, 64, 224, 511, 1023]
theorem laws_FnRefusingRows.tab18 : rtab .any (opsOf Try.f3 18) = laws_FnRefusingRows.T18 := by kernel_rfl
theorem laws_FnRefusingRows.bits18 : waitsOk laws_FnRefusingRows.T18.2 laws_FnRefusingRows.B18 = true := by kernel_rfl
set_option maxHeartbeats 8000000 in
set_option maxRecDepth 100000 in
theorem laws_FnRefusingRows.calls (k : Nat) (A0 : Option Addr) (c0 : Nat) (l0 : List Int) (A1 : Option Addr) (c1 : Nat) (l1 : List Int) (r : Bool) (w : World) (hr0 : Kd.C (Kd.int .u8) w A0 l0.length l0) (hc0 : l0.length ≤ c0) (hr1 : Kd.C (Kd.int .u8) w A1 l1.length l1) (hc1 : l1.length ≤ c1) (h : laws_FnRefusingRows.f k l0 l1 = some r) :
  Calls Try.prog 3 #[.slice A0 l0.length c0, .slice A1 l1.length c1] w fun e w' => e = .returned (.bool r) ∧ Below w.heap.size w w' := by
 have hu26 := Try.underlying26
 have HR0 := za hr0
 have HC0 := za hc0
 clear hr0 hc0
 have HR1 := za hr1
 have HC1 := za hc1
 clear hr1 hc1
 have HB := za (Below.refl w.heap.size w)
 have H : ((laws_big.f l0 l1).bind fun t101 => (if t101 = true then (some true) else ((spec_DrawRefusingRows.f k l0).bind fun bt102 => ((impl_RefusingRows.f k bt102.1 bt102.2.1 bt102.2.2).bind fun bt108 => ((spec_RefusingRows.f k bt102.1 bt102.2.1 bt102.2.2).bind fun bt112 => ((impl_LackOf.f k bt102.1 bt102.2.1 bt102.2.2).bind fun bt116 => ((spec_LackOf.f k bt102.1 bt102.2.1 bt102.2.2).bind fun bt118 => ((impl_MostRooks.f k bt102.1 bt102.2.1 bt102.2.2).bind fun bt120 => (if (bt108.2 != bt112.2) = true then (laws_FnRefusingRows.j0 k l1 bt108.1 bt108.2 true bt102.1 bt102.2.1 bt102.2.2) else ((laws_kSame.f k bt108.1 bt112.1).bind fun t122 => (if t122 = true then (if (bt116.2 != bt118.2) = true then (laws_FnRefusingRows.j0 k l1 bt108.1 bt108.2 true bt102.1 bt102.2.1 bt102.2.2) else (if bt116.1 = bt118.1 then (if (bt120.2 != bt116.2) = true then (laws_FnRefusingRows.j0 k l1 bt108.1 bt108.2 true bt102.1 bt102.2.1 bt102.2.2) else (if bt116.2 = true then (if bt116.1 = (wrap64 (bt102.1 - bt120.1)) then (laws_FnRefusingRows.j0 k l1 bt108.1 bt108.2 (bt108.2 != (decide (bt120.1 < bt102.1))) bt102.1 bt102.2.1 bt102.2.2) else (laws_FnRefusingRows.j0 k l1 bt108.1 bt108.2 true bt102.1 bt102.2.1 bt102.2.2)) else (laws_FnRefusingRows.j0 k l1 bt108.1 bt108.2 false bt102.1 bt102.2.1 bt102.2.2))) else (laws_FnRefusingRows.j0 k l1 bt108.1 bt108.2 true bt102.1 bt102.2.1 bt102.2.2))) else (laws_FnRefusingRows.j0 k l1 bt108.1 bt108.2 true bt102.1 bt102.2.1 bt102.2.2)))))))))))) = some r := h
 clear h
 replace H := Option.bind_eq_some_iff.mp H
 obtain ⟨t101, A30, H⟩ := H
 replace H : (if t101 = true then (some true) else ((spec_DrawRefusingRows.f k l0).bind fun bt102 => ((impl_RefusingRows.f k bt102.1 bt102.2.1 bt102.2.2).bind fun bt108 => ((spec_RefusingRows.f k bt102.1 bt102.2.1 bt102.2.2).bind fun bt112 => ((impl_LackOf.f k bt102.1 bt102.2.1 bt102.2.2).bind fun bt116 => ((spec_LackOf.f k bt102.1 bt102.2.1 bt102.2.2).bind fun bt118 => ((impl_MostRooks.f k bt102.1 bt102.2.1 bt102.2.2).bind fun bt120 => (if (bt108.2 != bt112.2) = true then (laws_FnRefusingRows.j0 k l1 bt108.1 bt108.2 true bt102.1 bt102.2.1 bt102.2.2) else ((laws_kSame.f k bt108.1 bt112.1).bind fun t122 => (if t122 = true then (if (bt116.2 != bt118.2) = true then (laws_FnRefusingRows.j0 k l1 bt108.1 bt108.2 true bt102.1 bt102.2.1 bt102.2.2) else (if bt116.1 = bt118.1 then (if (bt120.2 != bt116.2) = true then (laws_FnRefusingRows.j0 k l1 bt108.1 bt108.2 true bt102.1 bt102.2.1 bt102.2.2) else (if bt116.2 = true then (if bt116.1 = (wrap64 (bt102.1 - bt120.1)) then (laws_FnRefusingRows.j0 k l1 bt108.1 bt108.2 (bt108.2 != (decide (bt120.1 < bt102.1))) bt102.1 bt102.2.1 bt102.2.2) else (laws_FnRefusingRows.j0 k l1 bt108.1 bt108.2 true bt102.1 bt102.2.1 bt102.2.2)) else (laws_FnRefusingRows.j0 k l1 bt108.1 bt108.2 false bt102.1 bt102.2.1 bt102.2.2))) else (laws_FnRefusingRows.j0 k l1 bt108.1 bt108.2 true bt102.1 bt102.2.1 bt102.2.2))) else (laws_FnRefusingRows.j0 k l1 bt108.1 bt108.2 true bt102.1 bt102.2.1 bt102.2.2))))))))))) = some r := H
 have A3 := za A30
 clear A30
 by_cases c4 : t101 = true
 ·
  subst c4
  have H1 : (some true) = some r := by rw [if_pos rfl] at H; exact H
  clear H
  have H := H1
  clear H1
  obtain rfl := Option.some.inj H
  go_enter Try.func3, Try.ntmps3
  go_wp2_with (first | ((with_reducible refine zu (f := 17) rfl ?_); refine goesL_ (some 30) rfl rfl Try.func17 (by kernel_rfl) rfl #[.slice A0 l0.length c0, .slice A1 l1.length c1] rfl (by (try simp only [List.map_toArray, List.map_cons, List.map_nil]); first | done | rfl | (simp only [List.length_drop, List.length_take]; rfl)) ?_; (with_reducible refine (laws_big.calls _ _ l0 _ _ l1 true _ ?side1 ?side2 ?side3 ?side4 A3.out).mono ?_); (case side1 => repeat (first | exact HR0.out | (with_reducible refine zw ?_ _) | (with_reducible refine zx ?_ _) | (with_reducible refine zy ?_))); (case side2 => exact HC0.out); (case side3 => repeat (first | exact HR1.out | (with_reducible refine zw ?_ _) | (with_reducible refine zx ?_ _) | (with_reducible refine zy ?_))); (case side4 => exact HC1.out); rintro e w' ⟨rfl, ⟨nd, rfl⟩⟩; refine ⟨_, rfl, ?_⟩))
  go_ret
  exact ⟨by first | rfl | (simp [errW_none, errW_some] <;> rfl) | (simp [*, errW_none, errW_some] <;> rfl), by repeat (first | (with_reducible first | exact HB.out | apply zc | apply ze | apply zb) | exact HB.out)⟩
 ·
  replace c4 := Bool.eq_false_iff.mpr c4
  subst c4
  have H1 : ((spec_DrawRefusingRows.f k l0).bind fun bt102 => ((impl_RefusingRows.f k bt102.1 bt102.2.1 bt102.2.2).bind fun bt108 => ((spec_RefusingRows.f k bt102.1 bt102.2.1 bt102.2.2).bind fun bt112 => ((impl_LackOf.f k bt102.1 bt102.2.1 bt102.2.2).bind fun bt116 => ((spec_LackOf.f k bt102.1 bt102.2.1 bt102.2.2).bind fun bt118 => ((impl_MostRooks.f k bt102.1 bt102.2.1 bt102.2.2).bind fun bt120 => (if (bt108.2 != bt112.2) = true then (laws_FnRefusingRows.j0 k l1 bt108.1 bt108.2 true bt102.1 bt102.2.1 bt102.2.2) else ((laws_kSame.f k bt108.1 bt112.1).bind fun t122 => (if t122 = true then (if (bt116.2 != bt118.2) = true then (laws_FnRefusingRows.j0 k l1 bt108.1 bt108.2 true bt102.1 bt102.2.1 bt102.2.2) else (if bt116.1 = bt118.1 then (if (bt120.2 != bt116.2) = true then (laws_FnRefusingRows.j0 k l1 bt108.1 bt108.2 true bt102.1 bt102.2.1 bt102.2.2) else (if bt116.2 = true then (if bt116.1 = (wrap64 (bt102.1 - bt120.1)) then (laws_FnRefusingRows.j0 k l1 bt108.1 bt108.2 (bt108.2 != (decide (bt120.1 < bt102.1))) bt102.1 bt102.2.1 bt102.2.2) else (laws_FnRefusingRows.j0 k l1 bt108.1 bt108.2 true bt102.1 bt102.2.1 bt102.2.2)) else (laws_FnRefusingRows.j0 k l1 bt108.1 bt108.2 false bt102.1 bt102.2.1 bt102.2.2))) else (laws_FnRefusingRows.j0 k l1 bt108.1 bt108.2 true bt102.1 bt102.2.1 bt102.2.2))) else (laws_FnRefusingRows.j0 k l1 bt108.1 bt108.2 true bt102.1 bt102.2.1 bt102.2.2)))))))))) = some r := by rw [if_neg (show ¬ (false = true) by decide)] at H; exact H
  clear H
  have H := H1
  clear H1
  replace H := Option.bind_eq_some_iff.mp H
  obtain ⟨⟨t102, t103, t104⟩, A50, H⟩ := H
  replace H : ((impl_RefusingRows.f k t102 t103 t104).bind fun bt108 => ((spec_RefusingRows.f k t102 t103 t104).bind fun bt112 => ((impl_LackOf.f k t102 t103 t104).bind fun bt116 => ((spec_LackOf.f k t102 t103 t104).bind fun bt118 => ((impl_MostRooks.f k t102 t103 t104).bind fun bt120 => (if (bt108.2 != bt112.2) = true then (laws_FnRefusingRows.j0 k l1 bt108.1 bt108.2 true t102 t103 t104) else ((laws_kSame.f k bt108.1 bt112.1).bind fun t122 => (if t122 = true then (if (bt116.2 != bt118.2) = true then (laws_FnRefusingRows.j0 k l1 bt108.1 bt108.2 true t102 t103 t104) else (if bt116.1 = bt118.1 then (if (bt120.2 != bt116.2) = true then (laws_FnRefusingRows.j0 k l1 bt108.1 bt108.2 true t102 t103 t104) else (if bt116.2 = true then (if bt116.1 = (wrap64 (t102 - bt120.1)) then (laws_FnRefusingRows.j0 k l1 bt108.1 bt108.2 (bt108.2 != (decide (bt120.1 < t102))) t102 t103 t104) else (laws_FnRefusingRows.j0 k l1 bt108.1 bt108.2 true t102 t103 t104)) else (laws_FnRefusingRows.j0 k l1 bt108.1 bt108.2 false t102 t103 t104))) else (laws_FnRefusingRows.j0 k l1 bt108.1 bt108.2 true t102 t103 t104))) else (laws_FnRefusingRows.j0 k l1 bt108.1 bt108.2 true t102 t103 t104))))))))) = some r := H
  have A5 := za A50
  clear A50
  replace H := Option.bind_eq_some_iff.mp H
  obtain ⟨⟨t108, t111⟩, A60, H⟩ := H
  replace H : ((spec_RefusingRows.f k t102 t103 t104).bind fun bt112 => ((impl_LackOf.f k t102 t103 t104).bind fun bt116 => ((spec_LackOf.f k t102 t103 t104).bind fun bt118 => ((impl_MostRooks.f k t102 t103 t104).bind fun bt120 => (if (t111 != bt112.2) = true then (laws_FnRefusingRows.j0 k l1 t108 t111 true t102 t103 t104) else ((laws_kSame.f k t108 bt112.1).bind fun t122 => (if t122 = true then (if (bt116.2 != bt118.2) = true then (laws_FnRefusingRows.j0 k l1 t108 t111 true t102 t103 t104) else (if bt116.1 = bt118.1 then (if (bt120.2 != bt116.2) = true then (laws_FnRefusingRows.j0 k l1 t108 t111 true t102 t103 t104) else (if bt116.2 = true then (if bt116.1 = (wrap64 (t102 - bt120.1)) then (laws_FnRefusingRows.j0 k l1 t108 t111 (t111 != (decide (bt120.1 < t102))) t102 t103 t104) else (laws_FnRefusingRows.j0 k l1 t108 t111 true t102 t103 t104)) else (laws_FnRefusingRows.j0 k l1 t108 t111 false t102 t103 t104))) else (laws_FnRefusingRows.j0 k l1 t108 t111 true t102 t103 t104))) else (laws_FnRefusingRows.j0 k l1 t108 t111 true t102 t103 t104)))))))) = some r := H
  have A6 := za A60
  clear A60
  replace H := Option.bind_eq_some_iff.mp H
  obtain ⟨⟨t112, t115⟩, A70, H⟩ := H
  replace H : ((impl_LackOf.f k t102 t103 t104).bind fun bt116 => ((spec_LackOf.f k t102 t103 t104).bind fun bt118 => ((impl_MostRooks.f k t102 t103 t104).bind fun bt120 => (if (t111 != t115) = true then (laws_FnRefusingRows.j0 k l1 t108 t111 true t102 t103 t104) else ((laws_kSame.f k t108 t112).bind fun t122 => (if t122 = true then (if (bt116.2 != bt118.2) = true then (laws_FnRefusingRows.j0 k l1 t108 t111 true t102 t103 t104) else (if bt116.1 = bt118.1 then (if (bt120.2 != bt116.2) = true then (laws_FnRefusingRows.j0 k l1 t108 t111 true t102 t103 t104) else (if bt116.2 = true then (if bt116.1 = (wrap64 (t102 - bt120.1)) then (laws_FnRefusingRows.j0 k l1 t108 t111 (t111 != (decide (bt120.1 < t102))) t102 t103 t104) else (laws_FnRefusingRows.j0 k l1 t108 t111 true t102 t103 t104)) else (laws_FnRefusingRows.j0 k l1 t108 t111 false t102 t103 t104))) else (laws_FnRefusingRows.j0 k l1 t108 t111 true t102 t103 t104))) else (laws_FnRefusingRows.j0 k l1 t108 t111 true t102 t103 t104))))))) = some r := H
  have A7 := za A70
  clear A70
  replace H := Option.bind_eq_some_iff.mp H
  obtain ⟨⟨t116, t117⟩, A80, H⟩ := H
  replace H : ((spec_LackOf.f k t102 t103 t104).bind fun bt118 => ((impl_MostRooks.f k t102 t103 t104).bind fun bt120 => (if (t111 != t115) = true then (laws_FnRefusingRows.j0 k l1 t108 t111 true t102 t103 t104) else ((laws_kSame.f k t108 t112).bind fun t122 => (if t122 = true then (if (t117 != bt118.2) = true then (laws_FnRefusingRows.j0 k l1 t108 t111 true t102 t103 t104) else (if t116 = bt118.1 then (if (bt120.2 != t117) = true then (laws_FnRefusingRows.j0 k l1 t108 t111 true t102 t103 t104) else (if t117 = true then (if t116 = (wrap64 (t102 - bt120.1)) then (laws_FnRefusingRows.j0 k l1 t108 t111 (t111 != (decide (bt120.1 < t102))) t102 t103 t104) else (laws_FnRefusingRows.j0 k l1 t108 t111 true t102 t103 t104)) else (laws_FnRefusingRows.j0 k l1 t108 t111 false t102 t103 t104))) else (laws_FnRefusingRows.j0 k l1 t108 t111 true t102 t103 t104))) else (laws_FnRefusingRows.j0 k l1 t108 t111 true t102 t103 t104)))))) = some r := H
  have A8 := za A80
  clear A80
  replace H := Option.bind_eq_some_iff.mp H
  obtain ⟨⟨t118, t119⟩, A90, H⟩ := H
  replace H : ((impl_MostRooks.f k t102 t103 t104).bind fun bt120 => (if (t111 != t115) = true then (laws_FnRefusingRows.j0 k l1 t108 t111 true t102 t103 t104) else ((laws_kSame.f k t108 t112).bind fun t122 => (if t122 = true then (if (t117 != t119) = true then (laws_FnRefusingRows.j0 k l1 t108 t111 true t102 t103 t104) else (if t116 = t118 then (if (bt120.2 != t117) = true then (laws_FnRefusingRows.j0 k l1 t108 t111 true t102 t103 t104) else (if t117 = true then (if t116 = (wrap64 (t102 - bt120.1)) then (laws_FnRefusingRows.j0 k l1 t108 t111 (t111 != (decide (bt120.1 < t102))) t102 t103 t104) else (laws_FnRefusingRows.j0 k l1 t108 t111 true t102 t103 t104)) else (laws_FnRefusingRows.j0 k l1 t108 t111 false t102 t103 t104))) else (laws_FnRefusingRows.j0 k l1 t108 t111 true t102 t103 t104))) else (laws_FnRefusingRows.j0 k l1 t108 t111 true t102 t103 t104))))) = some r := H
  have A9 := za A90
  clear A90
  replace H := Option.bind_eq_some_iff.mp H
  obtain ⟨⟨t120, t121⟩, A100, H⟩ := H
  replace H : (if (t111 != t115) = true then (laws_FnRefusingRows.j0 k l1 t108 t111 true t102 t103 t104) else ((laws_kSame.f k t108 t112).bind fun t122 => (if t122 = true then (if (t117 != t119) = true then (laws_FnRefusingRows.j0 k l1 t108 t111 true t102 t103 t104) else (if t116 = t118 then (if (t121 != t117) = true then (laws_FnRefusingRows.j0 k l1 t108 t111 true t102 t103 t104) else (if t117 = true then (if t116 = (wrap64 (t102 - t120)) then (laws_FnRefusingRows.j0 k l1 t108 t111 (t111 != (decide (t120 < t102))) t102 t103 t104) else (laws_FnRefusingRows.j0 k l1 t108 t111 true t102 t103 t104)) else (laws_FnRefusingRows.j0 k l1 t108 t111 false t102 t103 t104))) else (laws_FnRefusingRows.j0 k l1 t108 t111 true t102 t103 t104))) else (laws_FnRefusingRows.j0 k l1 t108 t111 true t102 t103 t104)))) = some r := H
  have A10 := za A100
  clear A100
  have HC11 := za H
  clear H
  go_enter Try.func3, Try.ntmps3
  go_upto_region 9 with (first | ((with_reducible refine zu (f := 17) rfl ?_); refine goesL_ (some 30) rfl rfl Try.func17 (by kernel_rfl) rfl #[.slice A0 l0.length c0, .slice A1 l1.length c1] rfl (by (try simp only [List.map_toArray, List.map_cons, List.map_nil]); first | done | rfl | (simp only [List.length_drop, List.length_take]; rfl)) ?_; (with_reducible refine (laws_big.calls _ _ l0 _ _ l1 false _ ?side1 ?side2 ?side3 ?side4 A3.out).mono ?_); (case side1 => repeat (first | exact HR0.out | (with_reducible refine zw ?_ _) | (with_reducible refine zx ?_ _) | (with_reducible refine zy ?_))); (case side2 => exact HC0.out); (case side3 => repeat (first | exact HR1.out | (with_reducible refine zw ?_ _) | (with_reducible refine zx ?_ _) | (with_reducible refine zy ?_))); (case side4 => exact HC1.out); rintro e w' ⟨rfl, ⟨nd, rfl⟩⟩; refine ⟨_, rfl, ?_⟩) | ((with_reducible refine zu (f := 18) rfl ?_); refine goesL_ (some 32) rfl rfl Try.func18 (by kernel_rfl) rfl #[.slice A0 l0.length c0] rfl (by (try simp only [List.map_toArray, List.map_cons, List.map_nil]); first | done | rfl | (simp only [List.length_drop, List.length_take]; rfl)) ?_; (with_reducible refine (spec_DrawRefusingRows.calls k _ _ l0 t102 t103 t104 _ ?side1 ?side2 A5.out).mono ?_); (case side1 => repeat (first | exact HR0.out | (with_reducible refine zw ?_ _) | (with_reducible refine zx ?_ _) | (with_reducible refine zy ?_))); (case side2 => exact HC0.out); rintro e w12 ⟨v105, rfl, ho0, hb⟩; refine ⟨_, rfl, ?_⟩; have n0_ := za (Kd.R_lower ho0 (zn (by repeat (first | (with_reducible first | exact HB.out | apply zc | apply ze | apply zb) | exact HB.out)))); have n1_ := za (zv (by repeat (first | (with_reducible first | exact HB.out | apply zc | apply ze | apply zb) | exact HB.out)) hb); clear HB; have HO106 := n0_; have HB := n1_; clear n0_ n1_; (try clear hb); (try clear hb2); (try clear hk); (try clear hi); (try clear ho0)) | ((with_reducible refine gate_dst (N := 5) rfl ?_); refine box_event ?hg (N := 5) ?hd (cs := #[.int .i64 0, .int .i64 0, .slice none 0 0]) (t := 26) ?hr ?_; (case hd => rfl); (case hg => rfl); (case hr => first | (go_simp; done) | (go_simp; rfl)); intro gb107 hg w13 hbox hb; have n0_ := za (Kd.R_below (by (with_reducible repeat (first | apply zl | apply zm | apply zk)); exact HO106.out) hb); have n1_ := za (zv (by repeat (first | (with_reducible first | exact HB.out | apply zc | apply ze | apply zb) | exact HB.out)) hb); have n2_ := za (hbox); have n3_ := za ((by rw [hg]; exact (zn (by repeat (first | (with_reducible first | exact HB.out | apply zc | apply ze | apply zb) | exact HB.out))) : w.heap.size ≤ gb107)); have n4_ := za ((by rw [hg]; exact (zn (by repeat (first | (with_reducible first | exact HB.out | apply zc | apply ze | apply zb) | exact HB.out))) : w.heap.size ≤ gb107)); clear HO106 HB; have HO106 := n0_; have HB := n1_; have BK107 := n2_; have GW107 := n3_; have GE107 := n4_; clear n0_ n1_ n2_ n3_ n4_; clear hb hbox hg; have hcz14_0 : w13.cell? ⟨gb107, 0, none⟩ = some (.int .i64 0) := (zg BK107.out 0).trans rfl; have hcz14_1 : w13.cell? ⟨gb107, 1, none⟩ = some (.int .i64 0) := (zg BK107.out 1).trans rfl; have hcz14_2 : w13.cell? ⟨gb107, 2, none⟩ = some (.slice none 0 0) := (zg BK107.out 2).trans rfl; have hfz14_0 := zj BK107.out 0; have hfz14_1 := zj BK107.out 1; have hfz14_2 := zj BK107.out 2; obtain ⟨Ao15, co15, eo15⟩ := Kd.R_slice HO106.out; subst eo15) | ((with_reducible refine zu (f := 19) rfl ?_); refine goesL_ (some 35) rfl rfl Try.func19 (by kernel_rfl) rfl #[.agg #[.int .i64 t102, .int .i64 t103, .slice Ao15 t104.length co15]] rfl (by (try simp only [List.map_toArray, List.map_cons, List.map_nil]); first | done | rfl | (simp only [List.length_drop, List.length_take]; rfl)) ?_; (with_reducible refine (impl_RefusingRows.calls k t102 t103 _ _ t104 t108 t111 _ ?side1 ?side2 A6.out).mono ?_); (case side1 => refine (zA (e := 3) (base := w.heap.size) (ok := fun k_ => True) (n := t104.length) (c := co15) ?_).2.2; exact (by (with_reducible repeat (first | apply zl | apply zm | apply zk)); exact (zz (zt (p := ⟨gb107, 2, none⟩) (zt (p := ⟨gb107, 1, none⟩) (zt (p := ⟨gb107, 0, none⟩) (Kd.R_types HO106.out BK107.out (by decide)) (fun _ hk => hk.2) (.int .i64 t102)) (fun _ hk => hk.2) (.int .i64 t103)) (fun _ hk => hk.2) (.slice Ao15 t104.length co15)) (fun _ h_ => h_.1)))); (case side2 => exact (zA HO106.out).2.1); rintro e w16 ⟨v109, rfl, ho0, hb⟩; refine ⟨_, rfl, ?_⟩; have n0_ := za (Kd.R_elder' (by (with_reducible repeat (first | apply zl | apply zm | apply zk)); exact (zz (zt (p := ⟨gb107, 2, none⟩) (zt (p := ⟨gb107, 1, none⟩) (zt (p := ⟨gb107, 0, none⟩) (Kd.R_types HO106.out BK107.out (by decide)) (fun _ hk => hk.2) (.int .i64 t102)) (fun _ hk => hk.2) (.int .i64 t103)) (fun _ hk => hk.2) (.slice Ao15 t104.length co15)) (fun _ h_ => h_.1))) (Kd.R_base ho0) hb); have n1_ := za (Kd.R_lower (Kd.R_new' ho0 (Kd.R_lt (by (with_reducible repeat (first | apply zl | apply zm | apply zk)); exact (zz (zt (p := ⟨gb107, 2, none⟩) (zt (p := ⟨gb107, 1, none⟩) (zt (p := ⟨gb107, 0, none⟩) (Kd.R_types HO106.out BK107.out (by decide)) (fun _ hk => hk.2) (.int .i64 t102)) (fun _ hk => hk.2) (.int .i64 t103)) (fun _ hk => hk.2) (.slice Ao15 t104.length co15)) (fun _ h_ => h_.1))))) (zn (by repeat (first | (with_reducible first | exact HB.out | apply zc | apply ze | apply zb | refine zd ?_ GE107.out) | exact HB.out)))); have n2_ := za (zB (g := gb107) (o := .cells #[.int .i64 t102, .int .i64 t103, .slice Ao15 t104.length co15] 26 (0, 0)) (by (with_reducible repeat (first | refine zh ?_ _ | refine zf ?_ | refine zi ?_ _)); refine blk_put (cs := #[.int .i64 t102, .int .i64 t103, .slice none 0 0]) ?_ 2 _ rfl; (with_reducible repeat (first | refine zh ?_ _ | refine zf ?_ | refine zi ?_ _)); refine blk_put (cs := #[.int .i64 t102, .int .i64 0, .slice none 0 0]) ?_ 1 _ rfl; (with_reducible repeat (first | refine zh ?_ _ | refine zf ?_ | refine zi ?_ _)); refine blk_put (cs := #[.int .i64 0, .int .i64 0, .slice none 0 0]) ?_ 0 _ rfl; (with_reducible repeat (first | refine zh ?_ _ | refine zf ?_ | refine zi ?_ _)); exact BK107.out) hb); have n3_ := za (zv (by repeat (first | (with_reducible first | exact HB.out | apply zc | apply ze | apply zb | refine zd ?_ GE107.out) | exact HB.out)) hb); clear HO106 BK107 HB; have HO106 := n0_; have HO110 := n1_; have BK107 := n2_; have HB := n3_; clear n0_ n1_ n2_ n3_; (try clear hb); (try clear hb2); (try clear hk); (try clear hi); (try clear ho0); have hcz17_0 : w16.cell? ⟨gb107, 0, none⟩ = some (.int .i64 t102) := (zg BK107.out 0).trans rfl; have hcz17_1 : w16.cell? ⟨gb107, 1, none⟩ = some (.int .i64 t103) := (zg BK107.out 1).trans rfl; have hcz17_2 : w16.cell? ⟨gb107, 2, none⟩ = some (.slice Ao15 t104.length co15) := (zg BK107.out 2).trans rfl; have hfz17_0 := zj BK107.out 0; have hfz17_1 := zj BK107.out 1; have hfz17_2 := zj BK107.out 2) | ((with_reducible refine zu (f := 20) rfl ?_); refine goesL_ (some 40) rfl rfl Try.func20 (by kernel_rfl) rfl #[.agg #[.int .i64 t102, .int .i64 t103, .slice Ao15 t104.length co15]] rfl (by (try simp only [List.map_toArray, List.map_cons, List.map_nil]); first | done | rfl | (simp only [List.length_drop, List.length_take]; rfl)) ?_; (with_reducible refine (spec_RefusingRows.calls k t102 t103 _ _ t104 t112 t115 _ ?side1 ?side2 A7.out).mono ?_); (case side1 => repeat (first | exact (zA HO106.out).2.2 | (with_reducible refine zw ?_ _) | (with_reducible refine zx ?_ _) | (with_reducible refine zy ?_))); (case side2 => exact (zA HO106.out).2.1); rintro e w18 ⟨v113, rfl, ho0, hb⟩; refine ⟨_, rfl, ?_⟩; have n0_ := za (Kd.R_below (by (with_reducible repeat (first | apply zl | apply zm | apply zk)); exact HO106.out) hb); have n1_ := za (Kd.R_below (by (with_reducible repeat (first | apply zl | apply zm | apply zk)); exact HO110.out) hb); have n2_ := za (Kd.V_lower (Kd.V_mono (ok' := fun k_ => some k_ ≠ (.slice Ao15 t104.length co15 : Value).ownBlock ∧ some k_ ≠ (v109 : Value).ownBlock ∧ k_ ≠ gb107) ho0 (fun k_ hk_ => ⟨(Kd.fresh' (Kd.R_lt (by (with_reducible repeat (first | apply zl | apply zm | apply zk)); exact HO106.out)) k_ hk_), (Kd.fresh' (Kd.R_lt (by (with_reducible repeat (first | apply zl | apply zm | apply zk)); exact HO110.out)) k_ hk_), (Kd.freshB (g := gb107) (o := .cells #[.int .i64 t102, .int .i64 t103, .slice Ao15 t104.length co15] 26 (0, 0)) (by (with_reducible repeat (first | refine zh ?_ _ | refine zf ?_ | refine zi ?_ _)); exact BK107.out) k_ hk_)⟩)) (zn (by repeat (first | (with_reducible first | exact HB.out | apply zc | apply ze | apply zb | refine zd ?_ GE107.out) | exact HB.out)))); have n3_ := za (zB (g := gb107) (o := .cells #[.int .i64 t102, .int .i64 t103, .slice Ao15 t104.length co15] 26 (0, 0)) (by (with_reducible repeat (first | refine zh ?_ _ | refine zf ?_ | refine zi ?_ _)); exact BK107.out) hb); have n4_ := za (zv (by repeat (first | (with_reducible first | exact HB.out | apply zc | apply ze | apply zb | refine zd ?_ GE107.out) | exact HB.out)) hb); clear HO106 HO110; clear BK107 HB; have HO106 := n0_; have HO110 := n1_; have HO114 := n2_; have BK107 := n3_; have HB := n4_; clear n0_ n1_ n2_ n3_ n4_; (try clear hb); (try clear hb2); (try clear hk); (try clear hi); (try clear ho0); have hcz19_0 : w18.cell? ⟨gb107, 0, none⟩ = some (.int .i64 t102) := (zg BK107.out 0).trans rfl; have hcz19_1 : w18.cell? ⟨gb107, 1, none⟩ = some (.int .i64 t103) := (zg BK107.out 1).trans rfl; have hcz19_2 : w18.cell? ⟨gb107, 2, none⟩ = some (.slice Ao15 t104.length co15) := (zg BK107.out 2).trans rfl; have hfz19_0 := zj BK107.out 0; have hfz19_1 := zj BK107.out 1; have hfz19_2 := zj BK107.out 2) | ((with_reducible refine zu (f := 21) rfl ?_); refine goesL_ (some 45) rfl rfl Try.func21 (by kernel_rfl) rfl #[.agg #[.int .i64 t102, .int .i64 t103, .slice Ao15 t104.length co15]] rfl (by (try simp only [List.map_toArray, List.map_cons, List.map_nil]); first | done | rfl | (simp only [List.length_drop, List.length_take]; rfl)) ?_; (with_reducible refine (impl_LackOf.calls k t102 t103 _ _ t104 t116 t117 _ ?side1 ?side2 A8.out).mono ?_); (case side1 => repeat (first | exact (zA HO106.out).2.2 | (with_reducible refine zw ?_ _) | (with_reducible refine zx ?_ _) | (with_reducible refine zy ?_))); (case side2 => exact (zA HO106.out).2.1); rintro e w20 ⟨rfl, hb⟩; refine ⟨_, rfl, ?_⟩; have n0_ := za (Kd.R_below (by (with_reducible repeat (first | apply zl | apply zm | apply zk)); exact HO106.out) hb); have n1_ := za (Kd.R_below (by (with_reducible repeat (first | apply zl | apply zm | apply zk)); exact HO110.out) hb); have n2_ := za (Kd.V_below (by (with_reducible repeat (first | apply Kd.V_alloc | apply Kd.V_drewN | apply Kd.V_drew)); exact HO114.out) hb); have n3_ := za (zB (g := gb107) (o := .cells #[.int .i64 t102, .int .i64 t103, .slice Ao15 t104.length co15] 26 (0, 0)) (by (with_reducible repeat (first | refine zh ?_ _ | refine zf ?_ | refine zi ?_ _)); exact BK107.out) hb); have n4_ := za (zv (by repeat (first | (with_reducible first | exact HB.out | apply zc | apply ze | apply zb | refine zd ?_ GE107.out) | exact HB.out)) hb); clear HO106 HO110; clear HO114 BK107 HB; have HO106 := n0_; have HO110 := n1_; have HO114 := n2_; have BK107 := n3_; have HB := n4_; clear n0_ n1_ n2_ n3_ n4_; (try clear hb); (try clear hb2); (try clear hk); (try clear hi); have hcz21_0 : w20.cell? ⟨gb107, 0, none⟩ = some (.int .i64 t102) := (zg BK107.out 0).trans rfl; have hcz21_1 : w20.cell? ⟨gb107, 1, none⟩ = some (.int .i64 t103) := (zg BK107.out 1).trans rfl; have hcz21_2 : w20.cell? ⟨gb107, 2, none⟩ = some (.slice Ao15 t104.length co15) := (zg BK107.out 2).trans rfl; have hfz21_0 := zj BK107.out 0; have hfz21_1 := zj BK107.out 1; have hfz21_2 := zj BK107.out 2) | ((with_reducible refine zu (f := 22) rfl ?_); refine goesL_ (some 50) rfl rfl Try.func22 (by kernel_rfl) rfl #[.agg #[.int .i64 t102, .int .i64 t103, .slice Ao15 t104.length co15]] rfl (by (try simp only [List.map_toArray, List.map_cons, List.map_nil]); first | done | rfl | (simp only [List.length_drop, List.length_take]; rfl)) ?_; (with_reducible refine (spec_LackOf.calls k t102 t103 _ _ t104 t118 t119 _ ?side1 ?side2 A9.out).mono ?_); (case side1 => repeat (first | exact (zA HO106.out).2.2 | (with_reducible refine zw ?_ _) | (with_reducible refine zx ?_ _) | (with_reducible refine zy ?_))); (case side2 => exact (zA HO106.out).2.1); rintro e w22 ⟨rfl, hb⟩; refine ⟨_, rfl, ?_⟩; have n0_ := za (Kd.R_below (by (with_reducible repeat (first | apply zl | apply zm | apply zk)); exact HO106.out) hb); have n1_ := za (Kd.R_below (by (with_reducible repeat (first | apply zl | apply zm | apply zk)); exact HO110.out) hb); have n2_ := za (Kd.V_below (by (with_reducible repeat (first | apply Kd.V_alloc | apply Kd.V_drewN | apply Kd.V_drew)); exact HO114.out) hb); have n3_ := za (zB (g := gb107) (o := .cells #[.int .i64 t102, .int .i64 t103, .slice Ao15 t104.length co15] 26 (0, 0)) (by (with_reducible repeat (first | refine zh ?_ _ | refine zf ?_ | refine zi ?_ _)); exact BK107.out) hb); have n4_ := za (zv (by repeat (first | (with_reducible first | exact HB.out | apply zc | apply ze | apply zb | refine zd ?_ GE107.out) | exact HB.out)) hb); clear HO106 HO110; clear HO114 BK107 HB; have HO106 := n0_; have HO110 := n1_; have HO114 := n2_; have BK107 := n3_; have HB := n4_; clear n0_ n1_ n2_ n3_ n4_; (try clear hb); (try clear hb2); (try clear hk); (try clear hi); have hcz23_0 : w22.cell? ⟨gb107, 0, none⟩ = some (.int .i64 t102) := (zg BK107.out 0).trans rfl; have hcz23_1 : w22.cell? ⟨gb107, 1, none⟩ = some (.int .i64 t103) := (zg BK107.out 1).trans rfl; have hcz23_2 : w22.cell? ⟨gb107, 2, none⟩ = some (.slice Ao15 t104.length co15) := (zg BK107.out 2).trans rfl; have hfz23_0 := zj BK107.out 0; have hfz23_1 := zj BK107.out 1; have hfz23_2 := zj BK107.out 2) | ((with_reducible refine zu (f := 23) rfl ?_); refine goesL_ (some 55) rfl rfl Try.func23 (by kernel_rfl) rfl #[.agg #[.int .i64 t102, .int .i64 t103, .slice Ao15 t104.length co15]] rfl (by (try simp only [List.map_toArray, List.map_cons, List.map_nil]); first | done | rfl | (simp only [List.length_drop, List.length_take]; rfl)) ?_; (with_reducible refine (impl_MostRooks.calls k t102 t103 _ _ t104 t120 t121 _ ?side1 ?side2 A10.out).mono ?_); (case side1 => repeat (first | exact (zA HO106.out).2.2 | (with_reducible refine zw ?_ _) | (with_reducible refine zx ?_ _) | (with_reducible refine zy ?_))); (case side2 => exact (zA HO106.out).2.1); rintro e w24 ⟨rfl, hb⟩; refine ⟨_, rfl, ?_⟩; have n0_ := za (Kd.R_below (by (with_reducible repeat (first | apply zl | apply zm | apply zk)); exact HO106.out) hb); have n1_ := za (Kd.R_below (by (with_reducible repeat (first | apply zl | apply zm | apply zk)); exact HO110.out) hb); have n2_ := za (Kd.V_below (by (with_reducible repeat (first | apply Kd.V_alloc | apply Kd.V_drewN | apply Kd.V_drew)); exact HO114.out) hb); have n3_ := za (zB (g := gb107) (o := .cells #[.int .i64 t102, .int .i64 t103, .slice Ao15 t104.length co15] 26 (0, 0)) (by (with_reducible repeat (first | refine zh ?_ _ | refine zf ?_ | refine zi ?_ _)); exact BK107.out) hb); have n4_ := za (zv (by repeat (first | (with_reducible first | exact HB.out | apply zc | apply ze | apply zb | refine zd ?_ GE107.out) | exact HB.out)) hb); clear HO106 HO110; clear HO114 BK107 HB; have HO106 := n0_; have HO110 := n1_; have HO114 := n2_; have BK107 := n3_; have HB := n4_; clear n0_ n1_ n2_ n3_ n4_; (try clear hb); (try clear hb2); (try clear hk); (try clear hi)))
  (try simp only [Act.put, List.setIfInBounds_toArray, List.set_cons_zero, List.set_cons_succ])
  go_cut [100] (fun v100 wc => ∃ (kq : Nat) (x100_10 : Bool), v100 = .bool x100_10 ∧ Aside0 (laws_FnRefusingRows.j0 kq l1 t108 t111 x100_10 t102 t103 t104 = some r) ∧ Aside0 (kq ≤ k) ∧ Aside0 (Kd.R (Kd.int .i64) 3 wc w.heap.size (fun k_ => some k_ ≠ ((.slice Ao15 t104.length co15) : Value).ownBlock) v109 t108) ∧ Aside0 (Kd.R (Kd.int .i64) 3 wc w.heap.size (fun k_ => some k_ ≠ (v109 : Value).ownBlock) (.slice Ao15 t104.length co15) t104) ∧ Aside0 (wc.heap[gb107]? = some (.cells #[.int .i64 t102, .int .i64 t103, (.slice Ao15 t104.length co15)] 26 (0, 0))) ∧ Aside0 (Below w.heap.size w wc))
  case first =>
   have H := HC11.out
   clear HC11
   by_cases c25 : (t111 != t115) = true
   ·
    rw [if_pos c25] at H
    have c25b0 : (t111 != t115) = true := c25
    (try (have c25b1 : decide (t111 = t115) = false := by simpa using c25))
    (try (have c25b2 : (t111 == t115) = false := by simpa using c25))
    (try (have c25b3 : ¬ (t111 = t115) := by simpa using c25))
    clear c25
    (first | rw [c25b0] | (simp only [i64_w, i32_w]; rw [c25b0]) | skip)
    have H' := za H
    clear H
    go_wp2
    go_meet
    case rel => exact ⟨_, (true), (by first | rfl | (simp; done) | (simp [*]; done)), H', ⟨by first | omega | exact Nat.le_refl _⟩, ⟨by (with_reducible repeat (first | apply zl | apply zm | apply zk)); exact zz HO110.out (fun _ hk => hk.2)⟩, ⟨by (with_reducible repeat (first | apply zl | apply zm | apply zk)); exact zz HO106.out (fun _ hk => hk.2)⟩, ⟨by (with_reducible repeat (first | refine zh ?_ _ | refine zf ?_ | refine zi ?_ _)); exact BK107.out⟩, ⟨by repeat (first | (with_reducible first | exact HB.out | apply zc | apply ze | apply zb | refine zd ?_ GE107.out) | exact HB.out)⟩⟩
   ·
    rw [if_neg c25] at H
    have c25b0 : (t111 != t115) = false := by simpa using c25
    (try (have c25b1 : decide (t111 = t115) = true := by simpa using c25))
    (try (have c25b2 : (t111 == t115) = true := by simpa using c25))
    clear c25
    (first | rw [c25b0] | (simp only [i64_w, i32_w]; rw [c25b0]) | skip)
    replace H := Option.bind_eq_some_iff.mp H
    obtain ⟨t122, A260, H⟩ := H
    replace H : (if t122 = true then (if (t117 != t119) = true then (laws_FnRefusingRows.j0 k l1 t108 t111 true t102 t103 t104) else (if t116 = t118 then (if (t121 != t117) = true then (laws_FnRefusingRows.j0 k l1 t108 t111 true t102 t103 t104) else (if t117 = true then (if t116 = (wrap64 (t102 - t120)) then (laws_FnRefusingRows.j0 k l1 t108 t111 (t111 != (decide (t120 < t102))) t102 t103 t104) else (laws_FnRefusingRows.j0 k l1 t108 t111 true t102 t103 t104)) else (laws_FnRefusingRows.j0 k l1 t108 t111 false t102 t103 t104))) else (laws_FnRefusingRows.j0 k l1 t108 t111 true t102 t103 t104))) else (laws_FnRefusingRows.j0 k l1 t108 t111 true t102 t103 t104)) = some r := H
    have A26 := za A260
    clear A260
    by_cases c27 : t122 = true
    ·
     subst c27
     have H1 : (if (t117 != t119) = true then (laws_FnRefusingRows.j0 k l1 t108 t111 true t102 t103 t104) else (if t116 = t118 then (if (t121 != t117) = true then (laws_FnRefusingRows.j0 k l1 t108 t111 true t102 t103 t104) else (if t117 = true then (if t116 = (wrap64 (t102 - t120)) then (laws_FnRefusingRows.j0 k l1 t108 t111 (t111 != (decide (t120 < t102))) t102 t103 t104) else (laws_FnRefusingRows.j0 k l1 t108 t111 true t102 t103 t104)) else (laws_FnRefusingRows.j0 k l1 t108 t111 false t102 t103 t104))) else (laws_FnRefusingRows.j0 k l1 t108 t111 true t102 t103 t104))) = some r := by rw [if_pos rfl] at H; exact H
     clear H
     have H := H1
     clear H1
     by_cases c28 : (t117 != t119) = true
     ·
      rw [if_pos c28] at H
      have c28b0 : (t117 != t119) = true := c28
      (try (have c28b1 : decide (t117 = t119) = false := by simpa using c28))
      (try (have c28b2 : (t117 == t119) = false := by simpa using c28))
      (try (have c28b3 : ¬ (t117 = t119) := by simpa using c28))
      clear c28
      have H' := za H
      clear H
      obtain ⟨Ao29, co29, eo29⟩ := Kd.R_slice HO110.out
      subst eo29
      obtain ⟨Ao30, co30, eo30⟩ := Kd.V_slice HO114.out
      subst eo30
      go_wp2_with (first | (go_at_call 24; (with_reducible refine (laws_kSame.calls k _ _ t108 _ _ t112 true _ ?side1 ?side2 ?side3 ?side4 A26.out).mono ?_); (case side1 => repeat (first | exact (zA HO110.out).2.2 | (with_reducible refine zw ?_ _) | (with_reducible refine zx ?_ _) | (with_reducible refine zy ?_))); (case side2 => exact (zA HO110.out).2.1); (case side3 => repeat (first | exact (Kd.V_reads' HO114.out).2.2 | (with_reducible refine zw ?_ _) | (with_reducible refine zx ?_ _) | (with_reducible refine zy ?_))); (case side4 => exact (Kd.V_reads' HO114.out).2.1); rintro e w' ⟨rfl, ⟨nd, rfl⟩⟩))
      go_meet
      case rel => exact ⟨_, (true), (by first | rfl | (simp; done) | (simp [*]; done)), H', ⟨by first | omega | exact Nat.le_refl _⟩, ⟨by (with_reducible repeat (first | apply zl | apply zm | apply zk)); exact zz HO110.out (fun _ hk => hk.2)⟩, ⟨by (with_reducible repeat (first | apply zl | apply zm | apply zk)); exact zz HO106.out (fun _ hk => hk.2)⟩, ⟨by (with_reducible repeat (first | refine zh ?_ _ | refine zf ?_ | refine zi ?_ _)); exact BK107.out⟩, ⟨by repeat (first | (with_reducible first | exact HB.out | apply zc | apply ze | apply zb | refine zd ?_ GE107.out) | exact HB.out)⟩⟩
     ·
      rw [if_neg c28] at H
      have c28b0 : (t117 != t119) = false := by simpa using c28
      (try (have c28b1 : decide (t117 = t119) = true := by simpa using c28))
      (try (have c28b2 : (t117 == t119) = true := by simpa using c28))
      clear c28
      by_cases c31 : t116 = t118
      ·
       rw [if_pos c31] at H
       have c31b0 : (t116 == t118) = true := beq_iff_eq.mpr c31
       have c31b1 : (t116 != t118) = false := bne_eq_false_iff_eq.mpr c31
       clear c31
       by_cases c32 : (t121 != t117) = true
       ·
        rw [if_pos c32] at H
        have c32b0 : (t121 != t117) = true := c32
        (try (have c32b1 : decide (t121 = t117) = false := by simpa using c32))
        (try (have c32b2 : (t121 == t117) = false := by simpa using c32))
        (try (have c32b3 : ¬ (t121 = t117) := by simpa using c32))
        clear c32
        have H' := za H
        clear H
        obtain ⟨Ao33, co33, eo33⟩ := Kd.R_slice HO110.out
        subst eo33
        obtain ⟨Ao34, co34, eo34⟩ := Kd.V_slice HO114.out
        subst eo34
        go_wp2_with (first | (go_at_call 24; (with_reducible refine (laws_kSame.calls k _ _ t108 _ _ t112 true _ ?side1 ?side2 ?side3 ?side4 A26.out).mono ?_); (case side1 => repeat (first | exact (zA HO110.out).2.2 | (with_reducible refine zw ?_ _) | (with_reducible refine zx ?_ _) | (with_reducible refine zy ?_))); (case side2 => exact (zA HO110.out).2.1); (case side3 => repeat (first | exact (Kd.V_reads' HO114.out).2.2 | (with_reducible refine zw ?_ _) | (with_reducible refine zx ?_ _) | (with_reducible refine zy ?_))); (case side4 => exact (Kd.V_reads' HO114.out).2.1); rintro e w' ⟨rfl, ⟨nd, rfl⟩⟩))
        go_meet
        case rel => exact ⟨_, (true), (by first | rfl | (simp; done) | (simp [*]; done)), H', ⟨by first | omega | exact Nat.le_refl _⟩, ⟨by (with_reducible repeat (first | apply zl | apply zm | apply zk)); exact zz HO110.out (fun _ hk => hk.2)⟩, ⟨by (with_reducible repeat (first | apply zl | apply zm | apply zk)); exact zz HO106.out (fun _ hk => hk.2)⟩, ⟨by (with_reducible repeat (first | refine zh ?_ _ | refine zf ?_ | refine zi ?_ _)); exact BK107.out⟩, ⟨by repeat (first | (with_reducible first | exact HB.out | apply zc | apply ze | apply zb | refine zd ?_ GE107.out) | exact HB.out)⟩⟩
       ·
        rw [if_neg c32] at H
        have c32b0 : (t121 != t117) = false := by simpa using c32
        (try (have c32b1 : decide (t121 = t117) = true := by simpa using c32))
        (try (have c32b2 : (t121 == t117) = true := by simpa using c32))
        clear c32
        by_cases c35 : t117 = true
        ·
         subst c35
         have H1 : (if t116 = (wrap64 (t102 - t120)) then (laws_FnRefusingRows.j0 k l1 t108 t111 (t111 != (decide (t120 < t102))) t102 t103 t104) else (laws_FnRefusingRows.j0 k l1 t108 t111 true t102 t103 t104)) = some r := by rw [if_pos rfl] at H; exact H
         clear H
         have H := H1
         clear H1
         by_cases c36 : t116 = (wrap64 (t102 - t120))
         ·
          rw [if_pos c36] at H
          have c36b0 : (t116 == (wrap64 (t102 - t120))) = true := beq_iff_eq.mpr c36
          have c36b1 : (t116 != (wrap64 (t102 - t120))) = false := bne_eq_false_iff_eq.mpr c36
          clear c36
          have H' := za H
          clear H
          obtain ⟨Ao37, co37, eo37⟩ := Kd.R_slice HO110.out
          subst eo37
          obtain ⟨Ao38, co38, eo38⟩ := Kd.V_slice HO114.out
          subst eo38
          go_wp2_with (first | (go_at_call 24; (with_reducible refine (laws_kSame.calls k _ _ t108 _ _ t112 true _ ?side1 ?side2 ?side3 ?side4 A26.out).mono ?_); (case side1 => repeat (first | exact (zA HO110.out).2.2 | (with_reducible refine zw ?_ _) | (with_reducible refine zx ?_ _) | (with_reducible refine zy ?_))); (case side2 => exact (zA HO110.out).2.1); (case side3 => repeat (first | exact (Kd.V_reads' HO114.out).2.2 | (with_reducible refine zw ?_ _) | (with_reducible refine zx ?_ _) | (with_reducible refine zy ?_))); (case side4 => exact (Kd.V_reads' HO114.out).2.1); rintro e w' ⟨rfl, ⟨nd, rfl⟩⟩; have hcz39_0 : w24.cell? ⟨gb107, 0, none⟩ = some (.int .i64 t102) := (zg BK107.out 0).trans rfl; have hcz39_1 : w24.cell? ⟨gb107, 1, none⟩ = some (.int .i64 t103) := (zg BK107.out 1).trans rfl; have hcz39_2 : w24.cell? ⟨gb107, 2, none⟩ = some (.slice Ao15 t104.length co15) := (zg BK107.out 2).trans rfl; have hfz39_0 := zj BK107.out 0; have hfz39_1 := zj BK107.out 1; have hfz39_2 := zj BK107.out 2))
          go_meet
          case rel => exact ⟨_, ((t111 != (decide (t120 < t102)))), (by first | rfl | (simp; done) | (simp [*]; done)), H', ⟨by first | omega | exact Nat.le_refl _⟩, ⟨by (with_reducible repeat (first | apply zl | apply zm | apply zk)); exact zz HO110.out (fun _ hk => hk.2)⟩, ⟨by (with_reducible repeat (first | apply zl | apply zm | apply zk)); exact zz HO106.out (fun _ hk => hk.2)⟩, ⟨by (with_reducible repeat (first | refine zh ?_ _ | refine zf ?_ | refine zi ?_ _)); exact BK107.out⟩, ⟨by repeat (first | (with_reducible first | exact HB.out | apply zc | apply ze | apply zb | refine zd ?_ GE107.out) | exact HB.out)⟩⟩
         ·
          rw [if_neg c36] at H
          have c36b0 : (t116 == (wrap64 (t102 - t120))) = false := beq_eq_false_iff_ne.mpr c36
          have c36b1 : (t116 != (wrap64 (t102 - t120))) = true := bne_iff_ne.mpr c36
          have H' := za H
          clear H
          obtain ⟨Ao40, co40, eo40⟩ := Kd.R_slice HO110.out
          subst eo40
          obtain ⟨Ao41, co41, eo41⟩ := Kd.V_slice HO114.out
          subst eo41
          go_wp2_with (first | (go_at_call 24; (with_reducible refine (laws_kSame.calls k _ _ t108 _ _ t112 true _ ?side1 ?side2 ?side3 ?side4 A26.out).mono ?_); (case side1 => repeat (first | exact (zA HO110.out).2.2 | (with_reducible refine zw ?_ _) | (with_reducible refine zx ?_ _) | (with_reducible refine zy ?_))); (case side2 => exact (zA HO110.out).2.1); (case side3 => repeat (first | exact (Kd.V_reads' HO114.out).2.2 | (with_reducible refine zw ?_ _) | (with_reducible refine zx ?_ _) | (with_reducible refine zy ?_))); (case side4 => exact (Kd.V_reads' HO114.out).2.1); rintro e w' ⟨rfl, ⟨nd, rfl⟩⟩; have hcz42_0 : w24.cell? ⟨gb107, 0, none⟩ = some (.int .i64 t102) := (zg BK107.out 0).trans rfl; have hcz42_1 : w24.cell? ⟨gb107, 1, none⟩ = some (.int .i64 t103) := (zg BK107.out 1).trans rfl; have hcz42_2 : w24.cell? ⟨gb107, 2, none⟩ = some (.slice Ao15 t104.length co15) := (zg BK107.out 2).trans rfl; have hfz42_0 := zj BK107.out 0; have hfz42_1 := zj BK107.out 1; have hfz42_2 := zj BK107.out 2))
          go_meet
          case rel => exact ⟨_, (true), (by first | rfl | (simp; done) | (simp [*]; done)), H', ⟨by first | omega | exact Nat.le_refl _⟩, ⟨by (with_reducible repeat (first | apply zl | apply zm | apply zk)); exact zz HO110.out (fun _ hk => hk.2)⟩, ⟨by (with_reducible repeat (first | apply zl | apply zm | apply zk)); exact zz HO106.out (fun _ hk => hk.2)⟩, ⟨by (with_reducible repeat (first | refine zh ?_ _ | refine zf ?_ | refine zi ?_ _)); exact BK107.out⟩, ⟨by repeat (first | (with_reducible first | exact HB.out | apply zc | apply ze | apply zb | refine zd ?_ GE107.out) | exact HB.out)⟩⟩
        ·
         replace c35 := Bool.eq_false_iff.mpr c35
         subst c35
         have H1 : (laws_FnRefusingRows.j0 k l1 t108 t111 false t102 t103 t104) = some r := by rw [if_neg (show ¬ (false = true) by decide)] at H; exact H
         clear H
         have H := H1
         clear H1
         have H' := za H
         clear H
         obtain ⟨Ao43, co43, eo43⟩ := Kd.R_slice HO110.out
         subst eo43
         obtain ⟨Ao44, co44, eo44⟩ := Kd.V_slice HO114.out
         subst eo44
         go_wp2_with (first | (go_at_call 24; (with_reducible refine (laws_kSame.calls k _ _ t108 _ _ t112 true _ ?side1 ?side2 ?side3 ?side4 A26.out).mono ?_); (case side1 => repeat (first | exact (zA HO110.out).2.2 | (with_reducible refine zw ?_ _) | (with_reducible refine zx ?_ _) | (with_reducible refine zy ?_))); (case side2 => exact (zA HO110.out).2.1); (case side3 => repeat (first | exact (Kd.V_reads' HO114.out).2.2 | (with_reducible refine zw ?_ _) | (with_reducible refine zx ?_ _) | (with_reducible refine zy ?_))); (case side4 => exact (Kd.V_reads' HO114.out).2.1); rintro e w' ⟨rfl, ⟨nd, rfl⟩⟩))
         go_meet
         case rel => exact ⟨_, (false), (by first | rfl | (simp; done) | (simp [*]; done)), H', ⟨by first | omega | exact Nat.le_refl _⟩, ⟨by (with_reducible repeat (first | apply zl | apply zm | apply zk)); exact zz HO110.out (fun _ hk => hk.2)⟩, ⟨by (with_reducible repeat (first | apply zl | apply zm | apply zk)); exact zz HO106.out (fun _ hk => hk.2)⟩, ⟨by (with_reducible repeat (first | refine zh ?_ _ | refine zf ?_ | refine zi ?_ _)); exact BK107.out⟩, ⟨by repeat (first | (with_reducible first | exact HB.out | apply zc | apply ze | apply zb | refine zd ?_ GE107.out) | exact HB.out)⟩⟩
      ·
       rw [if_neg c31] at H
       have c31b0 : (t116 == t118) = false := beq_eq_false_iff_ne.mpr c31
       have c31b1 : (t116 != t118) = true := bne_iff_ne.mpr c31
       have H' := za H
       clear H
       obtain ⟨Ao45, co45, eo45⟩ := Kd.R_slice HO110.out
       subst eo45
       obtain ⟨Ao46, co46, eo46⟩ := Kd.V_slice HO114.out
       subst eo46
       go_wp2_with (first | (go_at_call 24; (with_reducible refine (laws_kSame.calls k _ _ t108 _ _ t112 true _ ?side1 ?side2 ?side3 ?side4 A26.out).mono ?_); (case side1 => repeat (first | exact (zA HO110.out).2.2 | (with_reducible refine zw ?_ _) | (with_reducible refine zx ?_ _) | (with_reducible refine zy ?_))); (case side2 => exact (zA HO110.out).2.1); (case side3 => repeat (first | exact (Kd.V_reads' HO114.out).2.2 | (with_reducible refine zw ?_ _) | (with_reducible refine zx ?_ _) | (with_reducible refine zy ?_))); (case side4 => exact (Kd.V_reads' HO114.out).2.1); rintro e w' ⟨rfl, ⟨nd, rfl⟩⟩))
       go_meet
       case rel => exact ⟨_, (true), (by first | rfl | (simp; done) | (simp [*]; done)), H', ⟨by first | omega | exact Nat.le_refl _⟩, ⟨by (with_reducible repeat (first | apply zl | apply zm | apply zk)); exact zz HO110.out (fun _ hk => hk.2)⟩, ⟨by (with_reducible repeat (first | apply zl | apply zm | apply zk)); exact zz HO106.out (fun _ hk => hk.2)⟩, ⟨by (with_reducible repeat (first | refine zh ?_ _ | refine zf ?_ | refine zi ?_ _)); exact BK107.out⟩, ⟨by repeat (first | (with_reducible first | exact HB.out | apply zc | apply ze | apply zb | refine zd ?_ GE107.out) | exact HB.out)⟩⟩
    ·
     replace c27 := Bool.eq_false_iff.mpr c27
     subst c27
     have H1 : (laws_FnRefusingRows.j0 k l1 t108 t111 true t102 t103 t104) = some r := by rw [if_neg (show ¬ (false = true) by decide)] at H; exact H
     clear H
     have H := H1
     clear H1
     have H' := za H
     clear H
     obtain ⟨Ao47, co47, eo47⟩ := Kd.R_slice HO110.out
     subst eo47
     obtain ⟨Ao48, co48, eo48⟩ := Kd.V_slice HO114.out
     subst eo48
     go_wp2_with (first | (go_at_call 24; (with_reducible refine (laws_kSame.calls k _ _ t108 _ _ t112 false _ ?side1 ?side2 ?side3 ?side4 A26.out).mono ?_); (case side1 => repeat (first | exact (zA HO110.out).2.2 | (with_reducible refine zw ?_ _) | (with_reducible refine zx ?_ _) | (with_reducible refine zy ?_))); (case side2 => exact (zA HO110.out).2.1); (case side3 => repeat (first | exact (Kd.V_reads' HO114.out).2.2 | (with_reducible refine zw ?_ _) | (with_reducible refine zx ?_ _) | (with_reducible refine zy ?_))); (case side4 => exact (Kd.V_reads' HO114.out).2.1); rintro e w' ⟨rfl, ⟨nd, rfl⟩⟩))
     go_meet
     case rel => exact ⟨_, (true), (by first | rfl | (simp; done) | (simp [*]; done)), H', ⟨by first | omega | exact Nat.le_refl _⟩, ⟨by (with_reducible repeat (first | apply zl | apply zm | apply zk)); exact zz HO110.out (fun _ hk => hk.2)⟩, ⟨by (with_reducible repeat (first | apply zl | apply zm | apply zk)); exact zz HO106.out (fun _ hk => hk.2)⟩, ⟨by (with_reducible repeat (first | refine zh ?_ _ | refine zf ?_ | refine zi ?_ _)); exact BK107.out⟩, ⟨by repeat (first | (with_reducible first | exact HB.out | apply zc | apply ze | apply zb | refine zd ?_ GE107.out) | exact HB.out)⟩⟩
  case rest =>
   clear HC11
   try clear c1
   try clear c2
   try clear p2
   try clear c3
   try clear c4
   try clear p6
   try clear c17
   try clear c18
   try clear c19
   try clear c20
   try clear c21
   try clear c22
   try clear c23
   try clear c25
   try clear c25b0
   try clear c25b1
   try clear c25b2
   try clear c27
   try clear c28
   try clear c28b0
   try clear c28b1
   try clear c28b2
   try clear c31
   try clear c31b0
   try clear c31b1
   try clear c32
   try clear c32b0
   try clear c32b1
   try clear c32b2
   try clear c35
   try clear c36
   try clear c36b0
   try clear c36b1
   try clear hcz14_0
   try clear hcz14_1
   try clear hcz14_2
   try clear hcz17_0
   try clear hcz17_1
   try clear hcz17_2
   try clear hcz19_0
   try clear hcz19_1
   try clear hcz19_2
   try clear hcz21_0
   try clear hcz21_1
   try clear hcz21_2
   try clear hcz23_0
   try clear hcz23_1
   try clear hcz23_2
   try clear hcz39_0
   try clear hcz39_1
   try clear hcz39_2
   try clear hcz42_0
   try clear hcz42_1
   try clear hcz42_2
   try clear hfz14_0
   try clear hfz14_1
   try clear hfz14_2
   try clear hfz17_0
   try clear hfz17_1
   try clear hfz17_2
   try clear hfz19_0
   try clear hfz19_1
   try clear hfz19_2
   try clear hfz21_0
   try clear hfz21_1
   try clear hfz21_2
   try clear hfz23_0
   try clear hfz23_1
   try clear hfz23_2
   try clear hfz39_0
   try clear hfz39_1
   try clear hfz39_2
   try clear hfz42_0
   try clear hfz42_1
   try clear hfz42_2
   obtain ⟨kq, x100_10, rfl, HA, HJ10, HO_6, HO_108002, BK107, HB⟩ := hcut
   cases kq with
   | zero => exact absurd HA.out (by simp [laws_FnRefusingRows.j0])
   | succ kj10 =>
    have H := HA.out
    clear HA
    simp only [laws_FnRefusingRows.j0] at H
    by_cases c49 : x100_10 = true
    ·
     subst c49
     have H1 : (some false) = some r := by rw [if_pos rfl] at H; exact H
     clear H
     have H := H1
     clear H1
     obtain rfl := Option.some.inj H
     go_wp2
     go_ret
     exact ⟨by first | rfl | (simp [errW_none, errW_some] <;> rfl) | (simp [*, errW_none, errW_some] <;> rfl), by repeat (first | (with_reducible first | exact HB.out | apply zc | apply ze | apply zb | refine zd ?_ GE107.out) | exact HB.out)⟩
    ·
     replace c49 := Bool.eq_false_iff.mpr c49
     subst c49
     have H1 : (if t111 = true then ((impl_ColumnsOf.f kj10 t102 t103 t104 t108).bind fun bt123 => (if bt123.2 = true then (laws_FnRefusingRows.j1 kj10 l1 t108 (decide ((bt123.1.length : Int) ≥ (t108.length : Int))) t102 t103 t104) else (laws_FnRefusingRows.j1 kj10 l1 t108 true t102 t103 t104))) else (laws_FnRefusingRows.j3 kj10 l1)) = some r := by rw [if_neg (show ¬ (false = true) by decide)] at H; exact H
     clear H
     have H := H1
     clear H1
     have HC50 := za H
     clear H
     go_upto_if 101 with (fail)
     go_cut [] (fun wc => ∃ (kq : Nat), Aside0 (laws_FnRefusingRows.j3 kq l1 = some r) ∧ Aside0 (kq ≤ kj10) ∧ Aside0 (Kd.R (Kd.int .i64) 3 wc w.heap.size (fun _ => True) (.slice Ao15 t104.length co15) t104) ∧ Aside0 (wc.heap[gb107]? = some (.cells #[.int .i64 t102, .int .i64 t103, (.slice Ao15 t104.length co15)] 26 (0, 0))) ∧ Aside0 (Below w.heap.size w wc))
     case first =>
      have H := HC50.out
      clear HC50
      by_cases c51 : t111 = true
      ·
       subst c51
       have H1 : ((impl_ColumnsOf.f kj10 t102 t103 t104 t108).bind fun bt123 => (if bt123.2 = true then (laws_FnRefusingRows.j1 kj10 l1 t108 (decide ((bt123.1.length : Int) ≥ (t108.length : Int))) t102 t103 t104) else (laws_FnRefusingRows.j1 kj10 l1 t108 true t102 t103 t104))) = some r := by rw [if_pos rfl] at H; exact H
       clear H
       have H := H1
       clear H1
       replace H := Option.bind_eq_some_iff.mp H
       obtain ⟨⟨t123, t126⟩, A520, H⟩ := H
       replace H : (if t126 = true then (laws_FnRefusingRows.j1 kj10 l1 t108 (decide ((t123.length : Int) ≥ (t108.length : Int))) t102 t103 t104) else (laws_FnRefusingRows.j1 kj10 l1 t108 true t102 t103 t104)) = some r := H
       have A52 := za A520
       clear A520
       have HC53 := za H
       clear H
       have hcz54_0 : wc.cell? ⟨gb107, 0, none⟩ = some (.int .i64 t102) := (zg BK107.out 0).trans rfl
       have hcz54_1 : wc.cell? ⟨gb107, 1, none⟩ = some (.int .i64 t103) := (zg BK107.out 1).trans rfl
       have hcz54_2 : wc.cell? ⟨gb107, 2, none⟩ = some (.slice Ao15 t104.length co15) := (zg BK107.out 2).trans rfl
       have hfz54_0 := zj BK107.out 0
       have hfz54_1 := zj BK107.out 1
       have hfz54_2 := zj BK107.out 2
       obtain ⟨Ao55, co55, eo55⟩ := Kd.R_slice HO_6.out
       subst eo55
       go_upto_region 13 with (first | ((with_reducible refine zu (f := 25) rfl ?_); refine goesL_ (some 105) rfl rfl Try.func25 (by kernel_rfl) rfl #[.agg #[.int .i64 t102, .int .i64 t103, .slice Ao15 t104.length co15], .slice Ao55 t108.length co55] rfl (by (try simp only [List.map_toArray, List.map_cons, List.map_nil]); first | done | rfl | (simp only [List.length_drop, List.length_take]; rfl)) ?_; (with_reducible refine (impl_ColumnsOf.calls kj10 t102 t103 _ _ t104 _ _ t108 t123 t126 _ ?side1 ?side2 ?side3 ?side4 A52.out).mono ?_); (case side1 => repeat (first | exact (zA HO_108002.out).2.2 | (with_reducible refine zw ?_ _) | (with_reducible refine zx ?_ _) | (with_reducible refine zy ?_))); (case side2 => exact (zA HO_108002.out).2.1); (case side3 => repeat (first | exact (zA HO_6.out).2.2 | (with_reducible refine zw ?_ _) | (with_reducible refine zx ?_ _) | (with_reducible refine zy ?_))); (case side4 => exact (zA HO_6.out).2.1); rintro e w56 ⟨v124, rfl, ho0, hb⟩; refine ⟨_, rfl, ?_⟩; have n0_ := za (Kd.R_elder' (by (with_reducible repeat (first | apply zl | apply zm | apply zk)); exact HO_6.out) (Kd.R_base ho0) hb); have n1_ := za (Kd.R_elder' (by (with_reducible repeat (first | apply zl | apply zm | apply zk)); exact HO_108002.out) (Kd.R_base ho0) hb); have n2_ := za (Kd.R_lower (Kd.R_new' (Kd.R_new' ho0 (Kd.R_lt (by (with_reducible repeat (first | apply zl | apply zm | apply zk)); exact HO_6.out))) (Kd.R_lt (by (with_reducible repeat (first | apply zl | apply zm | apply zk)); exact HO_108002.out))) (zn (by repeat (first | (with_reducible first | exact HB.out | apply zc | apply ze | apply zb | refine zd ?_ GE107.out) | exact HB.out)))); have n3_ := za (zB (g := gb107) (o := .cells #[.int .i64 t102, .int .i64 t103, .slice Ao15 t104.length co15] 26 (0, 0)) (by (with_reducible repeat (first | refine zh ?_ _ | refine zf ?_ | refine zi ?_ _)); exact BK107.out) hb); have n4_ := za (zv (by repeat (first | (with_reducible first | exact HB.out | apply zc | apply ze | apply zb | refine zd ?_ GE107.out) | exact HB.out)) hb); clear HO_6 HO_108002; clear BK107 HB; have HO_6 := n0_; have HO_108002 := n1_; have HO125 := n2_; have BK107 := n3_; have HB := n4_; clear n0_ n1_ n2_ n3_ n4_; (try clear hb); (try clear hb2); (try clear hk); (try clear hi); (try clear ho0)))
       (try simp only [Act.put, List.setIfInBounds_toArray, List.set_cons_zero, List.set_cons_succ])
       go_cut [116] (fun v116 wc => ∃ (kq : Nat) (x116_52 : Bool), v116 = .bool x116_52 ∧ Aside0 (laws_FnRefusingRows.j1 kq l1 t108 x116_52 t102 t103 t104 = some r) ∧ Aside0 (kq ≤ kj10) ∧ Aside0 (Kd.R (Kd.int .i64) 3 wc w.heap.size (fun k_ => some k_ ≠ ((.slice Ao15 t104.length co15) : Value).ownBlock) (.slice Ao55 t108.length co55) t108) ∧ Aside0 (Kd.R (Kd.int .i64) 3 wc w.heap.size (fun k_ => some k_ ≠ ((.slice Ao55 t108.length co55) : Value).ownBlock) (.slice Ao15 t104.length co15) t104) ∧ Aside0 (wc.heap[gb107]? = some (.cells #[.int .i64 t102, .int .i64 t103, (.slice Ao15 t104.length co15)] 26 (0, 0))) ∧ Aside0 (Below w.heap.size w wc))
       case first =>
        have H := HC53.out
        clear HC53
        by_cases c57 : t126 = true
        ·
         subst c57
         have H1 : (laws_FnRefusingRows.j1 kj10 l1 t108 (decide ((t123.length : Int) ≥ (t108.length : Int))) t102 t103 t104) = some r := by rw [if_pos rfl] at H; exact H
         clear H
         have H := H1
         clear H1
         have H' := za H
         clear H
         obtain ⟨Ao58, co58, eo58⟩ := Kd.R_slice HO125.out
         subst eo58
         go_wp2
         go_meet
         case rel => exact ⟨_, (decide ((t123.length : Int) ≥ (t108.length : Int))), (by first | rfl | (simp; done) | (simp [*]; done)), H', ⟨by have := HJ10.out; first | omega | exact Nat.le_refl _⟩, ⟨by (with_reducible repeat (first | apply zl | apply zm | apply zk)); exact zz HO_6.out (fun _ hk => hk.1)⟩, ⟨by (with_reducible repeat (first | apply zl | apply zm | apply zk)); exact zz HO_108002.out (fun _ hk => hk.1)⟩, ⟨by (with_reducible repeat (first | refine zh ?_ _ | refine zf ?_ | refine zi ?_ _)); exact BK107.out⟩, ⟨by repeat (first | (with_reducible first | exact HB.out | apply zc | apply ze | apply zb | refine zd ?_ GE107.out) | exact HB.out)⟩⟩
        ·
         replace c57 := Bool.eq_false_iff.mpr c57
         subst c57
         have H1 : (laws_FnRefusingRows.j1 kj10 l1 t108 true t102 t103 t104) = some r := by rw [if_neg (show ¬ (false = true) by decide)] at H; exact H
         clear H
         have H := H1
         clear H1
         have H' := za H
         clear H
         go_wp2
         go_meet
         case rel => exact ⟨_, (true), (by first | rfl | (simp; done) | (simp [*]; done)), H', ⟨by have := HJ10.out; first | omega | exact Nat.le_refl _⟩, ⟨by (with_reducible repeat (first | apply zl | apply zm | apply zk)); exact zz HO_6.out (fun _ hk => hk.1)⟩, ⟨by (with_reducible repeat (first | apply zl | apply zm | apply zk)); exact zz HO_108002.out (fun _ hk => hk.1)⟩, ⟨by (with_reducible repeat (first | refine zh ?_ _ | refine zf ?_ | refine zi ?_ _)); exact BK107.out⟩, ⟨by repeat (first | (with_reducible first | exact HB.out | apply zc | apply ze | apply zb | refine zd ?_ GE107.out) | exact HB.out)⟩⟩
       case rest =>
        clear HC53
        try clear c1
        try clear c2
        try clear p2
        try clear c3
        try clear c4
        try clear c5
        try clear p6
        try clear c17
        try clear c18
        try clear c19
        try clear c20
        try clear c21
        try clear c22
        try clear c23
        try clear c25
        try clear c25b0
        try clear c25b1
        try clear c25b2
        try clear c27
        try clear c28
        try clear c28b0
        try clear c28b1
        try clear c28b2
        try clear c31
        try clear c31b0
        try clear c31b1
        try clear c32
        try clear c32b0
        try clear c32b1
        try clear c32b2
        try clear c35
        try clear c36
        try clear c36b0
        try clear c36b1
        try clear c49
        try clear c51
        try clear c57
        try clear hcz14_0
        try clear hcz14_1
        try clear hcz14_2
        try clear hcz17_0
        try clear hcz17_1
        try clear hcz17_2
        try clear hcz19_0
        try clear hcz19_1
        try clear hcz19_2
        try clear hcz21_0
        try clear hcz21_1
        try clear hcz21_2
        try clear hcz23_0
        try clear hcz23_1
        try clear hcz23_2
        try clear hcz39_0
        try clear hcz39_1
        try clear hcz39_2
        try clear hcz42_0
        try clear hcz42_1
        try clear hcz42_2
        try clear hcz54_0
        try clear hcz54_1
        try clear hcz54_2
        try clear hfz14_0
        try clear hfz14_1
        try clear hfz14_2
        try clear hfz17_0
        try clear hfz17_1
        try clear hfz17_2
        try clear hfz19_0
        try clear hfz19_1
        try clear hfz19_2
        try clear hfz21_0
        try clear hfz21_1
        try clear hfz21_2
        try clear hfz23_0
        try clear hfz23_1
        try clear hfz23_2
        try clear hfz39_0
        try clear hfz39_1
        try clear hfz39_2
        try clear hfz42_0
        try clear hfz42_1
        try clear hfz42_2
        try clear hfz54_0
        try clear hfz54_1
        try clear hfz54_2
        try clear p2
        try clear p6
        obtain ⟨kq, x116_52, rfl, HA, HJ52, HO_6, HO_108002, BK107, HB⟩ := hcut
        cases kq with
        | zero => exact absurd HA.out (by simp [laws_FnRefusingRows.j1])
        | succ kj52 =>
         have H := HA.out
         clear HA
         simp only [laws_FnRefusingRows.j1] at H
         by_cases c59 : x116_52 = true
         ·
          subst c59
          have H1 : (some false) = some r := by rw [if_pos rfl] at H; exact H
          clear H
          have H := H1
          clear H1
          obtain rfl := Option.some.inj H
          go_wp2
          go_ret
          exact ⟨by first | rfl | (simp [errW_none, errW_some] <;> rfl) | (simp [*, errW_none, errW_some] <;> rfl), by repeat (first | (with_reducible first | exact HB.out | apply zc | apply ze | apply zb | refine zd ?_ GE107.out) | exact HB.out)⟩
         ·
          replace c59 := Bool.eq_false_iff.mpr c59
          subst c59
          have H1 : (laws_FnRefusingRows.l0 kj52 l1 t108 (t108.length : Int) 0 t102 t103 t104) = some r := by rw [if_neg (show ¬ (false = true) by decide)] at H; exact H
          clear H
          have H := H1
          clear H1
          have H' := za H
          clear H
          go_wp2
          go_loopg [119] kj52 (fun kq v119 w' => ∃ (x119_3 : Int), v119 = .int .i64 x119_3 ∧ Aside0 (laws_FnRefusingRows.l0 kq l1 t108 (t108.length : Int) x119_3 t102 t103 t104 = some r) ∧ Aside0 (kq ≤ kj52) ∧ Aside0 (Kd.R (Kd.int .i64) 3 w' w.heap.size (fun k_ => some k_ ≠ ((.slice Ao15 t104.length co15) : Value).ownBlock) (.slice Ao55 t108.length co55) t108) ∧ Aside0 (Kd.R (Kd.int .i64) 3 w' w.heap.size (fun k_ => some k_ ≠ ((.slice Ao55 t108.length co55) : Value).ownBlock) (.slice Ao15 t104.length co15) t104) ∧ Aside0 (w'.heap[gb107]? = some (.cells #[.int .i64 t102, .int .i64 t103, (.slice Ao15 t104.length co15)] 26 (0, 0))) ∧ Aside0 (Below w.heap.size w w'))
          case atStart => exact ⟨(0), (by first | rfl | (simp; done) | (simp [*]; done)), H', ⟨Nat.le_refl _⟩, ⟨by (with_reducible repeat (first | apply zl | apply zm | apply zk)); exact HO_6.out⟩, ⟨by (with_reducible repeat (first | apply zl | apply zm | apply zk)); exact HO_108002.out⟩, ⟨by (with_reducible repeat (first | refine zh ?_ _ | refine zf ?_ | refine zi ?_ _)); exact BK107.out⟩, ⟨by repeat (first | (with_reducible first | exact HB.out | apply zc | apply ze | apply zb | refine zd ?_ GE107.out) | exact HB.out)⟩⟩
          case round =>
           clear H'
           try clear c1
           try clear c2
           try clear p2
           try clear c3
           try clear c4
           try clear c5
           try clear p6
           try clear c17
           try clear c18
           try clear c19
           try clear c20
           try clear c21
           try clear c22
           try clear c23
           try clear c25
           try clear c25b0
           try clear c25b1
           try clear c25b2
           try clear c27
           try clear c28
           try clear c28b0
           try clear c28b1
           try clear c28b2
           try clear c31
           try clear c31b0
           try clear c31b1
           try clear c32
           try clear c32b0
           try clear c32b1
           try clear c32b2
           try clear c35
           try clear c36
           try clear c36b0
           try clear c36b1
           try clear c49
           try clear c51
           try clear c57
           try clear c59
           try clear hcz14_0
           try clear hcz14_1
           try clear hcz14_2
           try clear hcz17_0
           try clear hcz17_1
           try clear hcz17_2
           try clear hcz19_0
           try clear hcz19_1
           try clear hcz19_2
           try clear hcz21_0
           try clear hcz21_1
           try clear hcz21_2
           try clear hcz23_0
           try clear hcz23_1
           try clear hcz23_2
           try clear hcz39_0
           try clear hcz39_1
           try clear hcz39_2
           try clear hcz42_0
           try clear hcz42_1
           try clear hcz42_2
           try clear hcz54_0
           try clear hcz54_1
           try clear hcz54_2
           try clear hfz14_0
           try clear hfz14_1
           try clear hfz14_2
           try clear hfz17_0
           try clear hfz17_1
           try clear hfz17_2
           try clear hfz19_0
           try clear hfz19_1
           try clear hfz19_2
           try clear hfz21_0
           try clear hfz21_1
           try clear hfz21_2
           try clear hfz23_0
           try clear hfz23_1
           try clear hfz23_2
           try clear hfz39_0
           try clear hfz39_1
           try clear hfz39_2
           try clear hfz42_0
           try clear hfz42_1
           try clear hfz42_2
           try clear hfz54_0
           try clear hfz54_1
           try clear hfz54_2
           try clear p2
           try clear p6
           obtain ⟨x119_3, rfl, HA, HK3, HO_6, HO_108002, BK107, HB⟩ := hrel
           cases gk with
           | zero => exact absurd HA.out (by simp [laws_FnRefusingRows.l0])
           | succ k3 =>
            have H := HA.out
            clear HA
            simp only [laws_FnRefusingRows.l0] at H
            by_cases c60 : x119_3 < (t108.length : Int)
            ·
             rw [if_pos c60] at H
             have c60b0 : decide (x119_3 < (t108.length : Int)) = true := decide_eq_true c60
             clear c60
             obtain ⟨y127, hy127⟩ : ∃ y_ : List Int, y_ = (([] : List Int)) := ⟨_, rfl⟩
             replace H : (if 0 ≤ x119_3 then (if x119_3 ≤ (t108.length : Int) then ((some (t108.take (x119_3 : Int).toNat : List Int)).bind fun y130 => (if y127.length + y130.length < 17592186044416 then ((some (y127 ++ y130 : List Int)).bind fun y134 => (if 0 ≤ (wrap64 (x119_3 + 1)) then (if (wrap64 (x119_3 + 1)) ≤ (t108.length : Int) then ((some (t108.drop ((wrap64 (x119_3 + 1)) : Int).toNat : List Int)).bind fun y137 => (if y134.length + y137.length < 17592186044416 then ((some (y134 ++ y137 : List Int)).bind fun y141 => ((impl_ColumnsOf.f k3 t102 t103 t104 y141).bind fun bt144 => (if bt144.2 = true then (if (bt144.1.length : Int) < (y141.length : Int) then (some false) else (laws_FnRefusingRows.l0 k3 l1 t108 (t108.length : Int) (wrap64 (x119_3 + 1)) t102 t103 t104)) else (some false)))) else (none))) else (none)) else (none))) else (none))) else (none)) else (none)) = some r := by first | (rw [hy127]; with_reducible exact H) | (have H2_ := (Option.bind_some _ _).symm.trans H; rw [hy127]; with_reducible exact H2_) | (have H2_ := (Option.bind_some _ _).symm.trans H; with_reducible exact H2_) | with_reducible exact H | (rw [hy127]; exact H) | exact H
             have Ny127 := za hy127
             clear hy127
             by_cases c61 : 0 ≤ x119_3
             ·
              rw [if_pos c61] at H
              have c61b0 := eq_true c61
              have c61b1 : decide (0 ≤ x119_3) = true := decide_eq_true c61
              clear c61
              by_cases c62 : x119_3 ≤ (t108.length : Int)
              ·
               rw [if_pos c62] at H
               have c62b0 := eq_true c62
               have c62b1 : decide (x119_3 ≤ (t108.length : Int)) = true := decide_eq_true c62
               clear c62
               obtain ⟨y130, hy130⟩ : ∃ y_ : List Int, y_ = (t108.take (x119_3 : Int).toNat) := ⟨_, rfl⟩
               replace H : (if y127.length + y130.length < 17592186044416 then ((some (y127 ++ y130 : List Int)).bind fun y134 => (if 0 ≤ (wrap64 (x119_3 + 1)) then (if (wrap64 (x119_3 + 1)) ≤ (t108.length : Int) then ((some (t108.drop ((wrap64 (x119_3 + 1)) : Int).toNat : List Int)).bind fun y137 => (if y134.length + y137.length < 17592186044416 then ((some (y134 ++ y137 : List Int)).bind fun y141 => ((impl_ColumnsOf.f k3 t102 t103 t104 y141).bind fun bt144 => (if bt144.2 = true then (if (bt144.1.length : Int) < (y141.length : Int) then (some false) else (laws_FnRefusingRows.l0 k3 l1 t108 (t108.length : Int) (wrap64 (x119_3 + 1)) t102 t103 t104)) else (some false)))) else (none))) else (none)) else (none))) else (none)) = some r := by first | (rw [hy130]; with_reducible exact H) | (have H2_ := (Option.bind_some _ _).symm.trans H; rw [hy130]; with_reducible exact H2_) | (have H2_ := (Option.bind_some _ _).symm.trans H; with_reducible exact H2_) | with_reducible exact H | (rw [hy130]; exact H) | exact H
               have Ny130 := za hy130
               clear hy130
               by_cases c63 : y127.length + y130.length < 17592186044416
               ·
                rw [if_pos c63] at H
                have LMc63 := za c63
                clear c63
                obtain ⟨y134, hy134⟩ : ∃ y_ : List Int, y_ = (y127 ++ y130) := ⟨_, rfl⟩
                replace H : (if 0 ≤ (wrap64 (x119_3 + 1)) then (if (wrap64 (x119_3 + 1)) ≤ (t108.length : Int) then ((some (t108.drop ((wrap64 (x119_3 + 1)) : Int).toNat : List Int)).bind fun y137 => (if y134.length + y137.length < 17592186044416 then ((some (y134 ++ y137 : List Int)).bind fun y141 => ((impl_ColumnsOf.f k3 t102 t103 t104 y141).bind fun bt144 => (if bt144.2 = true then (if (bt144.1.length : Int) < (y141.length : Int) then (some false) else (laws_FnRefusingRows.l0 k3 l1 t108 (t108.length : Int) (wrap64 (x119_3 + 1)) t102 t103 t104)) else (some false)))) else (none))) else (none)) else (none)) = some r := by first | (rw [hy134]; with_reducible exact H) | (have H2_ := (Option.bind_some _ _).symm.trans H; rw [hy134]; with_reducible exact H2_) | (have H2_ := (Option.bind_some _ _).symm.trans H; with_reducible exact H2_) | with_reducible exact H | (rw [hy134]; exact H) | exact H
                have Ny134 := za hy134
                clear hy134
                obtain ⟨ji64, hji64⟩ : ∃ j_ : Int, (wrap64 (x119_3 + 1)) = j_ := ⟨_, rfl⟩
                replace H : (if 0 ≤ (ji64) then (if (ji64) ≤ (t108.length : Int) then ((some (t108.drop ((ji64) : Int).toNat : List Int)).bind fun y137 => (if y134.length + y137.length < 17592186044416 then ((some (y134 ++ y137 : List Int)).bind fun y141 => ((impl_ColumnsOf.f k3 t102 t103 t104 y141).bind fun bt144 => (if bt144.2 = true then (if (bt144.1.length : Int) < (y141.length : Int) then (some false) else (laws_FnRefusingRows.l0 k3 l1 t108 (t108.length : Int) ji64 t102 t103 t104)) else (some false)))) else (none))) else (none)) else (none)) = some r := by first | (rw [hji64] at H; exact H) | (simp only [hji64] at H ⊢; exact H)
                have hji64w : (IntKind.i64.wrap (x119_3 + 1)) = ji64 := (i64_w _).trans hji64
                by_cases c65 : 0 ≤ (ji64)
                ·
                 rw [if_pos c65] at H
                 have c65b0 := eq_true c65
                 have c65b1 : decide (0 ≤ (ji64)) = true := decide_eq_true c65
                 clear c65
                 by_cases c66 : (ji64) ≤ (t108.length : Int)
                 ·
                  rw [if_pos c66] at H
                  have c66b0 := eq_true c66
                  have c66b1 : decide ((ji64) ≤ (t108.length : Int)) = true := decide_eq_true c66
                  clear c66
                  obtain ⟨y137, hy137⟩ : ∃ y_ : List Int, y_ = (t108.drop ((ji64) : Int).toNat) := ⟨_, rfl⟩
                  replace H : (if y134.length + y137.length < 17592186044416 then ((some (y134 ++ y137 : List Int)).bind fun y141 => ((impl_ColumnsOf.f k3 t102 t103 t104 y141).bind fun bt144 => (if bt144.2 = true then (if (bt144.1.length : Int) < (y141.length : Int) then (some false) else (laws_FnRefusingRows.l0 k3 l1 t108 (t108.length : Int) ji64 t102 t103 t104)) else (some false)))) else (none)) = some r := by first | (rw [hy137]; with_reducible exact H) | (have H2_ := (Option.bind_some _ _).symm.trans H; rw [hy137]; with_reducible exact H2_) | (have H2_ := (Option.bind_some _ _).symm.trans H; with_reducible exact H2_) | with_reducible exact H | (rw [hy137]; exact H) | exact H
                  have Ny137 := za hy137
                  clear hy137
                  by_cases c67 : y134.length + y137.length < 17592186044416
                  ·
                   rw [if_pos c67] at H
                   have LMc67 := za c67
                   clear c67
                   obtain ⟨y141, hy141⟩ : ∃ y_ : List Int, y_ = (y134 ++ y137) := ⟨_, rfl⟩
                   replace H : ((impl_ColumnsOf.f k3 t102 t103 t104 y141).bind fun bt144 => (if bt144.2 = true then (if (bt144.1.length : Int) < (y141.length : Int) then (some false) else (laws_FnRefusingRows.l0 k3 l1 t108 (t108.length : Int) ji64 t102 t103 t104)) else (some false))) = some r := by first | (rw [hy141]; with_reducible exact H) | (have H2_ := (Option.bind_some _ _).symm.trans H; rw [hy141]; with_reducible exact H2_) | (have H2_ := (Option.bind_some _ _).symm.trans H; with_reducible exact H2_) | with_reducible exact H | (rw [hy141]; exact H) | exact H
                   have Ny141 := za hy141
                   clear hy141
                   replace H := Option.bind_eq_some_iff.mp H
                   obtain ⟨⟨t144, t147⟩, A680, H⟩ := H
                   replace H : (if t147 = true then (if (t144.length : Int) < (y141.length : Int) then (some false) else (laws_FnRefusingRows.l0 k3 l1 t108 (t108.length : Int) ji64 t102 t103 t104)) else (some false)) = some r := H
                   have A68 := za A680
                   clear A680
                   by_cases c69 : t147 = true
                   ·
                    subst c69
                    have H1 : (if (t144.length : Int) < (y141.length : Int) then (some false) else (laws_FnRefusingRows.l0 k3 l1 t108 (t108.length : Int) ji64 t102 t103 t104)) = some r := by rw [if_pos rfl] at H; exact H
                    clear H
                    have H := H1
                    clear H1
                    by_cases c70 : (t144.length : Int) < (y141.length : Int)
                    ·
                     rw [if_pos c70] at H
                     have c70b0 : decide ((t144.length : Int) < (y141.length : Int)) = true := decide_eq_true c70
                     have c70b1 : decide (t144.length < y141.length) = true := decide_eq_true (Int.ofNat_lt.mp c70)
                     clear c70
                     obtain rfl := Option.some.inj H
                     try go_wp2
                     have n0_ := za (zk HO_6.out)
                     have n1_ := za (zk HO_108002.out)
                     have n2_ := za (zf BK107.out)
                     have n3_ := za (zb HB.out)
                     clear HO_6
                     clear HO_108002
                     clear BK107
                     clear HB
                     have HO_6 := n0_
                     have HO_108002 := n1_
                     have BK107 := n2_
                     have HB := n3_
                     clear n0_ n1_ n2_ n3_
                     have q72 : (x119_3 : Int) ≤ ((t108.length : Int) : Int) := of_decide_eq_true (by first | (with_reducible assumption) | assumption)
                     obtain ⟨i072, hi072, _, hsz72, _⟩ := info_parts info3
                     have hroom72 : t108.length ≤ co55 := (zA HO_6.out).2.1
                     have hC72 : Kd.C (Kd.int .i64) _ Ao55 t108.length t108 := (zA HO_6.out).2.2
                     have hcut72 := cut_to (P := Try.prog) 24 3 .i64 Try.underlying24 hi072 Ao55 t108.length co55 x119_3 (of_decide_eq_true (by first | (with_reducible assumption) | assumption)) q72 hroom72
                     have hr72 := Kd.C_take (m := (x119_3 : Int).toNat) hC72 (by omega)
                     have hy72 : y130.length = (x119_3 : Int).toNat := (by rw [Ny130.out, List.length_take]; omega)
                     rw [← Ny130.out] at hr72
                     rw [← hy72] at hcut72
                     have HR133 := za hr72
                     have HC133 := za (show y130.length ≤ co55 from by omega)
                     clear hr72 hC72 hroom72 hi072 hsz72
                     have KY72 := za hy72
                     clear hy72
                     have KL72 := za (show (x119_3 : Int).toNat ≤ t108.length from by omega)
                     replace q72 := eq_true q72
                     have q73 : ((ji64) : Int) ≤ ((t108.length : Int) : Int) := of_decide_eq_true (by first | (with_reducible assumption) | assumption)
                     obtain ⟨i073, hi073, _, hsz73, _⟩ := info_parts info3
                     have hroom73 : t108.length ≤ co55 := (zA HO_6.out).2.1
                     have hC73 : Kd.C (Kd.int .i64) _ Ao55 t108.length t108 := (zA HO_6.out).2.2
                     have q073 : (0 : Int) ≤ ((ji64) : Int) := of_decide_eq_true (by first | (with_reducible assumption) | assumption)
                     have hcut73 := cut_from (P := Try.prog) 24 3 .i64 Try.underlying24 hi073 1 hsz73 Ao55 t108.length co55 (ji64) q073 q73
                     have hr73 := Kd.C_drop (m := ((ji64) : Int).toNat) (c := co55) hC73 (by omega) hroom73
                     obtain ⟨A73, hA73⟩ : ∃ A1, A1 = (if co55 = ((ji64) : Int).toNat then Ao55 else (Ao55 : Option Addr).map (·.add (((ji64) : Int).toNat * 1))) := ⟨_, rfl⟩
                     obtain ⟨c73, hc73⟩ : ∃ c1, c1 = co55 - ((ji64) : Int).toNat := ⟨_, rfl⟩
                     have hy73 : y137.length = t108.length - ((ji64) : Int).toNat := (by rw [Ny137.out, List.length_drop] <;> omega)
                     rw [show (t108).drop ((ji64) : Int).toNat = y137 from Ny137.out.symm] at hr73
                     replace hr73 : Kd.C (Kd.int .i64) _ A73 y137.length y137 := (by rw [hA73]; exact hr73)
                     rw [← hy73, ← hA73, ← hc73] at hcut73
                     have HR140 := za hr73
                     have HC140 := za (show y137.length ≤ c73 from by rw [hy73, hc73]; exact Nat.sub_le_sub_right hroom73 _)
                     clear hr73 hC73 hroom73 hi073 hsz73 hc73
                     have KY73 := za hy73
                     have KA73 := za hA73
                     clear hy73 hA73
                     have KL73 := za (show ((ji64) : Int).toNat ≤ t108.length from by omega)
                     replace q73 := eq_true q73
                     refine start_ (n := 11) (S := fun w' => True) (ds := []) #[false, false, false, false, false, false, false, false, false, false, false] (by kernel_rfl) rfl rfl trivial (fun hHeld => ?_); refine with_tabW laws_FnRefusingRows.tab18 laws_FnRefusingRows.bits18 (fun HT_ HW_ => ?_)
                     generalize wr.drew = w71 at HO_6 HO_108002 BK107 HB HR133 HR140 hHeld ⊢
                     refine pure_ (i := 1) (N := some 123) (v := ?_) (a' := ?_) #[false, true, false, false, false, false, false, false, false, false, false] rfl rfl (any_of HT_.out (by kernel_rfl)) (fun _ _ _ h => h) (Or.inl ⟨by rfl, ?_⟩) ?_ ?_
                     rotate_left
                     ·
                      intro w'
                      go_simp
                      with_reducible rfl
                     rotate_left
                     ·
                      simp only [Act.put, List.setIfInBounds_toArray, List.set_cons_zero, List.set_cons_succ, i64_w, i32_w]
                      rfl
                     refine pure_ (i := 2) (N := some 124) (v := ?_) (a' := ?_) #[false, true, true, false, false, false, false, false, false, false, false] rfl rfl (any_of HT_.out (by kernel_rfl)) (fun _ _ _ h => h) (Or.inl ⟨by rfl, ?_⟩) ?_ ?_
                     rotate_left
                     ·
                      intro w'
                      go_simp
                      with_reducible rfl
                     rotate_left
                     ·
                      simp only [Act.put, List.setIfInBounds_toArray, List.set_cons_zero, List.set_cons_succ, i64_w, i32_w]
                      rfl
                     refine pure_ (i := 3) (N := some 125) (v := ?_) (a' := ?_) #[false, true, true, true, false, false, false, false, false, false, false] rfl rfl (any_of HT_.out (by kernel_rfl)) (fun _ _ _ h => h) (Or.inl ⟨by rfl, ?_⟩) ?_ ?_
                     rotate_left
                     ·
                      intro w'
                      go_simp
                      with_reducible rfl
                     rotate_left
                     ·
                      simp only [Act.put, List.setIfInBounds_toArray, List.set_cons_zero, List.set_cons_succ, i64_w, i32_w]
                      rfl
                     refine pure_ (i := 5) (N := some 127) (v := ?_) (a' := ?_) #[false, true, true, true, false, true, false, false, false, false, false] rfl rfl (any_of HT_.out (by kernel_rfl)) (fun _ _ _ h => h) (Or.inl ⟨by rfl, ?_⟩) ?_ ?_
                     rotate_left
                     ·
                      intro w'
                      go_simp
                      with_reducible rfl
                     rotate_left
                     ·
                      simp only [Act.put, List.setIfInBounds_toArray, List.set_cons_zero, List.set_cons_succ, i64_w, i32_w]
                      rfl
                     refine pure_ (i := 6) (N := some 128) (v := ?_) (a' := ?_) #[false, true, true, true, false, true, true, false, false, false, false] rfl rfl (any_of HT_.out (by kernel_rfl)) (fun _ _ _ h => h) (Or.inl ⟨by rfl, ?_⟩) ?_ ?_
                     rotate_left
                     ·
                      intro w'
                      go_simp
                      with_reducible rfl
                     rotate_left
                     ·
                      simp only [Act.put, List.setIfInBounds_toArray, List.set_cons_zero, List.set_cons_succ, i64_w, i32_w]
                      rfl
                     refine pure_ (i := 7) (N := some 129) (v := ?_) (a' := ?_) #[false, true, true, true, false, true, true, true, false, false, false] rfl rfl (any_of HT_.out (by kernel_rfl)) (fun _ _ _ h => h) (Or.inl ⟨by rfl, ?_⟩) ?_ ?_
                     rotate_left
                     ·
                      intro w'
                      go_simp
                      with_reducible rfl
                     rotate_left
                     ·
                      simp only [Act.put, List.setIfInBounds_toArray, List.set_cons_zero, List.set_cons_succ, i64_w, i32_w]
                      rfl
                     refine pure_ (i := 8) (N := some 130) (v := ?_) (a' := ?_) #[false, true, true, true, false, true, true, true, true, false, false] rfl rfl (any_of HT_.out (by kernel_rfl)) (fun _ _ _ h => h) (Or.inl ⟨by rfl, ?_⟩) ?_ ?_
                     rotate_left
                     ·
                      intro w'
                      go_simp
                      with_reducible rfl
                     rotate_left
                     ·
                      simp only [Act.put, List.setIfInBounds_toArray, List.set_cons_zero, List.set_cons_succ, i64_w, i32_w]
                      rfl
                     refine one_ (i := 0) (N := some 122) #[true, true, true, true, false, true, true, true, true, false, false] rfl rfl (one_of HT_.out (by kernel_rfl)) (by decide) (fun K hK => ?_)
                     refine Kd.R_lit_step (Kd.int .i64) _ 3 ?hg (N := 122) ?hd (xs := ([] : List Int)) (inner := []) (ok := fun _ => True) (okp := fun _ => True) ?hr ?hp (fun _ hk => hk) trivial (Below.refl _ _) (Nat.le_refl _) (by simp) ?_; (case hd => rfl); (case hg => rfl); (case hr => first | (go_simp; done) | (go_simp; rfl)); (case hp => exact (Reps.none _ _))
                     intro v128 w74 ho75 hb hg_ hnew_
                     clear hg_ hnew_
                     (first | rw [← Ny127.out] at ho75 | (simp only [Int.reduceToNat] at ho75; rw [← Ny127.out] at ho75))
                     have n0_ := za (Kd.R_elder' (by (with_reducible repeat (first | apply zl | apply zm | apply zk)); exact HO_6.out) (Kd.R_base ho75) hb)
                     have n1_ := za (Kd.R_elder' (by (with_reducible repeat (first | apply zl | apply zm | apply zk)); exact HO_108002.out) (Kd.R_base ho75) hb)
                     have n2_ := za (Kd.R_lower (Kd.R_new' (Kd.R_new' ho75 (Kd.R_lt (by (with_reducible repeat (first | apply zl | apply zm | apply zk)); exact HO_6.out))) (Kd.R_lt (by (with_reducible repeat (first | apply zl | apply zm | apply zk)); exact HO_108002.out))) (zn (by repeat (first | (with_reducible first | exact HB.out | apply zc | apply ze | apply zb | refine zd ?_ GE107.out) | exact HB.out))))
                     have n3_ := za (zB (g := gb107) (o := .cells #[.int .i64 t102, .int .i64 t103, .slice Ao15 t104.length co15] 26 (0, 0)) (by (with_reducible repeat (first | refine zh ?_ _ | refine zf ?_ | refine zi ?_ _)); exact BK107.out) hb)
                     have n4_ := za (zE (by repeat (first | (with_reducible exact HR133.out) | (with_reducible refine zw ?_ _) | (with_reducible refine zx ?_ _) | (with_reducible refine zy ?_) | exact HR133.out)) hb)
                     have n5_ := za (zE (by repeat (first | (with_reducible exact HR140.out) | (with_reducible refine zw ?_ _) | (with_reducible refine zx ?_ _) | (with_reducible refine zy ?_) | exact HR140.out)) hb)
                     have n6_ := za (zv (by repeat (first | (with_reducible first | exact HB.out | apply zc | apply ze | apply zb | refine zd ?_ GE107.out) | exact HB.out)) hb)
                     clear HO_6
                     clear HO_108002
                     clear BK107
                     clear HR133
                     clear HR140
                     clear HB
                     have HO_6 := n0_
                     have HO_108002 := n1_
                     have HO129 := n2_
                     have BK107 := n3_
                     have HR133 := n4_
                     have HR140 := n5_
                     have HB := n6_
                     clear n0_ n1_ n2_ n3_ n4_ n5_ n6_
                     clear hb ho75
                     refine hK.out _ _ trivial (fun hHeld => ?_)
                     clear hK K
                     refine norm_ (a' := ?_) ?_ ?_
                     rotate_left
                     ·
                      show Act.put _ (some 122) _ = _
                      simp only [Act.put, List.setIfInBounds_toArray, List.set_cons_zero, List.set_cons_succ, i64_w, i32_w]
                      rfl
                     refine one_ (i := 4) (N := some 126) #[true, true, true, true, true, true, true, true, true, false, false] rfl rfl (one_of HT_.out (by kernel_rfl)) (by decide) (fun K hK => ?_)
                     refine Kd.R_append_rows_step (Kd.int .i64) (w0 := w) w.heap.size (by rfl) (.tmp 122) (.tmp 125) 24 3 (.int .i64 0) 8 rfl Try.underlying24 info3 rfl (by decide) (by omega) v128 y127 y130 _ _ _ (fun k_ => some k_ ≠ (.slice Ao55 t108.length co55 : Value).ownBlock ∧ some k_ ≠ (.slice Ao15 t104.length co15 : Value).ownBlock) (fun _ => False) rfl rfl ?aO ?aR (fun _ _ h => h) (fun _ h => h.elim) ?aF ?aB ?aS ?aL ?_
                     (case aR => repeat (first | exact (by repeat (first | (with_reducible exact HR133.out) | (with_reducible refine zw ?_ _) | (with_reducible refine zx ?_ _) | (with_reducible refine zy ?_) | exact HR133.out)) | (with_reducible refine zw ?_ _) | (with_reducible refine zx ?_ _) | (with_reducible refine zy ?_)))
                     (case aB => exact (by repeat (first | (with_reducible first | exact HB.out | apply zc | apply ze | apply zb | refine zd ?_ GE107.out) | exact HB.out)))
                     (case aF => exact (fun k_ hk => ⟨Kd.fresh' (Kd.R_lt (by (with_reducible repeat (first | apply zl | apply zm | apply zk)); exact HO_6.out)) k_ hk, Kd.fresh' (Kd.R_lt (by (with_reducible repeat (first | apply zl | apply zm | apply zk)); exact HO_108002.out)) k_ hk⟩))
                     (case aO => exact (by (with_reducible repeat (first | apply zl | apply zm | apply zk)); exact zz HO129.out (fun _ hk => ⟨hk.1.2, hk.2⟩)))
                     (case aS => exact (zn (by repeat (first | (with_reducible first | exact HB.out | apply zc | apply ze | apply zb | refine zd ?_ GE107.out) | exact HB.out))))
                     (case aL => have := LMc63.out; omega)
                     intro v135 w76 ho hb hg hat
                     rw [← Ny134.out] at ho
                     have n0_ := za (Kd.R_after (ok := (fun k_ => some k_ ≠ (.slice Ao15 t104.length co15 : Value).ownBlock)) (by (with_reducible repeat (first | apply zl | apply zm | apply zk)); exact HO_6.out) hg hat)
                     have n1_ := za (Kd.R_after (ok := (fun k_ => some k_ ≠ (.slice Ao55 t108.length co55 : Value).ownBlock)) (by (with_reducible repeat (first | apply zl | apply zm | apply zk)); exact HO_108002.out) hg hat)
                     have n2_ := za (blk_grown (g := gb107) (o := .cells #[.int .i64 t102, .int .i64 t103, .slice Ao15 t104.length co15] 26 (0, 0)) (by (with_reducible repeat (first | refine zh ?_ _ | refine zf ?_ | refine zi ?_ _)); exact BK107.out) hg (Kd.R_ne HO129.out BK107.out (by decide)))
                     have n3_ := za (hb)
                     have n4_ := za ((show Kd.C (Kd.int .i64) w76 Ao55 y130.length y130 from by rw [Ny130.out]; exact Kd.C_take (m := (x119_3 : Int).toNat) ((zA (Kd.R_after (ok := (fun k_ => some k_ ≠ (.slice Ao15 t104.length co15 : Value).ownBlock)) (by (with_reducible repeat (first | apply zl | apply zm | apply zk)); exact HO_6.out) hg hat)).2.2) KL72.out))
                     have n5_ := za ((show Kd.C (Kd.int .i64) w76 A73 y137.length y137 from by rw [Ny137.out, KA73.out]; exact Kd.C_drop (m := ((ji64) : Int).toNat) (c := co55) ((zA (Kd.R_after (ok := (fun k_ => some k_ ≠ (.slice Ao15 t104.length co15 : Value).ownBlock)) (by (with_reducible repeat (first | apply zl | apply zm | apply zk)); exact HO_6.out) hg hat)).2.2) KL73.out ((zA (Kd.R_after (ok := (fun k_ => some k_ ≠ (.slice Ao15 t104.length co15 : Value).ownBlock)) (by (with_reducible repeat (first | apply zl | apply zm | apply zk)); exact HO_6.out) hg hat)).2.1)))
                     have n6_ := za (ho)
                     clear HO_6
                     clear HO_108002
                     clear BK107
                     clear HB
                     clear HR133
                     clear HR140
                     clear HO129
                     have HO_6 := n0_
                     have HO_108002 := n1_
                     have BK107 := n2_
                     have HB := n3_
                     have HR133 := n4_
                     have HR140 := n5_
                     have HO136 := n6_
                     clear n0_ n1_ n2_ n3_ n4_ n5_ n6_
                     clear ho hb hg hat
                     refine hK.out _ _ trivial (fun hHeld => ?_)
                     clear hK K
                     refine norm_ (a' := ?_) ?_ ?_
                     rotate_left
                     ·
                      show Act.put _ (some 126) _ = _
                      simp only [Act.put, List.setIfInBounds_toArray, List.set_cons_zero, List.set_cons_succ, i64_w, i32_w]
                      rfl
                     refine one_ (i := 9) (N := some 131) #[true, true, true, true, true, true, true, true, true, true, false] rfl rfl (one_of HT_.out (by kernel_rfl)) (by decide) (fun K hK => ?_)
                     refine Kd.R_append_rows_step (Kd.int .i64) (w0 := w) w.heap.size (by rfl) (.tmp 126) (.tmp 130) 24 3 (.int .i64 0) 8 rfl Try.underlying24 info3 rfl (by decide) (by omega) v135 y134 y137 _ _ _ (fun k_ => some k_ ≠ (.slice Ao55 t108.length co55 : Value).ownBlock ∧ some k_ ≠ (.slice Ao15 t104.length co15 : Value).ownBlock) (fun _ => False) rfl rfl ?aO ?aR (fun _ _ h => h) (fun _ h => h.elim) ?aF ?aB ?aS ?aL ?_
                     (case aR => repeat (first | exact (by repeat (first | (with_reducible exact HR140.out) | (with_reducible refine zw ?_ _) | (with_reducible refine zx ?_ _) | (with_reducible refine zy ?_) | exact HR140.out)) | (with_reducible refine zw ?_ _) | (with_reducible refine zx ?_ _) | (with_reducible refine zy ?_)))
                     (case aB => exact (by repeat (first | (with_reducible first | exact HB.out | apply zc | apply ze | apply zb | refine zd ?_ GE107.out) | exact HB.out)))
                     (case aF => exact (fun k_ hk => ⟨Kd.fresh' (Kd.R_lt (by (with_reducible repeat (first | apply zl | apply zm | apply zk)); exact HO_6.out)) k_ hk, Kd.fresh' (Kd.R_lt (by (with_reducible repeat (first | apply zl | apply zm | apply zk)); exact HO_108002.out)) k_ hk⟩))
                     (case aO => exact (by (with_reducible repeat (first | apply zl | apply zm | apply zk)); exact HO136.out))
                     (case aS => exact (zn (by repeat (first | (with_reducible first | exact HB.out | apply zc | apply ze | apply zb | refine zd ?_ GE107.out) | exact HB.out))))
                     (case aL => have := LMc67.out; omega)
                     intro v142 w77 ho hb hg hat
                     rw [← Ny141.out] at ho
                     have n0_ := za (Kd.R_after (ok := (fun k_ => some k_ ≠ (.slice Ao15 t104.length co15 : Value).ownBlock)) (by (with_reducible repeat (first | apply zl | apply zm | apply zk)); exact HO_6.out) hg hat)
                     have n1_ := za (Kd.R_after (ok := (fun k_ => some k_ ≠ (.slice Ao55 t108.length co55 : Value).ownBlock)) (by (with_reducible repeat (first | apply zl | apply zm | apply zk)); exact HO_108002.out) hg hat)
                     have n2_ := za (blk_grown (g := gb107) (o := .cells #[.int .i64 t102, .int .i64 t103, .slice Ao15 t104.length co15] 26 (0, 0)) (by (with_reducible repeat (first | refine zh ?_ _ | refine zf ?_ | refine zi ?_ _)); exact BK107.out) hg (Kd.R_ne HO136.out BK107.out (by decide)))
                     have n3_ := za (hb)
                     have n4_ := za ((show Kd.C (Kd.int .i64) w77 Ao55 y130.length y130 from by rw [Ny130.out]; exact Kd.C_take (m := (x119_3 : Int).toNat) ((zA (Kd.R_after (ok := (fun k_ => some k_ ≠ (.slice Ao15 t104.length co15 : Value).ownBlock)) (by (with_reducible repeat (first | apply zl | apply zm | apply zk)); exact HO_6.out) hg hat)).2.2) KL72.out))
                     have n5_ := za ((show Kd.C (Kd.int .i64) w77 A73 y137.length y137 from by rw [Ny137.out, KA73.out]; exact Kd.C_drop (m := ((ji64) : Int).toNat) (c := co55) ((zA (Kd.R_after (ok := (fun k_ => some k_ ≠ (.slice Ao15 t104.length co15 : Value).ownBlock)) (by (with_reducible repeat (first | apply zl | apply zm | apply zk)); exact HO_6.out) hg hat)).2.2) KL73.out ((zA (Kd.R_after (ok := (fun k_ => some k_ ≠ (.slice Ao15 t104.length co15 : Value).ownBlock)) (by (with_reducible repeat (first | apply zl | apply zm | apply zk)); exact HO_6.out) hg hat)).2.1)))
                     have n6_ := za (ho)
                     clear HO_6
                     clear HO_108002
                     clear BK107
                     clear HB
                     clear HR133
                     clear HR140
                     clear HO136
                     have HO_6 := n0_
                     have HO_108002 := n1_
                     have BK107 := n2_
                     have HB := n3_
                     have HR133 := n4_
                     have HR140 := n5_
                     have HO143 := n6_
                     clear n0_ n1_ n2_ n3_ n4_ n5_ n6_
                     clear ho hb hg hat
                     refine hK.out _ _ trivial (fun hHeld => ?_)
                     clear hK K
                     refine norm_ (a' := ?_) ?_ ?_
                     rotate_left
                     ·
                      show Act.put _ (some 131) _ = _
                      simp only [Act.put, List.setIfInBounds_toArray, List.set_cons_zero, List.set_cons_succ, i64_w, i32_w]
                      rfl
                     refine pure_ (i := 10) (N := some 19) (v := ?_) (a' := ?_) #[true, true, true, true, true, true, true, true, true, true, true] rfl rfl (any_of HT_.out (by kernel_rfl)) (fun _ _ _ h => h) (Or.inl ⟨by rfl, ?_⟩) ?_ ?_
                     rotate_left
                     ·
                      intro w'
                      go_simp
                      with_reducible rfl
                     rotate_left
                     ·
                      simp only [Act.put, List.setIfInBounds_toArray, List.set_cons_zero, List.set_cons_succ, i64_w, i32_w]
                      rfl
                     refine done_ (done_of HT_.out (by kernel_rfl)) ?_
                     have hcz78_0 : w77.cell? ⟨gb107, 0, none⟩ = some (.int .i64 t102) := (zg BK107.out 0).trans rfl
                     have hcz78_1 : w77.cell? ⟨gb107, 1, none⟩ = some (.int .i64 t103) := (zg BK107.out 1).trans rfl
                     have hcz78_2 : w77.cell? ⟨gb107, 2, none⟩ = some (.slice Ao15 t104.length co15) := (zg BK107.out 2).trans rfl
                     have hfz78_0 := zj BK107.out 0
                     have hfz78_1 := zj BK107.out 1
                     have hfz78_2 := zj BK107.out 2
                     obtain ⟨Ao79, co79, eo79⟩ := Kd.R_slice HO143.out
                     subst eo79
                     try go_wp2_with (first | ((with_reducible refine zu (f := 25) rfl ?_); refine goesL_ (some 135) rfl rfl Try.func25 (by kernel_rfl) rfl #[.agg #[.int .i64 t102, .int .i64 t103, .slice Ao15 t104.length co15], .slice Ao79 y141.length co79] rfl (by (try simp only [List.map_toArray, List.map_cons, List.map_nil]); first | done | rfl | (simp only [List.length_drop, List.length_take]; rfl)) ?_; (with_reducible refine (impl_ColumnsOf.calls k3 t102 t103 _ _ t104 _ _ y141 t144 true _ ?side1 ?side2 ?side3 ?side4 A68.out).mono ?_); (case side1 => repeat (first | exact (zA HO_108002.out).2.2 | (with_reducible refine zw ?_ _) | (with_reducible refine zx ?_ _) | (with_reducible refine zy ?_))); (case side2 => exact (zA HO_108002.out).2.1); (case side3 => repeat (first | exact (zA HO143.out).2.2 | (with_reducible refine zw ?_ _) | (with_reducible refine zx ?_ _) | (with_reducible refine zy ?_))); (case side4 => exact (zA HO143.out).2.1); rintro e w80 ⟨v145, rfl, ho0, hb⟩; refine ⟨_, rfl, ?_⟩; have n0_ := za (Kd.R_elder' (by (with_reducible repeat (first | apply zl | apply zm | apply zk)); exact HO_6.out) (Kd.R_base ho0) hb); have n1_ := za (Kd.R_elder' (by (with_reducible repeat (first | apply zl | apply zm | apply zk)); exact HO_108002.out) (Kd.R_base ho0) hb); have n2_ := za (Kd.R_elder' (by (with_reducible repeat (first | apply zl | apply zm | apply zk)); exact HO143.out) (Kd.R_base ho0) hb); have n3_ := za (Kd.R_lower (Kd.R_new' (Kd.R_new' (Kd.R_new' ho0 (Kd.R_lt (by (with_reducible repeat (first | apply zl | apply zm | apply zk)); exact HO_6.out))) (Kd.R_lt (by (with_reducible repeat (first | apply zl | apply zm | apply zk)); exact HO_108002.out))) (Kd.R_lt (by (with_reducible repeat (first | apply zl | apply zm | apply zk)); exact HO143.out))) (zn (by repeat (first | (with_reducible first | exact HB.out | apply zc | apply ze | apply zb | refine zd ?_ GE107.out) | exact HB.out)))); have n4_ := za (zB (g := gb107) (o := .cells #[.int .i64 t102, .int .i64 t103, .slice Ao15 t104.length co15] 26 (0, 0)) (by (with_reducible repeat (first | refine zh ?_ _ | refine zf ?_ | refine zi ?_ _)); exact BK107.out) hb); have n5_ := za (zE (by repeat (first | (with_reducible exact HR133.out) | (with_reducible refine zw ?_ _) | (with_reducible refine zx ?_ _) | (with_reducible refine zy ?_) | exact HR133.out)) hb); have n6_ := za (zE (by repeat (first | (with_reducible exact HR140.out) | (with_reducible refine zw ?_ _) | (with_reducible refine zx ?_ _) | (with_reducible refine zy ?_) | exact HR140.out)) hb); have n7_ := za (zv (by repeat (first | (with_reducible first | exact HB.out | apply zc | apply ze | apply zb | refine zd ?_ GE107.out) | exact HB.out)) hb); clear HO_6 HO_108002; clear HO143 BK107; clear HR133 HR140 HB; have HO_6 := n0_; have HO_108002 := n1_; have HO143 := n2_; have HO146 := n3_; have BK107 := n4_; have HR133 := n5_; have HR140 := n6_; have HB := n7_; clear n0_ n1_ n2_ n3_ n4_ n5_ n6_ n7_; (try clear hb); (try clear hb2); (try clear hk); (try clear hi); (try clear ho0); obtain ⟨Ao81, co81, eo81⟩ := Kd.R_slice HO146.out; subst eo81))
                     go_ret
                     exact ⟨by first | rfl | (simp [errW_none, errW_some] <;> rfl) | (simp only [← hji64]; first | rfl | (simp [errW_none, errW_some] <;> rfl)) | (simp [*, errW_none, errW_some] <;> rfl), by repeat (first | (with_reducible first | exact HB.out | apply zc | apply ze | apply zb | refine zd ?_ GE107.out) | exact HB.out)⟩
                    ·
                     rw [if_neg c70] at H
                     have c70b0 : decide ((t144.length : Int) < (y141.length : Int)) = false := decide_eq_false c70
                     have c70b1 : decide (t144.length < y141.length) = false := decide_eq_false (fun h => c70 (Int.ofNat_lt.mpr h))
                     clear c70
                     have H' := za H
                     clear H
                     try go_wp2
                     have n0_ := za (zk HO_6.out)
                     have n1_ := za (zk HO_108002.out)
                     have n2_ := za (zf BK107.out)
                     have n3_ := za (zb HB.out)
                     clear HO_6
                     clear HO_108002
                     clear BK107
                     clear HB
                     have HO_6 := n0_
                     have HO_108002 := n1_
                     have BK107 := n2_
                     have HB := n3_
                     clear n0_ n1_ n2_ n3_
                     have q83 : (x119_3 : Int) ≤ ((t108.length : Int) : Int) := of_decide_eq_true (by first | (with_reducible assumption) | assumption)
                     obtain ⟨i083, hi083, _, hsz83, _⟩ := info_parts info3
                     have hroom83 : t108.length ≤ co55 := (zA HO_6.out).2.1
                     have hC83 : Kd.C (Kd.int .i64) _ Ao55 t108.length t108 := (zA HO_6.out).2.2
                     have hcut83 := cut_to (P := Try.prog) 24 3 .i64 Try.underlying24 hi083 Ao55 t108.length co55 x119_3 (of_decide_eq_true (by first | (with_reducible assumption) | assumption)) q83 hroom83
                     have hr83 := Kd.C_take (m := (x119_3 : Int).toNat) hC83 (by omega)
                     have hy83 : y130.length = (x119_3 : Int).toNat := (by rw [Ny130.out, List.length_take]; omega)
                     rw [← Ny130.out] at hr83
                     rw [← hy83] at hcut83
                     have HR133 := za hr83
                     have HC133 := za (show y130.length ≤ co55 from by omega)
                     clear hr83 hC83 hroom83 hi083 hsz83
                     have KY83 := za hy83
                     clear hy83
                     have KL83 := za (show (x119_3 : Int).toNat ≤ t108.length from by omega)
                     replace q83 := eq_true q83
                     have q84 : ((ji64) : Int) ≤ ((t108.length : Int) : Int) := of_decide_eq_true (by first | (with_reducible assumption) | assumption)
                     obtain ⟨i084, hi084, _, hsz84, _⟩ := info_parts info3
                     have hroom84 : t108.length ≤ co55 := (zA HO_6.out).2.1
                     have hC84 : Kd.C (Kd.int .i64) _ Ao55 t108.length t108 := (zA HO_6.out).2.2
                     have q084 : (0 : Int) ≤ ((ji64) : Int) := of_decide_eq_true (by first | (with_reducible assumption) | assumption)
                     have hcut84 := cut_from (P := Try.prog) 24 3 .i64 Try.underlying24 hi084 1 hsz84 Ao55 t108.length co55 (ji64) q084 q84
                     have hr84 := Kd.C_drop (m := ((ji64) : Int).toNat) (c := co55) hC84 (by omega) hroom84
                     obtain ⟨A84, hA84⟩ : ∃ A1, A1 = (if co55 = ((ji64) : Int).toNat then Ao55 else (Ao55 : Option Addr).map (·.add (((ji64) : Int).toNat * 1))) := ⟨_, rfl⟩
                     obtain ⟨c84, hc84⟩ : ∃ c1, c1 = co55 - ((ji64) : Int).toNat := ⟨_, rfl⟩
                     have hy84 : y137.length = t108.length - ((ji64) : Int).toNat := (by rw [Ny137.out, List.length_drop] <;> omega)
                     rw [show (t108).drop ((ji64) : Int).toNat = y137 from Ny137.out.symm] at hr84
                     replace hr84 : Kd.C (Kd.int .i64) _ A84 y137.length y137 := (by rw [hA84]; exact hr84)
                     rw [← hy84, ← hA84, ← hc84] at hcut84
                     have HR140 := za hr84
                     have HC140 := za (show y137.length ≤ c84 from by rw [hy84, hc84]; exact Nat.sub_le_sub_right hroom84 _)
                     clear hr84 hC84 hroom84 hi084 hsz84 hc84
                     have KY84 := za hy84
                     have KA84 := za hA84
                     clear hy84 hA84
                     have KL84 := za (show ((ji64) : Int).toNat ≤ t108.length from by omega)
                     replace q84 := eq_true q84
                     refine start_ (n := 11) (S := fun w' => True) (ds := []) #[false, false, false, false, false, false, false, false, false, false, false] (by kernel_rfl) rfl rfl trivial (fun hHeld => ?_); refine with_tabW laws_FnRefusingRows.tab18 laws_FnRefusingRows.bits18 (fun HT_ HW_ => ?_)
                     generalize wr.drew = w82 at HO_6 HO_108002 BK107 HB HR133 HR140 hHeld ⊢
                     refine pure_ (i := 1) (N := some 123) (v := ?_) (a' := ?_) #[false, true, false, false, false, false, false, false, false, false, false] rfl rfl (any_of HT_.out (by kernel_rfl)) (fun _ _ _ h => h) (Or.inl ⟨by rfl, ?_⟩) ?_ ?_
                     rotate_left
                     ·
                      intro w'
                      go_simp
                      with_reducible rfl
                     rotate_left
                     ·
                      simp only [Act.put, List.setIfInBounds_toArray, List.set_cons_zero, List.set_cons_succ, i64_w, i32_w]
                      rfl
                     refine pure_ (i := 2) (N := some 124) (v := ?_) (a' := ?_) #[false, true, true, false, false, false, false, false, false, false, false] rfl rfl (any_of HT_.out (by kernel_rfl)) (fun _ _ _ h => h) (Or.inl ⟨by rfl, ?_⟩) ?_ ?_
                     rotate_left
                     ·
                      intro w'
                      go_simp
                      with_reducible rfl
                     rotate_left
                     ·
                      simp only [Act.put, List.setIfInBounds_toArray, List.set_cons_zero, List.set_cons_succ, i64_w, i32_w]
                      rfl
                     refine pure_ (i := 3) (N := some 125) (v := ?_) (a' := ?_) #[false, true, true, true, false, false, false, false, false, false, false] rfl rfl (any_of HT_.out (by kernel_rfl)) (fun _ _ _ h => h) (Or.inl ⟨by rfl, ?_⟩) ?_ ?_
                     rotate_left
                     ·
                      intro w'
                      go_simp
                      with_reducible rfl
                     rotate_left
                     ·
                      simp only [Act.put, List.setIfInBounds_toArray, List.set_cons_zero, List.set_cons_succ, i64_w, i32_w]
                      rfl
                     refine pure_ (i := 5) (N := some 127) (v := ?_) (a' := ?_) #[false, true, true, true, false, true, false, false, false, false, false] rfl rfl (any_of HT_.out (by kernel_rfl)) (fun _ _ _ h => h) (Or.inl ⟨by rfl, ?_⟩) ?_ ?_
                     rotate_left
                     ·
                      intro w'
                      go_simp
                      with_reducible rfl
                     rotate_left
                     ·
                      simp only [Act.put, List.setIfInBounds_toArray, List.set_cons_zero, List.set_cons_succ, i64_w, i32_w]
                      rfl
                     refine pure_ (i := 6) (N := some 128) (v := ?_) (a' := ?_) #[false, true, true, true, false, true, true, false, false, false, false] rfl rfl (any_of HT_.out (by kernel_rfl)) (fun _ _ _ h => h) (Or.inl ⟨by rfl, ?_⟩) ?_ ?_
                     rotate_left
                     ·
                      intro w'
                      go_simp
                      with_reducible rfl
                     rotate_left
                     ·
                      simp only [Act.put, List.setIfInBounds_toArray, List.set_cons_zero, List.set_cons_succ, i64_w, i32_w]
                      rfl
                     refine pure_ (i := 7) (N := some 129) (v := ?_) (a' := ?_) #[false, true, true, true, false, true, true, true, false, false, false] rfl rfl (any_of HT_.out (by kernel_rfl)) (fun _ _ _ h => h) (Or.inl ⟨by rfl, ?_⟩) ?_ ?_
                     rotate_left
                     ·
                      intro w'
                      go_simp
                      with_reducible rfl
                     rotate_left
                     ·
                      simp only [Act.put, List.setIfInBounds_toArray, List.set_cons_zero, List.set_cons_succ, i64_w, i32_w]
                      rfl
                     refine pure_ (i := 8) (N := some 130) (v := ?_) (a' := ?_) #[false, true, true, true, false, true, true, true, true, false, false] rfl rfl (any_of HT_.out (by kernel_rfl)) (fun _ _ _ h => h) (Or.inl ⟨by rfl, ?_⟩) ?_ ?_
                     rotate_left
                     ·
                      intro w'
                      go_simp
                      with_reducible rfl
                     rotate_left
                     ·
                      simp only [Act.put, List.setIfInBounds_toArray, List.set_cons_zero, List.set_cons_succ, i64_w, i32_w]
                      rfl
                     refine one_ (i := 0) (N := some 122) #[true, true, true, true, false, true, true, true, true, false, false] rfl rfl (one_of HT_.out (by kernel_rfl)) (by decide) (fun K hK => ?_)
                     refine Kd.R_lit_step (Kd.int .i64) _ 3 ?hg (N := 122) ?hd (xs := ([] : List Int)) (inner := []) (ok := fun _ => True) (okp := fun _ => True) ?hr ?hp (fun _ hk => hk) trivial (Below.refl _ _) (Nat.le_refl _) (by simp) ?_; (case hd => rfl); (case hg => rfl); (case hr => first | (go_simp; done) | (go_simp; rfl)); (case hp => exact (Reps.none _ _))
                     intro v128 w85 ho86 hb hg_ hnew_
                     clear hg_ hnew_
                     (first | rw [← Ny127.out] at ho86 | (simp only [Int.reduceToNat] at ho86; rw [← Ny127.out] at ho86))
                     have n0_ := za (Kd.R_elder' (by (with_reducible repeat (first | apply zl | apply zm | apply zk)); exact HO_6.out) (Kd.R_base ho86) hb)
                     have n1_ := za (Kd.R_elder' (by (with_reducible repeat (first | apply zl | apply zm | apply zk)); exact HO_108002.out) (Kd.R_base ho86) hb)
                     have n2_ := za (Kd.R_lower (Kd.R_new' (Kd.R_new' ho86 (Kd.R_lt (by (with_reducible repeat (first | apply zl | apply zm | apply zk)); exact HO_6.out))) (Kd.R_lt (by (with_reducible repeat (first | apply zl | apply zm | apply zk)); exact HO_108002.out))) (zn (by repeat (first | (with_reducible first | exact HB.out | apply zc | apply ze | apply zb | refine zd ?_ GE107.out) | exact HB.out))))
                     have n3_ := za (zB (g := gb107) (o := .cells #[.int .i64 t102, .int .i64 t103, .slice Ao15 t104.length co15] 26 (0, 0)) (by (with_reducible repeat (first | refine zh ?_ _ | refine zf ?_ | refine zi ?_ _)); exact BK107.out) hb)
                     have n4_ := za (zE (by repeat (first | (with_reducible exact HR133.out) | (with_reducible refine zw ?_ _) | (with_reducible refine zx ?_ _) | (with_reducible refine zy ?_) | exact HR133.out)) hb)
                     have n5_ := za (zE (by repeat (first | (with_reducible exact HR140.out) | (with_reducible refine zw ?_ _) | (with_reducible refine zx ?_ _) | (with_reducible refine zy ?_) | exact HR140.out)) hb)
                     have n6_ := za (zv (by repeat (first | (with_reducible first | exact HB.out | apply zc | apply ze | apply zb | refine zd ?_ GE107.out) | exact HB.out)) hb)
                     clear HO_6
                     clear HO_108002
                     clear BK107
                     clear HR133
                     clear HR140
                     clear HB
                     have HO_6 := n0_
                     have HO_108002 := n1_
                     have HO129 := n2_
                     have BK107 := n3_
                     have HR133 := n4_
                     have HR140 := n5_
                     have HB := n6_
                     clear n0_ n1_ n2_ n3_ n4_ n5_ n6_
                     clear hb ho86
                     refine hK.out _ _ trivial (fun hHeld => ?_)
                     clear hK K
                     refine norm_ (a' := ?_) ?_ ?_
                     rotate_left
                     ·
                      show Act.put _ (some 122) _ = _
                      simp only [Act.put, List.setIfInBounds_toArray, List.set_cons_zero, List.set_cons_succ, i64_w, i32_w]
                      rfl
                     refine one_ (i := 4) (N := some 126) #[true, true, true, true, true, true, true, true, true, false, false] rfl rfl (one_of HT_.out (by kernel_rfl)) (by decide) (fun K hK => ?_)
                     refine Kd.R_append_rows_step (Kd.int .i64) (w0 := w) w.heap.size (by rfl) (.tmp 122) (.tmp 125) 24 3 (.int .i64 0) 8 rfl Try.underlying24 info3 rfl (by decide) (by omega) v128 y127 y130 _ _ _ (fun k_ => some k_ ≠ (.slice Ao55 t108.length co55 : Value).ownBlock ∧ some k_ ≠ (.slice Ao15 t104.length co15 : Value).ownBlock) (fun _ => False) rfl rfl ?aO ?aR (fun _ _ h => h) (fun _ h => h.elim) ?aF ?aB ?aS ?aL ?_
                     (case aR => repeat (first | exact (by repeat (first | (with_reducible exact HR133.out) | (with_reducible refine zw ?_ _) | (with_reducible refine zx ?_ _) | (with_reducible refine zy ?_) | exact HR133.out)) | (with_reducible refine zw ?_ _) | (with_reducible refine zx ?_ _) | (with_reducible refine zy ?_)))
                     (case aB => exact (by repeat (first | (with_reducible first | exact HB.out | apply zc | apply ze | apply zb | refine zd ?_ GE107.out) | exact HB.out)))
                     (case aF => exact (fun k_ hk => ⟨Kd.fresh' (Kd.R_lt (by (with_reducible repeat (first | apply zl | apply zm | apply zk)); exact HO_6.out)) k_ hk, Kd.fresh' (Kd.R_lt (by (with_reducible repeat (first | apply zl | apply zm | apply zk)); exact HO_108002.out)) k_ hk⟩))
                     (case aO => exact (by (with_reducible repeat (first | apply zl | apply zm | apply zk)); exact zz HO129.out (fun _ hk => ⟨hk.1.2, hk.2⟩)))
                     (case aS => exact (zn (by repeat (first | (with_reducible first | exact HB.out | apply zc | apply ze | apply zb | refine zd ?_ GE107.out) | exact HB.out))))
                     (case aL => have := LMc63.out; omega)
                     intro v135 w87 ho hb hg hat
                     rw [← Ny134.out] at ho
                     have n0_ := za (Kd.R_after (ok := (fun k_ => some k_ ≠ (.slice Ao15 t104.length co15 : Value).ownBlock)) (by (with_reducible repeat (first | apply zl | apply zm | apply zk)); exact HO_6.out) hg hat)
                     have n1_ := za (Kd.R_after (ok := (fun k_ => some k_ ≠ (.slice Ao55 t108.length co55 : Value).ownBlock)) (by (with_reducible repeat (first | apply zl | apply zm | apply zk)); exact HO_108002.out) hg hat)
                     have n2_ := za (blk_grown (g := gb107) (o := .cells #[.int .i64 t102, .int .i64 t103, .slice Ao15 t104.length co15] 26 (0, 0)) (by (with_reducible repeat (first | refine zh ?_ _ | refine zf ?_ | refine zi ?_ _)); exact BK107.out) hg (Kd.R_ne HO129.out BK107.out (by decide)))
                     have n3_ := za (hb)
                     have n4_ := za ((show Kd.C (Kd.int .i64) w87 Ao55 y130.length y130 from by rw [Ny130.out]; exact Kd.C_take (m := (x119_3 : Int).toNat) ((zA (Kd.R_after (ok := (fun k_ => some k_ ≠ (.slice Ao15 t104.length co15 : Value).ownBlock)) (by (with_reducible repeat (first | apply zl | apply zm | apply zk)); exact HO_6.out) hg hat)).2.2) KL83.out))
                     have n5_ := za ((show Kd.C (Kd.int .i64) w87 A84 y137.length y137 from by rw [Ny137.out, KA84.out]; exact Kd.C_drop (m := ((ji64) : Int).toNat) (c := co55) ((zA (Kd.R_after (ok := (fun k_ => some k_ ≠ (.slice Ao15 t104.length co15 : Value).ownBlock)) (by (with_reducible repeat (first | apply zl | apply zm | apply zk)); exact HO_6.out) hg hat)).2.2) KL84.out ((zA (Kd.R_after (ok := (fun k_ => some k_ ≠ (.slice Ao15 t104.length co15 : Value).ownBlock)) (by (with_reducible repeat (first | apply zl | apply zm | apply zk)); exact HO_6.out) hg hat)).2.1)))
                     have n6_ := za (ho)
                     clear HO_6
                     clear HO_108002
                     clear BK107
                     clear HB
                     clear HR133
                     clear HR140
                     clear HO129
                     have HO_6 := n0_
                     have HO_108002 := n1_
                     have BK107 := n2_
                     have HB := n3_
                     have HR133 := n4_
                     have HR140 := n5_
                     have HO136 := n6_
                     clear n0_ n1_ n2_ n3_ n4_ n5_ n6_
                     clear ho hb hg hat
                     refine hK.out _ _ trivial (fun hHeld => ?_)
                     clear hK K
                     refine norm_ (a' := ?_) ?_ ?_
                     rotate_left
                     ·
                      show Act.put _ (some 126) _ = _
                      simp only [Act.put, List.setIfInBounds_toArray, List.set_cons_zero, List.set_cons_succ, i64_w, i32_w]
                      rfl
                     refine one_ (i := 9) (N := some 131) #[true, true, true, true, true, true, true, true, true, true, false] rfl rfl (one_of HT_.out (by kernel_rfl)) (by decide) (fun K hK => ?_)
                     refine Kd.R_append_rows_step (Kd.int .i64) (w0 := w) w.heap.size (by rfl) (.tmp 126) (.tmp 130) 24 3 (.int .i64 0) 8 rfl Try.underlying24 info3 rfl (by decide) (by omega) v135 y134 y137 _ _ _ (fun k_ => some k_ ≠ (.slice Ao55 t108.length co55 : Value).ownBlock ∧ some k_ ≠ (.slice Ao15 t104.length co15 : Value).ownBlock) (fun _ => False) rfl rfl ?aO ?aR (fun _ _ h => h) (fun _ h => h.elim) ?aF ?aB ?aS ?aL ?_
                     (case aR => repeat (first | exact (by repeat (first | (with_reducible exact HR140.out) | (with_reducible refine zw ?_ _) | (with_reducible refine zx ?_ _) | (with_reducible refine zy ?_) | exact HR140.out)) | (with_reducible refine zw ?_ _) | (with_reducible refine zx ?_ _) | (with_reducible refine zy ?_)))
                     (case aB => exact (by repeat (first | (with_reducible first | exact HB.out | apply zc | apply ze | apply zb | refine zd ?_ GE107.out) | exact HB.out)))
                     (case aF => exact (fun k_ hk => ⟨Kd.fresh' (Kd.R_lt (by (with_reducible repeat (first | apply zl | apply zm | apply zk)); exact HO_6.out)) k_ hk, Kd.fresh' (Kd.R_lt (by (with_reducible repeat (first | apply zl | apply zm | apply zk)); exact HO_108002.out)) k_ hk⟩))
                     (case aO => exact (by (with_reducible repeat (first | apply zl | apply zm | apply zk)); exact HO136.out))
                     (case aS => exact (zn (by repeat (first | (with_reducible first | exact HB.out | apply zc | apply ze | apply zb | refine zd ?_ GE107.out) | exact HB.out))))
                     (case aL => have := LMc67.out; omega)
                     intro v142 w88 ho hb hg hat
                     rw [← Ny141.out] at ho
                     have n0_ := za (Kd.R_after (ok := (fun k_ => some k_ ≠ (.slice Ao15 t104.length co15 : Value).ownBlock)) (by (with_reducible repeat (first | apply zl | apply zm | apply zk)); exact HO_6.out) hg hat)
                     have n1_ := za (Kd.R_after (ok := (fun k_ => some k_ ≠ (.slice Ao55 t108.length co55 : Value).ownBlock)) (by (with_reducible repeat (first | apply zl | apply zm | apply zk)); exact HO_108002.out) hg hat)
                     have n2_ := za (blk_grown (g := gb107) (o := .cells #[.int .i64 t102, .int .i64 t103, .slice Ao15 t104.length co15] 26 (0, 0)) (by (with_reducible repeat (first | refine zh ?_ _ | refine zf ?_ | refine zi ?_ _)); exact BK107.out) hg (Kd.R_ne HO136.out BK107.out (by decide)))
                     have n3_ := za (hb)
                     have n4_ := za ((show Kd.C (Kd.int .i64) w88 Ao55 y130.length y130 from by rw [Ny130.out]; exact Kd.C_take (m := (x119_3 : Int).toNat) ((zA (Kd.R_after (ok := (fun k_ => some k_ ≠ (.slice Ao15 t104.length co15 : Value).ownBlock)) (by (with_reducible repeat (first | apply zl | apply zm | apply zk)); exact HO_6.out) hg hat)).2.2) KL83.out))
                     have n5_ := za ((show Kd.C (Kd.int .i64) w88 A84 y137.length y137 from by rw [Ny137.out, KA84.out]; exact Kd.C_drop (m := ((ji64) : Int).toNat) (c := co55) ((zA (Kd.R_after (ok := (fun k_ => some k_ ≠ (.slice Ao15 t104.length co15 : Value).ownBlock)) (by (with_reducible repeat (first | apply zl | apply zm | apply zk)); exact HO_6.out) hg hat)).2.2) KL84.out ((zA (Kd.R_after (ok := (fun k_ => some k_ ≠ (.slice Ao15 t104.length co15 : Value).ownBlock)) (by (with_reducible repeat (first | apply zl | apply zm | apply zk)); exact HO_6.out) hg hat)).2.1)))
                     have n6_ := za (ho)
                     clear HO_6
                     clear HO_108002
                     clear BK107
                     clear HB
                     clear HR133
                     clear HR140
                     clear HO136
                     have HO_6 := n0_
                     have HO_108002 := n1_
                     have BK107 := n2_
                     have HB := n3_
                     have HR133 := n4_
                     have HR140 := n5_
                     have HO143 := n6_
                     clear n0_ n1_ n2_ n3_ n4_ n5_ n6_
                     clear ho hb hg hat
                     refine hK.out _ _ trivial (fun hHeld => ?_)
                     clear hK K
                     refine norm_ (a' := ?_) ?_ ?_
                     rotate_left
                     ·
                      show Act.put _ (some 131) _ = _
                      simp only [Act.put, List.setIfInBounds_toArray, List.set_cons_zero, List.set_cons_succ, i64_w, i32_w]
                      rfl
                     refine pure_ (i := 10) (N := some 19) (v := ?_) (a' := ?_) #[true, true, true, true, true, true, true, true, true, true, true] rfl rfl (any_of HT_.out (by kernel_rfl)) (fun _ _ _ h => h) (Or.inl ⟨by rfl, ?_⟩) ?_ ?_
                     rotate_left
                     ·
                      intro w'
                      go_simp
                      with_reducible rfl
                     rotate_left
                     ·
                      simp only [Act.put, List.setIfInBounds_toArray, List.set_cons_zero, List.set_cons_succ, i64_w, i32_w]
                      rfl
                     refine done_ (done_of HT_.out (by kernel_rfl)) ?_
                     have hcz89_0 : w88.cell? ⟨gb107, 0, none⟩ = some (.int .i64 t102) := (zg BK107.out 0).trans rfl
                     have hcz89_1 : w88.cell? ⟨gb107, 1, none⟩ = some (.int .i64 t103) := (zg BK107.out 1).trans rfl
                     have hcz89_2 : w88.cell? ⟨gb107, 2, none⟩ = some (.slice Ao15 t104.length co15) := (zg BK107.out 2).trans rfl
                     have hfz89_0 := zj BK107.out 0
                     have hfz89_1 := zj BK107.out 1
                     have hfz89_2 := zj BK107.out 2
                     obtain ⟨Ao90, co90, eo90⟩ := Kd.R_slice HO143.out
                     subst eo90
                     try go_wp2_with (first | ((with_reducible refine zu (f := 25) rfl ?_); refine goesL_ (some 135) rfl rfl Try.func25 (by kernel_rfl) rfl #[.agg #[.int .i64 t102, .int .i64 t103, .slice Ao15 t104.length co15], .slice Ao90 y141.length co90] rfl (by (try simp only [List.map_toArray, List.map_cons, List.map_nil]); first | done | rfl | (simp only [List.length_drop, List.length_take]; rfl)) ?_; (with_reducible refine (impl_ColumnsOf.calls k3 t102 t103 _ _ t104 _ _ y141 t144 true _ ?side1 ?side2 ?side3 ?side4 A68.out).mono ?_); (case side1 => repeat (first | exact (zA HO_108002.out).2.2 | (with_reducible refine zw ?_ _) | (with_reducible refine zx ?_ _) | (with_reducible refine zy ?_))); (case side2 => exact (zA HO_108002.out).2.1); (case side3 => repeat (first | exact (zA HO143.out).2.2 | (with_reducible refine zw ?_ _) | (with_reducible refine zx ?_ _) | (with_reducible refine zy ?_))); (case side4 => exact (zA HO143.out).2.1); rintro e w91 ⟨v145, rfl, ho0, hb⟩; refine ⟨_, rfl, ?_⟩; have n0_ := za (Kd.R_elder' (by (with_reducible repeat (first | apply zl | apply zm | apply zk)); exact HO_6.out) (Kd.R_base ho0) hb); have n1_ := za (Kd.R_elder' (by (with_reducible repeat (first | apply zl | apply zm | apply zk)); exact HO_108002.out) (Kd.R_base ho0) hb); have n2_ := za (Kd.R_elder' (by (with_reducible repeat (first | apply zl | apply zm | apply zk)); exact HO143.out) (Kd.R_base ho0) hb); have n3_ := za (Kd.R_lower (Kd.R_new' (Kd.R_new' (Kd.R_new' ho0 (Kd.R_lt (by (with_reducible repeat (first | apply zl | apply zm | apply zk)); exact HO_6.out))) (Kd.R_lt (by (with_reducible repeat (first | apply zl | apply zm | apply zk)); exact HO_108002.out))) (Kd.R_lt (by (with_reducible repeat (first | apply zl | apply zm | apply zk)); exact HO143.out))) (zn (by repeat (first | (with_reducible first | exact HB.out | apply zc | apply ze | apply zb | refine zd ?_ GE107.out) | exact HB.out)))); have n4_ := za (zB (g := gb107) (o := .cells #[.int .i64 t102, .int .i64 t103, .slice Ao15 t104.length co15] 26 (0, 0)) (by (with_reducible repeat (first | refine zh ?_ _ | refine zf ?_ | refine zi ?_ _)); exact BK107.out) hb); have n5_ := za (zE (by repeat (first | (with_reducible exact HR133.out) | (with_reducible refine zw ?_ _) | (with_reducible refine zx ?_ _) | (with_reducible refine zy ?_) | exact HR133.out)) hb); have n6_ := za (zE (by repeat (first | (with_reducible exact HR140.out) | (with_reducible refine zw ?_ _) | (with_reducible refine zx ?_ _) | (with_reducible refine zy ?_) | exact HR140.out)) hb); have n7_ := za (zv (by repeat (first | (with_reducible first | exact HB.out | apply zc | apply ze | apply zb | refine zd ?_ GE107.out) | exact HB.out)) hb); clear HO_6 HO_108002; clear HO143 BK107; clear HR133 HR140 HB; have HO_6 := n0_; have HO_108002 := n1_; have HO143 := n2_; have HO146 := n3_; have BK107 := n4_; have HR133 := n5_; have HR140 := n6_; have HB := n7_; clear n0_ n1_ n2_ n3_ n4_ n5_ n6_ n7_; (try clear hb); (try clear hb2); (try clear hk); (try clear hi); (try clear ho0); obtain ⟨Ao92, co92, eo92⟩ := Kd.R_slice HO146.out; subst eo92))
                     go_roundg k3
                     case measure => have := HJ10.out; have := HJ52.out; have := HK3.out; omega
                     case rel => exact ⟨(ji64), (by first | rfl | (simp; done) | (simp only [← hji64] <;> (first | rfl | simp)) | (simp [*]; done)), H', ⟨by have := HJ10.out; have := HJ52.out; have := HK3.out; omega⟩, ⟨by (with_reducible repeat (first | apply zl | apply zm | apply zk)); exact zz HO_6.out (fun _ hk => hk.1.1)⟩, ⟨by (with_reducible repeat (first | apply zl | apply zm | apply zk)); exact zz HO_108002.out (fun _ hk => hk.1.1)⟩, ⟨by (with_reducible repeat (first | refine zh ?_ _ | refine zf ?_ | refine zi ?_ _)); exact BK107.out⟩, ⟨by repeat (first | (with_reducible first | exact HB.out | apply zc | apply ze | apply zb | refine zd ?_ GE107.out) | exact HB.out)⟩⟩
                   ·
                    replace c69 := Bool.eq_false_iff.mpr c69
                    subst c69
                    have H1 : (some false) = some r := by rw [if_neg (show ¬ (false = true) by decide)] at H; exact H
                    clear H
                    have H := H1
                    clear H1
                    obtain rfl := Option.some.inj H
                    try go_wp2
                    have n0_ := za (zk HO_6.out)
                    have n1_ := za (zk HO_108002.out)
                    have n2_ := za (zf BK107.out)
                    have n3_ := za (zb HB.out)
                    clear HO_6
                    clear HO_108002
                    clear BK107
                    clear HB
                    have HO_6 := n0_
                    have HO_108002 := n1_
                    have BK107 := n2_
                    have HB := n3_
                    clear n0_ n1_ n2_ n3_
                    have q94 : (x119_3 : Int) ≤ ((t108.length : Int) : Int) := of_decide_eq_true (by first | (with_reducible assumption) | assumption)
                    obtain ⟨i094, hi094, _, hsz94, _⟩ := info_parts info3
                    have hroom94 : t108.length ≤ co55 := (zA HO_6.out).2.1
                    have hC94 : Kd.C (Kd.int .i64) _ Ao55 t108.length t108 := (zA HO_6.out).2.2
                    have hcut94 := cut_to (P := Try.prog) 24 3 .i64 Try.underlying24 hi094 Ao55 t108.length co55 x119_3 (of_decide_eq_true (by first | (with_reducible assumption) | assumption)) q94 hroom94
                    have hr94 := Kd.C_take (m := (x119_3 : Int).toNat) hC94 (by omega)
                    have hy94 : y130.length = (x119_3 : Int).toNat := (by rw [Ny130.out, List.length_take]; omega)
                    rw [← Ny130.out] at hr94
                    rw [← hy94] at hcut94
                    have HR133 := za hr94
                    have HC133 := za (show y130.length ≤ co55 from by omega)
                    clear hr94 hC94 hroom94 hi094 hsz94
                    have KY94 := za hy94
                    clear hy94
                    have KL94 := za (show (x119_3 : Int).toNat ≤ t108.length from by omega)
                    replace q94 := eq_true q94
                    have q95 : ((ji64) : Int) ≤ ((t108.length : Int) : Int) := of_decide_eq_true (by first | (with_reducible assumption) | assumption)
                    obtain ⟨i095, hi095, _, hsz95, _⟩ := info_parts info3
                    have hroom95 : t108.length ≤ co55 := (zA HO_6.out).2.1
                    have hC95 : Kd.C (Kd.int .i64) _ Ao55 t108.length t108 := (zA HO_6.out).2.2
                    have q095 : (0 : Int) ≤ ((ji64) : Int) := of_decide_eq_true (by first | (with_reducible assumption) | assumption)
                    have hcut95 := cut_from (P := Try.prog) 24 3 .i64 Try.underlying24 hi095 1 hsz95 Ao55 t108.length co55 (ji64) q095 q95
                    have hr95 := Kd.C_drop (m := ((ji64) : Int).toNat) (c := co55) hC95 (by omega) hroom95
                    obtain ⟨A95, hA95⟩ : ∃ A1, A1 = (if co55 = ((ji64) : Int).toNat then Ao55 else (Ao55 : Option Addr).map (·.add (((ji64) : Int).toNat * 1))) := ⟨_, rfl⟩
                    obtain ⟨c95, hc95⟩ : ∃ c1, c1 = co55 - ((ji64) : Int).toNat := ⟨_, rfl⟩
                    have hy95 : y137.length = t108.length - ((ji64) : Int).toNat := (by rw [Ny137.out, List.length_drop] <;> omega)
                    rw [show (t108).drop ((ji64) : Int).toNat = y137 from Ny137.out.symm] at hr95
                    replace hr95 : Kd.C (Kd.int .i64) _ A95 y137.length y137 := (by rw [hA95]; exact hr95)
                    rw [← hy95, ← hA95, ← hc95] at hcut95
                    have HR140 := za hr95
                    have HC140 := za (show y137.length ≤ c95 from by rw [hy95, hc95]; exact Nat.sub_le_sub_right hroom95 _)
                    clear hr95 hC95 hroom95 hi095 hsz95 hc95
                    have KY95 := za hy95
                    have KA95 := za hA95
                    clear hy95 hA95
                    have KL95 := za (show ((ji64) : Int).toNat ≤ t108.length from by omega)
                    replace q95 := eq_true q95
                    refine start_ (n := 11) (S := fun w' => True) (ds := []) #[false, false, false, false, false, false, false, false, false, false, false] (by kernel_rfl) rfl rfl trivial (fun hHeld => ?_); refine with_tabW laws_FnRefusingRows.tab18 laws_FnRefusingRows.bits18 (fun HT_ HW_ => ?_)
                    generalize wr.drew = w93 at HO_6 HO_108002 BK107 HB HR133 HR140 hHeld ⊢
                    refine pure_ (i := 1) (N := some 123) (v := ?_) (a' := ?_) #[false, true, false, false, false, false, false, false, false, false, false] rfl rfl (any_of HT_.out (by kernel_rfl)) (fun _ _ _ h => h) (Or.inl ⟨by rfl, ?_⟩) ?_ ?_
                    rotate_left
                    ·
                     intro w'
                     go_simp
                     with_reducible rfl
                    rotate_left
                    ·
                     simp only [Act.put, List.setIfInBounds_toArray, List.set_cons_zero, List.set_cons_succ, i64_w, i32_w]
                     rfl
                    refine pure_ (i := 2) (N := some 124) (v := ?_) (a' := ?_) #[false, true, true, false, false, false, false, false, false, false, false] rfl rfl (any_of HT_.out (by kernel_rfl)) (fun _ _ _ h => h) (Or.inl ⟨by rfl, ?_⟩) ?_ ?_
                    rotate_left
                    ·
                     intro w'
                     go_simp
                     with_reducible rfl
                    rotate_left
                    ·
                     simp only [Act.put, List.setIfInBounds_toArray, List.set_cons_zero, List.set_cons_succ, i64_w, i32_w]
                     rfl
                    refine pure_ (i := 3) (N := some 125) (v := ?_) (a' := ?_) #[false, true, true, true, false, false, false, false, false, false, false] rfl rfl (any_of HT_.out (by kernel_rfl)) (fun _ _ _ h => h) (Or.inl ⟨by rfl, ?_⟩) ?_ ?_
                    rotate_left
                    ·
                     intro w'
                     go_simp
                     with_reducible rfl
                    rotate_left
                    ·
                     simp only [Act.put, List.setIfInBounds_toArray, List.set_cons_zero, List.set_cons_succ, i64_w, i32_w]
                     rfl
                    refine pure_ (i := 5) (N := some 127) (v := ?_) (a' := ?_) #[false, true, true, true, false, true, false, false, false, false, false] rfl rfl (any_of HT_.out (by kernel_rfl)) (fun _ _ _ h => h) (Or.inl ⟨by rfl, ?_⟩) ?_ ?_
                    rotate_left
                    ·
                     intro w'
                     go_simp
                     with_reducible rfl
                    rotate_left
                    ·
                     simp only [Act.put, List.setIfInBounds_toArray, List.set_cons_zero, List.set_cons_succ, i64_w, i32_w]
                     rfl
                    refine pure_ (i := 6) (N := some 128) (v := ?_) (a' := ?_) #[false, true, true, true, false, true, true, false, false, false, false] rfl rfl (any_of HT_.out (by kernel_rfl)) (fun _ _ _ h => h) (Or.inl ⟨by rfl, ?_⟩) ?_ ?_
                    rotate_left
                    ·
                     intro w'
                     go_simp
                     with_reducible rfl
                    rotate_left
                    ·
                     simp only [Act.put, List.setIfInBounds_toArray, List.set_cons_zero, List.set_cons_succ, i64_w, i32_w]
                     rfl
                    refine pure_ (i := 7) (N := some 129) (v := ?_) (a' := ?_) #[false, true, true, true, false, true, true, true, false, false, false] rfl rfl (any_of HT_.out (by kernel_rfl)) (fun _ _ _ h => h) (Or.inl ⟨by rfl, ?_⟩) ?_ ?_
                    rotate_left
                    ·
                     intro w'
                     go_simp
                     with_reducible rfl
                    rotate_left
                    ·
                     simp only [Act.put, List.setIfInBounds_toArray, List.set_cons_zero, List.set_cons_succ, i64_w, i32_w]
                     rfl
                    refine pure_ (i := 8) (N := some 130) (v := ?_) (a' := ?_) #[false, true, true, true, false, true, true, true, true, false, false] rfl rfl (any_of HT_.out (by kernel_rfl)) (fun _ _ _ h => h) (Or.inl ⟨by rfl, ?_⟩) ?_ ?_
                    rotate_left
                    ·
                     intro w'
                     go_simp
                     with_reducible rfl
                    rotate_left
                    ·
                     simp only [Act.put, List.setIfInBounds_toArray, List.set_cons_zero, List.set_cons_succ, i64_w, i32_w]
                     rfl
                    refine one_ (i := 0) (N := some 122) #[true, true, true, true, false, true, true, true, true, false, false] rfl rfl (one_of HT_.out (by kernel_rfl)) (by decide) (fun K hK => ?_)
                    refine Kd.R_lit_step (Kd.int .i64) _ 3 ?hg (N := 122) ?hd (xs := ([] : List Int)) (inner := []) (ok := fun _ => True) (okp := fun _ => True) ?hr ?hp (fun _ hk => hk) trivial (Below.refl _ _) (Nat.le_refl _) (by simp) ?_; (case hd => rfl); (case hg => rfl); (case hr => first | (go_simp; done) | (go_simp; rfl)); (case hp => exact (Reps.none _ _))
                    intro v128 w96 ho97 hb hg_ hnew_
                    clear hg_ hnew_
                    (first | rw [← Ny127.out] at ho97 | (simp only [Int.reduceToNat] at ho97; rw [← Ny127.out] at ho97))
                    have n0_ := za (Kd.R_elder' (by (with_reducible repeat (first | apply zl | apply zm | apply zk)); exact HO_6.out) (Kd.R_base ho97) hb)
                    have n1_ := za (Kd.R_elder' (by (with_reducible repeat (first | apply zl | apply zm | apply zk)); exact HO_108002.out) (Kd.R_base ho97) hb)
                    have n2_ := za (Kd.R_lower (Kd.R_new' (Kd.R_new' ho97 (Kd.R_lt (by (with_reducible repeat (first | apply zl | apply zm | apply zk)); exact HO_6.out))) (Kd.R_lt (by (with_reducible repeat (first | apply zl | apply zm | apply zk)); exact HO_108002.out))) (zn (by repeat (first | (with_reducible first | exact HB.out | apply zc | apply ze | apply zb | refine zd ?_ GE107.out) | exact HB.out))))
                    have n3_ := za (zB (g := gb107) (o := .cells #[.int .i64 t102, .int .i64 t103, .slice Ao15 t104.length co15] 26 (0, 0)) (by (with_reducible repeat (first | refine zh ?_ _ | refine zf ?_ | refine zi ?_ _)); exact BK107.out) hb)
                    have n4_ := za (zE (by repeat (first | (with_reducible exact HR133.out) | (with_reducible refine zw ?_ _) | (with_reducible refine zx ?_ _) | (with_reducible refine zy ?_) | exact HR133.out)) hb)
                    have n5_ := za (zE (by repeat (first | (with_reducible exact HR140.out) | (with_reducible refine zw ?_ _) | (with_reducible refine zx ?_ _) | (with_reducible refine zy ?_) | exact HR140.out)) hb)
                    have n6_ := za (zv (by repeat (first | (with_reducible first | exact HB.out | apply zc | apply ze | apply zb | refine zd ?_ GE107.out) | exact HB.out)) hb)
                    clear HO_6
                    clear HO_108002
                    clear BK107
                    clear HR133
                    clear HR140
                    clear HB
                    have HO_6 := n0_
                    have HO_108002 := n1_
                    have HO129 := n2_
                    have BK107 := n3_
                    have HR133 := n4_
                    have HR140 := n5_
                    have HB := n6_
                    clear n0_ n1_ n2_ n3_ n4_ n5_ n6_
                    clear hb ho97
                    refine hK.out _ _ trivial (fun hHeld => ?_)
                    clear hK K
                    refine norm_ (a' := ?_) ?_ ?_
                    rotate_left
                    ·
                     show Act.put _ (some 122) _ = _
                     simp only [Act.put, List.setIfInBounds_toArray, List.set_cons_zero, List.set_cons_succ, i64_w, i32_w]
                     rfl
                    refine one_ (i := 4) (N := some 126) #[true, true, true, true, true, true, true, true, true, false, false] rfl rfl (one_of HT_.out (by kernel_rfl)) (by decide) (fun K hK => ?_)
                    refine Kd.R_append_rows_step (Kd.int .i64) (w0 := w) w.heap.size (by rfl) (.tmp 122) (.tmp 125) 24 3 (.int .i64 0) 8 rfl Try.underlying24 info3 rfl (by decide) (by omega) v128 y127 y130 _ _ _ (fun k_ => some k_ ≠ (.slice Ao55 t108.length co55 : Value).ownBlock ∧ some k_ ≠ (.slice Ao15 t104.length co15 : Value).ownBlock) (fun _ => False) rfl rfl ?aO ?aR (fun _ _ h => h) (fun _ h => h.elim) ?aF ?aB ?aS ?aL ?_
                    (case aR => repeat (first | exact (by repeat (first | (with_reducible exact HR133.out) | (with_reducible refine zw ?_ _) | (with_reducible refine zx ?_ _) | (with_reducible refine zy ?_) | exact HR133.out)) | (with_reducible refine zw ?_ _) | (with_reducible refine zx ?_ _) | (with_reducible refine zy ?_)))
                    (case aB => exact (by repeat (first | (with_reducible first | exact HB.out | apply zc | apply ze | apply zb | refine zd ?_ GE107.out) | exact HB.out)))
                    (case aF => exact (fun k_ hk => ⟨Kd.fresh' (Kd.R_lt (by (with_reducible repeat (first | apply zl | apply zm | apply zk)); exact HO_6.out)) k_ hk, Kd.fresh' (Kd.R_lt (by (with_reducible repeat (first | apply zl | apply zm | apply zk)); exact HO_108002.out)) k_ hk⟩))
                    (case aO => exact (by (with_reducible repeat (first | apply zl | apply zm | apply zk)); exact zz HO129.out (fun _ hk => ⟨hk.1.2, hk.2⟩)))
                    (case aS => exact (zn (by repeat (first | (with_reducible first | exact HB.out | apply zc | apply ze | apply zb | refine zd ?_ GE107.out) | exact HB.out))))
                    (case aL => have := LMc63.out; omega)
                    intro v135 w98 ho hb hg hat
                    rw [← Ny134.out] at ho
                    have n0_ := za (Kd.R_after (ok := (fun k_ => some k_ ≠ (.slice Ao15 t104.length co15 : Value).ownBlock)) (by (with_reducible repeat (first | apply zl | apply zm | apply zk)); exact HO_6.out) hg hat)
                    have n1_ := za (Kd.R_after (ok := (fun k_ => some k_ ≠ (.slice Ao55 t108.length co55 : Value).ownBlock)) (by (with_reducible repeat (first | apply zl | apply zm | apply zk)); exact HO_108002.out) hg hat)
                    have n2_ := za (blk_grown (g := gb107) (o := .cells #[.int .i64 t102, .int .i64 t103, .slice Ao15 t104.length co15] 26 (0, 0)) (by (with_reducible repeat (first | refine zh ?_ _ | refine zf ?_ | refine zi ?_ _)); exact BK107.out) hg (Kd.R_ne HO129.out BK107.out (by decide)))
                    have n3_ := za (hb)
                    have n4_ := za ((show Kd.C (Kd.int .i64) w98 Ao55 y130.length y130 from by rw [Ny130.out]; exact Kd.C_take (m := (x119_3 : Int).toNat) ((zA (Kd.R_after (ok := (fun k_ => some k_ ≠ (.slice Ao15 t104.length co15 : Value).ownBlock)) (by (with_reducible repeat (first | apply zl | apply zm | apply zk)); exact HO_6.out) hg hat)).2.2) KL94.out))
                    have n5_ := za ((show Kd.C (Kd.int .i64) w98 A95 y137.length y137 from by rw [Ny137.out, KA95.out]; exact Kd.C_drop (m := ((ji64) : Int).toNat) (c := co55) ((zA (Kd.R_after (ok := (fun k_ => some k_ ≠ (.slice Ao15 t104.length co15 : Value).ownBlock)) (by (with_reducible repeat (first | apply zl | apply zm | apply zk)); exact HO_6.out) hg hat)).2.2) KL95.out ((zA (Kd.R_after (ok := (fun k_ => some k_ ≠ (.slice Ao15 t104.length co15 : Value).ownBlock)) (by (with_reducible repeat (first | apply zl | apply zm | apply zk)); exact HO_6.out) hg hat)).2.1)))
                    have n6_ := za (ho)
                    clear HO_6
                    clear HO_108002
                    clear BK107
                    clear HB
                    clear HR133
                    clear HR140
                    clear HO129
                    have HO_6 := n0_
                    have HO_108002 := n1_
                    have BK107 := n2_
                    have HB := n3_
                    have HR133 := n4_
                    have HR140 := n5_
                    have HO136 := n6_
                    clear n0_ n1_ n2_ n3_ n4_ n5_ n6_
                    clear ho hb hg hat
                    refine hK.out _ _ trivial (fun hHeld => ?_)
                    clear hK K
                    refine norm_ (a' := ?_) ?_ ?_
                    rotate_left
                    ·
                     show Act.put _ (some 126) _ = _
                     simp only [Act.put, List.setIfInBounds_toArray, List.set_cons_zero, List.set_cons_succ, i64_w, i32_w]
                     rfl
                    refine one_ (i := 9) (N := some 131) #[true, true, true, true, true, true, true, true, true, true, false] rfl rfl (one_of HT_.out (by kernel_rfl)) (by decide) (fun K hK => ?_)
                    refine Kd.R_append_rows_step (Kd.int .i64) (w0 := w) w.heap.size (by rfl) (.tmp 126) (.tmp 130) 24 3 (.int .i64 0) 8 rfl Try.underlying24 info3 rfl (by decide) (by omega) v135 y134 y137 _ _ _ (fun k_ => some k_ ≠ (.slice Ao55 t108.length co55 : Value).ownBlock ∧ some k_ ≠ (.slice Ao15 t104.length co15 : Value).ownBlock) (fun _ => False) rfl rfl ?aO ?aR (fun _ _ h => h) (fun _ h => h.elim) ?aF ?aB ?aS ?aL ?_
                    (case aR => repeat (first | exact (by repeat (first | (with_reducible exact HR140.out) | (with_reducible refine zw ?_ _) | (with_reducible refine zx ?_ _) | (with_reducible refine zy ?_) | exact HR140.out)) | (with_reducible refine zw ?_ _) | (with_reducible refine zx ?_ _) | (with_reducible refine zy ?_)))
                    (case aB => exact (by repeat (first | (with_reducible first | exact HB.out | apply zc | apply ze | apply zb | refine zd ?_ GE107.out) | exact HB.out)))
                    (case aF => exact (fun k_ hk => ⟨Kd.fresh' (Kd.R_lt (by (with_reducible repeat (first | apply zl | apply zm | apply zk)); exact HO_6.out)) k_ hk, Kd.fresh' (Kd.R_lt (by (with_reducible repeat (first | apply zl | apply zm | apply zk)); exact HO_108002.out)) k_ hk⟩))
                    (case aO => exact (by (with_reducible repeat (first | apply zl | apply zm | apply zk)); exact HO136.out))
                    (case aS => exact (zn (by repeat (first | (with_reducible first | exact HB.out | apply zc | apply ze | apply zb | refine zd ?_ GE107.out) | exact HB.out))))
                    (case aL => have := LMc67.out; omega)
                    intro v142 w99 ho hb hg hat
                    rw [← Ny141.out] at ho
                    have n0_ := za (Kd.R_after (ok := (fun k_ => some k_ ≠ (.slice Ao15 t104.length co15 : Value).ownBlock)) (by (with_reducible repeat (first | apply zl | apply zm | apply zk)); exact HO_6.out) hg hat)
                    have n1_ := za (Kd.R_after (ok := (fun k_ => some k_ ≠ (.slice Ao55 t108.length co55 : Value).ownBlock)) (by (with_reducible repeat (first | apply zl | apply zm | apply zk)); exact HO_108002.out) hg hat)
                    have n2_ := za (blk_grown (g := gb107) (o := .cells #[.int .i64 t102, .int .i64 t103, .slice Ao15 t104.length co15] 26 (0, 0)) (by (with_reducible repeat (first | refine zh ?_ _ | refine zf ?_ | refine zi ?_ _)); exact BK107.out) hg (Kd.R_ne HO136.out BK107.out (by decide)))
                    have n3_ := za (hb)
                    have n4_ := za ((show Kd.C (Kd.int .i64) w99 Ao55 y130.length y130 from by rw [Ny130.out]; exact Kd.C_take (m := (x119_3 : Int).toNat) ((zA (Kd.R_after (ok := (fun k_ => some k_ ≠ (.slice Ao15 t104.length co15 : Value).ownBlock)) (by (with_reducible repeat (first | apply zl | apply zm | apply zk)); exact HO_6.out) hg hat)).2.2) KL94.out))
                    have n5_ := za ((show Kd.C (Kd.int .i64) w99 A95 y137.length y137 from by rw [Ny137.out, KA95.out]; exact Kd.C_drop (m := ((ji64) : Int).toNat) (c := co55) ((zA (Kd.R_after (ok := (fun k_ => some k_ ≠ (.slice Ao15 t104.length co15 : Value).ownBlock)) (by (with_reducible repeat (first | apply zl | apply zm | apply zk)); exact HO_6.out) hg hat)).2.2) KL95.out ((zA (Kd.R_after (ok := (fun k_ => some k_ ≠ (.slice Ao15 t104.length co15 : Value).ownBlock)) (by (with_reducible repeat (first | apply zl | apply zm | apply zk)); exact HO_6.out) hg hat)).2.1)))
                    have n6_ := za (ho)
                    clear HO_6
                    clear HO_108002
                    clear BK107
                    clear HB
                    clear HR133
                    clear HR140
                    clear HO136
                    have HO_6 := n0_
                    have HO_108002 := n1_
                    have BK107 := n2_
                    have HB := n3_
                    have HR133 := n4_
                    have HR140 := n5_
                    have HO143 := n6_
                    clear n0_ n1_ n2_ n3_ n4_ n5_ n6_
                    clear ho hb hg hat
                    refine hK.out _ _ trivial (fun hHeld => ?_)
                    clear hK K
                    refine norm_ (a' := ?_) ?_ ?_
                    rotate_left
                    ·
                     show Act.put _ (some 131) _ = _
                     simp only [Act.put, List.setIfInBounds_toArray, List.set_cons_zero, List.set_cons_succ, i64_w, i32_w]
                     rfl
                    refine pure_ (i := 10) (N := some 19) (v := ?_) (a' := ?_) #[true, true, true, true, true, true, true, true, true, true, true] rfl rfl (any_of HT_.out (by kernel_rfl)) (fun _ _ _ h => h) (Or.inl ⟨by rfl, ?_⟩) ?_ ?_
                    rotate_left
                    ·
                     intro w'
                     go_simp
                     with_reducible rfl
                    rotate_left
                    ·
                     simp only [Act.put, List.setIfInBounds_toArray, List.set_cons_zero, List.set_cons_succ, i64_w, i32_w]
                     rfl
                    refine done_ (done_of HT_.out (by kernel_rfl)) ?_
                    have hcz100_0 : w99.cell? ⟨gb107, 0, none⟩ = some (.int .i64 t102) := (zg BK107.out 0).trans rfl
                    have hcz100_1 : w99.cell? ⟨gb107, 1, none⟩ = some (.int .i64 t103) := (zg BK107.out 1).trans rfl
                    have hcz100_2 : w99.cell? ⟨gb107, 2, none⟩ = some (.slice Ao15 t104.length co15) := (zg BK107.out 2).trans rfl
                    have hfz100_0 := zj BK107.out 0
                    have hfz100_1 := zj BK107.out 1
                    have hfz100_2 := zj BK107.out 2
                    obtain ⟨Ao101, co101, eo101⟩ := Kd.R_slice HO143.out
                    subst eo101
                    try go_wp2_with (first | ((with_reducible refine zu (f := 25) rfl ?_); refine goesL_ (some 135) rfl rfl Try.func25 (by kernel_rfl) rfl #[.agg #[.int .i64 t102, .int .i64 t103, .slice Ao15 t104.length co15], .slice Ao101 y141.length co101] rfl (by (try simp only [List.map_toArray, List.map_cons, List.map_nil]); first | done | rfl | (simp only [List.length_drop, List.length_take]; rfl)) ?_; (with_reducible refine (impl_ColumnsOf.calls k3 t102 t103 _ _ t104 _ _ y141 t144 false _ ?side1 ?side2 ?side3 ?side4 A68.out).mono ?_); (case side1 => repeat (first | exact (zA HO_108002.out).2.2 | (with_reducible refine zw ?_ _) | (with_reducible refine zx ?_ _) | (with_reducible refine zy ?_))); (case side2 => exact (zA HO_108002.out).2.1); (case side3 => repeat (first | exact (zA HO143.out).2.2 | (with_reducible refine zw ?_ _) | (with_reducible refine zx ?_ _) | (with_reducible refine zy ?_))); (case side4 => exact (zA HO143.out).2.1); rintro e w102 ⟨v145, rfl, ho0, hb⟩; refine ⟨_, rfl, ?_⟩; have n0_ := za (Kd.R_elder' (by (with_reducible repeat (first | apply zl | apply zm | apply zk)); exact HO_6.out) (Kd.R_base ho0) hb); have n1_ := za (Kd.R_elder' (by (with_reducible repeat (first | apply zl | apply zm | apply zk)); exact HO_108002.out) (Kd.R_base ho0) hb); have n2_ := za (Kd.R_elder' (by (with_reducible repeat (first | apply zl | apply zm | apply zk)); exact HO143.out) (Kd.R_base ho0) hb); have n3_ := za (Kd.R_lower (Kd.R_new' (Kd.R_new' (Kd.R_new' ho0 (Kd.R_lt (by (with_reducible repeat (first | apply zl | apply zm | apply zk)); exact HO_6.out))) (Kd.R_lt (by (with_reducible repeat (first | apply zl | apply zm | apply zk)); exact HO_108002.out))) (Kd.R_lt (by (with_reducible repeat (first | apply zl | apply zm | apply zk)); exact HO143.out))) (zn (by repeat (first | (with_reducible first | exact HB.out | apply zc | apply ze | apply zb | refine zd ?_ GE107.out) | exact HB.out)))); have n4_ := za (zB (g := gb107) (o := .cells #[.int .i64 t102, .int .i64 t103, .slice Ao15 t104.length co15] 26 (0, 0)) (by (with_reducible repeat (first | refine zh ?_ _ | refine zf ?_ | refine zi ?_ _)); exact BK107.out) hb); have n5_ := za (zE (by repeat (first | (with_reducible exact HR133.out) | (with_reducible refine zw ?_ _) | (with_reducible refine zx ?_ _) | (with_reducible refine zy ?_) | exact HR133.out)) hb); have n6_ := za (zE (by repeat (first | (with_reducible exact HR140.out) | (with_reducible refine zw ?_ _) | (with_reducible refine zx ?_ _) | (with_reducible refine zy ?_) | exact HR140.out)) hb); have n7_ := za (zv (by repeat (first | (with_reducible first | exact HB.out | apply zc | apply ze | apply zb | refine zd ?_ GE107.out) | exact HB.out)) hb); clear HO_6 HO_108002; clear HO143 BK107; clear HR133 HR140 HB; have HO_6 := n0_; have HO_108002 := n1_; have HO143 := n2_; have HO146 := n3_; have BK107 := n4_; have HR133 := n5_; have HR140 := n6_; have HB := n7_; clear n0_ n1_ n2_ n3_ n4_ n5_ n6_ n7_; (try clear hb); (try clear hb2); (try clear hk); (try clear hi); (try clear ho0)))
                    go_ret
                    exact ⟨by first | rfl | (simp [errW_none, errW_some] <;> rfl) | (simp only [← hji64]; first | rfl | (simp [errW_none, errW_some] <;> rfl)) | (simp [*, errW_none, errW_some] <;> rfl), by repeat (first | (with_reducible first | exact HB.out | apply zc | apply ze | apply zb | refine zd ?_ GE107.out) | exact HB.out)⟩
                  ·
                   rw [if_neg c67] at H
                   exact absurd H (by simp)
                 ·
                  rw [if_neg c66] at H
                  exact absurd H (by simp)
                ·
                 rw [if_neg c65] at H
                 exact absurd H (by simp)
               ·
                rw [if_neg c63] at H
                exact absurd H (by simp)
              ·
               rw [if_neg c62] at H
               exact absurd H (by simp)
             ·
              rw [if_neg c61] at H
              exact absurd H (by simp)
            ·
             rw [if_neg c60] at H
             have c60b0 : decide (x119_3 < (t108.length : Int)) = false := decide_eq_false c60
             clear c60
             have H' := za H
             clear H
             go_wp2
             go_meet
             case rel => exact ⟨_, H', ⟨by have := HJ10.out; have := HJ52.out; have := HK3.out; first | omega | exact Nat.le_refl _⟩, ⟨by (with_reducible repeat (first | apply zl | apply zm | apply zk)); exact zz HO_108002.out (fun _ hk => trivial)⟩, ⟨by (with_reducible repeat (first | refine zh ?_ _ | refine zf ?_ | refine zi ?_ _)); exact BK107.out⟩, ⟨by repeat (first | (with_reducible first | exact HB.out | apply zc | apply ze | apply zb | refine zd ?_ GE107.out) | exact HB.out)⟩⟩
      ·
       replace c51 := Bool.eq_false_iff.mpr c51
       subst c51
       have H1 : (laws_FnRefusingRows.j3 kj10 l1) = some r := by rw [if_neg (show ¬ (false = true) by decide)] at H; exact H
       clear H
       have H := H1
       clear H1
       have H' := za H
       clear H
       go_wp2
       go_meet
       case rel => exact ⟨_, H', ⟨by have := HJ10.out; first | omega | exact Nat.le_refl _⟩, ⟨by (with_reducible repeat (first | apply zl | apply zm | apply zk)); exact zz HO_108002.out (fun _ hk => trivial)⟩, ⟨by (with_reducible repeat (first | refine zh ?_ _ | refine zf ?_ | refine zi ?_ _)); exact BK107.out⟩, ⟨by repeat (first | (with_reducible first | exact HB.out | apply zc | apply ze | apply zb | refine zd ?_ GE107.out) | exact HB.out)⟩⟩
     case rest =>
      clear HC50
      try clear c1
      try clear c2
      try clear p2
      try clear c5
      try clear c6
      try clear c7
      try clear c8
      try clear q8
      try clear c9
      try clear q9
      try clear c25
      try clear c51
      try clear c60
      try clear c60b0
      try clear c61
      try clear c62
      try clear c63
      try clear c65
      try clear c66
      try clear c67
      try clear c69
      try clear c70
      try clear c70b0
      try clear c70b1
      try clear q83
      try clear c84
      try clear q84
      try clear q94
      try clear c95
      try clear q95
      try clear hcz100_0
      try clear hcz100_1
      try clear hcz100_2
      try clear hcz78_0
      try clear hcz78_1
      try clear hcz78_2
      try clear hcz89_0
      try clear hcz89_1
      try clear hcz89_2
      try clear hfz100_0
      try clear hfz100_1
      try clear hfz100_2
      try clear hfz78_0
      try clear hfz78_1
      try clear hfz78_2
      try clear hfz89_0
      try clear hfz89_1
      try clear hfz89_2
      try clear q084
      try clear q095
      try clear q83
      try clear q84
      try clear q94
      try clear q95
      obtain ⟨kq, HA, HJ49, HO_108002, BK107, HB⟩ := hcut
      cases kq with
      | zero => exact absurd HA.out (by simp [laws_FnRefusingRows.j3])
      | succ kj49 =>
       have H := HA.out
       clear HA
       simp only [laws_FnRefusingRows.j3] at H
       replace H := Option.bind_eq_some_iff.mp H
       obtain ⟨⟨t148, t149, t150, t153⟩, A1030, H⟩ := H
       replace H : ((impl_ColumnsOf.f kj49 t148 t149 t150 t153).bind fun bt157 => ((spec_ColumnsOf.f kj49 t148 t149 t150 t153).bind fun bt161 => (if (bt157.2 == bt161.2) = true then ((laws_kSame.f kj49 bt157.1 bt161.1).bind fun t165 => (some t165)) else (some false)))) = some r := H
       have A103 := za A1030
       clear A1030
       replace H := Option.bind_eq_some_iff.mp H
       obtain ⟨⟨t157, t160⟩, A1040, H⟩ := H
       replace H : ((spec_ColumnsOf.f kj49 t148 t149 t150 t153).bind fun bt161 => (if (t160 == bt161.2) = true then ((laws_kSame.f kj49 t157 bt161.1).bind fun t165 => (some t165)) else (some false))) = some r := H
       have A104 := za A1040
       clear A1040
       replace H := Option.bind_eq_some_iff.mp H
       obtain ⟨⟨t161, t164⟩, A1050, H⟩ := H
       replace H : (if (t160 == t164) = true then ((laws_kSame.f kj49 t157 t161).bind fun t165 => (some t165)) else (some false)) = some r := H
       have A105 := za A1050
       clear A1050
       by_cases c106 : (t160 == t164) = true
       ·
        rw [if_pos c106] at H
        have c106b0 : (t160 == t164) = true := c106
        (try (have c106b1 : decide (t160 = t164) = true := by simpa using c106))
        (try (have c106b2 : (t160 == t164) = true := by simpa using c106))
        clear c106
        replace H := Option.bind_eq_some_iff.mp H
        obtain ⟨t165, A1070, H⟩ := H
        replace H : (some t165) = some r := H
        have A107 := za A1070
        clear A1070
        obtain rfl := Option.some.inj H
        go_wp2_with (first | ((with_reducible refine zu (f := 26) rfl ?_); refine goesL_ (some 150) rfl rfl Try.func26 (by kernel_rfl) rfl #[.slice A1 l1.length c1] rfl (by (try simp only [List.map_toArray, List.map_cons, List.map_nil]); first | done | rfl | (simp only [List.length_drop, List.length_take]; rfl)) ?_; (with_reducible refine (spec_DrawColumnsOf.calls kj49 _ _ l1 t148 t149 t150 t153 _ ?side1 ?side2 A103.out).mono ?_); (case side1 => repeat (first | exact (zE HR1.out HB.out) | (with_reducible refine zw ?_ _) | (with_reducible refine zx ?_ _) | (with_reducible refine zy ?_))); (case side2 => exact HC1.out); rintro e w108 ⟨v151, v154, rfl, ho0, ho1, hb⟩; refine ⟨_, rfl, ?_⟩; have n0_ := za (zz (Kd.R_told (Kd.R_told (Kd.R_old (by (with_reducible repeat (first | apply zl | apply zm | apply zk)); exact HO_108002.out) hb) (Kd.R_base ho0)) (Kd.R_base ho1)) (fun _ h_ => h_.1)); have n1_ := za (Kd.R_lower (Kd.R_new' ho0 (Kd.R_lt (by (with_reducible repeat (first | apply zl | apply zm | apply zk)); exact HO_108002.out))) (zn (by repeat (first | (with_reducible first | exact HB.out | apply zc | apply ze | apply zb | refine zd ?_ GE107.out) | exact HB.out)))); have n2_ := za (Kd.R_lower (Kd.R_new' ho1 (Kd.R_lt (by (with_reducible repeat (first | apply zl | apply zm | apply zk)); exact HO_108002.out))) (zn (by repeat (first | (with_reducible first | exact HB.out | apply zc | apply ze | apply zb | refine zd ?_ GE107.out) | exact HB.out)))); have n3_ := za (zB (g := gb107) (o := .cells #[.int .i64 t102, .int .i64 t103, .slice Ao15 t104.length co15] 26 (0, 0)) (by (with_reducible repeat (first | refine zh ?_ _ | refine zf ?_ | refine zi ?_ _)); exact BK107.out) hb); have n4_ := za (zv (by repeat (first | (with_reducible first | exact HB.out | apply zc | apply ze | apply zb | refine zd ?_ GE107.out) | exact HB.out)) hb); clear HO_108002 BK107 HB; have HO_108002 := n0_; have HO152 := n1_; have HO155 := n2_; have BK107 := n3_; have HB := n4_; clear n0_ n1_ n2_ n3_ n4_; (try clear hb); (try clear hb2); (try clear hk); (try clear hi); (try clear ho0); (try clear ho1)) | ((with_reducible refine gate_dst (N := 22) rfl ?_); refine box_event ?hg (N := 22) ?hd (cs := #[.int .i64 0, .int .i64 0, .slice none 0 0]) (t := 26) ?hr ?_; (case hd => rfl); (case hg => rfl); (case hr => first | (go_simp; done) | (go_simp; rfl)); intro gb156 hg w109 hbox hb; have n0_ := za (Kd.R_below (by (with_reducible repeat (first | apply zl | apply zm | apply zk)); exact HO_108002.out) hb); have n1_ := za (Kd.R_below (by (with_reducible repeat (first | apply zl | apply zm | apply zk)); exact HO152.out) hb); have n2_ := za (Kd.R_below (by (with_reducible repeat (first | apply zl | apply zm | apply zk)); exact HO155.out) hb); have n3_ := za (zB (g := gb107) (o := .cells #[.int .i64 t102, .int .i64 t103, .slice Ao15 t104.length co15] 26 (0, 0)) (by (with_reducible repeat (first | refine zh ?_ _ | refine zf ?_ | refine zi ?_ _)); exact BK107.out) hb); have n4_ := za (zv (by repeat (first | (with_reducible first | exact HB.out | apply zc | apply ze | apply zb | refine zd ?_ GE107.out) | exact HB.out)) hb); have n5_ := za (hbox); have n6_ := za ((by rw [hg]; exact (zn (by repeat (first | (with_reducible first | exact HB.out | apply zc | apply ze | apply zb | refine zd ?_ GE107.out) | exact HB.out))) : w.heap.size ≤ gb156)); have n7_ := za ((by rw [hg]; exact (zn (by repeat (first | (with_reducible first | exact HB.out | apply zc | apply ze | apply zb | refine zd ?_ GE107.out) | exact HB.out))) : w.heap.size ≤ gb156)); have n8_ := za ((by rw [hg]; exact Nat.ne_of_lt (blk_lt (g := gb107) (o := .cells #[.int .i64 t102, .int .i64 t103, .slice Ao15 t104.length co15] 26 (0, 0)) (by (with_reducible repeat (first | refine zh ?_ _ | refine zf ?_ | refine zi ?_ _)); exact BK107.out)) : gb107 ≠ gb156)); have n9_ := za ((by rw [hg]; exact Nat.ne_of_gt (blk_lt (g := gb107) (o := .cells #[.int .i64 t102, .int .i64 t103, .slice Ao15 t104.length co15] 26 (0, 0)) (by (with_reducible repeat (first | refine zh ?_ _ | refine zf ?_ | refine zi ?_ _)); exact BK107.out)) : gb156 ≠ gb107)); clear HO_108002 HO152; clear HO155 BK107 HB; have HO_108002 := n0_; have HO152 := n1_; have HO155 := n2_; have BK107 := n3_; have HB := n4_; have BK156 := n5_; have GW156 := n6_; have GE156 := n7_; have NB107_156 := n8_; have NB156_107 := n9_; clear n0_ n1_ n2_ n3_ n4_ n5_ n6_ n7_ n8_ n9_; clear hb hbox hg; have hnb110 := NB156_107.out; have hnc110 := NB107_156.out; have hcz111_0 : w109.cell? ⟨gb156, 0, none⟩ = some (.int .i64 0) := (zg BK156.out 0).trans rfl; have hcz111_1 : w109.cell? ⟨gb156, 1, none⟩ = some (.int .i64 0) := (zg BK156.out 1).trans rfl; have hcz111_2 : w109.cell? ⟨gb156, 2, none⟩ = some (.slice none 0 0) := (zg BK156.out 2).trans rfl; have hfz111_0 := zj BK156.out 0; have hfz111_1 := zj BK156.out 1; have hfz111_2 := zj BK156.out 2; obtain ⟨Ao112, co112, eo112⟩ := Kd.R_slice HO152.out; subst eo112; obtain ⟨Ao113, co113, eo113⟩ := Kd.R_slice HO155.out; subst eo113) | ((with_reducible refine zu (f := 25) rfl ?_); refine goesL_ (some 156) rfl rfl Try.func25 (by kernel_rfl) rfl #[.agg #[.int .i64 t148, .int .i64 t149, .slice Ao112 t150.length co112], .slice Ao113 t153.length co113] rfl (by (try simp only [List.map_toArray, List.map_cons, List.map_nil]); first | done | rfl | (simp only [List.length_drop, List.length_take]; rfl)) ?_; (with_reducible refine (impl_ColumnsOf.calls kj49 t148 t149 _ _ t150 _ _ t153 t157 t160 _ ?side1 ?side2 ?side3 ?side4 A104.out).mono ?_); (case side1 => refine (zA (e := 3) (base := w.heap.size) (ok := fun k_ => (some k_ ≠ (.slice Ao113 t153.length co113 : Value).ownBlock ∧ some k_ ≠ (.slice Ao15 t104.length co15 : Value).ownBlock)) (n := t150.length) (c := co112) ?_).2.2; exact (by (with_reducible repeat (first | apply zl | apply zm | apply zk)); exact (zz (zt (p := ⟨gb156, 2, none⟩) (zt (p := ⟨gb156, 1, none⟩) (zt (p := ⟨gb156, 0, none⟩) (Kd.R_types HO152.out BK156.out (by decide)) (fun _ hk => hk.2) (.int .i64 t148)) (fun _ hk => hk.2) (.int .i64 t149)) (fun _ hk => hk.2) (.slice Ao112 t150.length co112)) (fun _ h_ => h_.1)))); (case side2 => exact (zA HO152.out).2.1); (case side3 => refine (zA (e := 3) (base := w.heap.size) (ok := fun k_ => (some k_ ≠ (.slice Ao112 t150.length co112 : Value).ownBlock ∧ some k_ ≠ (.slice Ao15 t104.length co15 : Value).ownBlock)) (n := t153.length) (c := co113) ?_).2.2; exact (by (with_reducible repeat (first | apply zl | apply zm | apply zk)); exact (zz (zt (p := ⟨gb156, 2, none⟩) (zt (p := ⟨gb156, 1, none⟩) (zt (p := ⟨gb156, 0, none⟩) (Kd.R_types HO155.out BK156.out (by decide)) (fun _ hk => hk.2) (.int .i64 t148)) (fun _ hk => hk.2) (.int .i64 t149)) (fun _ hk => hk.2) (.slice Ao112 t150.length co112)) (fun _ h_ => h_.1)))); (case side4 => exact (zA HO155.out).2.1); rintro e w114 ⟨v158, rfl, ho0, hb⟩; refine ⟨_, rfl, ?_⟩; have n0_ := za (Kd.R_elder' (by (with_reducible repeat (first | apply zl | apply zm | apply zk)); exact (zz (zt (p := ⟨gb156, 2, none⟩) (zt (p := ⟨gb156, 1, none⟩) (zt (p := ⟨gb156, 0, none⟩) (Kd.R_types HO_108002.out BK156.out (by decide)) (fun _ hk => hk.2) (.int .i64 t148)) (fun _ hk => hk.2) (.int .i64 t149)) (fun _ hk => hk.2) (.slice Ao112 t150.length co112)) (fun _ h_ => h_.1))) (Kd.R_base ho0) hb); have n1_ := za (Kd.R_elder' (by (with_reducible repeat (first | apply zl | apply zm | apply zk)); exact (zz (zt (p := ⟨gb156, 2, none⟩) (zt (p := ⟨gb156, 1, none⟩) (zt (p := ⟨gb156, 0, none⟩) (Kd.R_types HO152.out BK156.out (by decide)) (fun _ hk => hk.2) (.int .i64 t148)) (fun _ hk => hk.2) (.int .i64 t149)) (fun _ hk => hk.2) (.slice Ao112 t150.length co112)) (fun _ h_ => h_.1))) (Kd.R_base ho0) hb); have n2_ := za (Kd.R_elder' (by (with_reducible repeat (first | apply zl | apply zm | apply zk)); exact (zz (zt (p := ⟨gb156, 2, none⟩) (zt (p := ⟨gb156, 1, none⟩) (zt (p := ⟨gb156, 0, none⟩) (Kd.R_types HO155.out BK156.out (by decide)) (fun _ hk => hk.2) (.int .i64 t148)) (fun _ hk => hk.2) (.int .i64 t149)) (fun _ hk => hk.2) (.slice Ao112 t150.length co112)) (fun _ h_ => h_.1))) (Kd.R_base ho0) hb); have n3_ := za (Kd.R_lower (Kd.R_new' (Kd.R_new' (Kd.R_new' ho0 (Kd.R_lt (by (with_reducible repeat (first | apply zl | apply zm | apply zk)); exact (zz (zt (p := ⟨gb156, 2, none⟩) (zt (p := ⟨gb156, 1, none⟩) (zt (p := ⟨gb156, 0, none⟩) (Kd.R_types HO_108002.out BK156.out (by decide)) (fun _ hk => hk.2) (.int .i64 t148)) (fun _ hk => hk.2) (.int .i64 t149)) (fun _ hk => hk.2) (.slice Ao112 t150.length co112)) (fun _ h_ => h_.1))))) (Kd.R_lt (by (with_reducible repeat (first | apply zl | apply zm | apply zk)); exact (zz (zt (p := ⟨gb156, 2, none⟩) (zt (p := ⟨gb156, 1, none⟩) (zt (p := ⟨gb156, 0, none⟩) (Kd.R_types HO152.out BK156.out (by decide)) (fun _ hk => hk.2) (.int .i64 t148)) (fun _ hk => hk.2) (.int .i64 t149)) (fun _ hk => hk.2) (.slice Ao112 t150.length co112)) (fun _ h_ => h_.1))))) (Kd.R_lt (by (with_reducible repeat (first | apply zl | apply zm | apply zk)); exact (zz (zt (p := ⟨gb156, 2, none⟩) (zt (p := ⟨gb156, 1, none⟩) (zt (p := ⟨gb156, 0, none⟩) (Kd.R_types HO155.out BK156.out (by decide)) (fun _ hk => hk.2) (.int .i64 t148)) (fun _ hk => hk.2) (.int .i64 t149)) (fun _ hk => hk.2) (.slice Ao112 t150.length co112)) (fun _ h_ => h_.1))))) (zn (by repeat (first | (with_reducible first | exact HB.out | apply zc | apply ze | apply zb | refine zd ?_ GE107.out | refine zd ?_ GE156.out) | exact HB.out)))); have n4_ := za (zB (g := gb107) (o := .cells #[.int .i64 t102, .int .i64 t103, .slice Ao15 t104.length co15] 26 (0, 0)) (by (with_reducible repeat (first | refine zh ?_ _ | refine zf ?_ | refine zi ?_ _)); refine blk_far ?_ NB107_156.out _; (with_reducible repeat (first | refine zh ?_ _ | refine zf ?_ | refine zi ?_ _)); refine blk_far ?_ NB107_156.out _; (with_reducible repeat (first | refine zh ?_ _ | refine zf ?_ | refine zi ?_ _)); refine blk_far ?_ NB107_156.out _; (with_reducible repeat (first | refine zh ?_ _ | refine zf ?_ | refine zi ?_ _)); exact BK107.out) hb); have n5_ := za (zB (g := gb156) (o := .cells #[.int .i64 t148, .int .i64 t149, .slice Ao112 t150.length co112] 26 (0, 0)) (by (with_reducible repeat (first | refine zh ?_ _ | refine zf ?_ | refine zi ?_ _)); refine blk_put (cs := #[.int .i64 t148, .int .i64 t149, .slice none 0 0]) ?_ 2 _ rfl; (with_reducible repeat (first | refine zh ?_ _ | refine zf ?_ | refine zi ?_ _)); refine blk_put (cs := #[.int .i64 t148, .int .i64 0, .slice none 0 0]) ?_ 1 _ rfl; (with_reducible repeat (first | refine zh ?_ _ | refine zf ?_ | refine zi ?_ _)); refine blk_put (cs := #[.int .i64 0, .int .i64 0, .slice none 0 0]) ?_ 0 _ rfl; (with_reducible repeat (first | refine zh ?_ _ | refine zf ?_ | refine zi ?_ _)); exact BK156.out) hb); have n6_ := za (zv (by repeat (first | (with_reducible first | exact HB.out | apply zc | apply ze | apply zb | refine zd ?_ GE107.out | refine zd ?_ GE156.out) | exact HB.out)) hb); clear HO_108002 HO152; clear HO155 BK107; clear BK156 HB; have HO_108002 := n0_; have HO152 := n1_; have HO155 := n2_; have HO159 := n3_; have BK107 := n4_; have BK156 := n5_; have HB := n6_; clear n0_ n1_ n2_ n3_ n4_ n5_ n6_; (try clear hb); (try clear hb2); (try clear hk); (try clear hi); (try clear ho0); have hcz115_0 : w114.cell? ⟨gb156, 0, none⟩ = some (.int .i64 t148) := (zg BK156.out 0).trans rfl; have hcz115_1 : w114.cell? ⟨gb156, 1, none⟩ = some (.int .i64 t149) := (zg BK156.out 1).trans rfl; have hcz115_2 : w114.cell? ⟨gb156, 2, none⟩ = some (.slice Ao112 t150.length co112) := (zg BK156.out 2).trans rfl; have hfz115_0 := zj BK156.out 0; have hfz115_1 := zj BK156.out 1; have hfz115_2 := zj BK156.out 2) | ((with_reducible refine zu (f := 27) rfl ?_); refine goesL_ (some 162) rfl rfl Try.func27 (by kernel_rfl) rfl #[.agg #[.int .i64 t148, .int .i64 t149, .slice Ao112 t150.length co112], .slice Ao113 t153.length co113] rfl (by (try simp only [List.map_toArray, List.map_cons, List.map_nil]); first | done | rfl | (simp only [List.length_drop, List.length_take]; rfl)) ?_; (with_reducible refine (spec_ColumnsOf.calls kj49 t148 t149 _ _ t150 _ _ t153 t161 t164 _ ?side1 ?side2 ?side3 ?side4 A105.out).mono ?_); (case side1 => repeat (first | exact (zA HO152.out).2.2 | (with_reducible refine zw ?_ _) | (with_reducible refine zx ?_ _) | (with_reducible refine zy ?_))); (case side2 => exact (zA HO152.out).2.1); (case side3 => repeat (first | exact (zA HO155.out).2.2 | (with_reducible refine zw ?_ _) | (with_reducible refine zx ?_ _) | (with_reducible refine zy ?_))); (case side4 => exact (zA HO155.out).2.1); rintro e w116 ⟨v162, rfl, ho0, hb⟩; refine ⟨_, rfl, ?_⟩; have n0_ := za (Kd.R_elder' (by (with_reducible repeat (first | apply zl | apply zm | apply zk)); exact HO_108002.out) (Kd.R_base ho0) hb); have n1_ := za (Kd.R_elder' (by (with_reducible repeat (first | apply zl | apply zm | apply zk)); exact HO152.out) (Kd.R_base ho0) hb); have n2_ := za (Kd.R_elder' (by (with_reducible repeat (first | apply zl | apply zm | apply zk)); exact HO155.out) (Kd.R_base ho0) hb); have n3_ := za (Kd.R_elder' (by (with_reducible repeat (first | apply zl | apply zm | apply zk)); exact HO159.out) (Kd.R_base ho0) hb); have n4_ := za (Kd.R_lower (Kd.R_new' (Kd.R_new' (Kd.R_new' (Kd.R_new' ho0 (Kd.R_lt (by (with_reducible repeat (first | apply zl | apply zm | apply zk)); exact HO_108002.out))) (Kd.R_lt (by (with_reducible repeat (first | apply zl | apply zm | apply zk)); exact HO152.out))) (Kd.R_lt (by (with_reducible repeat (first | apply zl | apply zm | apply zk)); exact HO155.out))) (Kd.R_lt (by (with_reducible repeat (first | apply zl | apply zm | apply zk)); exact HO159.out))) (zn (by repeat (first | (with_reducible first | exact HB.out | apply zc | apply ze | apply zb | refine zd ?_ GE107.out | refine zd ?_ GE156.out) | exact HB.out)))); have n5_ := za (zB (g := gb107) (o := .cells #[.int .i64 t102, .int .i64 t103, .slice Ao15 t104.length co15] 26 (0, 0)) (by (with_reducible repeat (first | refine zh ?_ _ | refine zf ?_ | refine zi ?_ _)); exact BK107.out) hb); have n6_ := za (zB (g := gb156) (o := .cells #[.int .i64 t148, .int .i64 t149, .slice Ao112 t150.length co112] 26 (0, 0)) (by (with_reducible repeat (first | refine zh ?_ _ | refine zf ?_ | refine zi ?_ _)); exact BK156.out) hb); have n7_ := za (zv (by repeat (first | (with_reducible first | exact HB.out | apply zc | apply ze | apply zb | refine zd ?_ GE107.out | refine zd ?_ GE156.out) | exact HB.out)) hb); clear HO_108002 HO152; clear HO155 HO159; clear BK107 BK156 HB; have HO_108002 := n0_; have HO152 := n1_; have HO155 := n2_; have HO159 := n3_; have HO163 := n4_; have BK107 := n5_; have BK156 := n6_; have HB := n7_; clear n0_ n1_ n2_ n3_ n4_ n5_ n6_ n7_; (try clear hb); (try clear hb2); (try clear hk); (try clear hi); (try clear ho0); obtain ⟨Ao117, co117, eo117⟩ := Kd.R_slice HO159.out; subst eo117; obtain ⟨Ao118, co118, eo118⟩ := Kd.R_slice HO163.out; subst eo118) | (go_at_call 24; (with_reducible refine (laws_kSame.calls kj49 _ _ t157 _ _ t161 t165 _ ?side1 ?side2 ?side3 ?side4 A107.out).mono ?_); (case side1 => repeat (first | exact (zA HO159.out).2.2 | (with_reducible refine zw ?_ _) | (with_reducible refine zx ?_ _) | (with_reducible refine zy ?_))); (case side2 => exact (zA HO159.out).2.1); (case side3 => repeat (first | exact (zA HO163.out).2.2 | (with_reducible refine zw ?_ _) | (with_reducible refine zx ?_ _) | (with_reducible refine zy ?_))); (case side4 => exact (zA HO163.out).2.1); rintro e w' ⟨rfl, ⟨nd, rfl⟩⟩))
        go_ret
        exact ⟨by first | rfl | (simp [errW_none, errW_some] <;> rfl) | (simp [*, errW_none, errW_some] <;> rfl), by repeat (first | (with_reducible first | exact HB.out | apply zc | apply ze | apply zb | refine zd ?_ GE107.out | refine zd ?_ GE156.out) | exact HB.out)⟩
       ·
        rw [if_neg c106] at H
        have c106b0 : (t160 == t164) = false := by simpa using c106
        (try (have c106b1 : decide (t160 = t164) = false := by simpa using c106))
        (try (have c106b2 : (t160 == t164) = false := by simpa using c106))
        (try (have c106b3 : ¬ (t160 = t164) := by simpa using c106))
        clear c106
        obtain rfl := Option.some.inj H
        go_wp2_with (first | ((with_reducible refine zu (f := 26) rfl ?_); refine goesL_ (some 150) rfl rfl Try.func26 (by kernel_rfl) rfl #[.slice A1 l1.length c1] rfl (by (try simp only [List.map_toArray, List.map_cons, List.map_nil]); first | done | rfl | (simp only [List.length_drop, List.length_take]; rfl)) ?_; (with_reducible refine (spec_DrawColumnsOf.calls kj49 _ _ l1 t148 t149 t150 t153 _ ?side1 ?side2 A103.out).mono ?_); (case side1 => repeat (first | exact (zE HR1.out HB.out) | (with_reducible refine zw ?_ _) | (with_reducible refine zx ?_ _) | (with_reducible refine zy ?_))); (case side2 => exact HC1.out); rintro e w119 ⟨v151, v154, rfl, ho0, ho1, hb⟩; refine ⟨_, rfl, ?_⟩; have n0_ := za (zz (Kd.R_told (Kd.R_told (Kd.R_old (by (with_reducible repeat (first | apply zl | apply zm | apply zk)); exact HO_108002.out) hb) (Kd.R_base ho0)) (Kd.R_base ho1)) (fun _ h_ => h_.1)); have n1_ := za (Kd.R_lower (Kd.R_new' ho0 (Kd.R_lt (by (with_reducible repeat (first | apply zl | apply zm | apply zk)); exact HO_108002.out))) (zn (by repeat (first | (with_reducible first | exact HB.out | apply zc | apply ze | apply zb | refine zd ?_ GE107.out) | exact HB.out)))); have n2_ := za (Kd.R_lower (Kd.R_new' ho1 (Kd.R_lt (by (with_reducible repeat (first | apply zl | apply zm | apply zk)); exact HO_108002.out))) (zn (by repeat (first | (with_reducible first | exact HB.out | apply zc | apply ze | apply zb | refine zd ?_ GE107.out) | exact HB.out)))); have n3_ := za (zB (g := gb107) (o := .cells #[.int .i64 t102, .int .i64 t103, .slice Ao15 t104.length co15] 26 (0, 0)) (by (with_reducible repeat (first | refine zh ?_ _ | refine zf ?_ | refine zi ?_ _)); exact BK107.out) hb); have n4_ := za (zv (by repeat (first | (with_reducible first | exact HB.out | apply zc | apply ze | apply zb | refine zd ?_ GE107.out) | exact HB.out)) hb); clear HO_108002 BK107 HB; have HO_108002 := n0_; have HO152 := n1_; have HO155 := n2_; have BK107 := n3_; have HB := n4_; clear n0_ n1_ n2_ n3_ n4_; (try clear hb); (try clear hb2); (try clear hk); (try clear hi); (try clear ho0); (try clear ho1)) | ((with_reducible refine gate_dst (N := 22) rfl ?_); refine box_event ?hg (N := 22) ?hd (cs := #[.int .i64 0, .int .i64 0, .slice none 0 0]) (t := 26) ?hr ?_; (case hd => rfl); (case hg => rfl); (case hr => first | (go_simp; done) | (go_simp; rfl)); intro gb156 hg w120 hbox hb; have n0_ := za (Kd.R_below (by (with_reducible repeat (first | apply zl | apply zm | apply zk)); exact HO_108002.out) hb); have n1_ := za (Kd.R_below (by (with_reducible repeat (first | apply zl | apply zm | apply zk)); exact HO152.out) hb); have n2_ := za (Kd.R_below (by (with_reducible repeat (first | apply zl | apply zm | apply zk)); exact HO155.out) hb); have n3_ := za (zB (g := gb107) (o := .cells #[.int .i64 t102, .int .i64 t103, .slice Ao15 t104.length co15] 26 (0, 0)) (by (with_reducible repeat (first | refine zh ?_ _ | refine zf ?_ | refine zi ?_ _)); exact BK107.out) hb); have n4_ := za (zv (by repeat (first | (with_reducible first | exact HB.out | apply zc | apply ze | apply zb | refine zd ?_ GE107.out) | exact HB.out)) hb); have n5_ := za (hbox); have n6_ := za ((by rw [hg]; exact (zn (by repeat (first | (with_reducible first | exact HB.out | apply zc | apply ze | apply zb | refine zd ?_ GE107.out) | exact HB.out))) : w.heap.size ≤ gb156)); have n7_ := za ((by rw [hg]; exact (zn (by repeat (first | (with_reducible first | exact HB.out | apply zc | apply ze | apply zb | refine zd ?_ GE107.out) | exact HB.out))) : w.heap.size ≤ gb156)); have n8_ := za ((by rw [hg]; exact Nat.ne_of_lt (blk_lt (g := gb107) (o := .cells #[.int .i64 t102, .int .i64 t103, .slice Ao15 t104.length co15] 26 (0, 0)) (by (with_reducible repeat (first | refine zh ?_ _ | refine zf ?_ | refine zi ?_ _)); exact BK107.out)) : gb107 ≠ gb156)); have n9_ := za ((by rw [hg]; exact Nat.ne_of_gt (blk_lt (g := gb107) (o := .cells #[.int .i64 t102, .int .i64 t103, .slice Ao15 t104.length co15] 26 (0, 0)) (by (with_reducible repeat (first | refine zh ?_ _ | refine zf ?_ | refine zi ?_ _)); exact BK107.out)) : gb156 ≠ gb107)); clear HO_108002 HO152; clear HO155 BK107 HB; have HO_108002 := n0_; have HO152 := n1_; have HO155 := n2_; have BK107 := n3_; have HB := n4_; have BK156 := n5_; have GW156 := n6_; have GE156 := n7_; have NB107_156 := n8_; have NB156_107 := n9_; clear n0_ n1_ n2_ n3_ n4_ n5_ n6_ n7_ n8_ n9_; clear hb hbox hg; have hnb121 := NB156_107.out; have hnc121 := NB107_156.out; have hcz122_0 : w120.cell? ⟨gb156, 0, none⟩ = some (.int .i64 0) := (zg BK156.out 0).trans rfl; have hcz122_1 : w120.cell? ⟨gb156, 1, none⟩ = some (.int .i64 0) := (zg BK156.out 1).trans rfl; have hcz122_2 : w120.cell? ⟨gb156, 2, none⟩ = some (.slice none 0 0) := (zg BK156.out 2).trans rfl; have hfz122_0 := zj BK156.out 0; have hfz122_1 := zj BK156.out 1; have hfz122_2 := zj BK156.out 2; obtain ⟨Ao123, co123, eo123⟩ := Kd.R_slice HO152.out; subst eo123; obtain ⟨Ao124, co124, eo124⟩ := Kd.R_slice HO155.out; subst eo124) | ((with_reducible refine zu (f := 25) rfl ?_); refine goesL_ (some 156) rfl rfl Try.func25 (by kernel_rfl) rfl #[.agg #[.int .i64 t148, .int .i64 t149, .slice Ao123 t150.length co123], .slice Ao124 t153.length co124] rfl (by (try simp only [List.map_toArray, List.map_cons, List.map_nil]); first | done | rfl | (simp only [List.length_drop, List.length_take]; rfl)) ?_; (with_reducible refine (impl_ColumnsOf.calls kj49 t148 t149 _ _ t150 _ _ t153 t157 t160 _ ?side1 ?side2 ?side3 ?side4 A104.out).mono ?_); (case side1 => refine (zA (e := 3) (base := w.heap.size) (ok := fun k_ => (some k_ ≠ (.slice Ao124 t153.length co124 : Value).ownBlock ∧ some k_ ≠ (.slice Ao15 t104.length co15 : Value).ownBlock)) (n := t150.length) (c := co123) ?_).2.2; exact (by (with_reducible repeat (first | apply zl | apply zm | apply zk)); exact (zz (zt (p := ⟨gb156, 2, none⟩) (zt (p := ⟨gb156, 1, none⟩) (zt (p := ⟨gb156, 0, none⟩) (Kd.R_types HO152.out BK156.out (by decide)) (fun _ hk => hk.2) (.int .i64 t148)) (fun _ hk => hk.2) (.int .i64 t149)) (fun _ hk => hk.2) (.slice Ao123 t150.length co123)) (fun _ h_ => h_.1)))); (case side2 => exact (zA HO152.out).2.1); (case side3 => refine (zA (e := 3) (base := w.heap.size) (ok := fun k_ => (some k_ ≠ (.slice Ao123 t150.length co123 : Value).ownBlock ∧ some k_ ≠ (.slice Ao15 t104.length co15 : Value).ownBlock)) (n := t153.length) (c := co124) ?_).2.2; exact (by (with_reducible repeat (first | apply zl | apply zm | apply zk)); exact (zz (zt (p := ⟨gb156, 2, none⟩) (zt (p := ⟨gb156, 1, none⟩) (zt (p := ⟨gb156, 0, none⟩) (Kd.R_types HO155.out BK156.out (by decide)) (fun _ hk => hk.2) (.int .i64 t148)) (fun _ hk => hk.2) (.int .i64 t149)) (fun _ hk => hk.2) (.slice Ao123 t150.length co123)) (fun _ h_ => h_.1)))); (case side4 => exact (zA HO155.out).2.1); rintro e w125 ⟨v158, rfl, ho0, hb⟩; refine ⟨_, rfl, ?_⟩; have n0_ := za (Kd.R_elder' (by (with_reducible repeat (first | apply zl | apply zm | apply zk)); exact (zz (zt (p := ⟨gb156, 2, none⟩) (zt (p := ⟨gb156, 1, none⟩) (zt (p := ⟨gb156, 0, none⟩) (Kd.R_types HO_108002.out BK156.out (by decide)) (fun _ hk => hk.2) (.int .i64 t148)) (fun _ hk => hk.2) (.int .i64 t149)) (fun _ hk => hk.2) (.slice Ao123 t150.length co123)) (fun _ h_ => h_.1))) (Kd.R_base ho0) hb); have n1_ := za (Kd.R_elder' (by (with_reducible repeat (first | apply zl | apply zm | apply zk)); exact (zz (zt (p := ⟨gb156, 2, none⟩) (zt (p := ⟨gb156, 1, none⟩) (zt (p := ⟨gb156, 0, none⟩) (Kd.R_types HO152.out BK156.out (by decide)) (fun _ hk => hk.2) (.int .i64 t148)) (fun _ hk => hk.2) (.int .i64 t149)) (fun _ hk => hk.2) (.slice Ao123 t150.length co123)) (fun _ h_ => h_.1))) (Kd.R_base ho0) hb); have n2_ := za (Kd.R_elder' (by (with_reducible repeat (first | apply zl | apply zm | apply zk)); exact (zz (zt (p := ⟨gb156, 2, none⟩) (zt (p := ⟨gb156, 1, none⟩) (zt (p := ⟨gb156, 0, none⟩) (Kd.R_types HO155.out BK156.out (by decide)) (fun _ hk => hk.2) (.int .i64 t148)) (fun _ hk => hk.2) (.int .i64 t149)) (fun _ hk => hk.2) (.slice Ao123 t150.length co123)) (fun _ h_ => h_.1))) (Kd.R_base ho0) hb); have n3_ := za (Kd.R_lower (Kd.R_new' (Kd.R_new' (Kd.R_new' ho0 (Kd.R_lt (by (with_reducible repeat (first | apply zl | apply zm | apply zk)); exact (zz (zt (p := ⟨gb156, 2, none⟩) (zt (p := ⟨gb156, 1, none⟩) (zt (p := ⟨gb156, 0, none⟩) (Kd.R_types HO_108002.out BK156.out (by decide)) (fun _ hk => hk.2) (.int .i64 t148)) (fun _ hk => hk.2) (.int .i64 t149)) (fun _ hk => hk.2) (.slice Ao123 t150.length co123)) (fun _ h_ => h_.1))))) (Kd.R_lt (by (with_reducible repeat (first | apply zl | apply zm | apply zk)); exact (zz (zt (p := ⟨gb156, 2, none⟩) (zt (p := ⟨gb156, 1, none⟩) (zt (p := ⟨gb156, 0, none⟩) (Kd.R_types HO152.out BK156.out (by decide)) (fun _ hk => hk.2) (.int .i64 t148)) (fun _ hk => hk.2) (.int .i64 t149)) (fun _ hk => hk.2) (.slice Ao123 t150.length co123)) (fun _ h_ => h_.1))))) (Kd.R_lt (by (with_reducible repeat (first | apply zl | apply zm | apply zk)); exact (zz (zt (p := ⟨gb156, 2, none⟩) (zt (p := ⟨gb156, 1, none⟩) (zt (p := ⟨gb156, 0, none⟩) (Kd.R_types HO155.out BK156.out (by decide)) (fun _ hk => hk.2) (.int .i64 t148)) (fun _ hk => hk.2) (.int .i64 t149)) (fun _ hk => hk.2) (.slice Ao123 t150.length co123)) (fun _ h_ => h_.1))))) (zn (by repeat (first | (with_reducible first | exact HB.out | apply zc | apply ze | apply zb | refine zd ?_ GE107.out | refine zd ?_ GE156.out) | exact HB.out)))); have n4_ := za (zB (g := gb107) (o := .cells #[.int .i64 t102, .int .i64 t103, .slice Ao15 t104.length co15] 26 (0, 0)) (by (with_reducible repeat (first | refine zh ?_ _ | refine zf ?_ | refine zi ?_ _)); refine blk_far ?_ NB107_156.out _; (with_reducible repeat (first | refine zh ?_ _ | refine zf ?_ | refine zi ?_ _)); refine blk_far ?_ NB107_156.out _; (with_reducible repeat (first | refine zh ?_ _ | refine zf ?_ | refine zi ?_ _)); refine blk_far ?_ NB107_156.out _; (with_reducible repeat (first | refine zh ?_ _ | refine zf ?_ | refine zi ?_ _)); exact BK107.out) hb); have n5_ := za (zB (g := gb156) (o := .cells #[.int .i64 t148, .int .i64 t149, .slice Ao123 t150.length co123] 26 (0, 0)) (by (with_reducible repeat (first | refine zh ?_ _ | refine zf ?_ | refine zi ?_ _)); refine blk_put (cs := #[.int .i64 t148, .int .i64 t149, .slice none 0 0]) ?_ 2 _ rfl; (with_reducible repeat (first | refine zh ?_ _ | refine zf ?_ | refine zi ?_ _)); refine blk_put (cs := #[.int .i64 t148, .int .i64 0, .slice none 0 0]) ?_ 1 _ rfl; (with_reducible repeat (first | refine zh ?_ _ | refine zf ?_ | refine zi ?_ _)); refine blk_put (cs := #[.int .i64 0, .int .i64 0, .slice none 0 0]) ?_ 0 _ rfl; (with_reducible repeat (first | refine zh ?_ _ | refine zf ?_ | refine zi ?_ _)); exact BK156.out) hb); have n6_ := za (zv (by repeat (first | (with_reducible first | exact HB.out | apply zc | apply ze | apply zb | refine zd ?_ GE107.out | refine zd ?_ GE156.out) | exact HB.out)) hb); clear HO_108002 HO152; clear HO155 BK107; clear BK156 HB; have HO_108002 := n0_; have HO152 := n1_; have HO155 := n2_; have HO159 := n3_; have BK107 := n4_; have BK156 := n5_; have HB := n6_; clear n0_ n1_ n2_ n3_ n4_ n5_ n6_; (try clear hb); (try clear hb2); (try clear hk); (try clear hi); (try clear ho0); have hcz126_0 : w125.cell? ⟨gb156, 0, none⟩ = some (.int .i64 t148) := (zg BK156.out 0).trans rfl; have hcz126_1 : w125.cell? ⟨gb156, 1, none⟩ = some (.int .i64 t149) := (zg BK156.out 1).trans rfl; have hcz126_2 : w125.cell? ⟨gb156, 2, none⟩ = some (.slice Ao123 t150.length co123) := (zg BK156.out 2).trans rfl; have hfz126_0 := zj BK156.out 0; have hfz126_1 := zj BK156.out 1; have hfz126_2 := zj BK156.out 2) | ((with_reducible refine zu (f := 27) rfl ?_); refine goesL_ (some 162) rfl rfl Try.func27 (by kernel_rfl) rfl #[.agg #[.int .i64 t148, .int .i64 t149, .slice Ao123 t150.length co123], .slice Ao124 t153.length co124] rfl (by (try simp only [List.map_toArray, List.map_cons, List.map_nil]); first | done | rfl | (simp only [List.length_drop, List.length_take]; rfl)) ?_; (with_reducible refine (spec_ColumnsOf.calls kj49 t148 t149 _ _ t150 _ _ t153 t161 t164 _ ?side1 ?side2 ?side3 ?side4 A105.out).mono ?_); (case side1 => repeat (first | exact (zA HO152.out).2.2 | (with_reducible refine zw ?_ _) | (with_reducible refine zx ?_ _) | (with_reducible refine zy ?_))); (case side2 => exact (zA HO152.out).2.1); (case side3 => repeat (first | exact (zA HO155.out).2.2 | (with_reducible refine zw ?_ _) | (with_reducible refine zx ?_ _) | (with_reducible refine zy ?_))); (case side4 => exact (zA HO155.out).2.1); rintro e w127 ⟨v162, rfl, ho0, hb⟩; refine ⟨_, rfl, ?_⟩; have n0_ := za (Kd.R_elder' (by (with_reducible repeat (first | apply zl | apply zm | apply zk)); exact HO_108002.out) (Kd.R_base ho0) hb); have n1_ := za (Kd.R_elder' (by (with_reducible repeat (first | apply zl | apply zm | apply zk)); exact HO152.out) (Kd.R_base ho0) hb); have n2_ := za (Kd.R_elder' (by (with_reducible repeat (first | apply zl | apply zm | apply zk)); exact HO155.out) (Kd.R_base ho0) hb); have n3_ := za (Kd.R_elder' (by (with_reducible repeat (first | apply zl | apply zm | apply zk)); exact HO159.out) (Kd.R_base ho0) hb); have n4_ := za (Kd.R_lower (Kd.R_new' (Kd.R_new' (Kd.R_new' (Kd.R_new' ho0 (Kd.R_lt (by (with_reducible repeat (first | apply zl | apply zm | apply zk)); exact HO_108002.out))) (Kd.R_lt (by (with_reducible repeat (first | apply zl | apply zm | apply zk)); exact HO152.out))) (Kd.R_lt (by (with_reducible repeat (first | apply zl | apply zm | apply zk)); exact HO155.out))) (Kd.R_lt (by (with_reducible repeat (first | apply zl | apply zm | apply zk)); exact HO159.out))) (zn (by repeat (first | (with_reducible first | exact HB.out | apply zc | apply ze | apply zb | refine zd ?_ GE107.out | refine zd ?_ GE156.out) | exact HB.out)))); have n5_ := za (zB (g := gb107) (o := .cells #[.int .i64 t102, .int .i64 t103, .slice Ao15 t104.length co15] 26 (0, 0)) (by (with_reducible repeat (first | refine zh ?_ _ | refine zf ?_ | refine zi ?_ _)); exact BK107.out) hb); have n6_ := za (zB (g := gb156) (o := .cells #[.int .i64 t148, .int .i64 t149, .slice Ao123 t150.length co123] 26 (0, 0)) (by (with_reducible repeat (first | refine zh ?_ _ | refine zf ?_ | refine zi ?_ _)); exact BK156.out) hb); have n7_ := za (zv (by repeat (first | (with_reducible first | exact HB.out | apply zc | apply ze | apply zb | refine zd ?_ GE107.out | refine zd ?_ GE156.out) | exact HB.out)) hb); clear HO_108002 HO152; clear HO155 HO159; clear BK107 BK156 HB; have HO_108002 := n0_; have HO152 := n1_; have HO155 := n2_; have HO159 := n3_; have HO163 := n4_; have BK107 := n5_; have BK156 := n6_; have HB := n7_; clear n0_ n1_ n2_ n3_ n4_ n5_ n6_ n7_; (try clear hb); (try clear hb2); (try clear hk); (try clear hi); (try clear ho0)))
        go_ret
        exact ⟨by first | rfl | (simp [errW_none, errW_some] <;> rfl) | (simp [*, errW_none, errW_some] <;> rfl), by repeat (first | (with_reducible first | exact HB.out | apply zc | apply ze | apply zb | refine zd ?_ GE107.out | refine zd ?_ GE156.out) | exact HB.out)⟩
def laws_FnRefusingRows.Pure : Prop := ∀ (l0 : List Int) (l1 : List Int), l0.length ≤ maxLen → l0.length * 1 ≤ 140737488351232 → (∀ x ∈ l0, (Lit.int .u8 x).wf = true) → l1.length ≤ maxLen → l1.length * 1 ≤ 140737488351232 → (∀ x ∈ l1, (Lit.int .u8 x).wf = true) → ∃ k, laws_FnRefusingRows.f k l0 l1 = some true
theorem laws_FnRefusingRows.walk (P : laws_FnRefusingRows.Pure) (a0 : Option Addr) (len0 cap0 : Nat) (z0 : List Int) (a1 : Option Addr) (len1 cap1 : Nat) (z1 : List Int) (w : World) (w0 : (a0 = none ∧ len0 = 0 ∧ cap0 = 0 ∧ z0 = []) ∨ ∃ x, a0 = some x ∧ len0 ≤ cap0 ∧ cap0 ≤ maxLen ∧ z0.length = cap0 ∧ (∀ i, i < z0.length → w.cell? (x.add i) = some (.int .u8 (z0.getD i 0))) ∧ ∀ n ∈ z0, (Lit.int .u8 n).wf = true) (y0 : len0 * 1 ≤ 140737488351232) (w1 : (a1 = none ∧ len1 = 0 ∧ cap1 = 0 ∧ z1 = []) ∨ ∃ x, a1 = some x ∧ len1 ≤ cap1 ∧ cap1 ≤ maxLen ∧ z1.length = cap1 ∧ (∀ i, i < z1.length → w.cell? (x.add i) = some (.int .u8 (z1.getD i 0))) ∧ ∀ n ∈ z1, (Lit.int .u8 n).wf = true) (y1 : len1 * 1 ≤ 140737488351232) :
  Calls Try.prog 3 #[.slice a0 len0 cap0, .slice a1 len1 cap1] w fun e w' => e = .returned (.bool true) ∧ Below w.heap.size w w' := by
 obtain ⟨l0, rfl, hr0, hm0, hw0, hc0⟩ := ReadsInt.ofRowC w0
 obtain ⟨l1, rfl, hr1, hm1, hw1, hc1⟩ := ReadsInt.ofRowC w1
 obtain ⟨k, h⟩ := P l0 l1 hm0 y0 hw0 hm1 y1 hw1
 refine (laws_FnRefusingRows.calls k _ _ l0 _ _ l1 true w (Kd.C_of_reads (d := (0 : Int)) (h1 := fun _ => rfl) hr0) hc0 (Kd.C_of_reads (d := (0 : Int)) (h1 := fun _ => rfl) hr1) hc1 h).mono ?_
 rintro e w' ⟨rfl, hd⟩
 exact ⟨rfl, hd⟩
end Go.Proofs.Ytgnmcfoenmfhcaa.Q
end
