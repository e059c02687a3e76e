/- Texts of this claim put together (12): words, what the functions compute, and plain facts. No conditions. -/
import Derived.Test.YtiopnmgcajohfaaSFnPermutationsHit4
import Derived.Test.YtiopnmgcajohfaaSFnPermutationsHit5
import Derived.Test.YtiopnmgcajohfaaSFnPermutationsHit7
import Derived.Test.YtiopnmgcajohfaaSFnPermutationsHit10
import Derived.Test.YtiopnmgcajohfaaSFnPermutationsHit11
import Derived.Test.YtiopnmgcajohfaaSFnPermutationsHit6
import Derived.Test.YtiopnmgcajohfaaSFnPermutationsHit0
section
namespace Go.Proofs.Ytiopnmgcajohfaa.Q
open Go.RowKit Go.Proofs.YtiopnmgcajohfaaW.PrintWords Go.Proofs.YtiopnmgcajohfaaW.PrintLast Go.Proofs.YtiopnmgcajohfaaW.PrintMore
attribute [local go_sem] max2_int min2_int max_two min_two max_three min_three max_four min_four   -- for this text's walks alone
set_option linter.unusedVariables false
set_option linter.unusedSimpArgs false
mutual
def laws_FnPermutationsHit.j0 : Nat → List Int → Int → List (List Int) → Bool → List Int → Bool → Bool → Int → Int → List Int → Option (Bool)
 | 0, _, _, _, _, _, _, _, _, _, _ => none
 | k + 1, x1, x6, x7, x8, x11, x12, x85, x109000, x109001, x109002 => if x85 = true then (some false) else (if x8 = true then ((impl_HitNumbers.f x109000 x109001 x109002).bind fun bt127 => (if bt127.2 = true then (if x6 < (bt127.1.length : Int) then (if 0 ≤ x6 then (if (rd bt127.1 x6) = (x7.length : Int) then (if x6 ≥ (bt127.1.length : Int) then (if (x7.length : Int) > 0 then (laws_FnPermutationsHit.j1 k x1 x6 x7 true x109000 x109001 x109002) else (if x12 = true then (if 0 < (x7.length : Int) then ((laws_kSame.f k x11 (rd_L1 x7 0)).bind fun t133 => (laws_FnPermutationsHit.j1 k x1 x6 x7 (!t133) x109000 x109001 x109002)) else (none)) else (laws_FnPermutationsHit.j1 k x1 x6 x7 false x109000 x109001 x109002))) else (if x12 = true then (if 0 < (x7.length : Int) then ((laws_kSame.f k x11 (rd_L1 x7 0)).bind fun t135 => (laws_FnPermutationsHit.j1 k x1 x6 x7 (!t135) x109000 x109001 x109002)) else (none)) else (laws_FnPermutationsHit.j1 k x1 x6 x7 false x109000 x109001 x109002))) else (laws_FnPermutationsHit.j1 k x1 x6 x7 true x109000 x109001 x109002)) else (none)) else (if x6 ≥ (bt127.1.length : Int) then (if (x7.length : Int) > 0 then (laws_FnPermutationsHit.j1 k x1 x6 x7 true x109000 x109001 x109002) else (if x12 = true then (if 0 < (x7.length : Int) then ((laws_kSame.f k x11 (rd_L1 x7 0)).bind fun t137 => (laws_FnPermutationsHit.j1 k x1 x6 x7 (!t137) x109000 x109001 x109002)) else (none)) else (laws_FnPermutationsHit.j1 k x1 x6 x7 false x109000 x109001 x109002))) else (if x12 = true then (if 0 < (x7.length : Int) then ((laws_kSame.f k x11 (rd_L1 x7 0)).bind fun t139 => (laws_FnPermutationsHit.j1 k x1 x6 x7 (!t139) x109000 x109001 x109002)) else (none)) else (laws_FnPermutationsHit.j1 k x1 x6 x7 false x109000 x109001 x109002)))) else (laws_FnPermutationsHit.j1 k x1 x6 x7 true x109000 x109001 x109002))) else ((spec_DrawHitsOf.f k x1).bind fun bt158 => ((impl_HitsOf.f k bt158.1 bt158.2.1 bt158.2.2.1 bt158.2.2.2).bind fun bt167 => ((spec_HitsOf.f k bt158.1 bt158.2.1 bt158.2.2.1 bt158.2.2.2).bind fun bt169 => (if (bt167.2 == bt169.2) = true then (some (bt167.1 == bt169.1)) else (some false))))))
def laws_FnPermutationsHit.j1 : Nat → List Int → Int → List (List Int) → Bool → Int → Int → List Int → Option (Bool)
 | 0, _, _, _, _, _, _, _ => none
 | k + 1, x1, x6, x7, x130, x109000, x109001, x109002 => if x130 = true then (some false) else (laws_FnPermutationsHit.l0 k x1 x6 x7 x7 (x7.length : Int) 0 x109000 x109001 x109002)
def laws_FnPermutationsHit.l0 : Nat → List Int → Int → List (List Int) → List (List Int) → Int → Int → Int → Int → List Int → Option (Bool)
 | 0, _, _, _, _, _, _, _, _, _ => none
 | k + 1, x1, x6, x7, x131, x132, x133, x109000, x109001, x109002 => if x133 < x132 then (if 0 ≤ x133 then (if x133 < (x131.length : Int) then ((impl_HitsOf.f k x109000 x109001 x109002 (rd_L1 x131 x133)).bind fun bt154 => (if bt154.2 = true then (if bt154.1 = x6 then (if x133 > 0 then (if 0 ≤ (wrap64 (x133 - 1)) then (if (wrap64 (x133 - 1)) < (x7.length : Int) then ((laws_kLess.f k (rd_L1 x7 (wrap64 (x133 - 1))) (rd_L1 x131 x133)).bind fun t157 => (if t157 = true then (laws_FnPermutationsHit.l0 k x1 x6 x7 x131 x132 (wrap64 (x133 + 1)) x109000 x109001 x109002) else (some false))) else (none)) else (none)) else (laws_FnPermutationsHit.l0 k x1 x6 x7 x131 x132 (wrap64 (x133 + 1)) x109000 x109001 x109002)) else (some false)) else (some false))) else (none)) else (none)) else ((spec_DrawHitsOf.f k x1).bind fun bt140 => ((impl_HitsOf.f k bt140.1 bt140.2.1 bt140.2.2.1 bt140.2.2.2).bind fun bt149 => ((spec_HitsOf.f k bt140.1 bt140.2.1 bt140.2.2.1 bt140.2.2.2).bind fun bt151 => (if (bt149.2 == bt151.2) = true then (some (bt149.1 == bt151.1)) else (some false)))))
end
def laws_FnPermutationsHit.f (k : Nat) (l0 : List Int) (l1 : List Int) : Option (Bool) := (laws_big.f l0 l1).bind fun t101 => (if t101 = true then (some true) else ((spec_DrawPermutationsHitting.f k l0).bind fun bt102 => ((impl_PermutationsHitting.f bt102.1 bt102.2.1 bt102.2.2.1 bt102.2.2.2).bind fun bt109 => ((spec_PermutationsHitting.f k bt102.1 bt102.2.1 bt102.2.2.1 bt102.2.2.2).bind fun bt113 => ((impl_FirstHitting.f bt102.1 bt102.2.1 bt102.2.2.1 bt102.2.2.2).bind fun bt117 => ((spec_FirstHitting.f k bt102.1 bt102.2.1 bt102.2.2.1 bt102.2.2.2).bind fun bt121 => (if (bt109.2 != bt113.2) = true then (laws_FnPermutationsHit.j0 k l1 bt102.2.2.2 bt109.1 bt109.2 bt117.1 bt117.2 true bt102.1 bt102.2.1 bt102.2.2.1) else ((laws_kRows.f k bt109.1 bt113.1).bind fun t125 => (if t125 = true then (if (bt117.2 != bt121.2) = true then (laws_FnPermutationsHit.j0 k l1 bt102.2.2.2 bt109.1 bt109.2 bt117.1 bt117.2 true bt102.1 bt102.2.1 bt102.2.2.1) else ((laws_kSame.f k bt117.1 bt121.1).bind fun t126 => (if t126 = true then (laws_FnPermutationsHit.j0 k l1 bt102.2.2.2 bt109.1 bt109.2 bt117.1 bt117.2 (bt117.2 != (decide ((bt109.1.length : Int) > 0))) bt102.1 bt102.2.1 bt102.2.2.1) else (laws_FnPermutationsHit.j0 k l1 bt102.2.2.2 bt109.1 bt109.2 bt117.1 bt117.2 true bt102.1 bt102.2.1 bt102.2.2.1)))) else (laws_FnPermutationsHit.j0 k l1 bt102.2.2.2 bt109.1 bt109.2 bt117.1 bt117.2 true bt102.1 bt102.2.1 bt102.2.2.1))))))))))
set_option maxHeartbeats 8000000 in
set_option maxRecDepth 100000 in
theorem laws_FnPermutationsHit.calls (k : Nat) (A0 : Option Addr) (c0 : Nat) (l0 : List Int) (A1 : Option Addr) (c1 : Nat) (l1 : List Int) (r : Bool) (w : World) (hr0 : Kd.C (Kd.int .u8) w A0 l0.length l0) (hc0 : l0.length ≤ c0) (hr1 : Kd.C (Kd.int .u8) w A1 l1.length l1) (hc1 : l1.length ≤ c1) (h : laws_FnPermutationsHit.f k l0 l1 = some r) :
  Calls Try.prog 7 #[.slice A0 l0.length c0, .slice A1 l1.length c1] w fun e w' => e = .returned (.bool r) ∧ Below w.heap.size w w' := by
 have hu43 := Try.underlying43
 have HR0 := za hr0
 have HC0 := za hc0
 clear hr0 hc0
 have HR1 := za hr1
 have HC1 := za hc1
 clear hr1 hc1
 have HB := za (Below.refl w.heap.size w)
 have H : ((laws_big.f l0 l1).bind fun t101 => (if t101 = true then (some true) else ((spec_DrawPermutationsHitting.f k l0).bind fun bt102 => ((impl_PermutationsHitting.f bt102.1 bt102.2.1 bt102.2.2.1 bt102.2.2.2).bind fun bt109 => ((spec_PermutationsHitting.f k bt102.1 bt102.2.1 bt102.2.2.1 bt102.2.2.2).bind fun bt113 => ((impl_FirstHitting.f bt102.1 bt102.2.1 bt102.2.2.1 bt102.2.2.2).bind fun bt117 => ((spec_FirstHitting.f k bt102.1 bt102.2.1 bt102.2.2.1 bt102.2.2.2).bind fun bt121 => (if (bt109.2 != bt113.2) = true then (laws_FnPermutationsHit.j0 k l1 bt102.2.2.2 bt109.1 bt109.2 bt117.1 bt117.2 true bt102.1 bt102.2.1 bt102.2.2.1) else ((laws_kRows.f k bt109.1 bt113.1).bind fun t125 => (if t125 = true then (if (bt117.2 != bt121.2) = true then (laws_FnPermutationsHit.j0 k l1 bt102.2.2.2 bt109.1 bt109.2 bt117.1 bt117.2 true bt102.1 bt102.2.1 bt102.2.2.1) else ((laws_kSame.f k bt117.1 bt121.1).bind fun t126 => (if t126 = true then (laws_FnPermutationsHit.j0 k l1 bt102.2.2.2 bt109.1 bt109.2 bt117.1 bt117.2 (bt117.2 != (decide ((bt109.1.length : Int) > 0))) bt102.1 bt102.2.1 bt102.2.2.1) else (laws_FnPermutationsHit.j0 k l1 bt102.2.2.2 bt109.1 bt109.2 bt117.1 bt117.2 true bt102.1 bt102.2.1 bt102.2.2.1)))) else (laws_FnPermutationsHit.j0 k l1 bt102.2.2.2 bt109.1 bt109.2 bt117.1 bt117.2 true bt102.1 bt102.2.1 bt102.2.2.1))))))))))) = some r := h
 clear h
 replace H := Option.bind_eq_some_iff.mp H
 obtain ⟨t101, A30, H⟩ := H
 replace H : (if t101 = true then (some true) else ((spec_DrawPermutationsHitting.f k l0).bind fun bt102 => ((impl_PermutationsHitting.f bt102.1 bt102.2.1 bt102.2.2.1 bt102.2.2.2).bind fun bt109 => ((spec_PermutationsHitting.f k bt102.1 bt102.2.1 bt102.2.2.1 bt102.2.2.2).bind fun bt113 => ((impl_FirstHitting.f bt102.1 bt102.2.1 bt102.2.2.1 bt102.2.2.2).bind fun bt117 => ((spec_FirstHitting.f k bt102.1 bt102.2.1 bt102.2.2.1 bt102.2.2.2).bind fun bt121 => (if (bt109.2 != bt113.2) = true then (laws_FnPermutationsHit.j0 k l1 bt102.2.2.2 bt109.1 bt109.2 bt117.1 bt117.2 true bt102.1 bt102.2.1 bt102.2.2.1) else ((laws_kRows.f k bt109.1 bt113.1).bind fun t125 => (if t125 = true then (if (bt117.2 != bt121.2) = true then (laws_FnPermutationsHit.j0 k l1 bt102.2.2.2 bt109.1 bt109.2 bt117.1 bt117.2 true bt102.1 bt102.2.1 bt102.2.2.1) else ((laws_kSame.f k bt117.1 bt121.1).bind fun t126 => (if t126 = true then (laws_FnPermutationsHit.j0 k l1 bt102.2.2.2 bt109.1 bt109.2 bt117.1 bt117.2 (bt117.2 != (decide ((bt109.1.length : Int) > 0))) bt102.1 bt102.2.1 bt102.2.2.1) else (laws_FnPermutationsHit.j0 k l1 bt102.2.2.2 bt109.1 bt109.2 bt117.1 bt117.2 true bt102.1 bt102.2.1 bt102.2.2.1)))) else (laws_FnPermutationsHit.j0 k l1 bt102.2.2.2 bt109.1 bt109.2 bt117.1 bt117.2 true bt102.1 bt102.2.1 bt102.2.2.1)))))))))) = some r := H
 have A3 := za A30
 clear A30
 by_cases c4 : t101 = true
 ·
  subst c4
  have H1 : (some true) = some r := by rw [if_pos rfl] at H; exact H
  clear H
  have H := H1
  clear H1
  obtain rfl := Option.some.inj H
  go_enter Try.func7, Try.ntmps7
  go_wp2_with (first | ((with_reducible refine zy (f := 32) rfl ?_); refine goesL_ (some 29) rfl rfl Try.func32 (by kernel_rfl) rfl #[.slice A0 l0.length c0, .slice A1 l1.length c1] rfl (by (try simp only [List.map_toArray, List.map_cons, List.map_nil]); first | done | rfl | (simp only [List.length_drop, List.length_take]; rfl)) ?_; (with_reducible refine (laws_big.calls _ _ l0 _ _ l1 true _ ?side1 ?side2 ?side3 ?side4 A3.out).mono ?_); (case side1 => repeat (first | exact HR0.out | (with_reducible refine zp ?_ _) | (with_reducible refine zq ?_ _) | (with_reducible refine zr ?_))); (case side2 => exact HC0.out); (case side3 => repeat (first | exact HR1.out | (with_reducible refine zp ?_ _) | (with_reducible refine zq ?_ _) | (with_reducible refine zr ?_))); (case side4 => exact HC1.out); rintro e w' ⟨rfl, ⟨nd, rfl⟩⟩; refine ⟨_, rfl, ?_⟩))
  go_ret
  exact ⟨by first | rfl | (simp [errW_none, errW_some] <;> rfl) | (simp [*, errW_none, errW_some] <;> rfl), by repeat (first | (with_reducible first | exact HB.out | apply zc | apply zd | apply zb) | exact HB.out)⟩
 ·
  as_aux_lemma =>
   replace c4 := Bool.eq_false_iff.mpr c4
   subst c4
   have H1 : ((spec_DrawPermutationsHitting.f k l0).bind fun bt102 => ((impl_PermutationsHitting.f bt102.1 bt102.2.1 bt102.2.2.1 bt102.2.2.2).bind fun bt109 => ((spec_PermutationsHitting.f k bt102.1 bt102.2.1 bt102.2.2.1 bt102.2.2.2).bind fun bt113 => ((impl_FirstHitting.f bt102.1 bt102.2.1 bt102.2.2.1 bt102.2.2.2).bind fun bt117 => ((spec_FirstHitting.f k bt102.1 bt102.2.1 bt102.2.2.1 bt102.2.2.2).bind fun bt121 => (if (bt109.2 != bt113.2) = true then (laws_FnPermutationsHit.j0 k l1 bt102.2.2.2 bt109.1 bt109.2 bt117.1 bt117.2 true bt102.1 bt102.2.1 bt102.2.2.1) else ((laws_kRows.f k bt109.1 bt113.1).bind fun t125 => (if t125 = true then (if (bt117.2 != bt121.2) = true then (laws_FnPermutationsHit.j0 k l1 bt102.2.2.2 bt109.1 bt109.2 bt117.1 bt117.2 true bt102.1 bt102.2.1 bt102.2.2.1) else ((laws_kSame.f k bt117.1 bt121.1).bind fun t126 => (if t126 = true then (laws_FnPermutationsHit.j0 k l1 bt102.2.2.2 bt109.1 bt109.2 bt117.1 bt117.2 (bt117.2 != (decide ((bt109.1.length : Int) > 0))) bt102.1 bt102.2.1 bt102.2.2.1) else (laws_FnPermutationsHit.j0 k l1 bt102.2.2.2 bt109.1 bt109.2 bt117.1 bt117.2 true bt102.1 bt102.2.1 bt102.2.2.1)))) else (laws_FnPermutationsHit.j0 k l1 bt102.2.2.2 bt109.1 bt109.2 bt117.1 bt117.2 true bt102.1 bt102.2.1 bt102.2.2.1))))))))) = some r := by rw [if_neg (show ¬ (false = true) by decide)] at H; exact H
   clear H
   have H := H1
   clear H1
   replace H := Option.bind_eq_some_iff.mp H
   obtain ⟨⟨t102, t103, t104, t107⟩, A50, H⟩ := H
   replace H : ((impl_PermutationsHitting.f t102 t103 t104 t107).bind fun bt109 => ((spec_PermutationsHitting.f k t102 t103 t104 t107).bind fun bt113 => ((impl_FirstHitting.f t102 t103 t104 t107).bind fun bt117 => ((spec_FirstHitting.f k t102 t103 t104 t107).bind fun bt121 => (if (bt109.2 != bt113.2) = true then (laws_FnPermutationsHit.j0 k l1 t107 bt109.1 bt109.2 bt117.1 bt117.2 true t102 t103 t104) else ((laws_kRows.f k bt109.1 bt113.1).bind fun t125 => (if t125 = true then (if (bt117.2 != bt121.2) = true then (laws_FnPermutationsHit.j0 k l1 t107 bt109.1 bt109.2 bt117.1 bt117.2 true t102 t103 t104) else ((laws_kSame.f k bt117.1 bt121.1).bind fun t126 => (if t126 = true then (laws_FnPermutationsHit.j0 k l1 t107 bt109.1 bt109.2 bt117.1 bt117.2 (bt117.2 != (decide ((bt109.1.length : Int) > 0))) t102 t103 t104) else (laws_FnPermutationsHit.j0 k l1 t107 bt109.1 bt109.2 bt117.1 bt117.2 true t102 t103 t104)))) else (laws_FnPermutationsHit.j0 k l1 t107 bt109.1 bt109.2 bt117.1 bt117.2 true t102 t103 t104)))))))) = some r := H
   have A5 := za A50
   clear A50
   replace H := Option.bind_eq_some_iff.mp H
   obtain ⟨⟨t109, t112⟩, A60, H⟩ := H
   replace H : ((spec_PermutationsHitting.f k t102 t103 t104 t107).bind fun bt113 => ((impl_FirstHitting.f t102 t103 t104 t107).bind fun bt117 => ((spec_FirstHitting.f k t102 t103 t104 t107).bind fun bt121 => (if (t112 != bt113.2) = true then (laws_FnPermutationsHit.j0 k l1 t107 t109 t112 bt117.1 bt117.2 true t102 t103 t104) else ((laws_kRows.f k t109 bt113.1).bind fun t125 => (if t125 = true then (if (bt117.2 != bt121.2) = true then (laws_FnPermutationsHit.j0 k l1 t107 t109 t112 bt117.1 bt117.2 true t102 t103 t104) else ((laws_kSame.f k bt117.1 bt121.1).bind fun t126 => (if t126 = true then (laws_FnPermutationsHit.j0 k l1 t107 t109 t112 bt117.1 bt117.2 (bt117.2 != (decide ((t109.length : Int) > 0))) t102 t103 t104) else (laws_FnPermutationsHit.j0 k l1 t107 t109 t112 bt117.1 bt117.2 true t102 t103 t104)))) else (laws_FnPermutationsHit.j0 k l1 t107 t109 t112 bt117.1 bt117.2 true t102 t103 t104))))))) = some r := H
   have A6 := za A60
   clear A60
   replace H := Option.bind_eq_some_iff.mp H
   obtain ⟨⟨t113, t116⟩, A70, H⟩ := H
   replace H : ((impl_FirstHitting.f t102 t103 t104 t107).bind fun bt117 => ((spec_FirstHitting.f k t102 t103 t104 t107).bind fun bt121 => (if (t112 != t116) = true then (laws_FnPermutationsHit.j0 k l1 t107 t109 t112 bt117.1 bt117.2 true t102 t103 t104) else ((laws_kRows.f k t109 t113).bind fun t125 => (if t125 = true then (if (bt117.2 != bt121.2) = true then (laws_FnPermutationsHit.j0 k l1 t107 t109 t112 bt117.1 bt117.2 true t102 t103 t104) else ((laws_kSame.f k bt117.1 bt121.1).bind fun t126 => (if t126 = true then (laws_FnPermutationsHit.j0 k l1 t107 t109 t112 bt117.1 bt117.2 (bt117.2 != (decide ((t109.length : Int) > 0))) t102 t103 t104) else (laws_FnPermutationsHit.j0 k l1 t107 t109 t112 bt117.1 bt117.2 true t102 t103 t104)))) else (laws_FnPermutationsHit.j0 k l1 t107 t109 t112 bt117.1 bt117.2 true t102 t103 t104)))))) = some r := H
   have A7 := za A70
   clear A70
   replace H := Option.bind_eq_some_iff.mp H
   obtain ⟨⟨t117, t120⟩, A80, H⟩ := H
   replace H : ((spec_FirstHitting.f k t102 t103 t104 t107).bind fun bt121 => (if (t112 != t116) = true then (laws_FnPermutationsHit.j0 k l1 t107 t109 t112 t117 t120 true t102 t103 t104) else ((laws_kRows.f k t109 t113).bind fun t125 => (if t125 = true then (if (t120 != bt121.2) = true then (laws_FnPermutationsHit.j0 k l1 t107 t109 t112 t117 t120 true t102 t103 t104) else ((laws_kSame.f k t117 bt121.1).bind fun t126 => (if t126 = true then (laws_FnPermutationsHit.j0 k l1 t107 t109 t112 t117 t120 (t120 != (decide ((t109.length : Int) > 0))) t102 t103 t104) else (laws_FnPermutationsHit.j0 k l1 t107 t109 t112 t117 t120 true t102 t103 t104)))) else (laws_FnPermutationsHit.j0 k l1 t107 t109 t112 t117 t120 true t102 t103 t104))))) = some r := H
   have A8 := za A80
   clear A80
   replace H := Option.bind_eq_some_iff.mp H
   obtain ⟨⟨t121, t124⟩, A90, H⟩ := H
   replace H : (if (t112 != t116) = true then (laws_FnPermutationsHit.j0 k l1 t107 t109 t112 t117 t120 true t102 t103 t104) else ((laws_kRows.f k t109 t113).bind fun t125 => (if t125 = true then (if (t120 != t124) = true then (laws_FnPermutationsHit.j0 k l1 t107 t109 t112 t117 t120 true t102 t103 t104) else ((laws_kSame.f k t117 t121).bind fun t126 => (if t126 = true then (laws_FnPermutationsHit.j0 k l1 t107 t109 t112 t117 t120 (t120 != (decide ((t109.length : Int) > 0))) t102 t103 t104) else (laws_FnPermutationsHit.j0 k l1 t107 t109 t112 t117 t120 true t102 t103 t104)))) else (laws_FnPermutationsHit.j0 k l1 t107 t109 t112 t117 t120 true t102 t103 t104)))) = some r := H
   have A9 := za A90
   clear A90
   have HC10 := za H
   clear H
   go_enter Try.func7, Try.ntmps7
   go_upto_region 8 with (first | ((with_reducible refine zy (f := 32) rfl ?_); refine goesL_ (some 29) rfl rfl Try.func32 (by kernel_rfl) rfl #[.slice A0 l0.length c0, .slice A1 l1.length c1] rfl (by (try simp only [List.map_toArray, List.map_cons, List.map_nil]); first | done | rfl | (simp only [List.length_drop, List.length_take]; rfl)) ?_; (with_reducible refine (laws_big.calls _ _ l0 _ _ l1 false _ ?side1 ?side2 ?side3 ?side4 A3.out).mono ?_); (case side1 => repeat (first | exact HR0.out | (with_reducible refine zp ?_ _) | (with_reducible refine zq ?_ _) | (with_reducible refine zr ?_))); (case side2 => exact HC0.out); (case side3 => repeat (first | exact HR1.out | (with_reducible refine zp ?_ _) | (with_reducible refine zq ?_ _) | (with_reducible refine zr ?_))); (case side4 => exact HC1.out); rintro e w' ⟨rfl, ⟨nd, rfl⟩⟩; refine ⟨_, rfl, ?_⟩) | ((with_reducible refine zy (f := 33) rfl ?_); refine goesL_ (some 32) rfl rfl Try.func33 (by kernel_rfl) rfl #[.slice A0 l0.length c0] rfl (by (try simp only [List.map_toArray, List.map_cons, List.map_nil]); first | done | rfl | (simp only [List.length_drop, List.length_take]; rfl)) ?_; (with_reducible refine (spec_DrawPermutationsHitting.calls k _ _ l0 t102 t103 t104 t107 _ ?side1 ?side2 A5.out).mono ?_); (case side1 => repeat (first | exact HR0.out | (with_reducible refine zp ?_ _) | (with_reducible refine zq ?_ _) | (with_reducible refine zr ?_))); (case side2 => exact HC0.out); rintro e w11 ⟨v105, rfl, ho0, hb⟩; refine ⟨_, rfl, ?_⟩; have n0_ := za (Kd.R_lower ho0 (zo (by repeat (first | (with_reducible first | exact HB.out | apply zc | apply zd | apply zb) | exact HB.out)))); have n1_ := za (zw (by repeat (first | (with_reducible first | exact HB.out | apply zc | apply zd | apply zb) | exact HB.out)) hb); clear HB; have HO106 := n0_; have HB := n1_; clear n0_ n1_; (try clear hb); (try clear hb2); (try clear hk); (try clear hi); (try clear ho0)) | ((with_reducible refine zF (N := 5) rfl ?_); refine zG ?hg (N := 5) ?hd (cs := #[.int .i64 0, .int .i64 0, .slice none 0 0]) (t := 43) ?hr ?_; (case hd => rfl); (case hg => rfl); (case hr => first | (go_simp; done) | (go_simp; rfl)); intro gb108 hg w12 hbox hb; have n0_ := za (zI (by (with_reducible repeat (first | apply zl | apply zm | apply zk)); exact HO106.out) hb); have n1_ := za (zw (by repeat (first | (with_reducible first | exact HB.out | apply zc | apply zd | apply zb) | exact HB.out)) hb); have n2_ := za (hbox); have n3_ := za ((by rw [hg]; exact (zo (by repeat (first | (with_reducible first | exact HB.out | apply zc | apply zd | apply zb) | exact HB.out))) : w.heap.size ≤ gb108)); have n4_ := za ((by rw [hg]; exact (zo (by repeat (first | (with_reducible first | exact HB.out | apply zc | apply zd | apply zb) | exact HB.out))) : w.heap.size ≤ gb108)); clear HO106 HB; have HO106 := n0_; have HB := n1_; have BK108 := n2_; have GW108 := n3_; have GE108 := n4_; clear n0_ n1_ n2_ n3_ n4_; clear hb hbox hg; have hcz13_0 : w12.cell? ⟨gb108, 0, none⟩ = some (.int .i64 0) := (zi BK108.out 0).trans rfl; have hcz13_1 : w12.cell? ⟨gb108, 1, none⟩ = some (.int .i64 0) := (zi BK108.out 1).trans rfl; have hcz13_2 : w12.cell? ⟨gb108, 2, none⟩ = some (.slice none 0 0) := (zi BK108.out 2).trans rfl; have hfz13_0 := zj BK108.out 0; have hfz13_1 := zj BK108.out 1; have hfz13_2 := zj BK108.out 2; obtain ⟨Ao14, co14, eo14⟩ := Kd.R_slice HO106.out; subst eo14) | ((with_reducible refine zy (f := 31) rfl ?_); refine goesL_ (some 38) rfl rfl Try.func31 (by kernel_rfl) rfl #[.agg #[.int .i64 t102, .int .i64 t103, .slice Ao14 t104.length co14], .int .i64 t107] rfl (by (try simp only [List.map_toArray, List.map_cons, List.map_nil]); first | done | rfl | (simp only [List.length_drop, List.length_take]; rfl)) ?_; (with_reducible refine (impl_PermutationsHitting.calls t102 t103 _ _ t104 t107 t109 t112 _ ?side1 ?side2 A6.out).mono ?_); (case side1 => refine (zB (e := 3) (base := w.heap.size) (ok := fun k_ => True) (n := t104.length) (c := co14) ?_).2.2; exact (by (with_reducible repeat (first | apply zl | apply zm | apply zk)); exact (zz (zn (p := ⟨gb108, 2, none⟩) (zn (p := ⟨gb108, 1, none⟩) (zn (p := ⟨gb108, 0, none⟩) (Kd.R_types HO106.out BK108.out (by decide)) (fun _ hk => hk.2) (.int .i64 t102)) (fun _ hk => hk.2) (.int .i64 t103)) (fun _ hk => hk.2) (.slice Ao14 t104.length co14)) (fun _ h_ => h_.1)))); (case side2 => exact (zB HO106.out).2.1); rintro e w15 ⟨v110, rfl, ho0, hb⟩; refine ⟨_, rfl, ?_⟩; have n0_ := za (zI (by (with_reducible repeat (first | apply zl | apply zm | apply zk)); exact (zz (zn (p := ⟨gb108, 2, none⟩) (zn (p := ⟨gb108, 1, none⟩) (zn (p := ⟨gb108, 0, none⟩) (Kd.R_types HO106.out BK108.out (by decide)) (fun _ hk => hk.2) (.int .i64 t102)) (fun _ hk => hk.2) (.int .i64 t103)) (fun _ hk => hk.2) (.slice Ao14 t104.length co14)) (fun _ h_ => h_.1))) hb); have n1_ := za (Kd.N_lower (Kd.N_mono (ok' := fun k_ => some k_ ≠ (.slice Ao14 t104.length co14 : Value).ownBlock ∧ k_ ≠ gb108) (Kd.S_N (Kd.S_bound ho0)) (fun k_ hk_ => ⟨(Kd.fresh' (Kd.R_lt (by (with_reducible repeat (first | apply zl | apply zm | apply zk)); exact (zz (zn (p := ⟨gb108, 2, none⟩) (zn (p := ⟨gb108, 1, none⟩) (zn (p := ⟨gb108, 0, none⟩) (Kd.R_types HO106.out BK108.out (by decide)) (fun _ hk => hk.2) (.int .i64 t102)) (fun _ hk => hk.2) (.int .i64 t103)) (fun _ hk => hk.2) (.slice Ao14 t104.length co14)) (fun _ h_ => h_.1)))) k_ hk_.2.1), (Kd.freshB (g := gb108) (o := .cells #[.int .i64 t102, .int .i64 t103, .slice Ao14 t104.length co14] 43 (0, 0)) (by (with_reducible repeat (first | refine zg ?_ _ | refine zf ?_ | refine zh ?_ _)); refine blk_put (cs := #[.int .i64 t102, .int .i64 t103, .slice none 0 0]) ?_ 2 _ rfl; (with_reducible repeat (first | refine zg ?_ _ | refine zf ?_ | refine zh ?_ _)); refine blk_put (cs := #[.int .i64 t102, .int .i64 0, .slice none 0 0]) ?_ 1 _ rfl; (with_reducible repeat (first | refine zg ?_ _ | refine zf ?_ | refine zh ?_ _)); refine blk_put (cs := #[.int .i64 0, .int .i64 0, .slice none 0 0]) ?_ 0 _ rfl; (with_reducible repeat (first | refine zg ?_ _ | refine zf ?_ | refine zh ?_ _)); exact BK108.out) k_ hk_.2.1)⟩)) (zo (by repeat (first | (with_reducible first | exact HB.out | apply zc | apply zd | apply zb | refine ze ?_ GE108.out) | exact HB.out)))); have n2_ := za (zA (g := gb108) (o := .cells #[.int .i64 t102, .int .i64 t103, .slice Ao14 t104.length co14] 43 (0, 0)) (by (with_reducible repeat (first | refine zg ?_ _ | refine zf ?_ | refine zh ?_ _)); refine blk_put (cs := #[.int .i64 t102, .int .i64 t103, .slice none 0 0]) ?_ 2 _ rfl; (with_reducible repeat (first | refine zg ?_ _ | refine zf ?_ | refine zh ?_ _)); refine blk_put (cs := #[.int .i64 t102, .int .i64 0, .slice none 0 0]) ?_ 1 _ rfl; (with_reducible repeat (first | refine zg ?_ _ | refine zf ?_ | refine zh ?_ _)); refine blk_put (cs := #[.int .i64 0, .int .i64 0, .slice none 0 0]) ?_ 0 _ rfl; (with_reducible repeat (first | refine zg ?_ _ | refine zf ?_ | refine zh ?_ _)); exact BK108.out) hb); have n3_ := za (zw (by repeat (first | (with_reducible first | exact HB.out | apply zc | apply zd | apply zb | refine ze ?_ GE108.out) | exact HB.out)) hb); clear HO106 BK108 HB; have HO106 := n0_; have HO111 := n1_; have BK108 := n2_; have HB := n3_; clear n0_ n1_ n2_ n3_; (try clear hb); (try clear hb2); (try clear hk); (try clear hi); (try clear ho0); have hcz16_0 : w15.cell? ⟨gb108, 0, none⟩ = some (.int .i64 t102) := (zi BK108.out 0).trans rfl; have hcz16_1 : w15.cell? ⟨gb108, 1, none⟩ = some (.int .i64 t103) := (zi BK108.out 1).trans rfl; have hcz16_2 : w15.cell? ⟨gb108, 2, none⟩ = some (.slice Ao14 t104.length co14) := (zi BK108.out 2).trans rfl; have hfz16_0 := zj BK108.out 0; have hfz16_1 := zj BK108.out 1; have hfz16_2 := zj BK108.out 2) | ((with_reducible refine zy (f := 30) rfl ?_); refine goesL_ (some 44) rfl rfl Try.func30 (by kernel_rfl) rfl #[.agg #[.int .i64 t102, .int .i64 t103, .slice Ao14 t104.length co14], .int .i64 t107] rfl (by (try simp only [List.map_toArray, List.map_cons, List.map_nil]); first | done | rfl | (simp only [List.length_drop, List.length_take]; rfl)) ?_; (with_reducible refine (spec_PermutationsHitting.calls k t102 t103 _ _ t104 t107 t113 t116 _ ?side1 ?side2 A7.out).mono ?_); (case side1 => repeat (first | exact (zB HO106.out).2.2 | (with_reducible refine zp ?_ _) | (with_reducible refine zq ?_ _) | (with_reducible refine zr ?_))); (case side2 => exact (zB HO106.out).2.1); rintro e w17 ⟨v114, rfl, ho0, hb⟩; refine ⟨_, rfl, ?_⟩; have n0_ := za (zI (by (with_reducible repeat (first | apply zl | apply zm | apply zk)); exact HO106.out) hb); have n1_ := za (Kd.N_elder' (by (with_reducible repeat (first | apply zC | apply zD | apply zE)); exact HO111.out) (Kd.N_base ho0) hb); have n2_ := za (Kd.N_lower (Kd.N_mono (ok' := fun k_ => some k_ ≠ (.slice Ao14 t104.length co14 : Value).ownBlock ∧ some k_ ≠ (v110 : Value).ownBlock ∧ k_ ≠ gb108) ho0 (fun k_ hk_ => ⟨(Kd.fresh' (Kd.R_lt (by (with_reducible repeat (first | apply zl | apply zm | apply zk)); exact HO106.out)) k_ hk_), (Kd.fresh' (Kd.N_lt (by (with_reducible repeat (first | apply zC | apply zD | apply zE)); exact HO111.out)) k_ hk_), (Kd.freshB (g := gb108) (o := .cells #[.int .i64 t102, .int .i64 t103, .slice Ao14 t104.length co14] 43 (0, 0)) (by (with_reducible repeat (first | refine zg ?_ _ | refine zf ?_ | refine zh ?_ _)); exact BK108.out) k_ hk_)⟩)) (zo (by repeat (first | (with_reducible first | exact HB.out | apply zc | apply zd | apply zb | refine ze ?_ GE108.out) | exact HB.out)))); have n3_ := za (zA (g := gb108) (o := .cells #[.int .i64 t102, .int .i64 t103, .slice Ao14 t104.length co14] 43 (0, 0)) (by (with_reducible repeat (first | refine zg ?_ _ | refine zf ?_ | refine zh ?_ _)); exact BK108.out) hb); have n4_ := za (zw (by repeat (first | (with_reducible first | exact HB.out | apply zc | apply zd | apply zb | refine ze ?_ GE108.out) | exact HB.out)) hb); clear HO106 HO111; clear BK108 HB; have HO106 := n0_; have HO111 := n1_; have HO115 := n2_; have BK108 := n3_; have HB := n4_; clear n0_ n1_ n2_ n3_ n4_; (try clear hb); (try clear hb2); (try clear hk); (try clear hi); (try clear ho0); have hcz18_0 : w17.cell? ⟨gb108, 0, none⟩ = some (.int .i64 t102) := (zi BK108.out 0).trans rfl; have hcz18_1 : w17.cell? ⟨gb108, 1, none⟩ = some (.int .i64 t103) := (zi BK108.out 1).trans rfl; have hcz18_2 : w17.cell? ⟨gb108, 2, none⟩ = some (.slice Ao14 t104.length co14) := (zi BK108.out 2).trans rfl; have hfz18_0 := zj BK108.out 0; have hfz18_1 := zj BK108.out 1; have hfz18_2 := zj BK108.out 2) | ((with_reducible refine zy (f := 26) rfl ?_); refine goesL_ (some 50) rfl rfl Try.func26 (by kernel_rfl) rfl #[.agg #[.int .i64 t102, .int .i64 t103, .slice Ao14 t104.length co14], .int .i64 t107] rfl (by (try simp only [List.map_toArray, List.map_cons, List.map_nil]); first | done | rfl | (simp only [List.length_drop, List.length_take]; rfl)) ?_; (with_reducible refine (impl_FirstHitting.calls t102 t103 _ _ t104 t107 t117 t120 _ ?side1 ?side2 A8.out).mono ?_); (case side1 => repeat (first | exact (zB HO106.out).2.2 | (with_reducible refine zp ?_ _) | (with_reducible refine zq ?_ _) | (with_reducible refine zr ?_))); (case side2 => exact (zB HO106.out).2.1); rintro e w19 ⟨v118, rfl, ho0, hb⟩; refine ⟨_, rfl, ?_⟩; have n0_ := za (Kd.R_elder' (by (with_reducible repeat (first | apply zl | apply zm | apply zk)); exact HO106.out) (Kd.R_base ho0) hb); have n1_ := za (Kd.N_elder' (by (with_reducible repeat (first | apply zC | apply zD | apply zE)); exact HO111.out) (Kd.R_base ho0) hb); have n2_ := za (Kd.N_elder' (by (with_reducible repeat (first | apply zC | apply zD | apply zE)); exact HO115.out) (Kd.R_base ho0) hb); have n3_ := za (Kd.R_lower (Kd.R_new' ho0 (Kd.R_lt (by (with_reducible repeat (first | apply zl | apply zm | apply zk)); exact HO106.out))) (zo (by repeat (first | (with_reducible first | exact HB.out | apply zc | apply zd | apply zb | refine ze ?_ GE108.out) | exact HB.out)))); have n4_ := za (zA (g := gb108) (o := .cells #[.int .i64 t102, .int .i64 t103, .slice Ao14 t104.length co14] 43 (0, 0)) (by (with_reducible repeat (first | refine zg ?_ _ | refine zf ?_ | refine zh ?_ _)); exact BK108.out) hb); have n5_ := za (zw (by repeat (first | (with_reducible first | exact HB.out | apply zc | apply zd | apply zb | refine ze ?_ GE108.out) | exact HB.out)) hb); clear HO106 HO111; clear HO115 BK108 HB; have HO106 := n0_; have HO111 := n1_; have HO115 := n2_; have HO119 := n3_; have BK108 := n4_; have HB := n5_; clear n0_ n1_ n2_ n3_ n4_ n5_; (try clear hb); (try clear hb2); (try clear hk); (try clear hi); (try clear ho0); have hcz20_0 : w19.cell? ⟨gb108, 0, none⟩ = some (.int .i64 t102) := (zi BK108.out 0).trans rfl; have hcz20_1 : w19.cell? ⟨gb108, 1, none⟩ = some (.int .i64 t103) := (zi BK108.out 1).trans rfl; have hcz20_2 : w19.cell? ⟨gb108, 2, none⟩ = some (.slice Ao14 t104.length co14) := (zi BK108.out 2).trans rfl; have hfz20_0 := zj BK108.out 0; have hfz20_1 := zj BK108.out 1; have hfz20_2 := zj BK108.out 2) | ((with_reducible refine zy (f := 24) rfl ?_); refine goesL_ (some 56) rfl rfl Try.func24 (by kernel_rfl) rfl #[.agg #[.int .i64 t102, .int .i64 t103, .slice Ao14 t104.length co14], .int .i64 t107] rfl (by (try simp only [List.map_toArray, List.map_cons, List.map_nil]); first | done | rfl | (simp only [List.length_drop, List.length_take]; rfl)) ?_; (with_reducible refine (spec_FirstHitting.calls k t102 t103 _ _ t104 t107 t121 t124 _ ?side1 ?side2 A9.out).mono ?_); (case side1 => repeat (first | exact (zB HO106.out).2.2 | (with_reducible refine zp ?_ _) | (with_reducible refine zq ?_ _) | (with_reducible refine zr ?_))); (case side2 => exact (zB HO106.out).2.1); rintro e w21 ⟨v122, rfl, ho0, hb⟩; refine ⟨_, rfl, ?_⟩; have n0_ := za (zI (by (with_reducible repeat (first | apply zl | apply zm | apply zk)); exact HO106.out) hb); have n1_ := za (Kd.N_below (by (with_reducible repeat (first | apply zC | apply zD | apply zE)); exact HO111.out) hb); have n2_ := za (Kd.N_below (by (with_reducible repeat (first | apply zC | apply zD | apply zE)); exact HO115.out) hb); have n3_ := za (zI (by (with_reducible repeat (first | apply zl | apply zm | apply zk)); exact HO119.out) hb); have n4_ := za (Kd.V_lower (Kd.V_mono (ok' := fun k_ => some k_ ≠ (.slice Ao14 t104.length co14 : Value).ownBlock ∧ some k_ ≠ (v110 : Value).ownBlock ∧ some k_ ≠ (v114 : Value).ownBlock ∧ some k_ ≠ (v118 : Value).ownBlock ∧ k_ ≠ gb108) ho0 (fun k_ hk_ => ⟨(Kd.fresh' (Kd.R_lt (by (with_reducible repeat (first | apply zl | apply zm | apply zk)); exact HO106.out)) k_ hk_), (Kd.fresh' (Kd.N_lt (by (with_reducible repeat (first | apply zC | apply zD | apply zE)); exact HO111.out)) k_ hk_), (Kd.fresh' (Kd.N_lt (by (with_reducible repeat (first | apply zC | apply zD | apply zE)); exact HO115.out)) k_ hk_), (Kd.fresh' (Kd.R_lt (by (with_reducible repeat (first | apply zl | apply zm | apply zk)); exact HO119.out)) k_ hk_), (Kd.freshB (g := gb108) (o := .cells #[.int .i64 t102, .int .i64 t103, .slice Ao14 t104.length co14] 43 (0, 0)) (by (with_reducible repeat (first | refine zg ?_ _ | refine zf ?_ | refine zh ?_ _)); exact BK108.out) k_ hk_)⟩)) (zo (by repeat (first | (with_reducible first | exact HB.out | apply zc | apply zd | apply zb | refine ze ?_ GE108.out) | exact HB.out)))); have n5_ := za (zA (g := gb108) (o := .cells #[.int .i64 t102, .int .i64 t103, .slice Ao14 t104.length co14] 43 (0, 0)) (by (with_reducible repeat (first | refine zg ?_ _ | refine zf ?_ | refine zh ?_ _)); exact BK108.out) hb); have n6_ := za (zw (by repeat (first | (with_reducible first | exact HB.out | apply zc | apply zd | apply zb | refine ze ?_ GE108.out) | exact HB.out)) hb); clear HO106 HO111; clear HO115 HO119; clear BK108 HB; have HO106 := n0_; have HO111 := n1_; have HO115 := n2_; have HO119 := n3_; have HO123 := n4_; have BK108 := n5_; have HB := n6_; clear n0_ n1_ n2_ n3_ n4_ n5_ n6_; (try clear hb); (try clear hb2); (try clear hk); (try clear hi); (try clear ho0)))
   (try simp only [Act.put, List.setIfInBounds_toArray, List.set_cons_zero, List.set_cons_succ])
   go_cut [85] (fun v85 wc => ∃ (kq : Nat) (x85_9 : Bool), v85 = .bool x85_9 ∧ Aside0 (laws_FnPermutationsHit.j0 kq l1 t107 t109 t112 t117 t120 x85_9 t102 t103 t104 = some r) ∧ Aside0 (kq ≤ k) ∧ Aside0 (Kd.N (Kd.slice 3 (Kd.int .i64)) 28 wc w.heap.size (fun k_ => some k_ ≠ (v118 : Value).ownBlock ∧ some k_ ≠ ((.slice Ao14 t104.length co14) : Value).ownBlock ∧ k_ ≠ gb108) v110 t109) ∧ Aside0 (Kd.R (Kd.int .i64) 3 wc w.heap.size (fun k_ => some k_ ≠ ((.slice Ao14 t104.length co14) : Value).ownBlock) v118 t117) ∧ Aside0 (Kd.R (Kd.int .i64) 3 wc w.heap.size (fun k_ => some k_ ≠ (v118 : Value).ownBlock) (.slice Ao14 t104.length co14) t104) ∧ Aside0 (wc.heap[gb108]? = some (.cells #[.int .i64 t102, .int .i64 t103, (.slice Ao14 t104.length co14)] 43 (0, 0))) ∧ Aside0 (Below w.heap.size w wc))
   case first =>
    have H := HC10.out
    clear HC10
    by_cases c22 : (t112 != t116) = true
    ·
     rw [if_pos c22] at H
     have c22b0 : (t112 != t116) = true := c22
     (try (have c22b1 : decide (t112 = t116) = false := by simpa using c22))
     (try (have c22b2 : (t112 == t116) = false := by simpa using c22))
     (try (have c22b3 : ¬ (t112 = t116) := by simpa using c22))
     clear c22
     (first | rw [c22b0] | (simp only [i64_w, i32_w]; rw [c22b0]) | skip)
     have H' := za H
     clear H
     go_wp2
     go_meet
     case rel => exact ⟨_, (true), (by first | rfl | (simp; done) | (simp [*]; done)), H', ⟨by first | omega | exact Nat.le_refl _⟩, ⟨by (with_reducible repeat (first | apply zC | apply zD | apply zE)); exact Kd.N_mono HO111.out (fun _ hk => ⟨hk.2, ⟨hk.1.1.1, hk.1.1.2⟩⟩)⟩, ⟨by (with_reducible repeat (first | apply zl | apply zm | apply zk)); exact zz HO119.out (fun _ hk => hk.2)⟩, ⟨by (with_reducible repeat (first | apply zl | apply zm | apply zk)); exact zz HO106.out (fun _ hk => hk.2)⟩, ⟨by (with_reducible repeat (first | refine zg ?_ _ | refine zf ?_ | refine zh ?_ _)); exact BK108.out⟩, ⟨by repeat (first | (with_reducible first | exact HB.out | apply zc | apply zd | apply zb | refine ze ?_ GE108.out) | exact HB.out)⟩⟩
    ·
     as_aux_lemma =>
      rw [if_neg c22] at H
      have c22b0 : (t112 != t116) = false := by simpa using c22
      (try (have c22b1 : decide (t112 = t116) = true := by simpa using c22))
      (try (have c22b2 : (t112 == t116) = true := by simpa using c22))
      clear c22
      (first | rw [c22b0] | (simp only [i64_w, i32_w]; rw [c22b0]) | skip)
      replace H := Option.bind_eq_some_iff.mp H
      obtain ⟨t125, A230, H⟩ := H
      replace H : (if t125 = true then (if (t120 != t124) = true then (laws_FnPermutationsHit.j0 k l1 t107 t109 t112 t117 t120 true t102 t103 t104) else ((laws_kSame.f k t117 t121).bind fun t126 => (if t126 = true then (laws_FnPermutationsHit.j0 k l1 t107 t109 t112 t117 t120 (t120 != (decide ((t109.length : Int) > 0))) t102 t103 t104) else (laws_FnPermutationsHit.j0 k l1 t107 t109 t112 t117 t120 true t102 t103 t104)))) else (laws_FnPermutationsHit.j0 k l1 t107 t109 t112 t117 t120 true t102 t103 t104)) = some r := H
      have A23 := za A230
      clear A230
      by_cases c24 : t125 = true
      ·
       as_aux_lemma =>
        subst c24
        have H1 : (if (t120 != t124) = true then (laws_FnPermutationsHit.j0 k l1 t107 t109 t112 t117 t120 true t102 t103 t104) else ((laws_kSame.f k t117 t121).bind fun t126 => (if t126 = true then (laws_FnPermutationsHit.j0 k l1 t107 t109 t112 t117 t120 (t120 != (decide ((t109.length : Int) > 0))) t102 t103 t104) else (laws_FnPermutationsHit.j0 k l1 t107 t109 t112 t117 t120 true t102 t103 t104)))) = some r := by rw [if_pos rfl] at H; exact H
        clear H
        have H := H1
        clear H1
        by_cases c25 : (t120 != t124) = true
        ·
         rw [if_pos c25] at H
         have c25b0 : (t120 != t124) = true := c25
         (try (have c25b1 : decide (t120 = t124) = false := by simpa using c25))
         (try (have c25b2 : (t120 == t124) = false := by simpa using c25))
         (try (have c25b3 : ¬ (t120 = t124) := by simpa using c25))
         clear c25
         have H' := za H
         clear H
         obtain ⟨Ao26, co26, eo26⟩ := Kd.N_slice HO111.out
         subst eo26
         obtain ⟨Ao27, co27, eo27⟩ := Kd.N_slice HO115.out
         subst eo27
         go_wp2_with (first | (go_at_call 34; (with_reducible refine (laws_kRows.calls k _ _ t109 _ _ t113 true _ ?side1 ?side2 ?side3 ?side4 A23.out).mono ?_); (case side1 => repeat (first | exact (Kd.N_reads' HO111.out).2.2 | (with_reducible refine zp ?_ _) | (with_reducible refine zq ?_ _) | (with_reducible refine zr ?_))); (case side2 => exact (Kd.N_reads' HO111.out).2.1); (case side3 => repeat (first | exact (Kd.N_reads' HO115.out).2.2 | (with_reducible refine zp ?_ _) | (with_reducible refine zq ?_ _) | (with_reducible refine zr ?_))); (case side4 => exact (Kd.N_reads' HO115.out).2.1); rintro e w' ⟨rfl, ⟨nd, rfl⟩⟩))
         go_meet
         case rel => exact ⟨_, (true), (by first | rfl | (simp; done) | (simp [*]; done)), H', ⟨by first | omega | exact Nat.le_refl _⟩, ⟨by (with_reducible repeat (first | apply zC | apply zD | apply zE)); exact Kd.N_mono HO111.out (fun _ hk => ⟨hk.2, ⟨hk.1.1.1, hk.1.1.2⟩⟩)⟩, ⟨by (with_reducible repeat (first | apply zl | apply zm | apply zk)); exact zz HO119.out (fun _ hk => hk.2)⟩, ⟨by (with_reducible repeat (first | apply zl | apply zm | apply zk)); exact zz HO106.out (fun _ hk => hk.2)⟩, ⟨by (with_reducible repeat (first | refine zg ?_ _ | refine zf ?_ | refine zh ?_ _)); exact BK108.out⟩, ⟨by repeat (first | (with_reducible first | exact HB.out | apply zc | apply zd | apply zb | refine ze ?_ GE108.out) | exact HB.out)⟩⟩
        ·
         as_aux_lemma =>
          rw [if_neg c25] at H
          have c25b0 : (t120 != t124) = false := by simpa using c25
          (try (have c25b1 : decide (t120 = t124) = true := by simpa using c25))
          (try (have c25b2 : (t120 == t124) = true := by simpa using c25))
          clear c25
          replace H := Option.bind_eq_some_iff.mp H
          obtain ⟨t126, A280, H⟩ := H
          replace H : (if t126 = true then (laws_FnPermutationsHit.j0 k l1 t107 t109 t112 t117 t120 (t120 != (decide ((t109.length : Int) > 0))) t102 t103 t104) else (laws_FnPermutationsHit.j0 k l1 t107 t109 t112 t117 t120 true t102 t103 t104)) = some r := H
          have A28 := za A280
          clear A280
          by_cases c29 : t126 = true
          ·
           subst c29
           have H1 : (laws_FnPermutationsHit.j0 k l1 t107 t109 t112 t117 t120 (t120 != (decide ((t109.length : Int) > 0))) t102 t103 t104) = some r := by rw [if_pos rfl] at H; exact H
           clear H
           have H := H1
           clear H1
           have H' := za H
           clear H
           obtain ⟨Ao30, co30, eo30⟩ := Kd.N_slice HO111.out
           subst eo30
           obtain ⟨Ao31, co31, eo31⟩ := Kd.N_slice HO115.out
           subst eo31
           go_wp2_with (first | (go_at_call 34; (with_reducible refine (laws_kRows.calls k _ _ t109 _ _ t113 true _ ?side1 ?side2 ?side3 ?side4 A23.out).mono ?_); (case side1 => repeat (first | exact (Kd.N_reads' HO111.out).2.2 | (with_reducible refine zp ?_ _) | (with_reducible refine zq ?_ _) | (with_reducible refine zr ?_))); (case side2 => exact (Kd.N_reads' HO111.out).2.1); (case side3 => repeat (first | exact (Kd.N_reads' HO115.out).2.2 | (with_reducible refine zp ?_ _) | (with_reducible refine zq ?_ _) | (with_reducible refine zr ?_))); (case side4 => exact (Kd.N_reads' HO115.out).2.1); rintro e w' ⟨rfl, ⟨nd, rfl⟩⟩; obtain ⟨Ao32, co32, eo32⟩ := Kd.R_slice HO119.out; subst eo32; obtain ⟨Ao33, co33, eo33⟩ := Kd.V_slice HO123.out; subst eo33) | (go_at_call 35; (with_reducible refine (laws_kSame.calls k _ _ t117 _ _ t121 true _ ?side1 ?side2 ?side3 ?side4 A28.out).mono ?_); (case side1 => repeat (first | exact (zB HO119.out).2.2 | (with_reducible refine zp ?_ _) | (with_reducible refine zq ?_ _) | (with_reducible refine zr ?_))); (case side2 => exact (zB HO119.out).2.1); (case side3 => repeat (first | exact (Kd.V_reads' HO123.out).2.2 | (with_reducible refine zp ?_ _) | (with_reducible refine zq ?_ _) | (with_reducible refine zr ?_))); (case side4 => exact (Kd.V_reads' HO123.out).2.1); rintro e w' ⟨rfl, ⟨nd, rfl⟩⟩))
           go_meet
           case rel => exact ⟨_, ((t120 != (decide ((t109.length : Int) > 0)))), (by first | rfl | (simp; done) | (simp [*]; done) | (simp; cases t120 <;> simp)), H', ⟨by first | omega | exact Nat.le_refl _⟩, ⟨by (with_reducible repeat (first | apply zC | apply zD | apply zE)); exact Kd.N_mono HO111.out (fun _ hk => ⟨hk.2, ⟨hk.1.1.1, hk.1.1.2⟩⟩)⟩, ⟨by (with_reducible repeat (first | apply zl | apply zm | apply zk)); exact zz HO119.out (fun _ hk => hk.2)⟩, ⟨by (with_reducible repeat (first | apply zl | apply zm | apply zk)); exact zz HO106.out (fun _ hk => hk.2)⟩, ⟨by (with_reducible repeat (first | refine zg ?_ _ | refine zf ?_ | refine zh ?_ _)); exact BK108.out⟩, ⟨by repeat (first | (with_reducible first | exact HB.out | apply zc | apply zd | apply zb | refine ze ?_ GE108.out) | exact HB.out)⟩⟩
          ·
           replace c29 := Bool.eq_false_iff.mpr c29
           subst c29
           have H1 : (laws_FnPermutationsHit.j0 k l1 t107 t109 t112 t117 t120 true t102 t103 t104) = some r := by rw [if_neg (show ¬ (false = true) by decide)] at H; exact H
           clear H
           have H := H1
           clear H1
           have H' := za H
           clear H
           obtain ⟨Ao34, co34, eo34⟩ := Kd.N_slice HO111.out
           subst eo34
           obtain ⟨Ao35, co35, eo35⟩ := Kd.N_slice HO115.out
           subst eo35
           go_wp2_with (first | (go_at_call 34; (with_reducible refine (laws_kRows.calls k _ _ t109 _ _ t113 true _ ?side1 ?side2 ?side3 ?side4 A23.out).mono ?_); (case side1 => repeat (first | exact (Kd.N_reads' HO111.out).2.2 | (with_reducible refine zp ?_ _) | (with_reducible refine zq ?_ _) | (with_reducible refine zr ?_))); (case side2 => exact (Kd.N_reads' HO111.out).2.1); (case side3 => repeat (first | exact (Kd.N_reads' HO115.out).2.2 | (with_reducible refine zp ?_ _) | (with_reducible refine zq ?_ _) | (with_reducible refine zr ?_))); (case side4 => exact (Kd.N_reads' HO115.out).2.1); rintro e w' ⟨rfl, ⟨nd, rfl⟩⟩; obtain ⟨Ao36, co36, eo36⟩ := Kd.R_slice HO119.out; subst eo36; obtain ⟨Ao37, co37, eo37⟩ := Kd.V_slice HO123.out; subst eo37) | (go_at_call 35; (with_reducible refine (laws_kSame.calls k _ _ t117 _ _ t121 false _ ?side1 ?side2 ?side3 ?side4 A28.out).mono ?_); (case side1 => repeat (first | exact (zB HO119.out).2.2 | (with_reducible refine zp ?_ _) | (with_reducible refine zq ?_ _) | (with_reducible refine zr ?_))); (case side2 => exact (zB HO119.out).2.1); (case side3 => repeat (first | exact (Kd.V_reads' HO123.out).2.2 | (with_reducible refine zp ?_ _) | (with_reducible refine zq ?_ _) | (with_reducible refine zr ?_))); (case side4 => exact (Kd.V_reads' HO123.out).2.1); rintro e w' ⟨rfl, ⟨nd, rfl⟩⟩))
           go_meet
           case rel => exact ⟨_, (true), (by first | rfl | (simp; done) | (simp [*]; done)), H', ⟨by first | omega | exact Nat.le_refl _⟩, ⟨by (with_reducible repeat (first | apply zC | apply zD | apply zE)); exact Kd.N_mono HO111.out (fun _ hk => ⟨hk.2, ⟨hk.1.1.1, hk.1.1.2⟩⟩)⟩, ⟨by (with_reducible repeat (first | apply zl | apply zm | apply zk)); exact zz HO119.out (fun _ hk => hk.2)⟩, ⟨by (with_reducible repeat (first | apply zl | apply zm | apply zk)); exact zz HO106.out (fun _ hk => hk.2)⟩, ⟨by (with_reducible repeat (first | refine zg ?_ _ | refine zf ?_ | refine zh ?_ _)); exact BK108.out⟩, ⟨by repeat (first | (with_reducible first | exact HB.out | apply zc | apply zd | apply zb | refine ze ?_ GE108.out) | exact HB.out)⟩⟩
      ·
       replace c24 := Bool.eq_false_iff.mpr c24
       subst c24
       have H1 : (laws_FnPermutationsHit.j0 k l1 t107 t109 t112 t117 t120 true t102 t103 t104) = some r := by rw [if_neg (show ¬ (false = true) by decide)] at H; exact H
       clear H
       have H := H1
       clear H1
       have H' := za H
       clear H
       obtain ⟨Ao38, co38, eo38⟩ := Kd.N_slice HO111.out
       subst eo38
       obtain ⟨Ao39, co39, eo39⟩ := Kd.N_slice HO115.out
       subst eo39
       go_wp2_with (first | (go_at_call 34; (with_reducible refine (laws_kRows.calls k _ _ t109 _ _ t113 false _ ?side1 ?side2 ?side3 ?side4 A23.out).mono ?_); (case side1 => repeat (first | exact (Kd.N_reads' HO111.out).2.2 | (with_reducible refine zp ?_ _) | (with_reducible refine zq ?_ _) | (with_reducible refine zr ?_))); (case side2 => exact (Kd.N_reads' HO111.out).2.1); (case side3 => repeat (first | exact (Kd.N_reads' HO115.out).2.2 | (with_reducible refine zp ?_ _) | (with_reducible refine zq ?_ _) | (with_reducible refine zr ?_))); (case side4 => exact (Kd.N_reads' HO115.out).2.1); rintro e w' ⟨rfl, ⟨nd, rfl⟩⟩))
       go_meet
       case rel => exact ⟨_, (true), (by first | rfl | (simp; done) | (simp [*]; done)), H', ⟨by first | omega | exact Nat.le_refl _⟩, ⟨by (with_reducible repeat (first | apply zC | apply zD | apply zE)); exact Kd.N_mono HO111.out (fun _ hk => ⟨hk.2, ⟨hk.1.1.1, hk.1.1.2⟩⟩)⟩, ⟨by (with_reducible repeat (first | apply zl | apply zm | apply zk)); exact zz HO119.out (fun _ hk => hk.2)⟩, ⟨by (with_reducible repeat (first | apply zl | apply zm | apply zk)); exact zz HO106.out (fun _ hk => hk.2)⟩, ⟨by (with_reducible repeat (first | refine zg ?_ _ | refine zf ?_ | refine zh ?_ _)); exact BK108.out⟩, ⟨by repeat (first | (with_reducible first | exact HB.out | apply zc | apply zd | apply zb | refine ze ?_ GE108.out) | exact HB.out)⟩⟩
   case rest =>
    clear HC10
    try clear c1
    try clear c2
    try clear p2
    try clear c3
    try clear c4
    try clear c7
    try clear c22
    try clear c22b0
    try clear c22b1
    try clear c22b2
    try clear c24
    try clear c25
    try clear c25b0
    try clear c25b1
    try clear c25b2
    try clear c26
    try clear c29
    try clear c30
    try clear c31
    try clear c32
    try clear c33
    try clear hcz13_0
    try clear hcz13_1
    try clear hcz13_2
    try clear hcz16_0
    try clear hcz16_1
    try clear hcz16_2
    try clear hcz18_0
    try clear hcz18_1
    try clear hcz18_2
    try clear hcz20_0
    try clear hcz20_1
    try clear hcz20_2
    try clear hfz13_0
    try clear hfz13_1
    try clear hfz13_2
    try clear hfz16_0
    try clear hfz16_1
    try clear hfz16_2
    try clear hfz18_0
    try clear hfz18_1
    try clear hfz18_2
    try clear hfz20_0
    try clear hfz20_1
    try clear hfz20_2
    obtain ⟨kq, x85_9, rfl, HA, HJ9, HO_7, HO_11, HO_109002, BK108, HB⟩ := hcut
    cases kq with
    | zero => exact absurd HA.out (by simp [laws_FnPermutationsHit.j0])
    | succ kj9 =>
     have H := HA.out
     clear HA
     simp only [laws_FnPermutationsHit.j0] at H
     by_cases c40 : x85_9 = true
     ·
      subst c40
      have H1 : (some false) = some r := by rw [if_pos rfl] at H; exact H
      clear H
      have H := H1
      clear H1
      obtain rfl := Option.some.inj H
      go_wp2
      go_ret
      exact ⟨by first | rfl | (simp [errW_none, errW_some] <;> rfl) | (simp [*, errW_none, errW_some] <;> rfl), by repeat (first | (with_reducible first | exact HB.out | apply zc | apply zd | apply zb | refine ze ?_ GE108.out) | exact HB.out)⟩
     ·
      as_aux_lemma =>
       replace c40 := Bool.eq_false_iff.mpr c40
       subst c40
       have H1 : (if t112 = true then ((impl_HitNumbers.f t102 t103 t104).bind fun bt127 => (if bt127.2 = true then (if t107 < (bt127.1.length : Int) then (if 0 ≤ t107 then (if (rd bt127.1 t107) = (t109.length : Int) then (if t107 ≥ (bt127.1.length : Int) then (if (t109.length : Int) > 0 then (laws_FnPermutationsHit.j1 kj9 l1 t107 t109 true t102 t103 t104) else (if t120 = true then (if 0 < (t109.length : Int) then ((laws_kSame.f kj9 t117 (rd_L1 t109 0)).bind fun t133 => (laws_FnPermutationsHit.j1 kj9 l1 t107 t109 (!t133) t102 t103 t104)) else (none)) else (laws_FnPermutationsHit.j1 kj9 l1 t107 t109 false t102 t103 t104))) else (if t120 = true then (if 0 < (t109.length : Int) then ((laws_kSame.f kj9 t117 (rd_L1 t109 0)).bind fun t135 => (laws_FnPermutationsHit.j1 kj9 l1 t107 t109 (!t135) t102 t103 t104)) else (none)) else (laws_FnPermutationsHit.j1 kj9 l1 t107 t109 false t102 t103 t104))) else (laws_FnPermutationsHit.j1 kj9 l1 t107 t109 true t102 t103 t104)) else (none)) else (if t107 ≥ (bt127.1.length : Int) then (if (t109.length : Int) > 0 then (laws_FnPermutationsHit.j1 kj9 l1 t107 t109 true t102 t103 t104) else (if t120 = true then (if 0 < (t109.length : Int) then ((laws_kSame.f kj9 t117 (rd_L1 t109 0)).bind fun t137 => (laws_FnPermutationsHit.j1 kj9 l1 t107 t109 (!t137) t102 t103 t104)) else (none)) else (laws_FnPermutationsHit.j1 kj9 l1 t107 t109 false t102 t103 t104))) else (if t120 = true then (if 0 < (t109.length : Int) then ((laws_kSame.f kj9 t117 (rd_L1 t109 0)).bind fun t139 => (laws_FnPermutationsHit.j1 kj9 l1 t107 t109 (!t139) t102 t103 t104)) else (none)) else (laws_FnPermutationsHit.j1 kj9 l1 t107 t109 false t102 t103 t104)))) else (laws_FnPermutationsHit.j1 kj9 l1 t107 t109 true t102 t103 t104))) else ((spec_DrawHitsOf.f kj9 l1).bind fun bt158 => ((impl_HitsOf.f kj9 bt158.1 bt158.2.1 bt158.2.2.1 bt158.2.2.2).bind fun bt167 => ((spec_HitsOf.f kj9 bt158.1 bt158.2.1 bt158.2.2.1 bt158.2.2.2).bind fun bt169 => (if (bt167.2 == bt169.2) = true then (some (bt167.1 == bt169.1)) else (some false)))))) = some r := by rw [if_neg (show ¬ (false = true) by decide)] at H; exact H
       clear H
       have H := H1
       clear H1
       by_cases c41 : t112 = true
       ·
        as_aux_lemma =>
         subst c41
         have H1 : ((impl_HitNumbers.f t102 t103 t104).bind fun bt127 => (if bt127.2 = true then (if t107 < (bt127.1.length : Int) then (if 0 ≤ t107 then (if (rd bt127.1 t107) = (t109.length : Int) then (if t107 ≥ (bt127.1.length : Int) then (if (t109.length : Int) > 0 then (laws_FnPermutationsHit.j1 kj9 l1 t107 t109 true t102 t103 t104) else (if t120 = true then (if 0 < (t109.length : Int) then ((laws_kSame.f kj9 t117 (rd_L1 t109 0)).bind fun t133 => (laws_FnPermutationsHit.j1 kj9 l1 t107 t109 (!t133) t102 t103 t104)) else (none)) else (laws_FnPermutationsHit.j1 kj9 l1 t107 t109 false t102 t103 t104))) else (if t120 = true then (if 0 < (t109.length : Int) then ((laws_kSame.f kj9 t117 (rd_L1 t109 0)).bind fun t135 => (laws_FnPermutationsHit.j1 kj9 l1 t107 t109 (!t135) t102 t103 t104)) else (none)) else (laws_FnPermutationsHit.j1 kj9 l1 t107 t109 false t102 t103 t104))) else (laws_FnPermutationsHit.j1 kj9 l1 t107 t109 true t102 t103 t104)) else (none)) else (if t107 ≥ (bt127.1.length : Int) then (if (t109.length : Int) > 0 then (laws_FnPermutationsHit.j1 kj9 l1 t107 t109 true t102 t103 t104) else (if t120 = true then (if 0 < (t109.length : Int) then ((laws_kSame.f kj9 t117 (rd_L1 t109 0)).bind fun t137 => (laws_FnPermutationsHit.j1 kj9 l1 t107 t109 (!t137) t102 t103 t104)) else (none)) else (laws_FnPermutationsHit.j1 kj9 l1 t107 t109 false t102 t103 t104))) else (if t120 = true then (if 0 < (t109.length : Int) then ((laws_kSame.f kj9 t117 (rd_L1 t109 0)).bind fun t139 => (laws_FnPermutationsHit.j1 kj9 l1 t107 t109 (!t139) t102 t103 t104)) else (none)) else (laws_FnPermutationsHit.j1 kj9 l1 t107 t109 false t102 t103 t104)))) else (laws_FnPermutationsHit.j1 kj9 l1 t107 t109 true t102 t103 t104))) = some r := by rw [if_pos rfl] at H; exact H
         clear H
         have H := H1
         clear H1
         replace H := Option.bind_eq_some_iff.mp H
         obtain ⟨⟨t127, t130⟩, A420, H⟩ := H
         replace H : (if t130 = true then (if t107 < (t127.length : Int) then (if 0 ≤ t107 then (if (rd t127 t107) = (t109.length : Int) then (if t107 ≥ (t127.length : Int) then (if (t109.length : Int) > 0 then (laws_FnPermutationsHit.j1 kj9 l1 t107 t109 true t102 t103 t104) else (if t120 = true then (if 0 < (t109.length : Int) then ((laws_kSame.f kj9 t117 (rd_L1 t109 0)).bind fun t133 => (laws_FnPermutationsHit.j1 kj9 l1 t107 t109 (!t133) t102 t103 t104)) else (none)) else (laws_FnPermutationsHit.j1 kj9 l1 t107 t109 false t102 t103 t104))) else (if t120 = true then (if 0 < (t109.length : Int) then ((laws_kSame.f kj9 t117 (rd_L1 t109 0)).bind fun t135 => (laws_FnPermutationsHit.j1 kj9 l1 t107 t109 (!t135) t102 t103 t104)) else (none)) else (laws_FnPermutationsHit.j1 kj9 l1 t107 t109 false t102 t103 t104))) else (laws_FnPermutationsHit.j1 kj9 l1 t107 t109 true t102 t103 t104)) else (none)) else (if t107 ≥ (t127.length : Int) then (if (t109.length : Int) > 0 then (laws_FnPermutationsHit.j1 kj9 l1 t107 t109 true t102 t103 t104) else (if t120 = true then (if 0 < (t109.length : Int) then ((laws_kSame.f kj9 t117 (rd_L1 t109 0)).bind fun t137 => (laws_FnPermutationsHit.j1 kj9 l1 t107 t109 (!t137) t102 t103 t104)) else (none)) else (laws_FnPermutationsHit.j1 kj9 l1 t107 t109 false t102 t103 t104))) else (if t120 = true then (if 0 < (t109.length : Int) then ((laws_kSame.f kj9 t117 (rd_L1 t109 0)).bind fun t139 => (laws_FnPermutationsHit.j1 kj9 l1 t107 t109 (!t139) t102 t103 t104)) else (none)) else (laws_FnPermutationsHit.j1 kj9 l1 t107 t109 false t102 t103 t104)))) else (laws_FnPermutationsHit.j1 kj9 l1 t107 t109 true t102 t103 t104)) = some r := H
         have A42 := za A420
         clear A420
         have HC43 := za H
         clear H
         have hcz44_0 : wc.cell? ⟨gb108, 0, none⟩ = some (.int .i64 t102) := (zi BK108.out 0).trans rfl
         have hcz44_1 : wc.cell? ⟨gb108, 1, none⟩ = some (.int .i64 t103) := (zi BK108.out 1).trans rfl
         have hcz44_2 : wc.cell? ⟨gb108, 2, none⟩ = some (.slice Ao14 t104.length co14) := (zi BK108.out 2).trans rfl
         have hfz44_0 := zj BK108.out 0
         have hfz44_1 := zj BK108.out 1
         have hfz44_2 := zj BK108.out 2
         go_upto_region 12 with (first | ((with_reducible refine zy (f := 36) rfl ?_); refine goesL_ (some 89) rfl rfl Try.func36 (by kernel_rfl) rfl #[.agg #[.int .i64 t102, .int .i64 t103, .slice Ao14 t104.length co14]] rfl (by (try simp only [List.map_toArray, List.map_cons, List.map_nil]); first | done | rfl | (simp only [List.length_drop, List.length_take]; rfl)) ?_; (with_reducible refine (impl_HitNumbers.calls t102 t103 _ _ t104 t127 t130 _ ?side1 ?side2 A42.out).mono ?_); (case side1 => repeat (first | exact (zB HO_109002.out).2.2 | (with_reducible refine zp ?_ _) | (with_reducible refine zq ?_ _) | (with_reducible refine zr ?_))); (case side2 => exact (zB HO_109002.out).2.1); rintro e w45 ⟨v128, rfl, ho0, hb⟩; refine ⟨_, rfl, ?_⟩; have n0_ := za (Kd.N_elder' (by (with_reducible repeat (first | apply zC | apply zD | apply zE)); exact HO_7.out) (Kd.R_base ho0) hb); have n1_ := za (Kd.R_elder' (by (with_reducible repeat (first | apply zl | apply zm | apply zk)); exact HO_11.out) (Kd.R_base ho0) hb); have n2_ := za (Kd.R_elder' (by (with_reducible repeat (first | apply zl | apply zm | apply zk)); exact HO_109002.out) (Kd.R_base ho0) hb); have n3_ := za (Kd.R_lower (Kd.R_new' (Kd.R_new' ho0 (Kd.R_lt (by (with_reducible repeat (first | apply zl | apply zm | apply zk)); exact HO_11.out))) (Kd.R_lt (by (with_reducible repeat (first | apply zl | apply zm | apply zk)); exact HO_109002.out))) (zo (by repeat (first | (with_reducible first | exact HB.out | apply zc | apply zd | apply zb | refine ze ?_ GE108.out) | exact HB.out)))); have n4_ := za (zA (g := gb108) (o := .cells #[.int .i64 t102, .int .i64 t103, .slice Ao14 t104.length co14] 43 (0, 0)) (by (with_reducible repeat (first | refine zg ?_ _ | refine zf ?_ | refine zh ?_ _)); exact BK108.out) hb); have n5_ := za (zw (by repeat (first | (with_reducible first | exact HB.out | apply zc | apply zd | apply zb | refine ze ?_ GE108.out) | exact HB.out)) hb); clear HO_7 HO_11; clear HO_109002 BK108 HB; have HO_7 := n0_; have HO_11 := n1_; have HO_109002 := n2_; have HO129 := n3_; have BK108 := n4_; have HB := n5_; clear n0_ n1_ n2_ n3_ n4_ n5_; (try clear hb); (try clear hb2); (try clear hk); (try clear hi); (try clear ho0)))
         (try simp only [Act.put, List.setIfInBounds_toArray, List.set_cons_zero, List.set_cons_succ])
         go_cut [130] (fun v130 wc => ∃ (kq : Nat) (x130_42 : Bool), v130 = .bool x130_42 ∧ Aside0 (laws_FnPermutationsHit.j1 kq l1 t107 t109 x130_42 t102 t103 t104 = some r) ∧ Aside0 (kq ≤ kj9) ∧ Aside0 (Kd.N (Kd.slice 3 (Kd.int .i64)) 28 wc w.heap.size (fun k_ => some k_ ≠ ((.slice Ao14 t104.length co14) : Value).ownBlock ∧ k_ ≠ gb108) v110 t109) ∧ Aside0 (Kd.R (Kd.int .i64) 3 wc w.heap.size (fun _ => True) (.slice Ao14 t104.length co14) t104) ∧ Aside0 (wc.heap[gb108]? = some (.cells #[.int .i64 t102, .int .i64 t103, (.slice Ao14 t104.length co14)] 43 (0, 0))) ∧ Aside0 (Below w.heap.size w wc))
         case first =>
          have H := HC43.out
          clear HC43
          by_cases c46 : t130 = true
          ·
           as_aux_lemma =>
            subst c46
            have H1 : (if t107 < (t127.length : Int) then (if 0 ≤ t107 then (if (rd t127 t107) = (t109.length : Int) then (if t107 ≥ (t127.length : Int) then (if (t109.length : Int) > 0 then (laws_FnPermutationsHit.j1 kj9 l1 t107 t109 true t102 t103 t104) else (if t120 = true then (if 0 < (t109.length : Int) then ((laws_kSame.f kj9 t117 (rd_L1 t109 0)).bind fun t133 => (laws_FnPermutationsHit.j1 kj9 l1 t107 t109 (!t133) t102 t103 t104)) else (none)) else (laws_FnPermutationsHit.j1 kj9 l1 t107 t109 false t102 t103 t104))) else (if t120 = true then (if 0 < (t109.length : Int) then ((laws_kSame.f kj9 t117 (rd_L1 t109 0)).bind fun t135 => (laws_FnPermutationsHit.j1 kj9 l1 t107 t109 (!t135) t102 t103 t104)) else (none)) else (laws_FnPermutationsHit.j1 kj9 l1 t107 t109 false t102 t103 t104))) else (laws_FnPermutationsHit.j1 kj9 l1 t107 t109 true t102 t103 t104)) else (none)) else (if t107 ≥ (t127.length : Int) then (if (t109.length : Int) > 0 then (laws_FnPermutationsHit.j1 kj9 l1 t107 t109 true t102 t103 t104) else (if t120 = true then (if 0 < (t109.length : Int) then ((laws_kSame.f kj9 t117 (rd_L1 t109 0)).bind fun t137 => (laws_FnPermutationsHit.j1 kj9 l1 t107 t109 (!t137) t102 t103 t104)) else (none)) else (laws_FnPermutationsHit.j1 kj9 l1 t107 t109 false t102 t103 t104))) else (if t120 = true then (if 0 < (t109.length : Int) then ((laws_kSame.f kj9 t117 (rd_L1 t109 0)).bind fun t139 => (laws_FnPermutationsHit.j1 kj9 l1 t107 t109 (!t139) t102 t103 t104)) else (none)) else (laws_FnPermutationsHit.j1 kj9 l1 t107 t109 false t102 t103 t104)))) = some r := by rw [if_pos rfl] at H; exact H
            clear H
            have H := H1
            clear H1
            by_cases c47 : t107 < (t127.length : Int)
            ·
             as_aux_lemma =>
              rw [if_pos c47] at H
              have c47b0 : decide (t107 < (t127.length : Int)) = true := decide_eq_true c47
              clear c47
              (first | rw [c47b0] | (simp only [i64_w, i32_w]; rw [c47b0]) | skip)
              by_cases c48 : 0 ≤ t107
              ·
               as_aux_lemma =>
                rw [if_pos c48] at H
                have c48b0 : decide (0 ≤ t107) = true := decide_eq_true c48
                clear c48
                by_cases c49 : (rd t127 t107) = (t109.length : Int)
                ·
                 as_aux_lemma =>
                  rw [if_pos c49] at H
                  have c49b0 : ((rd t127 t107) == (t109.length : Int)) = true := beq_iff_eq.mpr c49
                  have c49b1 : ((rd t127 t107) != (t109.length : Int)) = false := bne_eq_false_iff_eq.mpr c49
                  clear c49
                  by_cases c50 : t107 ≥ (t127.length : Int)
                  ·
                   as_aux_lemma =>
                    rw [if_pos c50] at H
                    have c50b0 : decide ((t127.length : Int) ≤ t107) = true := decide_eq_true c50
                    clear c50
                    by_cases c51 : (t109.length : Int) > 0
                    ·
                     rw [if_pos c51] at H
                     have c51b0 : decide (0 < (t109.length : Int)) = true := decide_eq_true c51
                     have c51b1 : decide (0 < t109.length) = true := decide_eq_true (by omega)
                     clear c51
                     have H' := za H
                     clear H
                     obtain ⟨Ao52, co52, eo52⟩ := Kd.R_slice HO129.out
                     subst eo52
                     have p131 : 0 ≤ (t107 : Int) := of_decide_eq_true (by first | (with_reducible assumption) | assumption)
                     have q131 : t107 < (t127.length : Int) := of_decide_eq_true (by first | (with_reducible assumption) | assumption)
                     obtain ⟨ad131, e131, hx131_0⟩ := Kd.at_int (zB HO129.out).2.2 t107 p131 q131
                     cases e131
                     replace p131 := eq_true p131
                     replace q131 := eq_true q131
                     obtain ⟨Ao53, co53, eo53⟩ := Kd.N_slice HO_7.out
                     subst eo53
                     go_wp2
                     go_meet
                     case rel => exact ⟨_, (true), (by first | rfl | (simp; done) | (simp [*]; done)), H', ⟨by have := HJ9.out; first | omega | exact Nat.le_refl _⟩, ⟨by (with_reducible repeat (first | apply zC | apply zD | apply zE)); exact Kd.N_mono HO_7.out (fun _ hk => ⟨hk.1.2.1, hk.1.2.2⟩)⟩, ⟨by (with_reducible repeat (first | apply zl | apply zm | apply zk)); exact zz HO_109002.out (fun _ hk => trivial)⟩, ⟨by (with_reducible repeat (first | refine zg ?_ _ | refine zf ?_ | refine zh ?_ _)); exact BK108.out⟩, ⟨by repeat (first | (with_reducible first | exact HB.out | apply zc | apply zd | apply zb | refine ze ?_ GE108.out) | exact HB.out)⟩⟩
                    ·
                     as_aux_lemma =>
                      rw [if_neg c51] at H
                      have c51b0 : decide (0 < (t109.length : Int)) = false := decide_eq_false c51
                      have c51b1 : decide (0 < t109.length) = false := decide_eq_false (by omega)
                      clear c51
                      by_cases c54 : t120 = true
                      ·
                       as_aux_lemma =>
                        subst c54
                        have H1 : (if 0 < (t109.length : Int) then ((laws_kSame.f kj9 t117 (rd_L1 t109 0)).bind fun t133 => (laws_FnPermutationsHit.j1 kj9 l1 t107 t109 (!t133) t102 t103 t104)) else (none)) = some r := by rw [if_pos rfl] at H; exact H
                        clear H
                        have H := H1
                        clear H1
                        by_cases c55 : 0 < (t109.length : Int)
                        ·
                         as_aux_lemma =>
                          rw [if_pos c55] at H
                          have c55b0 : decide (0 < (t109.length : Int)) = true := decide_eq_true c55
                          have c55b1 : decide (0 < t109.length) = true := decide_eq_true (by omega)
                          clear c55
                          replace H := Option.bind_eq_some_iff.mp H
                          obtain ⟨t133, A560, H⟩ := H
                          replace H : (laws_FnPermutationsHit.j1 kj9 l1 t107 t109 (!t133) t102 t103 t104) = some r := H
                          have A56 := za A560
                          clear A560
                          have H' := za H
                          clear H
                          obtain ⟨Ao57, co57, eo57⟩ := Kd.R_slice HO129.out
                          subst eo57
                          have p131 : 0 ≤ (t107 : Int) := of_decide_eq_true (by first | (with_reducible assumption) | assumption)
                          have q131 : t107 < (t127.length : Int) := of_decide_eq_true (by first | (with_reducible assumption) | assumption)
                          obtain ⟨ad131, e131, hx131_0⟩ := Kd.at_int (zB HO129.out).2.2 t107 p131 q131
                          cases e131
                          replace p131 := eq_true p131
                          replace q131 := eq_true q131
                          obtain ⟨Ao58, co58, eo58⟩ := Kd.N_slice HO_7.out
                          subst eo58
                          have p132 : 0 ≤ (0 : Int) := (by omega)
                          have q132 : 0 < (t109.length : Int) := of_decide_eq_true (by first | (with_reducible assumption) | assumption)
                          obtain ⟨ad132, A132_0, c132_0, e132, hx132_0, hl132_0, hi132_0⟩ := at_L1 (Kd.N_reads' HO_7.out).2.2 0 p132 q132
                          cases e132
                          obtain ⟨ce132, hce132, hMe132, hcc132⟩ := Kd.N_get HO_7.out [] 0 p132 (by first | exact q132 | exact of_decide_eq_true (by first | (with_reducible assumption) | assumption) | (have e_ := (Kd.N_reads' HO_7.out).1; omega))
                          obtain ⟨ua132_0, uc132_0, rfl, ul132_0, ge132_0⟩ := Kd.FK_slice_open hMe132
                          have hv132_0 := hcc132 0 _ rfl
                          rw [Nat.add_zero, show ((Kd.slice 3 (Kd.int .i64))).sz = 1 from rfl, Nat.mul_one] at hv132_0
                          replace hv132_0 := Option.some.inj (hv132_0.symm.trans hx132_0)
                          injection hv132_0 with hva_ hvn_ hvc_
                          rw [hva_] at ge132_0
                          rw [hvc_] at ul132_0
                          have HL132_0 := za (show Kd.V (Kd.int .i64) 3 _ w.heap.size _ _ (rd_L1 t109 0) from Kd.V_mk ul132_0 ge132_0)
                          clear hva_ hvn_ hvc_ ge132_0 ul132_0
                          clear hcc132 hce132
                          have qi132 : (0 < t109.length) = True := eq_true (by omega)
                          (try rw [show ((0 : Int)).toNat = 0 from rfl] at hx132_0)
                          (try rw [Addr.add_zero'] at hx132_0)
                          have HR132_0 := za hi132_0
                          have HC132_0 := za hl132_0
                          clear hi132_0 hl132_0
                          replace p132 := eq_true p132
                          replace q132 := eq_true q132
                          obtain ⟨Ao59, co59, eo59⟩ := Kd.R_slice HO_11.out
                          subst eo59
                          go_wp2_with (first | (go_at_call 35; (with_reducible refine (laws_kSame.calls kj9 _ _ t117 _ _ (rd_L1 t109 0) t133 _ ?side1 ?side2 ?side3 ?side4 A56.out).mono ?_); (case side1 => repeat (first | exact (zB HO_11.out).2.2 | (with_reducible refine zp ?_ _) | (with_reducible refine zq ?_ _) | (with_reducible refine zr ?_))); (case side2 => exact (zB HO_11.out).2.1); (case side3 => repeat (first | exact (by repeat (first | (with_reducible exact HR132_0.out) | (with_reducible refine zp ?_ _) | (with_reducible refine zq ?_ _) | (with_reducible refine zr ?_) | exact HR132_0.out)) | (with_reducible refine zp ?_ _) | (with_reducible refine zq ?_ _) | (with_reducible refine zr ?_))); (case side4 => exact HC132_0.out); rintro e w' ⟨rfl, ⟨nd, rfl⟩⟩))
                          go_meet
                          case rel => exact ⟨_, (!t133), (by first | rfl | exact absurd (c55b0.symm.trans c51b0) (by decide) | exact absurd (c77b0.symm.trans c73b0) (by decide) | (simp; done) | (simp [*]; done)), H', ⟨by have := HJ9.out; first | omega | exact Nat.le_refl _⟩, ⟨by (with_reducible repeat (first | apply zC | apply zD | apply zE)); exact Kd.N_mono HO_7.out (fun _ hk => ⟨hk.1.2.1, hk.1.2.2⟩)⟩, ⟨by (with_reducible repeat (first | apply zl | apply zm | apply zk)); exact zz HO_109002.out (fun _ hk => trivial)⟩, ⟨by (with_reducible repeat (first | refine zg ?_ _ | refine zf ?_ | refine zh ?_ _)); exact BK108.out⟩, ⟨by repeat (first | (with_reducible first | exact HB.out | apply zc | apply zd | apply zb | refine ze ?_ GE108.out) | exact HB.out)⟩⟩
                        ·
                         rw [if_neg c55] at H
                         exact absurd H (by simp)
                      ·
                       replace c54 := Bool.eq_false_iff.mpr c54
                       subst c54
                       have H1 : (laws_FnPermutationsHit.j1 kj9 l1 t107 t109 false t102 t103 t104) = some r := by rw [if_neg (show ¬ (false = true) by decide)] at H; exact H
                       clear H
                       have H := H1
                       clear H1
                       have H' := za H
                       clear H
                       obtain ⟨Ao60, co60, eo60⟩ := Kd.R_slice HO129.out
                       subst eo60
                       have p131 : 0 ≤ (t107 : Int) := of_decide_eq_true (by first | (with_reducible assumption) | assumption)
                       have q131 : t107 < (t127.length : Int) := of_decide_eq_true (by first | (with_reducible assumption) | assumption)
                       obtain ⟨ad131, e131, hx131_0⟩ := Kd.at_int (zB HO129.out).2.2 t107 p131 q131
                       cases e131
                       replace p131 := eq_true p131
                       replace q131 := eq_true q131
                       obtain ⟨Ao61, co61, eo61⟩ := Kd.N_slice HO_7.out
                       subst eo61
                       go_wp2
                       go_meet
                       case rel => exact ⟨_, (false), (by first | rfl | (simp; done) | (simp [*]; done)), H', ⟨by have := HJ9.out; first | omega | exact Nat.le_refl _⟩, ⟨by (with_reducible repeat (first | apply zC | apply zD | apply zE)); exact Kd.N_mono HO_7.out (fun _ hk => ⟨hk.1.2.1, hk.1.2.2⟩)⟩, ⟨by (with_reducible repeat (first | apply zl | apply zm | apply zk)); exact zz HO_109002.out (fun _ hk => trivial)⟩, ⟨by (with_reducible repeat (first | refine zg ?_ _ | refine zf ?_ | refine zh ?_ _)); exact BK108.out⟩, ⟨by repeat (first | (with_reducible first | exact HB.out | apply zc | apply zd | apply zb | refine ze ?_ GE108.out) | exact HB.out)⟩⟩
                  ·
                   as_aux_lemma =>
                    rw [if_neg c50] at H
                    have c50b0 : decide ((t127.length : Int) ≤ t107) = false := decide_eq_false c50
                    clear c50
                    by_cases c62 : t120 = true
                    ·
                     as_aux_lemma =>
                      subst c62
                      have H1 : (if 0 < (t109.length : Int) then ((laws_kSame.f kj9 t117 (rd_L1 t109 0)).bind fun t135 => (laws_FnPermutationsHit.j1 kj9 l1 t107 t109 (!t135) t102 t103 t104)) else (none)) = some r := by rw [if_pos rfl] at H; exact H
                      clear H
                      have H := H1
                      clear H1
                      by_cases c63 : 0 < (t109.length : Int)
                      ·
                       as_aux_lemma =>
                        rw [if_pos c63] at H
                        have c63b0 : decide (0 < (t109.length : Int)) = true := decide_eq_true c63
                        have c63b1 : decide (0 < t109.length) = true := decide_eq_true (by omega)
                        clear c63
                        replace H := Option.bind_eq_some_iff.mp H
                        obtain ⟨t135, A640, H⟩ := H
                        replace H : (laws_FnPermutationsHit.j1 kj9 l1 t107 t109 (!t135) t102 t103 t104) = some r := H
                        have A64 := za A640
                        clear A640
                        have H' := za H
                        clear H
                        obtain ⟨Ao65, co65, eo65⟩ := Kd.R_slice HO129.out
                        subst eo65
                        have p131 : 0 ≤ (t107 : Int) := of_decide_eq_true (by first | (with_reducible assumption) | assumption)
                        have q131 : t107 < (t127.length : Int) := of_decide_eq_true (by first | (with_reducible assumption) | assumption)
                        obtain ⟨ad131, e131, hx131_0⟩ := Kd.at_int (zB HO129.out).2.2 t107 p131 q131
                        cases e131
                        replace p131 := eq_true p131
                        replace q131 := eq_true q131
                        obtain ⟨Ao66, co66, eo66⟩ := Kd.N_slice HO_7.out
                        subst eo66
                        have p134 : 0 ≤ (0 : Int) := (by omega)
                        have q134 : 0 < (t109.length : Int) := of_decide_eq_true (by first | (with_reducible assumption) | assumption)
                        obtain ⟨ad134, A134_0, c134_0, e134, hx134_0, hl134_0, hi134_0⟩ := at_L1 (Kd.N_reads' HO_7.out).2.2 0 p134 q134
                        cases e134
                        obtain ⟨ce134, hce134, hMe134, hcc134⟩ := Kd.N_get HO_7.out [] 0 p134 (by first | exact q134 | exact of_decide_eq_true (by first | (with_reducible assumption) | assumption) | (have e_ := (Kd.N_reads' HO_7.out).1; omega))
                        obtain ⟨ua134_0, uc134_0, rfl, ul134_0, ge134_0⟩ := Kd.FK_slice_open hMe134
                        have hv134_0 := hcc134 0 _ rfl
                        rw [Nat.add_zero, show ((Kd.slice 3 (Kd.int .i64))).sz = 1 from rfl, Nat.mul_one] at hv134_0
                        replace hv134_0 := Option.some.inj (hv134_0.symm.trans hx134_0)
                        injection hv134_0 with hva_ hvn_ hvc_
                        rw [hva_] at ge134_0
                        rw [hvc_] at ul134_0
                        have HL134_0 := za (show Kd.V (Kd.int .i64) 3 _ w.heap.size _ _ (rd_L1 t109 0) from Kd.V_mk ul134_0 ge134_0)
                        clear hva_ hvn_ hvc_ ge134_0 ul134_0
                        clear hcc134 hce134
                        have qi134 : (0 < t109.length) = True := eq_true (by omega)
                        (try rw [show ((0 : Int)).toNat = 0 from rfl] at hx134_0)
                        (try rw [Addr.add_zero'] at hx134_0)
                        have HR134_0 := za hi134_0
                        have HC134_0 := za hl134_0
                        clear hi134_0 hl134_0
                        replace p134 := eq_true p134
                        replace q134 := eq_true q134
                        obtain ⟨Ao67, co67, eo67⟩ := Kd.R_slice HO_11.out
                        subst eo67
                        go_wp2_with (first | (go_at_call 35; (with_reducible refine (laws_kSame.calls kj9 _ _ t117 _ _ (rd_L1 t109 0) t135 _ ?side1 ?side2 ?side3 ?side4 A64.out).mono ?_); (case side1 => repeat (first | exact (zB HO_11.out).2.2 | (with_reducible refine zp ?_ _) | (with_reducible refine zq ?_ _) | (with_reducible refine zr ?_))); (case side2 => exact (zB HO_11.out).2.1); (case side3 => repeat (first | exact (by repeat (first | (with_reducible exact HR134_0.out) | (with_reducible refine zp ?_ _) | (with_reducible refine zq ?_ _) | (with_reducible refine zr ?_) | exact HR134_0.out)) | (with_reducible refine zp ?_ _) | (with_reducible refine zq ?_ _) | (with_reducible refine zr ?_))); (case side4 => exact HC134_0.out); rintro e w' ⟨rfl, ⟨nd, rfl⟩⟩))
                        go_meet
                        case rel => exact ⟨_, (!t135), (by first | rfl | exact absurd (c55b0.symm.trans c51b0) (by decide) | exact absurd (c77b0.symm.trans c73b0) (by decide) | (simp; done) | (simp [*]; done)), H', ⟨by have := HJ9.out; first | omega | exact Nat.le_refl _⟩, ⟨by (with_reducible repeat (first | apply zC | apply zD | apply zE)); exact Kd.N_mono HO_7.out (fun _ hk => ⟨hk.1.2.1, hk.1.2.2⟩)⟩, ⟨by (with_reducible repeat (first | apply zl | apply zm | apply zk)); exact zz HO_109002.out (fun _ hk => trivial)⟩, ⟨by (with_reducible repeat (first | refine zg ?_ _ | refine zf ?_ | refine zh ?_ _)); exact BK108.out⟩, ⟨by repeat (first | (with_reducible first | exact HB.out | apply zc | apply zd | apply zb | refine ze ?_ GE108.out) | exact HB.out)⟩⟩
                      ·
                       rw [if_neg c63] at H
                       exact absurd H (by simp)
                    ·
                     replace c62 := Bool.eq_false_iff.mpr c62
                     subst c62
                     have H1 : (laws_FnPermutationsHit.j1 kj9 l1 t107 t109 false t102 t103 t104) = some r := by rw [if_neg (show ¬ (false = true) by decide)] at H; exact H
                     clear H
                     have H := H1
                     clear H1
                     have H' := za H
                     clear H
                     obtain ⟨Ao68, co68, eo68⟩ := Kd.R_slice HO129.out
                     subst eo68
                     have p131 : 0 ≤ (t107 : Int) := of_decide_eq_true (by first | (with_reducible assumption) | assumption)
                     have q131 : t107 < (t127.length : Int) := of_decide_eq_true (by first | (with_reducible assumption) | assumption)
                     obtain ⟨ad131, e131, hx131_0⟩ := Kd.at_int (zB HO129.out).2.2 t107 p131 q131
                     cases e131
                     replace p131 := eq_true p131
                     replace q131 := eq_true q131
                     obtain ⟨Ao69, co69, eo69⟩ := Kd.N_slice HO_7.out
                     subst eo69
                     go_wp2
                     go_meet
                     case rel => exact ⟨_, (false), (by first | rfl | (simp; done) | (simp [*]; done)), H', ⟨by have := HJ9.out; first | omega | exact Nat.le_refl _⟩, ⟨by (with_reducible repeat (first | apply zC | apply zD | apply zE)); exact Kd.N_mono HO_7.out (fun _ hk => ⟨hk.1.2.1, hk.1.2.2⟩)⟩, ⟨by (with_reducible repeat (first | apply zl | apply zm | apply zk)); exact zz HO_109002.out (fun _ hk => trivial)⟩, ⟨by (with_reducible repeat (first | refine zg ?_ _ | refine zf ?_ | refine zh ?_ _)); exact BK108.out⟩, ⟨by repeat (first | (with_reducible first | exact HB.out | apply zc | apply zd | apply zb | refine ze ?_ GE108.out) | exact HB.out)⟩⟩
                ·
                 rw [if_neg c49] at H
                 have c49b0 : ((rd t127 t107) == (t109.length : Int)) = false := beq_eq_false_iff_ne.mpr c49
                 have c49b1 : ((rd t127 t107) != (t109.length : Int)) = true := bne_iff_ne.mpr c49
                 have H' := za H
                 clear H
                 obtain ⟨Ao70, co70, eo70⟩ := Kd.R_slice HO129.out
                 subst eo70
                 have p131 : 0 ≤ (t107 : Int) := of_decide_eq_true (by first | (with_reducible assumption) | assumption)
                 have q131 : t107 < (t127.length : Int) := of_decide_eq_true (by first | (with_reducible assumption) | assumption)
                 obtain ⟨ad131, e131, hx131_0⟩ := Kd.at_int (zB HO129.out).2.2 t107 p131 q131
                 cases e131
                 replace p131 := eq_true p131
                 replace q131 := eq_true q131
                 obtain ⟨Ao71, co71, eo71⟩ := Kd.N_slice HO_7.out
                 subst eo71
                 go_wp2
                 go_meet
                 case rel => exact ⟨_, (true), (by first | rfl | (simp; done) | (simp [*]; done)), H', ⟨by have := HJ9.out; first | omega | exact Nat.le_refl _⟩, ⟨by (with_reducible repeat (first | apply zC | apply zD | apply zE)); exact Kd.N_mono HO_7.out (fun _ hk => ⟨hk.1.2.1, hk.1.2.2⟩)⟩, ⟨by (with_reducible repeat (first | apply zl | apply zm | apply zk)); exact zz HO_109002.out (fun _ hk => trivial)⟩, ⟨by (with_reducible repeat (first | refine zg ?_ _ | refine zf ?_ | refine zh ?_ _)); exact BK108.out⟩, ⟨by repeat (first | (with_reducible first | exact HB.out | apply zc | apply zd | apply zb | refine ze ?_ GE108.out) | exact HB.out)⟩⟩
              ·
               rw [if_neg c48] at H
               exact absurd H (by simp)
            ·
             as_aux_lemma =>
              rw [if_neg c47] at H
              have c47b0 : decide (t107 < (t127.length : Int)) = false := decide_eq_false c47
              clear c47
              (first | rw [c47b0] | (simp only [i64_w, i32_w]; rw [c47b0]) | skip)
              by_cases c72 : t107 ≥ (t127.length : Int)
              ·
               as_aux_lemma =>
                rw [if_pos c72] at H
                have c72b0 : decide ((t127.length : Int) ≤ t107) = true := decide_eq_true c72
                clear c72
                by_cases c73 : (t109.length : Int) > 0
                ·
                 rw [if_pos c73] at H
                 have c73b0 : decide (0 < (t109.length : Int)) = true := decide_eq_true c73
                 have c73b1 : decide (0 < t109.length) = true := decide_eq_true (by omega)
                 clear c73
                 have H' := za H
                 clear H
                 obtain ⟨Ao74, co74, eo74⟩ := Kd.R_slice HO129.out
                 subst eo74
                 obtain ⟨Ao75, co75, eo75⟩ := Kd.N_slice HO_7.out
                 subst eo75
                 go_wp2
                 go_meet
                 case rel => exact ⟨_, (true), (by first | rfl | (simp; done) | (simp [*]; done)), H', ⟨by have := HJ9.out; first | omega | exact Nat.le_refl _⟩, ⟨by (with_reducible repeat (first | apply zC | apply zD | apply zE)); exact Kd.N_mono HO_7.out (fun _ hk => ⟨hk.1.2.1, hk.1.2.2⟩)⟩, ⟨by (with_reducible repeat (first | apply zl | apply zm | apply zk)); exact zz HO_109002.out (fun _ hk => trivial)⟩, ⟨by (with_reducible repeat (first | refine zg ?_ _ | refine zf ?_ | refine zh ?_ _)); exact BK108.out⟩, ⟨by repeat (first | (with_reducible first | exact HB.out | apply zc | apply zd | apply zb | refine ze ?_ GE108.out) | exact HB.out)⟩⟩
                ·
                 as_aux_lemma =>
                  rw [if_neg c73] at H
                  have c73b0 : decide (0 < (t109.length : Int)) = false := decide_eq_false c73
                  have c73b1 : decide (0 < t109.length) = false := decide_eq_false (by omega)
                  clear c73
                  by_cases c76 : t120 = true
                  ·
                   as_aux_lemma =>
                    subst c76
                    have H1 : (if 0 < (t109.length : Int) then ((laws_kSame.f kj9 t117 (rd_L1 t109 0)).bind fun t137 => (laws_FnPermutationsHit.j1 kj9 l1 t107 t109 (!t137) t102 t103 t104)) else (none)) = some r := by rw [if_pos rfl] at H; exact H
                    clear H
                    have H := H1
                    clear H1
                    by_cases c77 : 0 < (t109.length : Int)
                    ·
                     as_aux_lemma =>
                      rw [if_pos c77] at H
                      have c77b0 : decide (0 < (t109.length : Int)) = true := decide_eq_true c77
                      have c77b1 : decide (0 < t109.length) = true := decide_eq_true (by omega)
                      clear c77
                      replace H := Option.bind_eq_some_iff.mp H
                      obtain ⟨t137, A780, H⟩ := H
                      replace H : (laws_FnPermutationsHit.j1 kj9 l1 t107 t109 (!t137) t102 t103 t104) = some r := H
                      have A78 := za A780
                      clear A780
                      have H' := za H
                      clear H
                      obtain ⟨Ao79, co79, eo79⟩ := Kd.R_slice HO129.out
                      subst eo79
                      obtain ⟨Ao80, co80, eo80⟩ := Kd.N_slice HO_7.out
                      subst eo80
                      have p136 : 0 ≤ (0 : Int) := (by omega)
                      have q136 : 0 < (t109.length : Int) := of_decide_eq_true (by first | (with_reducible assumption) | assumption)
                      obtain ⟨ad136, A136_0, c136_0, e136, hx136_0, hl136_0, hi136_0⟩ := at_L1 (Kd.N_reads' HO_7.out).2.2 0 p136 q136
                      cases e136
                      obtain ⟨ce136, hce136, hMe136, hcc136⟩ := Kd.N_get HO_7.out [] 0 p136 (by first | exact q136 | exact of_decide_eq_true (by first | (with_reducible assumption) | assumption) | (have e_ := (Kd.N_reads' HO_7.out).1; omega))
                      obtain ⟨ua136_0, uc136_0, rfl, ul136_0, ge136_0⟩ := Kd.FK_slice_open hMe136
                      have hv136_0 := hcc136 0 _ rfl
                      rw [Nat.add_zero, show ((Kd.slice 3 (Kd.int .i64))).sz = 1 from rfl, Nat.mul_one] at hv136_0
                      replace hv136_0 := Option.some.inj (hv136_0.symm.trans hx136_0)
                      injection hv136_0 with hva_ hvn_ hvc_
                      rw [hva_] at ge136_0
                      rw [hvc_] at ul136_0
                      have HL136_0 := za (show Kd.V (Kd.int .i64) 3 _ w.heap.size _ _ (rd_L1 t109 0) from Kd.V_mk ul136_0 ge136_0)
                      clear hva_ hvn_ hvc_ ge136_0 ul136_0
                      clear hcc136 hce136
                      have qi136 : (0 < t109.length) = True := eq_true (by omega)
                      (try rw [show ((0 : Int)).toNat = 0 from rfl] at hx136_0)
                      (try rw [Addr.add_zero'] at hx136_0)
                      have HR136_0 := za hi136_0
                      have HC136_0 := za hl136_0
                      clear hi136_0 hl136_0
                      replace p136 := eq_true p136
                      replace q136 := eq_true q136
                      obtain ⟨Ao81, co81, eo81⟩ := Kd.R_slice HO_11.out
                      subst eo81
                      go_wp2_with (first | (go_at_call 35; (with_reducible refine (laws_kSame.calls kj9 _ _ t117 _ _ (rd_L1 t109 0) t137 _ ?side1 ?side2 ?side3 ?side4 A78.out).mono ?_); (case side1 => repeat (first | exact (zB HO_11.out).2.2 | (with_reducible refine zp ?_ _) | (with_reducible refine zq ?_ _) | (with_reducible refine zr ?_))); (case side2 => exact (zB HO_11.out).2.1); (case side3 => repeat (first | exact (by repeat (first | (with_reducible exact HR136_0.out) | (with_reducible refine zp ?_ _) | (with_reducible refine zq ?_ _) | (with_reducible refine zr ?_) | exact HR136_0.out)) | (with_reducible refine zp ?_ _) | (with_reducible refine zq ?_ _) | (with_reducible refine zr ?_))); (case side4 => exact HC136_0.out); rintro e w' ⟨rfl, ⟨nd, rfl⟩⟩))
                      go_meet
                      case rel => exact ⟨_, (!t137), (by first | rfl | exact absurd (c55b0.symm.trans c51b0) (by decide) | exact absurd (c77b0.symm.trans c73b0) (by decide) | (simp; done) | (simp [*]; done)), H', ⟨by have := HJ9.out; first | omega | exact Nat.le_refl _⟩, ⟨by (with_reducible repeat (first | apply zC | apply zD | apply zE)); exact Kd.N_mono HO_7.out (fun _ hk => ⟨hk.1.2.1, hk.1.2.2⟩)⟩, ⟨by (with_reducible repeat (first | apply zl | apply zm | apply zk)); exact zz HO_109002.out (fun _ hk => trivial)⟩, ⟨by (with_reducible repeat (first | refine zg ?_ _ | refine zf ?_ | refine zh ?_ _)); exact BK108.out⟩, ⟨by repeat (first | (with_reducible first | exact HB.out | apply zc | apply zd | apply zb | refine ze ?_ GE108.out) | exact HB.out)⟩⟩
                    ·
                     rw [if_neg c77] at H
                     exact absurd H (by simp)
                  ·
                   replace c76 := Bool.eq_false_iff.mpr c76
                   subst c76
                   have H1 : (laws_FnPermutationsHit.j1 kj9 l1 t107 t109 false t102 t103 t104) = some r := by rw [if_neg (show ¬ (false = true) by decide)] at H; exact H
                   clear H
                   have H := H1
                   clear H1
                   have H' := za H
                   clear H
                   obtain ⟨Ao82, co82, eo82⟩ := Kd.R_slice HO129.out
                   subst eo82
                   obtain ⟨Ao83, co83, eo83⟩ := Kd.N_slice HO_7.out
                   subst eo83
                   go_wp2
                   go_meet
                   case rel => exact ⟨_, (false), (by first | rfl | (simp; done) | (simp [*]; done)), H', ⟨by have := HJ9.out; first | omega | exact Nat.le_refl _⟩, ⟨by (with_reducible repeat (first | apply zC | apply zD | apply zE)); exact Kd.N_mono HO_7.out (fun _ hk => ⟨hk.1.2.1, hk.1.2.2⟩)⟩, ⟨by (with_reducible repeat (first | apply zl | apply zm | apply zk)); exact zz HO_109002.out (fun _ hk => trivial)⟩, ⟨by (with_reducible repeat (first | refine zg ?_ _ | refine zf ?_ | refine zh ?_ _)); exact BK108.out⟩, ⟨by repeat (first | (with_reducible first | exact HB.out | apply zc | apply zd | apply zb | refine ze ?_ GE108.out) | exact HB.out)⟩⟩
              ·
               as_aux_lemma =>
                rw [if_neg c72] at H
                have c72b0 : decide ((t127.length : Int) ≤ t107) = false := decide_eq_false c72
                clear c72
                by_cases c84 : t120 = true
                ·
                 as_aux_lemma =>
                  subst c84
                  have H1 : (if 0 < (t109.length : Int) then ((laws_kSame.f kj9 t117 (rd_L1 t109 0)).bind fun t139 => (laws_FnPermutationsHit.j1 kj9 l1 t107 t109 (!t139) t102 t103 t104)) else (none)) = some r := by rw [if_pos rfl] at H; exact H
                  clear H
                  have H := H1
                  clear H1
                  by_cases c85 : 0 < (t109.length : Int)
                  ·
                   as_aux_lemma =>
                    rw [if_pos c85] at H
                    have c85b0 : decide (0 < (t109.length : Int)) = true := decide_eq_true c85
                    have c85b1 : decide (0 < t109.length) = true := decide_eq_true (by omega)
                    clear c85
                    replace H := Option.bind_eq_some_iff.mp H
                    obtain ⟨t139, A860, H⟩ := H
                    replace H : (laws_FnPermutationsHit.j1 kj9 l1 t107 t109 (!t139) t102 t103 t104) = some r := H
                    have A86 := za A860
                    clear A860
                    have H' := za H
                    clear H
                    obtain ⟨Ao87, co87, eo87⟩ := Kd.R_slice HO129.out
                    subst eo87
                    obtain ⟨Ao88, co88, eo88⟩ := Kd.N_slice HO_7.out
                    subst eo88
                    have p138 : 0 ≤ (0 : Int) := (by omega)
                    have q138 : 0 < (t109.length : Int) := of_decide_eq_true (by first | (with_reducible assumption) | assumption)
                    obtain ⟨ad138, A138_0, c138_0, e138, hx138_0, hl138_0, hi138_0⟩ := at_L1 (Kd.N_reads' HO_7.out).2.2 0 p138 q138
                    cases e138
                    obtain ⟨ce138, hce138, hMe138, hcc138⟩ := Kd.N_get HO_7.out [] 0 p138 (by first | exact q138 | exact of_decide_eq_true (by first | (with_reducible assumption) | assumption) | (have e_ := (Kd.N_reads' HO_7.out).1; omega))
                    obtain ⟨ua138_0, uc138_0, rfl, ul138_0, ge138_0⟩ := Kd.FK_slice_open hMe138
                    have hv138_0 := hcc138 0 _ rfl
                    rw [Nat.add_zero, show ((Kd.slice 3 (Kd.int .i64))).sz = 1 from rfl, Nat.mul_one] at hv138_0
                    replace hv138_0 := Option.some.inj (hv138_0.symm.trans hx138_0)
                    injection hv138_0 with hva_ hvn_ hvc_
                    rw [hva_] at ge138_0
                    rw [hvc_] at ul138_0
                    have HL138_0 := za (show Kd.V (Kd.int .i64) 3 _ w.heap.size _ _ (rd_L1 t109 0) from Kd.V_mk ul138_0 ge138_0)
                    clear hva_ hvn_ hvc_ ge138_0 ul138_0
                    clear hcc138 hce138
                    have qi138 : (0 < t109.length) = True := eq_true (by omega)
                    (try rw [show ((0 : Int)).toNat = 0 from rfl] at hx138_0)
                    (try rw [Addr.add_zero'] at hx138_0)
                    have HR138_0 := za hi138_0
                    have HC138_0 := za hl138_0
                    clear hi138_0 hl138_0
                    replace p138 := eq_true p138
                    replace q138 := eq_true q138
                    obtain ⟨Ao89, co89, eo89⟩ := Kd.R_slice HO_11.out
                    subst eo89
                    go_wp2_with (first | (go_at_call 35; (with_reducible refine (laws_kSame.calls kj9 _ _ t117 _ _ (rd_L1 t109 0) t139 _ ?side1 ?side2 ?side3 ?side4 A86.out).mono ?_); (case side1 => repeat (first | exact (zB HO_11.out).2.2 | (with_reducible refine zp ?_ _) | (with_reducible refine zq ?_ _) | (with_reducible refine zr ?_))); (case side2 => exact (zB HO_11.out).2.1); (case side3 => repeat (first | exact (by repeat (first | (with_reducible exact HR138_0.out) | (with_reducible refine zp ?_ _) | (with_reducible refine zq ?_ _) | (with_reducible refine zr ?_) | exact HR138_0.out)) | (with_reducible refine zp ?_ _) | (with_reducible refine zq ?_ _) | (with_reducible refine zr ?_))); (case side4 => exact HC138_0.out); rintro e w' ⟨rfl, ⟨nd, rfl⟩⟩))
                    go_meet
                    case rel => exact ⟨_, (!t139), (by first | rfl | exact absurd (c55b0.symm.trans c51b0) (by decide) | exact absurd (c77b0.symm.trans c73b0) (by decide) | (simp; done) | (simp [*]; done)), H', ⟨by have := HJ9.out; first | omega | exact Nat.le_refl _⟩, ⟨by (with_reducible repeat (first | apply zC | apply zD | apply zE)); exact Kd.N_mono HO_7.out (fun _ hk => ⟨hk.1.2.1, hk.1.2.2⟩)⟩, ⟨by (with_reducible repeat (first | apply zl | apply zm | apply zk)); exact zz HO_109002.out (fun _ hk => trivial)⟩, ⟨by (with_reducible repeat (first | refine zg ?_ _ | refine zf ?_ | refine zh ?_ _)); exact BK108.out⟩, ⟨by repeat (first | (with_reducible first | exact HB.out | apply zc | apply zd | apply zb | refine ze ?_ GE108.out) | exact HB.out)⟩⟩
                  ·
                   rw [if_neg c85] at H
                   exact absurd H (by simp)
                ·
                 replace c84 := Bool.eq_false_iff.mpr c84
                 subst c84
                 have H1 : (laws_FnPermutationsHit.j1 kj9 l1 t107 t109 false t102 t103 t104) = some r := by rw [if_neg (show ¬ (false = true) by decide)] at H; exact H
                 clear H
                 have H := H1
                 clear H1
                 have H' := za H
                 clear H
                 obtain ⟨Ao90, co90, eo90⟩ := Kd.R_slice HO129.out
                 subst eo90
                 go_wp2
                 go_meet
                 case rel => exact ⟨_, (false), (by first | rfl | (simp; done) | (simp [*]; done)), H', ⟨by have := HJ9.out; first | omega | exact Nat.le_refl _⟩, ⟨by (with_reducible repeat (first | apply zC | apply zD | apply zE)); exact Kd.N_mono HO_7.out (fun _ hk => ⟨hk.1.2.1, hk.1.2.2⟩)⟩, ⟨by (with_reducible repeat (first | apply zl | apply zm | apply zk)); exact zz HO_109002.out (fun _ hk => trivial)⟩, ⟨by (with_reducible repeat (first | refine zg ?_ _ | refine zf ?_ | refine zh ?_ _)); exact BK108.out⟩, ⟨by repeat (first | (with_reducible first | exact HB.out | apply zc | apply zd | apply zb | refine ze ?_ GE108.out) | exact HB.out)⟩⟩
          ·
           replace c46 := Bool.eq_false_iff.mpr c46
           subst c46
           have H1 : (laws_FnPermutationsHit.j1 kj9 l1 t107 t109 true t102 t103 t104) = some r := by rw [if_neg (show ¬ (false = true) by decide)] at H; exact H
           clear H
           have H := H1
           clear H1
           have H' := za H
           clear H
           go_wp2
           go_meet
           case rel => exact ⟨_, (true), (by first | rfl | (simp; done) | (simp [*]; done)), H', ⟨by have := HJ9.out; first | omega | exact Nat.le_refl _⟩, ⟨by (with_reducible repeat (first | apply zC | apply zD | apply zE)); exact Kd.N_mono HO_7.out (fun _ hk => ⟨hk.1.2.1, hk.1.2.2⟩)⟩, ⟨by (with_reducible repeat (first | apply zl | apply zm | apply zk)); exact zz HO_109002.out (fun _ hk => trivial)⟩, ⟨by (with_reducible repeat (first | refine zg ?_ _ | refine zf ?_ | refine zh ?_ _)); exact BK108.out⟩, ⟨by repeat (first | (with_reducible first | exact HB.out | apply zc | apply zd | apply zb | refine ze ?_ GE108.out) | exact HB.out)⟩⟩
         case rest =>
          clear HC43
          try clear c1
          try clear p1
          try clear q1
          try clear hx1
          try clear qi1
          try clear c2
          try clear p2
          try clear c3
          try clear c4
          try clear c5
          try clear c6
          try clear c7
          try clear c8
          try clear c13
          try clear p13
          try clear q13
          try clear hx13
          try clear qi13
          try clear c22
          try clear c22b0
          try clear c22b1
          try clear c22b2
          try clear c24
          try clear c25
          try clear c25b0
          try clear c25b1
          try clear c25b2
          try clear c26
          try clear c29
          try clear c30
          try clear c31
          try clear c32
          try clear c33
          try clear c36
          try clear c40
          try clear c41
          try clear c46
          try clear c47
          try clear c47b0
          try clear c48
          try clear c48b0
          try clear c49
          try clear c49b0
          try clear c49b1
          try clear c50
          try clear c50b0
          try clear c51
          try clear c51b0
          try clear c51b1
          try clear c54
          try clear c55
          try clear c55b0
          try clear c55b1
          try clear c62
          try clear c63
          try clear c63b0
          try clear c63b1
          try clear c72
          try clear c72b0
          try clear c73
          try clear c73b0
          try clear c73b1
          try clear c76
          try clear c77
          try clear c77b0
          try clear c77b1
          try clear c84
          try clear c85
          try clear c85b0
          try clear c85b1
          try clear hcz13_0
          try clear hcz13_1
          try clear hcz13_2
          try clear hcz16_0
          try clear hcz16_1
          try clear hcz16_2
          try clear hcz18_0
          try clear hcz18_1
          try clear hcz18_2
          try clear hcz20_0
          try clear hcz20_1
          try clear hcz20_2
          try clear hcz44_0
          try clear hcz44_1
          try clear hcz44_2
          try clear hfz13_0
          try clear hfz13_1
          try clear hfz13_2
          try clear hfz16_0
          try clear hfz16_1
          try clear hfz16_2
          try clear hfz18_0
          try clear hfz18_1
          try clear hfz18_2
          try clear hfz20_0
          try clear hfz20_1
          try clear hfz20_2
          try clear hfz44_0
          try clear hfz44_1
          try clear hfz44_2
          try clear hx131_0
          try clear hx132_0
          try clear hx134_0
          try clear hx136_0
          try clear hx138_0
          try clear p131
          try clear p132
          try clear p134
          try clear p136
          try clear p138
          try clear p2
          try clear q131
          try clear q132
          try clear q134
          try clear q136
          try clear q138
          obtain ⟨kq, x130_42, rfl, HA, HJ42, HO_7, HO_109002, BK108, HB⟩ := hcut
          cases kq with
          | zero => exact absurd HA.out (by simp [laws_FnPermutationsHit.j1])
          | succ kj42 =>
           have H := HA.out
           clear HA
           simp only [laws_FnPermutationsHit.j1] at H
           by_cases c91 : x130_42 = true
           ·
            subst c91
            have H1 : (some false) = some r := by rw [if_pos rfl] at H; exact H
            clear H
            have H := H1
            clear H1
            obtain rfl := Option.some.inj H
            go_wp2
            go_ret
            exact ⟨by first | rfl | (simp [errW_none, errW_some] <;> rfl) | (simp [*, errW_none, errW_some] <;> rfl), by repeat (first | (with_reducible first | exact HB.out | apply zc | apply zd | apply zb | refine ze ?_ GE108.out) | exact HB.out)⟩
           ·
            as_aux_lemma =>
             replace c91 := Bool.eq_false_iff.mpr c91
             subst c91
             have H1 : (laws_FnPermutationsHit.l0 kj42 l1 t107 t109 t109 (t109.length : Int) 0 t102 t103 t104) = some r := by rw [if_neg (show ¬ (false = true) by decide)] at H; exact H
             clear H
             have H := H1
             clear H1
             have H' := za H
             clear H
             obtain ⟨Ao92, co92, eo92⟩ := Kd.N_slice HO_7.out
             subst eo92
             go_wp2
             go_loopg [133] kj42 (fun kq v133 w' => ∃ (x133_3 : Int), v133 = .int .i64 x133_3 ∧ Aside0 (laws_FnPermutationsHit.l0 kq l1 t107 t109 t109 (t109.length : Int) x133_3 t102 t103 t104 = some r) ∧ Aside0 (kq ≤ kj42) ∧ Aside0 (Kd.N (Kd.slice 3 (Kd.int .i64)) 28 w' w.heap.size (fun k_ => some k_ ≠ ((.slice Ao14 t104.length co14) : Value).ownBlock ∧ k_ ≠ gb108) (.slice Ao92 t109.length co92) t109) ∧ Aside0 (Kd.N (Kd.slice 3 (Kd.int .i64)) 28 w' w.heap.size (fun k_ => some k_ ≠ ((.slice Ao14 t104.length co14) : Value).ownBlock ∧ k_ ≠ gb108) (.slice Ao92 t109.length co92) t109) ∧ Aside0 (Kd.R (Kd.int .i64) 3 w' w.heap.size (fun _ => True) (.slice Ao14 t104.length co14) t104) ∧ Aside0 (w'.heap[gb108]? = some (.cells #[.int .i64 t102, .int .i64 t103, (.slice Ao14 t104.length co14)] 43 (0, 0))) ∧ Aside0 (Below w.heap.size w w'))
             case atStart => exact ⟨(0), (by first | rfl | (simp; done) | (simp [*]; done)), H', ⟨Nat.le_refl _⟩, ⟨by (with_reducible repeat (first | apply zC | apply zD | apply zE)); exact HO_7.out⟩, ⟨by (with_reducible repeat (first | apply zC | apply zD | apply zE)); exact HO_7.out⟩, ⟨by (with_reducible repeat (first | apply zl | apply zm | apply zk)); exact HO_109002.out⟩, ⟨by (with_reducible repeat (first | refine zg ?_ _ | refine zf ?_ | refine zh ?_ _)); exact BK108.out⟩, ⟨by repeat (first | (with_reducible first | exact HB.out | apply zc | apply zd | apply zb | refine ze ?_ GE108.out) | exact HB.out)⟩⟩
             case round =>
              clear H'
              try clear c1
              try clear p1
              try clear q1
              try clear hx1
              try clear qi1
              try clear c2
              try clear p2
              try clear c3
              try clear c4
              try clear c5
              try clear c6
              try clear c7
              try clear c8
              try clear c9
              try clear c13
              try clear p13
              try clear q13
              try clear hx13
              try clear qi13
              try clear c22
              try clear c22b0
              try clear c22b1
              try clear c22b2
              try clear c24
              try clear c25
              try clear c25b0
              try clear c25b1
              try clear c25b2
              try clear c26
              try clear c29
              try clear c30
              try clear c31
              try clear c32
              try clear c33
              try clear c36
              try clear c40
              try clear c41
              try clear c46
              try clear c47
              try clear c47b0
              try clear c48
              try clear c48b0
              try clear c49
              try clear c49b0
              try clear c49b1
              try clear c50
              try clear c50b0
              try clear c51
              try clear c51b0
              try clear c51b1
              try clear c54
              try clear c55
              try clear c55b0
              try clear c55b1
              try clear c62
              try clear c63
              try clear c63b0
              try clear c63b1
              try clear c72
              try clear c72b0
              try clear c73
              try clear c73b0
              try clear c73b1
              try clear c76
              try clear c77
              try clear c77b0
              try clear c77b1
              try clear c84
              try clear c85
              try clear c85b0
              try clear c85b1
              try clear c91
              try clear hcz13_0
              try clear hcz13_1
              try clear hcz13_2
              try clear hcz16_0
              try clear hcz16_1
              try clear hcz16_2
              try clear hcz18_0
              try clear hcz18_1
              try clear hcz18_2
              try clear hcz20_0
              try clear hcz20_1
              try clear hcz20_2
              try clear hcz44_0
              try clear hcz44_1
              try clear hcz44_2
              try clear hfz13_0
              try clear hfz13_1
              try clear hfz13_2
              try clear hfz16_0
              try clear hfz16_1
              try clear hfz16_2
              try clear hfz18_0
              try clear hfz18_1
              try clear hfz18_2
              try clear hfz20_0
              try clear hfz20_1
              try clear hfz20_2
              try clear hfz44_0
              try clear hfz44_1
              try clear hfz44_2
              try clear hx131_0
              try clear hx132_0
              try clear hx134_0
              try clear hx136_0
              try clear hx138_0
              try clear p1
              try clear p13
              try clear p131
              try clear p132
              try clear p134
              try clear p136
              try clear p138
              try clear p2
              try clear q1
              try clear q13
              try clear q131
              try clear q132
              try clear q134
              try clear q136
              try clear q138
              obtain ⟨x133_3, rfl, HA, HK3, HO_7, HO_131, HO_109002, BK108, HB⟩ := hrel
              cases gk with
              | zero => exact absurd HA.out (by simp [laws_FnPermutationsHit.l0])
              | succ k3 =>
               have H := HA.out
               clear HA
               simp only [laws_FnPermutationsHit.l0] at H
               by_cases c93 : x133_3 < (t109.length : Int)
               ·
                as_aux_lemma =>
                 rw [if_pos c93] at H
                 have c93b0 : decide (x133_3 < (t109.length : Int)) = true := decide_eq_true c93
                 clear c93
                 by_cases c94 : 0 ≤ x133_3
                 ·
                  as_aux_lemma =>
                   rw [if_pos c94] at H
                   have c94b0 : decide (0 ≤ x133_3) = true := decide_eq_true c94
                   clear c94
                   by_cases c95 : x133_3 < (t109.length : Int)
                   ·
                    as_aux_lemma =>
                     rw [if_pos c95] at H
                     have c95b0 : decide (x133_3 < (t109.length : Int)) = true := decide_eq_true c95
                     clear c95
                     replace H := Option.bind_eq_some_iff.mp H
                     obtain ⟨⟨t154, t155⟩, A960, H⟩ := H
                     replace H : (if t155 = true then (if t154 = t107 then (if x133_3 > 0 then (if 0 ≤ (wrap64 (x133_3 - 1)) then (if (wrap64 (x133_3 - 1)) < (t109.length : Int) then ((laws_kLess.f k3 (rd_L1 t109 (wrap64 (x133_3 - 1))) (rd_L1 t109 x133_3)).bind fun t157 => (if t157 = true then (laws_FnPermutationsHit.l0 k3 l1 t107 t109 t109 (t109.length : Int) (wrap64 (x133_3 + 1)) t102 t103 t104) else (some false))) else (none)) else (none)) else (laws_FnPermutationsHit.l0 k3 l1 t107 t109 t109 (t109.length : Int) (wrap64 (x133_3 + 1)) t102 t103 t104)) else (some false)) else (some false)) = some r := H
                     have A96 := za A960
                     clear A960
                     by_cases c97 : t155 = true
                     ·
                      as_aux_lemma =>
                       subst c97
                       have H1 : (if t154 = t107 then (if x133_3 > 0 then (if 0 ≤ (wrap64 (x133_3 - 1)) then (if (wrap64 (x133_3 - 1)) < (t109.length : Int) then ((laws_kLess.f k3 (rd_L1 t109 (wrap64 (x133_3 - 1))) (rd_L1 t109 x133_3)).bind fun t157 => (if t157 = true then (laws_FnPermutationsHit.l0 k3 l1 t107 t109 t109 (t109.length : Int) (wrap64 (x133_3 + 1)) t102 t103 t104) else (some false))) else (none)) else (none)) else (laws_FnPermutationsHit.l0 k3 l1 t107 t109 t109 (t109.length : Int) (wrap64 (x133_3 + 1)) t102 t103 t104)) else (some false)) = some r := by rw [if_pos rfl] at H; exact H
                       clear H
                       have H := H1
                       clear H1
                       by_cases c98 : t154 = t107
                       ·
                        as_aux_lemma =>
                         rw [if_pos c98] at H
                         have c98b0 : (t154 == t107) = true := beq_iff_eq.mpr c98
                         have c98b1 : (t154 != t107) = false := bne_eq_false_iff_eq.mpr c98
                         clear c98
                         by_cases c99 : x133_3 > 0
                         ·
                          as_aux_lemma =>
                           rw [if_pos c99] at H
                           have c99b0 : decide (0 < x133_3) = true := decide_eq_true c99
                           clear c99
                           obtain ⟨ji100, hji100⟩ : ∃ j_ : Int, (wrap64 (x133_3 - 1)) = j_ := ⟨_, rfl⟩
                           replace H : (if 0 ≤ (ji100) then (if (ji100) < (t109.length : Int) then ((laws_kLess.f k3 (rd_L1 t109 (ji100)) (rd_L1 t109 x133_3)).bind fun t157 => (if t157 = true then (laws_FnPermutationsHit.l0 k3 l1 t107 t109 t109 (t109.length : Int) (wrap64 (x133_3 + 1)) t102 t103 t104) else (some false))) else (none)) else (none)) = some r := by first | (rw [hji100] at H; exact H) | (simp only [hji100] at H ⊢; exact H)
                           (try rw [hji100] at A96)
                           have hji100w : (IntKind.i64.wrap (x133_3 - 1)) = ji100 := (i64_w _).trans hji100
                           by_cases c101 : 0 ≤ (ji100)
                           ·
                            as_aux_lemma =>
                             rw [if_pos c101] at H
                             have c101b0 : decide (0 ≤ (ji100)) = true := decide_eq_true c101
                             clear c101
                             by_cases c102 : (ji100) < (t109.length : Int)
                             ·
                              as_aux_lemma =>
                               rw [if_pos c102] at H
                               have c102b0 : decide ((ji100) < (t109.length : Int)) = true := decide_eq_true c102
                               clear c102
                               replace H := Option.bind_eq_some_iff.mp H
                               obtain ⟨t157, A1030, H⟩ := H
                               replace H : (if t157 = true then (laws_FnPermutationsHit.l0 k3 l1 t107 t109 t109 (t109.length : Int) (wrap64 (x133_3 + 1)) t102 t103 t104) else (some false)) = some r := H
                               have A103 := za A1030
                               clear A1030
                               by_cases c104 : t157 = true
                               ·
                                as_aux_lemma =>
                                 subst c104
                                 have H1 : (laws_FnPermutationsHit.l0 k3 l1 t107 t109 t109 (t109.length : Int) (wrap64 (x133_3 + 1)) t102 t103 t104) = some r := by rw [if_pos rfl] at H; exact H
                                 clear H
                                 have H := H1
                                 clear H1
                                 have H' := za H
                                 clear H
                                 have p153 : 0 ≤ (x133_3 : Int) := of_decide_eq_true (by first | (with_reducible assumption) | assumption)
                                 have q153 : x133_3 < (t109.length : Int) := of_decide_eq_true (by first | (with_reducible assumption) | assumption)
                                 obtain ⟨ad153, A153_0, c153_0, e153, hx153_0, hl153_0, hi153_0⟩ := at_L1 (Kd.N_reads' HO_131.out).2.2 x133_3 p153 q153
                                 cases e153
                                 obtain ⟨ce153, hce153, hMe153, hcc153⟩ := Kd.N_get HO_131.out [] x133_3 p153 (by first | exact q153 | exact of_decide_eq_true (by first | (with_reducible assumption) | assumption) | (have e_ := (Kd.N_reads' HO_131.out).1; omega))
                                 obtain ⟨ua153_0, uc153_0, rfl, ul153_0, ge153_0⟩ := Kd.FK_slice_open hMe153
                                 have hv153_0 := hcc153 0 _ rfl
                                 rw [Nat.add_zero, show ((Kd.slice 3 (Kd.int .i64))).sz = 1 from rfl, Nat.mul_one] at hv153_0
                                 replace hv153_0 := Option.some.inj (hv153_0.symm.trans hx153_0)
                                 injection hv153_0 with hva_ hvn_ hvc_
                                 rw [hva_] at ge153_0
                                 rw [hvc_] at ul153_0
                                 have HL153_0 := za (show Kd.V (Kd.int .i64) 3 _ w.heap.size _ _ (rd_L1 t109 x133_3) from Kd.V_mk ul153_0 ge153_0)
                                 clear hva_ hvn_ hvc_ ge153_0 ul153_0
                                 clear hcc153 hce153
                                 have HR153_0 := za hi153_0
                                 have HC153_0 := za hl153_0
                                 clear hi153_0 hl153_0
                                 replace p153 := eq_true p153
                                 replace q153 := eq_true q153
                                 have hcz105_0 : wr.cell? ⟨gb108, 0, none⟩ = some (.int .i64 t102) := (zi BK108.out 0).trans rfl
                                 have hcz105_1 : wr.cell? ⟨gb108, 1, none⟩ = some (.int .i64 t103) := (zi BK108.out 1).trans rfl
                                 have hcz105_2 : wr.cell? ⟨gb108, 2, none⟩ = some (.slice Ao14 t104.length co14) := (zi BK108.out 2).trans rfl
                                 have hfz105_0 := zj BK108.out 0
                                 have hfz105_1 := zj BK108.out 1
                                 have hfz105_2 := zj BK108.out 2
                                 go_wp2_with (first | ((with_reducible refine zy (f := 37) rfl ?_); refine goesL_ (some 141) rfl rfl Try.func37 (by kernel_rfl) rfl #[.agg #[.int .i64 t102, .int .i64 t103, .slice Ao14 t104.length co14], .slice A153_0 (rd_L1 t109 x133_3).length c153_0] rfl (by (try simp only [List.map_toArray, List.map_cons, List.map_nil]); first | done | rfl | (simp only [List.length_drop, List.length_take]; rfl)) ?_; (with_reducible refine (impl_HitsOf.calls k3 t102 t103 _ _ t104 _ _ (rd_L1 t109 x133_3) t154 true _ ?side1 ?side2 ?side3 ?side4 A96.out).mono ?_); (case side1 => repeat (first | exact (zB HO_109002.out).2.2 | (with_reducible refine zp ?_ _) | (with_reducible refine zq ?_ _) | (with_reducible refine zr ?_))); (case side2 => exact (zB HO_109002.out).2.1); (case side3 => repeat (first | exact (by repeat (first | (with_reducible exact HR153_0.out) | (with_reducible refine zp ?_ _) | (with_reducible refine zq ?_ _) | (with_reducible refine zr ?_) | exact HR153_0.out)) | (with_reducible refine zp ?_ _) | (with_reducible refine zq ?_ _) | (with_reducible refine zr ?_))); (case side4 => exact HC153_0.out); rintro e w106 ⟨rfl, hb⟩; refine ⟨_, rfl, ?_⟩; have n0_ := za (Kd.N_below (by (with_reducible repeat (first | apply zC | apply zD | apply zE)); exact HO_7.out) hb); have n1_ := za (Kd.N_below (by (with_reducible repeat (first | apply zC | apply zD | apply zE)); exact HO_131.out) hb); have n2_ := za (zI (by (with_reducible repeat (first | apply zl | apply zm | apply zk)); exact HO_109002.out) hb); have n3_ := za (Kd.V_below (by (with_reducible repeat (first | apply Kd.V_alloc | apply Kd.V_drewN | apply Kd.V_drew)); exact HL153_0.out) hb); have n4_ := za (zA (g := gb108) (o := .cells #[.int .i64 t102, .int .i64 t103, .slice Ao14 t104.length co14] 43 (0, 0)) (by (with_reducible repeat (first | refine zg ?_ _ | refine zf ?_ | refine zh ?_ _)); exact BK108.out) hb); have n5_ := za (Kd.C_below (by repeat (first | (with_reducible exact HR153_0.out) | (with_reducible refine zp ?_ _) | (with_reducible refine zq ?_ _) | (with_reducible refine zr ?_) | exact HR153_0.out)) hb); have n6_ := za (zw (by repeat (first | (with_reducible first | exact HB.out | apply zc | apply zd | apply zb | refine ze ?_ GE108.out) | exact HB.out)) hb); clear HO_7 HO_131; clear HO_109002 HL153_0; clear BK108 HR153_0 HB; have HO_7 := n0_; have HO_131 := n1_; have HO_109002 := n2_; have HL153_0 := n3_; have BK108 := n4_; have HR153_0 := n5_; have HB := n6_; clear n0_ n1_ n2_ n3_ n4_ n5_ n6_; (try clear hb); (try clear hb2); (try clear hk); (try clear hi); have p156 : 0 ≤ ((ji100) : Int) := of_decide_eq_true (by first | (with_reducible assumption) | assumption); have q156 : (ji100) < (t109.length : Int) := of_decide_eq_true (by first | (with_reducible assumption) | assumption); obtain ⟨ad156, A156_0, c156_0, e156, hx156_0, hl156_0, hi156_0⟩ := at_L1 (Kd.N_reads' HO_7.out).2.2 (ji100) p156 q156; obtain rfl : ad153 = ad156 := (by injection e156); obtain ⟨ce156, hce156, hMe156, hcc156⟩ := Kd.N_get HO_7.out [] (ji100) p156 (by first | exact q156 | exact of_decide_eq_true (by first | (with_reducible assumption) | assumption) | (have e_ := (Kd.N_reads' HO_7.out).1; omega)); obtain ⟨ua156_0, uc156_0, rfl, ul156_0, ge156_0⟩ := Kd.FK_slice_open hMe156; have hv156_0 := hcc156 0 _ rfl; rw [Nat.add_zero, show ((Kd.slice 3 (Kd.int .i64))).sz = 1 from rfl, Nat.mul_one] at hv156_0; replace hv156_0 := Option.some.inj (hv156_0.symm.trans hx156_0); injection hv156_0 with hva_ hvn_ hvc_; rw [hva_] at ge156_0; rw [hvc_] at ul156_0; have HL156_0 := za (show Kd.V (Kd.int .i64) 3 _ w.heap.size _ _ (rd_L1 t109 (ji100)) from Kd.V_mk ul156_0 ge156_0); clear hva_ hvn_ hvc_ ge156_0 ul156_0; clear hcc156 hce156; have HR156_0 := za hi156_0; have HC156_0 := za hl156_0; clear hi156_0 hl156_0; replace p156 := eq_true p156; replace q156 := eq_true q156) | (go_at_call 38; (with_reducible refine (laws_kLess.calls k3 _ _ (rd_L1 t109 (ji100)) _ _ (rd_L1 t109 x133_3) true _ ?side1 ?side2 ?side3 ?side4 A103.out).mono ?_); (case side1 => repeat (first | exact (by repeat (first | (with_reducible exact HR156_0.out) | (with_reducible refine zp ?_ _) | (with_reducible refine zq ?_ _) | (with_reducible refine zr ?_) | exact HR156_0.out)) | (with_reducible refine zp ?_ _) | (with_reducible refine zq ?_ _) | (with_reducible refine zr ?_))); (case side2 => exact HC156_0.out); (case side3 => repeat (first | exact (by repeat (first | (with_reducible exact HR153_0.out) | (with_reducible refine zp ?_ _) | (with_reducible refine zq ?_ _) | (with_reducible refine zr ?_) | exact HR153_0.out)) | (with_reducible refine zp ?_ _) | (with_reducible refine zq ?_ _) | (with_reducible refine zr ?_))); (case side4 => exact HC153_0.out); rintro e w' ⟨rfl, ⟨nd, rfl⟩⟩))
                                 go_roundg k3
                                 case measure => have := HJ9.out; have := HJ42.out; have := HK3.out; omega
                                 case rel => exact ⟨(wrap64 (x133_3 + 1)), (by first | rfl | (simp; done) | (simp [*]; done)), H', ⟨by have := HJ9.out; have := HJ42.out; have := HK3.out; omega⟩, ⟨by (with_reducible repeat (first | apply zC | apply zD | apply zE)); exact HO_7.out⟩, ⟨by (with_reducible repeat (first | apply zC | apply zD | apply zE)); exact HO_131.out⟩, ⟨by (with_reducible repeat (first | apply zl | apply zm | apply zk)); exact HO_109002.out⟩, ⟨by (with_reducible repeat (first | refine zg ?_ _ | refine zf ?_ | refine zh ?_ _)); exact BK108.out⟩, ⟨by repeat (first | (with_reducible first | exact HB.out | apply zc | apply zd | apply zb | refine ze ?_ GE108.out) | exact HB.out)⟩⟩
                               ·
                                as_aux_lemma =>
                                 replace c104 := Bool.eq_false_iff.mpr c104
                                 subst c104
                                 have H1 : (some false) = some r := by rw [if_neg (show ¬ (false = true) by decide)] at H; exact H
                                 clear H
                                 have H := H1
                                 clear H1
                                 obtain rfl := Option.some.inj H
                                 have p153 : 0 ≤ (x133_3 : Int) := of_decide_eq_true (by first | (with_reducible assumption) | assumption)
                                 have q153 : x133_3 < (t109.length : Int) := of_decide_eq_true (by first | (with_reducible assumption) | assumption)
                                 obtain ⟨ad153, A153_0, c153_0, e153, hx153_0, hl153_0, hi153_0⟩ := at_L1 (Kd.N_reads' HO_131.out).2.2 x133_3 p153 q153
                                 cases e153
                                 obtain ⟨ce153, hce153, hMe153, hcc153⟩ := Kd.N_get HO_131.out [] x133_3 p153 (by first | exact q153 | exact of_decide_eq_true (by first | (with_reducible assumption) | assumption) | (have e_ := (Kd.N_reads' HO_131.out).1; omega))
                                 obtain ⟨ua153_0, uc153_0, rfl, ul153_0, ge153_0⟩ := Kd.FK_slice_open hMe153
                                 have hv153_0 := hcc153 0 _ rfl
                                 rw [Nat.add_zero, show ((Kd.slice 3 (Kd.int .i64))).sz = 1 from rfl, Nat.mul_one] at hv153_0
                                 replace hv153_0 := Option.some.inj (hv153_0.symm.trans hx153_0)
                                 injection hv153_0 with hva_ hvn_ hvc_
                                 rw [hva_] at ge153_0
                                 rw [hvc_] at ul153_0
                                 have HL153_0 := za (show Kd.V (Kd.int .i64) 3 _ w.heap.size _ _ (rd_L1 t109 x133_3) from Kd.V_mk ul153_0 ge153_0)
                                 clear hva_ hvn_ hvc_ ge153_0 ul153_0
                                 clear hcc153 hce153
                                 have HR153_0 := za hi153_0
                                 have HC153_0 := za hl153_0
                                 clear hi153_0 hl153_0
                                 replace p153 := eq_true p153
                                 replace q153 := eq_true q153
                                 have hcz107_0 : wr.cell? ⟨gb108, 0, none⟩ = some (.int .i64 t102) := (zi BK108.out 0).trans rfl
                                 have hcz107_1 : wr.cell? ⟨gb108, 1, none⟩ = some (.int .i64 t103) := (zi BK108.out 1).trans rfl
                                 have hcz107_2 : wr.cell? ⟨gb108, 2, none⟩ = some (.slice Ao14 t104.length co14) := (zi BK108.out 2).trans rfl
                                 have hfz107_0 := zj BK108.out 0
                                 have hfz107_1 := zj BK108.out 1
                                 have hfz107_2 := zj BK108.out 2
                                 go_wp2_with (first | ((with_reducible refine zy (f := 37) rfl ?_); refine goesL_ (some 141) rfl rfl Try.func37 (by kernel_rfl) rfl #[.agg #[.int .i64 t102, .int .i64 t103, .slice Ao14 t104.length co14], .slice A153_0 (rd_L1 t109 x133_3).length c153_0] rfl (by (try simp only [List.map_toArray, List.map_cons, List.map_nil]); first | done | rfl | (simp only [List.length_drop, List.length_take]; rfl)) ?_; (with_reducible refine (impl_HitsOf.calls k3 t102 t103 _ _ t104 _ _ (rd_L1 t109 x133_3) t154 true _ ?side1 ?side2 ?side3 ?side4 A96.out).mono ?_); (case side1 => repeat (first | exact (zB HO_109002.out).2.2 | (with_reducible refine zp ?_ _) | (with_reducible refine zq ?_ _) | (with_reducible refine zr ?_))); (case side2 => exact (zB HO_109002.out).2.1); (case side3 => repeat (first | exact (by repeat (first | (with_reducible exact HR153_0.out) | (with_reducible refine zp ?_ _) | (with_reducible refine zq ?_ _) | (with_reducible refine zr ?_) | exact HR153_0.out)) | (with_reducible refine zp ?_ _) | (with_reducible refine zq ?_ _) | (with_reducible refine zr ?_))); (case side4 => exact HC153_0.out); rintro e w108 ⟨rfl, hb⟩; refine ⟨_, rfl, ?_⟩; have n0_ := za (Kd.N_below (by (with_reducible repeat (first | apply zC | apply zD | apply zE)); exact HO_7.out) hb); have n1_ := za (Kd.N_below (by (with_reducible repeat (first | apply zC | apply zD | apply zE)); exact HO_131.out) hb); have n2_ := za (zI (by (with_reducible repeat (first | apply zl | apply zm | apply zk)); exact HO_109002.out) hb); have n3_ := za (Kd.V_below (by (with_reducible repeat (first | apply Kd.V_alloc | apply Kd.V_drewN | apply Kd.V_drew)); exact HL153_0.out) hb); have n4_ := za (zA (g := gb108) (o := .cells #[.int .i64 t102, .int .i64 t103, .slice Ao14 t104.length co14] 43 (0, 0)) (by (with_reducible repeat (first | refine zg ?_ _ | refine zf ?_ | refine zh ?_ _)); exact BK108.out) hb); have n5_ := za (Kd.C_below (by repeat (first | (with_reducible exact HR153_0.out) | (with_reducible refine zp ?_ _) | (with_reducible refine zq ?_ _) | (with_reducible refine zr ?_) | exact HR153_0.out)) hb); have n6_ := za (zw (by repeat (first | (with_reducible first | exact HB.out | apply zc | apply zd | apply zb | refine ze ?_ GE108.out) | exact HB.out)) hb); clear HO_7 HO_131; clear HO_109002 HL153_0; clear BK108 HR153_0 HB; have HO_7 := n0_; have HO_131 := n1_; have HO_109002 := n2_; have HL153_0 := n3_; have BK108 := n4_; have HR153_0 := n5_; have HB := n6_; clear n0_ n1_ n2_ n3_ n4_ n5_ n6_; (try clear hb); (try clear hb2); (try clear hk); (try clear hi); have p156 : 0 ≤ ((ji100) : Int) := of_decide_eq_true (by first | (with_reducible assumption) | assumption); have q156 : (ji100) < (t109.length : Int) := of_decide_eq_true (by first | (with_reducible assumption) | assumption); obtain ⟨ad156, A156_0, c156_0, e156, hx156_0, hl156_0, hi156_0⟩ := at_L1 (Kd.N_reads' HO_7.out).2.2 (ji100) p156 q156; obtain rfl : ad153 = ad156 := (by injection e156); obtain ⟨ce156, hce156, hMe156, hcc156⟩ := Kd.N_get HO_7.out [] (ji100) p156 (by first | exact q156 | exact of_decide_eq_true (by first | (with_reducible assumption) | assumption) | (have e_ := (Kd.N_reads' HO_7.out).1; omega)); obtain ⟨ua156_0, uc156_0, rfl, ul156_0, ge156_0⟩ := Kd.FK_slice_open hMe156; have hv156_0 := hcc156 0 _ rfl; rw [Nat.add_zero, show ((Kd.slice 3 (Kd.int .i64))).sz = 1 from rfl, Nat.mul_one] at hv156_0; replace hv156_0 := Option.some.inj (hv156_0.symm.trans hx156_0); injection hv156_0 with hva_ hvn_ hvc_; rw [hva_] at ge156_0; rw [hvc_] at ul156_0; have HL156_0 := za (show Kd.V (Kd.int .i64) 3 _ w.heap.size _ _ (rd_L1 t109 (ji100)) from Kd.V_mk ul156_0 ge156_0); clear hva_ hvn_ hvc_ ge156_0 ul156_0; clear hcc156 hce156; have HR156_0 := za hi156_0; have HC156_0 := za hl156_0; clear hi156_0 hl156_0; replace p156 := eq_true p156; replace q156 := eq_true q156) | (go_at_call 38; (with_reducible refine (laws_kLess.calls k3 _ _ (rd_L1 t109 (ji100)) _ _ (rd_L1 t109 x133_3) false _ ?side1 ?side2 ?side3 ?side4 A103.out).mono ?_); (case side1 => repeat (first | exact (by repeat (first | (with_reducible exact HR156_0.out) | (with_reducible refine zp ?_ _) | (with_reducible refine zq ?_ _) | (with_reducible refine zr ?_) | exact HR156_0.out)) | (with_reducible refine zp ?_ _) | (with_reducible refine zq ?_ _) | (with_reducible refine zr ?_))); (case side2 => exact HC156_0.out); (case side3 => repeat (first | exact (by repeat (first | (with_reducible exact HR153_0.out) | (with_reducible refine zp ?_ _) | (with_reducible refine zq ?_ _) | (with_reducible refine zr ?_) | exact HR153_0.out)) | (with_reducible refine zp ?_ _) | (with_reducible refine zq ?_ _) | (with_reducible refine zr ?_))); (case side4 => exact HC153_0.out); rintro e w' ⟨rfl, ⟨nd, rfl⟩⟩))
                                 go_ret
                                 exact ⟨by first | rfl | (simp [errW_none, errW_some] <;> rfl) | (simp only [← hji100]; first | rfl | (simp [errW_none, errW_some] <;> rfl)) | (simp [*, errW_none, errW_some] <;> rfl), by repeat (first | (with_reducible first | exact HB.out | apply zc | apply zd | apply zb | refine ze ?_ GE108.out) | exact HB.out)⟩
                             ·
                              rw [if_neg c102] at H
                              exact absurd H (by simp)
                           ·
                            rw [if_neg c101] at H
                            exact absurd H (by simp)
                         ·
                          as_aux_lemma =>
                           rw [if_neg c99] at H
                           have c99b0 : decide (0 < x133_3) = false := decide_eq_false c99
                           clear c99
                           have H' := za H
                           clear H
                           have p153 : 0 ≤ (x133_3 : Int) := of_decide_eq_true (by first | (with_reducible assumption) | assumption)
                           have q153 : x133_3 < (t109.length : Int) := of_decide_eq_true (by first | (with_reducible assumption) | assumption)
                           obtain ⟨ad153, A153_0, c153_0, e153, hx153_0, hl153_0, hi153_0⟩ := at_L1 (Kd.N_reads' HO_131.out).2.2 x133_3 p153 q153
                           cases e153
                           obtain ⟨ce153, hce153, hMe153, hcc153⟩ := Kd.N_get HO_131.out [] x133_3 p153 (by first | exact q153 | exact of_decide_eq_true (by first | (with_reducible assumption) | assumption) | (have e_ := (Kd.N_reads' HO_131.out).1; omega))
                           obtain ⟨ua153_0, uc153_0, rfl, ul153_0, ge153_0⟩ := Kd.FK_slice_open hMe153
                           have hv153_0 := hcc153 0 _ rfl
                           rw [Nat.add_zero, show ((Kd.slice 3 (Kd.int .i64))).sz = 1 from rfl, Nat.mul_one] at hv153_0
                           replace hv153_0 := Option.some.inj (hv153_0.symm.trans hx153_0)
                           injection hv153_0 with hva_ hvn_ hvc_
                           rw [hva_] at ge153_0
                           rw [hvc_] at ul153_0
                           have HL153_0 := za (show Kd.V (Kd.int .i64) 3 _ w.heap.size _ _ (rd_L1 t109 x133_3) from Kd.V_mk ul153_0 ge153_0)
                           clear hva_ hvn_ hvc_ ge153_0 ul153_0
                           clear hcc153 hce153
                           have HR153_0 := za hi153_0
                           have HC153_0 := za hl153_0
                           clear hi153_0 hl153_0
                           replace p153 := eq_true p153
                           replace q153 := eq_true q153
                           have hcz109_0 : wr.cell? ⟨gb108, 0, none⟩ = some (.int .i64 t102) := (zi BK108.out 0).trans rfl
                           have hcz109_1 : wr.cell? ⟨gb108, 1, none⟩ = some (.int .i64 t103) := (zi BK108.out 1).trans rfl
                           have hcz109_2 : wr.cell? ⟨gb108, 2, none⟩ = some (.slice Ao14 t104.length co14) := (zi BK108.out 2).trans rfl
                           have hfz109_0 := zj BK108.out 0
                           have hfz109_1 := zj BK108.out 1
                           have hfz109_2 := zj BK108.out 2
                           go_wp2_with (first | ((with_reducible refine zy (f := 37) rfl ?_); refine goesL_ (some 141) rfl rfl Try.func37 (by kernel_rfl) rfl #[.agg #[.int .i64 t102, .int .i64 t103, .slice Ao14 t104.length co14], .slice A153_0 (rd_L1 t109 x133_3).length c153_0] rfl (by (try simp only [List.map_toArray, List.map_cons, List.map_nil]); first | done | rfl | (simp only [List.length_drop, List.length_take]; rfl)) ?_; (with_reducible refine (impl_HitsOf.calls k3 t102 t103 _ _ t104 _ _ (rd_L1 t109 x133_3) t154 true _ ?side1 ?side2 ?side3 ?side4 A96.out).mono ?_); (case side1 => repeat (first | exact (zB HO_109002.out).2.2 | (with_reducible refine zp ?_ _) | (with_reducible refine zq ?_ _) | (with_reducible refine zr ?_))); (case side2 => exact (zB HO_109002.out).2.1); (case side3 => repeat (first | exact (by repeat (first | (with_reducible exact HR153_0.out) | (with_reducible refine zp ?_ _) | (with_reducible refine zq ?_ _) | (with_reducible refine zr ?_) | exact HR153_0.out)) | (with_reducible refine zp ?_ _) | (with_reducible refine zq ?_ _) | (with_reducible refine zr ?_))); (case side4 => exact HC153_0.out); rintro e w110 ⟨rfl, hb⟩; refine ⟨_, rfl, ?_⟩; have n0_ := za (Kd.N_below (by (with_reducible repeat (first | apply zC | apply zD | apply zE)); exact HO_7.out) hb); have n1_ := za (Kd.N_below (by (with_reducible repeat (first | apply zC | apply zD | apply zE)); exact HO_131.out) hb); have n2_ := za (zI (by (with_reducible repeat (first | apply zl | apply zm | apply zk)); exact HO_109002.out) hb); have n3_ := za (Kd.V_below (by (with_reducible repeat (first | apply Kd.V_alloc | apply Kd.V_drewN | apply Kd.V_drew)); exact HL153_0.out) hb); have n4_ := za (zA (g := gb108) (o := .cells #[.int .i64 t102, .int .i64 t103, .slice Ao14 t104.length co14] 43 (0, 0)) (by (with_reducible repeat (first | refine zg ?_ _ | refine zf ?_ | refine zh ?_ _)); exact BK108.out) hb); have n5_ := za (Kd.C_below (by repeat (first | (with_reducible exact HR153_0.out) | (with_reducible refine zp ?_ _) | (with_reducible refine zq ?_ _) | (with_reducible refine zr ?_) | exact HR153_0.out)) hb); have n6_ := za (zw (by repeat (first | (with_reducible first | exact HB.out | apply zc | apply zd | apply zb | refine ze ?_ GE108.out) | exact HB.out)) hb); clear HO_7 HO_131; clear HO_109002 HL153_0; clear BK108 HR153_0 HB; have HO_7 := n0_; have HO_131 := n1_; have HO_109002 := n2_; have HL153_0 := n3_; have BK108 := n4_; have HR153_0 := n5_; have HB := n6_; clear n0_ n1_ n2_ n3_ n4_ n5_ n6_; (try clear hb); (try clear hb2); (try clear hk); (try clear hi)))
                           go_roundg k3
                           case measure => have := HJ9.out; have := HJ42.out; have := HK3.out; omega
                           case rel => exact ⟨(wrap64 (x133_3 + 1)), (by first | rfl | (simp; done) | (simp [*]; done)), H', ⟨by have := HJ9.out; have := HJ42.out; have := HK3.out; omega⟩, ⟨by (with_reducible repeat (first | apply zC | apply zD | apply zE)); exact HO_7.out⟩, ⟨by (with_reducible repeat (first | apply zC | apply zD | apply zE)); exact HO_131.out⟩, ⟨by (with_reducible repeat (first | apply zl | apply zm | apply zk)); exact HO_109002.out⟩, ⟨by (with_reducible repeat (first | refine zg ?_ _ | refine zf ?_ | refine zh ?_ _)); exact BK108.out⟩, ⟨by repeat (first | (with_reducible first | exact HB.out | apply zc | apply zd | apply zb | refine ze ?_ GE108.out) | exact HB.out)⟩⟩
                       ·
                        as_aux_lemma =>
                         rw [if_neg c98] at H
                         have c98b0 : (t154 == t107) = false := beq_eq_false_iff_ne.mpr c98
                         have c98b1 : (t154 != t107) = true := bne_iff_ne.mpr c98
                         obtain rfl := Option.some.inj H
                         have p153 : 0 ≤ (x133_3 : Int) := of_decide_eq_true (by first | (with_reducible assumption) | assumption)
                         have q153 : x133_3 < (t109.length : Int) := of_decide_eq_true (by first | (with_reducible assumption) | assumption)
                         obtain ⟨ad153, A153_0, c153_0, e153, hx153_0, hl153_0, hi153_0⟩ := at_L1 (Kd.N_reads' HO_131.out).2.2 x133_3 p153 q153
                         cases e153
                         obtain ⟨ce153, hce153, hMe153, hcc153⟩ := Kd.N_get HO_131.out [] x133_3 p153 (by first | exact q153 | exact of_decide_eq_true (by first | (with_reducible assumption) | assumption) | (have e_ := (Kd.N_reads' HO_131.out).1; omega))
                         obtain ⟨ua153_0, uc153_0, rfl, ul153_0, ge153_0⟩ := Kd.FK_slice_open hMe153
                         have hv153_0 := hcc153 0 _ rfl
                         rw [Nat.add_zero, show ((Kd.slice 3 (Kd.int .i64))).sz = 1 from rfl, Nat.mul_one] at hv153_0
                         replace hv153_0 := Option.some.inj (hv153_0.symm.trans hx153_0)
                         injection hv153_0 with hva_ hvn_ hvc_
                         rw [hva_] at ge153_0
                         rw [hvc_] at ul153_0
                         have HL153_0 := za (show Kd.V (Kd.int .i64) 3 _ w.heap.size _ _ (rd_L1 t109 x133_3) from Kd.V_mk ul153_0 ge153_0)
                         clear hva_ hvn_ hvc_ ge153_0 ul153_0
                         clear hcc153 hce153
                         have HR153_0 := za hi153_0
                         have HC153_0 := za hl153_0
                         clear hi153_0 hl153_0
                         replace p153 := eq_true p153
                         replace q153 := eq_true q153
                         have hcz111_0 : wr.cell? ⟨gb108, 0, none⟩ = some (.int .i64 t102) := (zi BK108.out 0).trans rfl
                         have hcz111_1 : wr.cell? ⟨gb108, 1, none⟩ = some (.int .i64 t103) := (zi BK108.out 1).trans rfl
                         have hcz111_2 : wr.cell? ⟨gb108, 2, none⟩ = some (.slice Ao14 t104.length co14) := (zi BK108.out 2).trans rfl
                         have hfz111_0 := zj BK108.out 0
                         have hfz111_1 := zj BK108.out 1
                         have hfz111_2 := zj BK108.out 2
                         go_wp2_with (first | ((with_reducible refine zy (f := 37) rfl ?_); refine goesL_ (some 141) rfl rfl Try.func37 (by kernel_rfl) rfl #[.agg #[.int .i64 t102, .int .i64 t103, .slice Ao14 t104.length co14], .slice A153_0 (rd_L1 t109 x133_3).length c153_0] rfl (by (try simp only [List.map_toArray, List.map_cons, List.map_nil]); first | done | rfl | (simp only [List.length_drop, List.length_take]; rfl)) ?_; (with_reducible refine (impl_HitsOf.calls k3 t102 t103 _ _ t104 _ _ (rd_L1 t109 x133_3) t154 true _ ?side1 ?side2 ?side3 ?side4 A96.out).mono ?_); (case side1 => repeat (first | exact (zB HO_109002.out).2.2 | (with_reducible refine zp ?_ _) | (with_reducible refine zq ?_ _) | (with_reducible refine zr ?_))); (case side2 => exact (zB HO_109002.out).2.1); (case side3 => repeat (first | exact (by repeat (first | (with_reducible exact HR153_0.out) | (with_reducible refine zp ?_ _) | (with_reducible refine zq ?_ _) | (with_reducible refine zr ?_) | exact HR153_0.out)) | (with_reducible refine zp ?_ _) | (with_reducible refine zq ?_ _) | (with_reducible refine zr ?_))); (case side4 => exact HC153_0.out); rintro e w112 ⟨rfl, hb⟩; refine ⟨_, rfl, ?_⟩; have n0_ := za (Kd.N_below (by (with_reducible repeat (first | apply zC | apply zD | apply zE)); exact HO_7.out) hb); have n1_ := za (Kd.N_below (by (with_reducible repeat (first | apply zC | apply zD | apply zE)); exact HO_131.out) hb); have n2_ := za (zI (by (with_reducible repeat (first | apply zl | apply zm | apply zk)); exact HO_109002.out) hb); have n3_ := za (Kd.V_below (by (with_reducible repeat (first | apply Kd.V_alloc | apply Kd.V_drewN | apply Kd.V_drew)); exact HL153_0.out) hb); have n4_ := za (zA (g := gb108) (o := .cells #[.int .i64 t102, .int .i64 t103, .slice Ao14 t104.length co14] 43 (0, 0)) (by (with_reducible repeat (first | refine zg ?_ _ | refine zf ?_ | refine zh ?_ _)); exact BK108.out) hb); have n5_ := za (Kd.C_below (by repeat (first | (with_reducible exact HR153_0.out) | (with_reducible refine zp ?_ _) | (with_reducible refine zq ?_ _) | (with_reducible refine zr ?_) | exact HR153_0.out)) hb); have n6_ := za (zw (by repeat (first | (with_reducible first | exact HB.out | apply zc | apply zd | apply zb | refine ze ?_ GE108.out) | exact HB.out)) hb); clear HO_7 HO_131; clear HO_109002 HL153_0; clear BK108 HR153_0 HB; have HO_7 := n0_; have HO_131 := n1_; have HO_109002 := n2_; have HL153_0 := n3_; have BK108 := n4_; have HR153_0 := n5_; have HB := n6_; clear n0_ n1_ n2_ n3_ n4_ n5_ n6_; (try clear hb); (try clear hb2); (try clear hk); (try clear hi)))
                         go_ret
                         exact ⟨by first | rfl | (simp [errW_none, errW_some] <;> rfl) | (simp [*, errW_none, errW_some] <;> rfl), by repeat (first | (with_reducible first | exact HB.out | apply zc | apply zd | apply zb | refine ze ?_ GE108.out) | exact HB.out)⟩
                     ·
                      as_aux_lemma =>
                       replace c97 := Bool.eq_false_iff.mpr c97
                       subst c97
                       have H1 : (some false) = some r := by rw [if_neg (show ¬ (false = true) by decide)] at H; exact H
                       clear H
                       have H := H1
                       clear H1
                       obtain rfl := Option.some.inj H
                       have p153 : 0 ≤ (x133_3 : Int) := of_decide_eq_true (by first | (with_reducible assumption) | assumption)
                       have q153 : x133_3 < (t109.length : Int) := of_decide_eq_true (by first | (with_reducible assumption) | assumption)
                       obtain ⟨ad153, A153_0, c153_0, e153, hx153_0, hl153_0, hi153_0⟩ := at_L1 (Kd.N_reads' HO_131.out).2.2 x133_3 p153 q153
                       cases e153
                       obtain ⟨ce153, hce153, hMe153, hcc153⟩ := Kd.N_get HO_131.out [] x133_3 p153 (by first | exact q153 | exact of_decide_eq_true (by first | (with_reducible assumption) | assumption) | (have e_ := (Kd.N_reads' HO_131.out).1; omega))
                       obtain ⟨ua153_0, uc153_0, rfl, ul153_0, ge153_0⟩ := Kd.FK_slice_open hMe153
                       have hv153_0 := hcc153 0 _ rfl
                       rw [Nat.add_zero, show ((Kd.slice 3 (Kd.int .i64))).sz = 1 from rfl, Nat.mul_one] at hv153_0
                       replace hv153_0 := Option.some.inj (hv153_0.symm.trans hx153_0)
                       injection hv153_0 with hva_ hvn_ hvc_
                       rw [hva_] at ge153_0
                       rw [hvc_] at ul153_0
                       have HL153_0 := za (show Kd.V (Kd.int .i64) 3 _ w.heap.size _ _ (rd_L1 t109 x133_3) from Kd.V_mk ul153_0 ge153_0)
                       clear hva_ hvn_ hvc_ ge153_0 ul153_0
                       clear hcc153 hce153
                       have HR153_0 := za hi153_0
                       have HC153_0 := za hl153_0
                       clear hi153_0 hl153_0
                       replace p153 := eq_true p153
                       replace q153 := eq_true q153
                       have hcz113_0 : wr.cell? ⟨gb108, 0, none⟩ = some (.int .i64 t102) := (zi BK108.out 0).trans rfl
                       have hcz113_1 : wr.cell? ⟨gb108, 1, none⟩ = some (.int .i64 t103) := (zi BK108.out 1).trans rfl
                       have hcz113_2 : wr.cell? ⟨gb108, 2, none⟩ = some (.slice Ao14 t104.length co14) := (zi BK108.out 2).trans rfl
                       have hfz113_0 := zj BK108.out 0
                       have hfz113_1 := zj BK108.out 1
                       have hfz113_2 := zj BK108.out 2
                       go_wp2_with (first | ((with_reducible refine zy (f := 37) rfl ?_); refine goesL_ (some 141) rfl rfl Try.func37 (by kernel_rfl) rfl #[.agg #[.int .i64 t102, .int .i64 t103, .slice Ao14 t104.length co14], .slice A153_0 (rd_L1 t109 x133_3).length c153_0] rfl (by (try simp only [List.map_toArray, List.map_cons, List.map_nil]); first | done | rfl | (simp only [List.length_drop, List.length_take]; rfl)) ?_; (with_reducible refine (impl_HitsOf.calls k3 t102 t103 _ _ t104 _ _ (rd_L1 t109 x133_3) t154 false _ ?side1 ?side2 ?side3 ?side4 A96.out).mono ?_); (case side1 => repeat (first | exact (zB HO_109002.out).2.2 | (with_reducible refine zp ?_ _) | (with_reducible refine zq ?_ _) | (with_reducible refine zr ?_))); (case side2 => exact (zB HO_109002.out).2.1); (case side3 => repeat (first | exact (by repeat (first | (with_reducible exact HR153_0.out) | (with_reducible refine zp ?_ _) | (with_reducible refine zq ?_ _) | (with_reducible refine zr ?_) | exact HR153_0.out)) | (with_reducible refine zp ?_ _) | (with_reducible refine zq ?_ _) | (with_reducible refine zr ?_))); (case side4 => exact HC153_0.out); rintro e w114 ⟨rfl, hb⟩; refine ⟨_, rfl, ?_⟩; have n0_ := za (Kd.N_below (by (with_reducible repeat (first | apply zC | apply zD | apply zE)); exact HO_7.out) hb); have n1_ := za (Kd.N_below (by (with_reducible repeat (first | apply zC | apply zD | apply zE)); exact HO_131.out) hb); have n2_ := za (zI (by (with_reducible repeat (first | apply zl | apply zm | apply zk)); exact HO_109002.out) hb); have n3_ := za (Kd.V_below (by (with_reducible repeat (first | apply Kd.V_alloc | apply Kd.V_drewN | apply Kd.V_drew)); exact HL153_0.out) hb); have n4_ := za (zA (g := gb108) (o := .cells #[.int .i64 t102, .int .i64 t103, .slice Ao14 t104.length co14] 43 (0, 0)) (by (with_reducible repeat (first | refine zg ?_ _ | refine zf ?_ | refine zh ?_ _)); exact BK108.out) hb); have n5_ := za (Kd.C_below (by repeat (first | (with_reducible exact HR153_0.out) | (with_reducible refine zp ?_ _) | (with_reducible refine zq ?_ _) | (with_reducible refine zr ?_) | exact HR153_0.out)) hb); have n6_ := za (zw (by repeat (first | (with_reducible first | exact HB.out | apply zc | apply zd | apply zb | refine ze ?_ GE108.out) | exact HB.out)) hb); clear HO_7 HO_131; clear HO_109002 HL153_0; clear BK108 HR153_0 HB; have HO_7 := n0_; have HO_131 := n1_; have HO_109002 := n2_; have HL153_0 := n3_; have BK108 := n4_; have HR153_0 := n5_; have HB := n6_; clear n0_ n1_ n2_ n3_ n4_ n5_ n6_; (try clear hb); (try clear hb2); (try clear hk); (try clear hi)))
                       go_ret
                       exact ⟨by first | rfl | (simp [errW_none, errW_some] <;> rfl) | (simp [*, errW_none, errW_some] <;> rfl), by repeat (first | (with_reducible first | exact HB.out | apply zc | apply zd | apply zb | refine ze ?_ GE108.out) | exact HB.out)⟩
                   ·
                    rw [if_neg c95] at H
                    exact absurd H (by simp)
                 ·
                  rw [if_neg c94] at H
                  exact absurd H (by simp)
               ·
                as_aux_lemma =>
                 rw [if_neg c93] at H
                 have c93b0 : decide (x133_3 < (t109.length : Int)) = false := decide_eq_false c93
                 clear c93
                 replace H := Option.bind_eq_some_iff.mp H
                 obtain ⟨⟨t140, t141, t142, t145⟩, A1150, H⟩ := H
                 replace H : ((impl_HitsOf.f k3 t140 t141 t142 t145).bind fun bt149 => ((spec_HitsOf.f k3 t140 t141 t142 t145).bind fun bt151 => (if (bt149.2 == bt151.2) = true then (some (bt149.1 == bt151.1)) else (some false)))) = some r := H
                 have A115 := za A1150
                 clear A1150
                 replace H := Option.bind_eq_some_iff.mp H
                 obtain ⟨⟨t149, t150⟩, A1160, H⟩ := H
                 replace H : ((spec_HitsOf.f k3 t140 t141 t142 t145).bind fun bt151 => (if (t150 == bt151.2) = true then (some (t149 == bt151.1)) else (some false))) = some r := H
                 have A116 := za A1160
                 clear A1160
                 replace H := Option.bind_eq_some_iff.mp H
                 obtain ⟨⟨t151, t152⟩, A1170, H⟩ := H
                 replace H : (if (t150 == t152) = true then (some (t149 == t151)) else (some false)) = some r := H
                 have A117 := za A1170
                 clear A1170
                 by_cases c118 : (t150 == t152) = true
                 ·
                  as_aux_lemma =>
                   rw [if_pos c118] at H
                   have c118b0 : (t150 == t152) = true := c118
                   (try (have c118b1 : decide (t150 = t152) = true := by simpa using c118))
                   (try (have c118b2 : (t150 == t152) = true := by simpa using c118))
                   clear c118
                   obtain rfl := Option.some.inj H
                   go_wp2_with (first | ((with_reducible refine zy (f := 39) rfl ?_); refine goesL_ (some 168) rfl rfl Try.func39 (by kernel_rfl) rfl #[.slice A1 l1.length c1] rfl (by (try simp only [List.map_toArray, List.map_cons, List.map_nil]); first | done | rfl | (simp only [List.length_drop, List.length_take]; rfl)) ?_; (with_reducible refine (spec_DrawHitsOf.calls k3 _ _ l1 t140 t141 t142 t145 _ ?side1 ?side2 A115.out).mono ?_); (case side1 => repeat (first | exact (Kd.C_below HR1.out HB.out) | (with_reducible refine zp ?_ _) | (with_reducible refine zq ?_ _) | (with_reducible refine zr ?_))); (case side2 => exact HC1.out); rintro e w119 ⟨v143, v146, rfl, ho0, ho1, hb⟩; refine ⟨_, rfl, ?_⟩; have n0_ := za (Kd.N_mono (Kd.N_told (Kd.N_told (Kd.N_old (by (with_reducible repeat (first | apply zC | apply zD | apply zE)); exact HO_7.out) hb) (Kd.R_base ho0)) (Kd.R_base ho1)) (fun _ h_ => h_.1)); have n1_ := za (Kd.N_mono (Kd.N_told (Kd.N_told (Kd.N_old (by (with_reducible repeat (first | apply zC | apply zD | apply zE)); exact HO_131.out) hb) (Kd.R_base ho0)) (Kd.R_base ho1)) (fun _ h_ => h_.1)); have n2_ := za (zz (Kd.R_told (Kd.R_told (Kd.R_old (by (with_reducible repeat (first | apply zl | apply zm | apply zk)); exact HO_109002.out) hb) (Kd.R_base ho0)) (Kd.R_base ho1)) (fun _ h_ => h_.1)); have n3_ := za (Kd.R_lower (Kd.R_new' ho0 (Kd.R_lt (by (with_reducible repeat (first | apply zl | apply zm | apply zk)); exact HO_109002.out))) (zo (by repeat (first | (with_reducible first | exact HB.out | apply zc | apply zd | apply zb | refine ze ?_ GE108.out) | exact HB.out)))); have n4_ := za (Kd.R_lower (Kd.R_new' ho1 (Kd.R_lt (by (with_reducible repeat (first | apply zl | apply zm | apply zk)); exact HO_109002.out))) (zo (by repeat (first | (with_reducible first | exact HB.out | apply zc | apply zd | apply zb | refine ze ?_ GE108.out) | exact HB.out)))); have n5_ := za (zA (g := gb108) (o := .cells #[.int .i64 t102, .int .i64 t103, .slice Ao14 t104.length co14] 43 (0, 0)) (by (with_reducible repeat (first | refine zg ?_ _ | refine zf ?_ | refine zh ?_ _)); exact BK108.out) hb); have n6_ := za (zw (by repeat (first | (with_reducible first | exact HB.out | apply zc | apply zd | apply zb | refine ze ?_ GE108.out) | exact HB.out)) hb); clear HO_7 HO_131; clear HO_109002 BK108 HB; have HO_7 := n0_; have HO_131 := n1_; have HO_109002 := n2_; have HO144 := n3_; have HO147 := n4_; have BK108 := n5_; have HB := n6_; clear n0_ n1_ n2_ n3_ n4_ n5_ n6_; (try clear hb); (try clear hb2); (try clear hk); (try clear hi); (try clear ho0); (try clear ho1)) | ((with_reducible refine zF (N := 21) rfl ?_); refine zG ?hg (N := 21) ?hd (cs := #[.int .i64 0, .int .i64 0, .slice none 0 0]) (t := 43) ?hr ?_; (case hd => rfl); (case hg => rfl); (case hr => first | (go_simp; done) | (go_simp; rfl)); intro gb148 hg w120 hbox hb; have n0_ := za (Kd.N_below (Kd.N_elderB (by (with_reducible repeat (first | apply zC | apply zD | apply zE)); exact HO_7.out) gb148 (Nat.le_of_eq hg.symm)) hb); have n1_ := za (Kd.N_below (Kd.N_elderB (by (with_reducible repeat (first | apply zC | apply zD | apply zE)); exact HO_131.out) gb148 (Nat.le_of_eq hg.symm)) hb); have n2_ := za (zI (by (with_reducible repeat (first | apply zl | apply zm | apply zk)); exact HO_109002.out) hb); have n3_ := za (zI (by (with_reducible repeat (first | apply zl | apply zm | apply zk)); exact HO144.out) hb); have n4_ := za (zI (by (with_reducible repeat (first | apply zl | apply zm | apply zk)); exact HO147.out) hb); have n5_ := za (zA (g := gb108) (o := .cells #[.int .i64 t102, .int .i64 t103, .slice Ao14 t104.length co14] 43 (0, 0)) (by (with_reducible repeat (first | refine zg ?_ _ | refine zf ?_ | refine zh ?_ _)); exact BK108.out) hb); have n6_ := za (zw (by repeat (first | (with_reducible first | exact HB.out | apply zc | apply zd | apply zb | refine ze ?_ GE108.out) | exact HB.out)) hb); have n7_ := za (hbox); have n8_ := za ((by rw [hg]; exact (zo (by repeat (first | (with_reducible first | exact HB.out | apply zc | apply zd | apply zb | refine ze ?_ GE108.out) | exact HB.out))) : w.heap.size ≤ gb148)); have n9_ := za ((by rw [hg]; exact (zo (by repeat (first | (with_reducible first | exact HB.out | apply zc | apply zd | apply zb | refine ze ?_ GE108.out) | exact HB.out))) : w.heap.size ≤ gb148)); have n10_ := za ((by rw [hg]; exact Nat.ne_of_lt (blk_lt (g := gb108) (o := .cells #[.int .i64 t102, .int .i64 t103, .slice Ao14 t104.length co14] 43 (0, 0)) (by (with_reducible repeat (first | refine zg ?_ _ | refine zf ?_ | refine zh ?_ _)); exact BK108.out)) : gb108 ≠ gb148)); have n11_ := za ((by rw [hg]; exact Nat.ne_of_gt (blk_lt (g := gb108) (o := .cells #[.int .i64 t102, .int .i64 t103, .slice Ao14 t104.length co14] 43 (0, 0)) (by (with_reducible repeat (first | refine zg ?_ _ | refine zf ?_ | refine zh ?_ _)); exact BK108.out)) : gb148 ≠ gb108)); clear HO_7 HO_131; clear HO_109002 HO144; clear HO147 BK108 HB; have HO_7 := n0_; have HO_131 := n1_; have HO_109002 := n2_; have HO144 := n3_; have HO147 := n4_; have BK108 := n5_; have HB := n6_; have BK148 := n7_; have GW148 := n8_; have GE148 := n9_; have NB108_148 := n10_; have NB148_108 := n11_; clear n0_ n1_ n2_ n3_ n4_ n5_ n6_ n7_ n8_ n9_ n10_ n11_; clear hb hbox hg; have hnb121 := NB148_108.out; have hnc121 := NB108_148.out; have hcz122_0 : w120.cell? ⟨gb148, 0, none⟩ = some (.int .i64 0) := (zi BK148.out 0).trans rfl; have hcz122_1 : w120.cell? ⟨gb148, 1, none⟩ = some (.int .i64 0) := (zi BK148.out 1).trans rfl; have hcz122_2 : w120.cell? ⟨gb148, 2, none⟩ = some (.slice none 0 0) := (zi BK148.out 2).trans rfl; have hfz122_0 := zj BK148.out 0; have hfz122_1 := zj BK148.out 1; have hfz122_2 := zj BK148.out 2; obtain ⟨Ao123, co123, eo123⟩ := Kd.R_slice HO144.out; subst eo123; obtain ⟨Ao124, co124, eo124⟩ := Kd.R_slice HO147.out; subst eo124) | ((with_reducible refine zy (f := 37) rfl ?_); refine goesL_ (some 174) rfl rfl Try.func37 (by kernel_rfl) rfl #[.agg #[.int .i64 t140, .int .i64 t141, .slice Ao123 t142.length co123], .slice Ao124 t145.length co124] rfl (by (try simp only [List.map_toArray, List.map_cons, List.map_nil]); first | done | rfl | (simp only [List.length_drop, List.length_take]; rfl)) ?_; (with_reducible refine (impl_HitsOf.calls k3 t140 t141 _ _ t142 _ _ t145 t149 t150 _ ?side1 ?side2 ?side3 ?side4 A116.out).mono ?_); (case side1 => refine (zB (e := 3) (base := w.heap.size) (ok := fun k_ => (some k_ ≠ (.slice Ao124 t145.length co124 : Value).ownBlock ∧ some k_ ≠ (.slice Ao14 t104.length co14 : Value).ownBlock)) (n := t142.length) (c := co123) ?_).2.2; exact (by (with_reducible repeat (first | apply zl | apply zm | apply zk)); exact (zz (zn (p := ⟨gb148, 2, none⟩) (zn (p := ⟨gb148, 1, none⟩) (zn (p := ⟨gb148, 0, none⟩) (Kd.R_types HO144.out BK148.out (by decide)) (fun _ hk => hk.2) (.int .i64 t140)) (fun _ hk => hk.2) (.int .i64 t141)) (fun _ hk => hk.2) (.slice Ao123 t142.length co123)) (fun _ h_ => h_.1)))); (case side2 => exact (zB HO144.out).2.1); (case side3 => refine (zB (e := 3) (base := w.heap.size) (ok := fun k_ => (some k_ ≠ (.slice Ao123 t142.length co123 : Value).ownBlock ∧ some k_ ≠ (.slice Ao14 t104.length co14 : Value).ownBlock)) (n := t145.length) (c := co124) ?_).2.2; exact (by (with_reducible repeat (first | apply zl | apply zm | apply zk)); exact (zz (zn (p := ⟨gb148, 2, none⟩) (zn (p := ⟨gb148, 1, none⟩) (zn (p := ⟨gb148, 0, none⟩) (Kd.R_types HO147.out BK148.out (by decide)) (fun _ hk => hk.2) (.int .i64 t140)) (fun _ hk => hk.2) (.int .i64 t141)) (fun _ hk => hk.2) (.slice Ao123 t142.length co123)) (fun _ h_ => h_.1)))); (case side4 => exact (zB HO147.out).2.1); rintro e w125 ⟨rfl, hb⟩; refine ⟨_, rfl, ?_⟩; have n0_ := za (Kd.N_below (by (with_reducible repeat (first | apply zC | apply zD | apply zE)); exact (Kd.N_mono (Kd.N_far (p := ⟨gb148, 2, none⟩) (Kd.N_far (p := ⟨gb148, 1, none⟩) (Kd.N_far (p := ⟨gb148, 0, none⟩) (Kd.N_mono HO_7.out (fun k_ hk => (⟨hk, hk.2⟩ : _ ∧ k_ ≠ gb148))) (fun _ hk => hk.2) (.int .i64 t140)) (fun _ hk => hk.2) (.int .i64 t141)) (fun _ hk => hk.2) (.slice Ao123 t142.length co123)) (fun _ h_ => h_.1))) hb); have n1_ := za (Kd.N_below (by (with_reducible repeat (first | apply zC | apply zD | apply zE)); exact (Kd.N_mono (Kd.N_far (p := ⟨gb148, 2, none⟩) (Kd.N_far (p := ⟨gb148, 1, none⟩) (Kd.N_far (p := ⟨gb148, 0, none⟩) (Kd.N_mono HO_131.out (fun k_ hk => (⟨hk, hk.2⟩ : _ ∧ k_ ≠ gb148))) (fun _ hk => hk.2) (.int .i64 t140)) (fun _ hk => hk.2) (.int .i64 t141)) (fun _ hk => hk.2) (.slice Ao123 t142.length co123)) (fun _ h_ => h_.1))) hb); have n2_ := za (zI (by (with_reducible repeat (first | apply zl | apply zm | apply zk)); exact (zz (zn (p := ⟨gb148, 2, none⟩) (zn (p := ⟨gb148, 1, none⟩) (zn (p := ⟨gb148, 0, none⟩) (Kd.R_types HO_109002.out BK148.out (by decide)) (fun _ hk => hk.2) (.int .i64 t140)) (fun _ hk => hk.2) (.int .i64 t141)) (fun _ hk => hk.2) (.slice Ao123 t142.length co123)) (fun _ h_ => h_.1))) hb); have n3_ := za (zI (by (with_reducible repeat (first | apply zl | apply zm | apply zk)); exact (zz (zn (p := ⟨gb148, 2, none⟩) (zn (p := ⟨gb148, 1, none⟩) (zn (p := ⟨gb148, 0, none⟩) (Kd.R_types HO144.out BK148.out (by decide)) (fun _ hk => hk.2) (.int .i64 t140)) (fun _ hk => hk.2) (.int .i64 t141)) (fun _ hk => hk.2) (.slice Ao123 t142.length co123)) (fun _ h_ => h_.1))) hb); have n4_ := za (zI (by (with_reducible repeat (first | apply zl | apply zm | apply zk)); exact (zz (zn (p := ⟨gb148, 2, none⟩) (zn (p := ⟨gb148, 1, none⟩) (zn (p := ⟨gb148, 0, none⟩) (Kd.R_types HO147.out BK148.out (by decide)) (fun _ hk => hk.2) (.int .i64 t140)) (fun _ hk => hk.2) (.int .i64 t141)) (fun _ hk => hk.2) (.slice Ao123 t142.length co123)) (fun _ h_ => h_.1))) hb); have n5_ := za (zA (g := gb108) (o := .cells #[.int .i64 t102, .int .i64 t103, .slice Ao14 t104.length co14] 43 (0, 0)) (by (with_reducible repeat (first | refine zg ?_ _ | refine zf ?_ | refine zh ?_ _)); refine blk_far ?_ NB108_148.out _; (with_reducible repeat (first | refine zg ?_ _ | refine zf ?_ | refine zh ?_ _)); refine blk_far ?_ NB108_148.out _; (with_reducible repeat (first | refine zg ?_ _ | refine zf ?_ | refine zh ?_ _)); refine blk_far ?_ NB108_148.out _; (with_reducible repeat (first | refine zg ?_ _ | refine zf ?_ | refine zh ?_ _)); exact BK108.out) hb); have n6_ := za (zA (g := gb148) (o := .cells #[.int .i64 t140, .int .i64 t141, .slice Ao123 t142.length co123] 43 (0, 0)) (by (with_reducible repeat (first | refine zg ?_ _ | refine zf ?_ | refine zh ?_ _)); refine blk_put (cs := #[.int .i64 t140, .int .i64 t141, .slice none 0 0]) ?_ 2 _ rfl; (with_reducible repeat (first | refine zg ?_ _ | refine zf ?_ | refine zh ?_ _)); refine blk_put (cs := #[.int .i64 t140, .int .i64 0, .slice none 0 0]) ?_ 1 _ rfl; (with_reducible repeat (first | refine zg ?_ _ | refine zf ?_ | refine zh ?_ _)); refine blk_put (cs := #[.int .i64 0, .int .i64 0, .slice none 0 0]) ?_ 0 _ rfl; (with_reducible repeat (first | refine zg ?_ _ | refine zf ?_ | refine zh ?_ _)); exact BK148.out) hb); have n7_ := za (zw (by repeat (first | (with_reducible first | exact HB.out | apply zc | apply zd | apply zb | refine ze ?_ GE108.out | refine ze ?_ GE148.out) | exact HB.out)) hb); clear HO_7 HO_131; clear HO_109002 HO144; clear HO147 BK108; clear BK148 HB; have HO_7 := n0_; have HO_131 := n1_; have HO_109002 := n2_; have HO144 := n3_; have HO147 := n4_; have BK108 := n5_; have BK148 := n6_; have HB := n7_; clear n0_ n1_ n2_ n3_ n4_ n5_ n6_ n7_; (try clear hb); (try clear hb2); (try clear hk); (try clear hi); have hcz126_0 : w125.cell? ⟨gb148, 0, none⟩ = some (.int .i64 t140) := (zi BK148.out 0).trans rfl; have hcz126_1 : w125.cell? ⟨gb148, 1, none⟩ = some (.int .i64 t141) := (zi BK148.out 1).trans rfl; have hcz126_2 : w125.cell? ⟨gb148, 2, none⟩ = some (.slice Ao123 t142.length co123) := (zi BK148.out 2).trans rfl; have hfz126_0 := zj BK148.out 0; have hfz126_1 := zj BK148.out 1; have hfz126_2 := zj BK148.out 2) | ((with_reducible refine zy (f := 40) rfl ?_); refine goesL_ (some 180) rfl rfl Try.func40 (by kernel_rfl) rfl #[.agg #[.int .i64 t140, .int .i64 t141, .slice Ao123 t142.length co123], .slice Ao124 t145.length co124] rfl (by (try simp only [List.map_toArray, List.map_cons, List.map_nil]); first | done | rfl | (simp only [List.length_drop, List.length_take]; rfl)) ?_; (with_reducible refine (spec_HitsOf.calls k3 t140 t141 _ _ t142 _ _ t145 t151 t152 _ ?side1 ?side2 ?side3 ?side4 A117.out).mono ?_); (case side1 => repeat (first | exact (zB HO144.out).2.2 | (with_reducible refine zp ?_ _) | (with_reducible refine zq ?_ _) | (with_reducible refine zr ?_))); (case side2 => exact (zB HO144.out).2.1); (case side3 => repeat (first | exact (zB HO147.out).2.2 | (with_reducible refine zp ?_ _) | (with_reducible refine zq ?_ _) | (with_reducible refine zr ?_))); (case side4 => exact (zB HO147.out).2.1); rintro e w127 ⟨rfl, hb⟩; refine ⟨_, rfl, ?_⟩; have n0_ := za (Kd.N_below (by (with_reducible repeat (first | apply zC | apply zD | apply zE)); exact HO_7.out) hb); have n1_ := za (Kd.N_below (by (with_reducible repeat (first | apply zC | apply zD | apply zE)); exact HO_131.out) hb); have n2_ := za (zI (by (with_reducible repeat (first | apply zl | apply zm | apply zk)); exact HO_109002.out) hb); have n3_ := za (zI (by (with_reducible repeat (first | apply zl | apply zm | apply zk)); exact HO144.out) hb); have n4_ := za (zI (by (with_reducible repeat (first | apply zl | apply zm | apply zk)); exact HO147.out) hb); have n5_ := za (zA (g := gb108) (o := .cells #[.int .i64 t102, .int .i64 t103, .slice Ao14 t104.length co14] 43 (0, 0)) (by (with_reducible repeat (first | refine zg ?_ _ | refine zf ?_ | refine zh ?_ _)); exact BK108.out) hb); have n6_ := za (zA (g := gb148) (o := .cells #[.int .i64 t140, .int .i64 t141, .slice Ao123 t142.length co123] 43 (0, 0)) (by (with_reducible repeat (first | refine zg ?_ _ | refine zf ?_ | refine zh ?_ _)); exact BK148.out) hb); have n7_ := za (zw (by repeat (first | (with_reducible first | exact HB.out | apply zc | apply zd | apply zb | refine ze ?_ GE108.out | refine ze ?_ GE148.out) | exact HB.out)) hb); clear HO_7 HO_131; clear HO_109002 HO144; clear HO147 BK108; clear BK148 HB; have HO_7 := n0_; have HO_131 := n1_; have HO_109002 := n2_; have HO144 := n3_; have HO147 := n4_; have BK108 := n5_; have BK148 := n6_; have HB := n7_; clear n0_ n1_ n2_ n3_ n4_ n5_ n6_ n7_; (try clear hb); (try clear hb2); (try clear hk); (try clear hi)))
                   go_ret
                   exact ⟨by first | rfl | (simp [errW_none, errW_some] <;> rfl) | (simp [*, errW_none, errW_some] <;> rfl), by repeat (first | (with_reducible first | exact HB.out | apply zc | apply zd | apply zb | refine ze ?_ GE108.out | refine ze ?_ GE148.out) | exact HB.out)⟩
                 ·
                  as_aux_lemma =>
                   rw [if_neg c118] at H
                   have c118b0 : (t150 == t152) = false := by simpa using c118
                   (try (have c118b1 : decide (t150 = t152) = false := by simpa using c118))
                   (try (have c118b2 : (t150 == t152) = false := by simpa using c118))
                   (try (have c118b3 : ¬ (t150 = t152) := by simpa using c118))
                   clear c118
                   obtain rfl := Option.some.inj H
                   go_wp2_with (first | ((with_reducible refine zy (f := 39) rfl ?_); refine goesL_ (some 168) rfl rfl Try.func39 (by kernel_rfl) rfl #[.slice A1 l1.length c1] rfl (by (try simp only [List.map_toArray, List.map_cons, List.map_nil]); first | done | rfl | (simp only [List.length_drop, List.length_take]; rfl)) ?_; (with_reducible refine (spec_DrawHitsOf.calls k3 _ _ l1 t140 t141 t142 t145 _ ?side1 ?side2 A115.out).mono ?_); (case side1 => repeat (first | exact (Kd.C_below HR1.out HB.out) | (with_reducible refine zp ?_ _) | (with_reducible refine zq ?_ _) | (with_reducible refine zr ?_))); (case side2 => exact HC1.out); rintro e w128 ⟨v143, v146, rfl, ho0, ho1, hb⟩; refine ⟨_, rfl, ?_⟩; have n0_ := za (Kd.N_mono (Kd.N_told (Kd.N_told (Kd.N_old (by (with_reducible repeat (first | apply zC | apply zD | apply zE)); exact HO_7.out) hb) (Kd.R_base ho0)) (Kd.R_base ho1)) (fun _ h_ => h_.1)); have n1_ := za (Kd.N_mono (Kd.N_told (Kd.N_told (Kd.N_old (by (with_reducible repeat (first | apply zC | apply zD | apply zE)); exact HO_131.out) hb) (Kd.R_base ho0)) (Kd.R_base ho1)) (fun _ h_ => h_.1)); have n2_ := za (zz (Kd.R_told (Kd.R_told (Kd.R_old (by (with_reducible repeat (first | apply zl | apply zm | apply zk)); exact HO_109002.out) hb) (Kd.R_base ho0)) (Kd.R_base ho1)) (fun _ h_ => h_.1)); have n3_ := za (Kd.R_lower (Kd.R_new' ho0 (Kd.R_lt (by (with_reducible repeat (first | apply zl | apply zm | apply zk)); exact HO_109002.out))) (zo (by repeat (first | (with_reducible first | exact HB.out | apply zc | apply zd | apply zb | refine ze ?_ GE108.out) | exact HB.out)))); have n4_ := za (Kd.R_lower (Kd.R_new' ho1 (Kd.R_lt (by (with_reducible repeat (first | apply zl | apply zm | apply zk)); exact HO_109002.out))) (zo (by repeat (first | (with_reducible first | exact HB.out | apply zc | apply zd | apply zb | refine ze ?_ GE108.out) | exact HB.out)))); have n5_ := za (zA (g := gb108) (o := .cells #[.int .i64 t102, .int .i64 t103, .slice Ao14 t104.length co14] 43 (0, 0)) (by (with_reducible repeat (first | refine zg ?_ _ | refine zf ?_ | refine zh ?_ _)); exact BK108.out) hb); have n6_ := za (zw (by repeat (first | (with_reducible first | exact HB.out | apply zc | apply zd | apply zb | refine ze ?_ GE108.out) | exact HB.out)) hb); clear HO_7 HO_131; clear HO_109002 BK108 HB; have HO_7 := n0_; have HO_131 := n1_; have HO_109002 := n2_; have HO144 := n3_; have HO147 := n4_; have BK108 := n5_; have HB := n6_; clear n0_ n1_ n2_ n3_ n4_ n5_ n6_; (try clear hb); (try clear hb2); (try clear hk); (try clear hi); (try clear ho0); (try clear ho1)) | ((with_reducible refine zF (N := 21) rfl ?_); refine zG ?hg (N := 21) ?hd (cs := #[.int .i64 0, .int .i64 0, .slice none 0 0]) (t := 43) ?hr ?_; (case hd => rfl); (case hg => rfl); (case hr => first | (go_simp; done) | (go_simp; rfl)); intro gb148 hg w129 hbox hb; have n0_ := za (Kd.N_below (Kd.N_elderB (by (with_reducible repeat (first | apply zC | apply zD | apply zE)); exact HO_7.out) gb148 (Nat.le_of_eq hg.symm)) hb); have n1_ := za (Kd.N_below (Kd.N_elderB (by (with_reducible repeat (first | apply zC | apply zD | apply zE)); exact HO_131.out) gb148 (Nat.le_of_eq hg.symm)) hb); have n2_ := za (zI (by (with_reducible repeat (first | apply zl | apply zm | apply zk)); exact HO_109002.out) hb); have n3_ := za (zI (by (with_reducible repeat (first | apply zl | apply zm | apply zk)); exact HO144.out) hb); have n4_ := za (zI (by (with_reducible repeat (first | apply zl | apply zm | apply zk)); exact HO147.out) hb); have n5_ := za (zA (g := gb108) (o := .cells #[.int .i64 t102, .int .i64 t103, .slice Ao14 t104.length co14] 43 (0, 0)) (by (with_reducible repeat (first | refine zg ?_ _ | refine zf ?_ | refine zh ?_ _)); exact BK108.out) hb); have n6_ := za (zw (by repeat (first | (with_reducible first | exact HB.out | apply zc | apply zd | apply zb | refine ze ?_ GE108.out) | exact HB.out)) hb); have n7_ := za (hbox); have n8_ := za ((by rw [hg]; exact (zo (by repeat (first | (with_reducible first | exact HB.out | apply zc | apply zd | apply zb | refine ze ?_ GE108.out) | exact HB.out))) : w.heap.size ≤ gb148)); have n9_ := za ((by rw [hg]; exact (zo (by repeat (first | (with_reducible first | exact HB.out | apply zc | apply zd | apply zb | refine ze ?_ GE108.out) | exact HB.out))) : w.heap.size ≤ gb148)); have n10_ := za ((by rw [hg]; exact Nat.ne_of_lt (blk_lt (g := gb108) (o := .cells #[.int .i64 t102, .int .i64 t103, .slice Ao14 t104.length co14] 43 (0, 0)) (by (with_reducible repeat (first | refine zg ?_ _ | refine zf ?_ | refine zh ?_ _)); exact BK108.out)) : gb108 ≠ gb148)); have n11_ := za ((by rw [hg]; exact Nat.ne_of_gt (blk_lt (g := gb108) (o := .cells #[.int .i64 t102, .int .i64 t103, .slice Ao14 t104.length co14] 43 (0, 0)) (by (with_reducible repeat (first | refine zg ?_ _ | refine zf ?_ | refine zh ?_ _)); exact BK108.out)) : gb148 ≠ gb108)); clear HO_7 HO_131; clear HO_109002 HO144; clear HO147 BK108 HB; have HO_7 := n0_; have HO_131 := n1_; have HO_109002 := n2_; have HO144 := n3_; have HO147 := n4_; have BK108 := n5_; have HB := n6_; have BK148 := n7_; have GW148 := n8_; have GE148 := n9_; have NB108_148 := n10_; have NB148_108 := n11_; clear n0_ n1_ n2_ n3_ n4_ n5_ n6_ n7_ n8_ n9_ n10_ n11_; clear hb hbox hg; have hnb130 := NB148_108.out; have hnc130 := NB108_148.out; have hcz131_0 : w129.cell? ⟨gb148, 0, none⟩ = some (.int .i64 0) := (zi BK148.out 0).trans rfl; have hcz131_1 : w129.cell? ⟨gb148, 1, none⟩ = some (.int .i64 0) := (zi BK148.out 1).trans rfl; have hcz131_2 : w129.cell? ⟨gb148, 2, none⟩ = some (.slice none 0 0) := (zi BK148.out 2).trans rfl; have hfz131_0 := zj BK148.out 0; have hfz131_1 := zj BK148.out 1; have hfz131_2 := zj BK148.out 2; obtain ⟨Ao132, co132, eo132⟩ := Kd.R_slice HO144.out; subst eo132; obtain ⟨Ao133, co133, eo133⟩ := Kd.R_slice HO147.out; subst eo133) | ((with_reducible refine zy (f := 37) rfl ?_); refine goesL_ (some 174) rfl rfl Try.func37 (by kernel_rfl) rfl #[.agg #[.int .i64 t140, .int .i64 t141, .slice Ao132 t142.length co132], .slice Ao133 t145.length co133] rfl (by (try simp only [List.map_toArray, List.map_cons, List.map_nil]); first | done | rfl | (simp only [List.length_drop, List.length_take]; rfl)) ?_; (with_reducible refine (impl_HitsOf.calls k3 t140 t141 _ _ t142 _ _ t145 t149 t150 _ ?side1 ?side2 ?side3 ?side4 A116.out).mono ?_); (case side1 => refine (zB (e := 3) (base := w.heap.size) (ok := fun k_ => (some k_ ≠ (.slice Ao133 t145.length co133 : Value).ownBlock ∧ some k_ ≠ (.slice Ao14 t104.length co14 : Value).ownBlock)) (n := t142.length) (c := co132) ?_).2.2; exact (by (with_reducible repeat (first | apply zl | apply zm | apply zk)); exact (zz (zn (p := ⟨gb148, 2, none⟩) (zn (p := ⟨gb148, 1, none⟩) (zn (p := ⟨gb148, 0, none⟩) (Kd.R_types HO144.out BK148.out (by decide)) (fun _ hk => hk.2) (.int .i64 t140)) (fun _ hk => hk.2) (.int .i64 t141)) (fun _ hk => hk.2) (.slice Ao132 t142.length co132)) (fun _ h_ => h_.1)))); (case side2 => exact (zB HO144.out).2.1); (case side3 => refine (zB (e := 3) (base := w.heap.size) (ok := fun k_ => (some k_ ≠ (.slice Ao132 t142.length co132 : Value).ownBlock ∧ some k_ ≠ (.slice Ao14 t104.length co14 : Value).ownBlock)) (n := t145.length) (c := co133) ?_).2.2; exact (by (with_reducible repeat (first | apply zl | apply zm | apply zk)); exact (zz (zn (p := ⟨gb148, 2, none⟩) (zn (p := ⟨gb148, 1, none⟩) (zn (p := ⟨gb148, 0, none⟩) (Kd.R_types HO147.out BK148.out (by decide)) (fun _ hk => hk.2) (.int .i64 t140)) (fun _ hk => hk.2) (.int .i64 t141)) (fun _ hk => hk.2) (.slice Ao132 t142.length co132)) (fun _ h_ => h_.1)))); (case side4 => exact (zB HO147.out).2.1); rintro e w134 ⟨rfl, hb⟩; refine ⟨_, rfl, ?_⟩; have n0_ := za (Kd.N_below (by (with_reducible repeat (first | apply zC | apply zD | apply zE)); exact (Kd.N_mono (Kd.N_far (p := ⟨gb148, 2, none⟩) (Kd.N_far (p := ⟨gb148, 1, none⟩) (Kd.N_far (p := ⟨gb148, 0, none⟩) (Kd.N_mono HO_7.out (fun k_ hk => (⟨hk, hk.2⟩ : _ ∧ k_ ≠ gb148))) (fun _ hk => hk.2) (.int .i64 t140)) (fun _ hk => hk.2) (.int .i64 t141)) (fun _ hk => hk.2) (.slice Ao132 t142.length co132)) (fun _ h_ => h_.1))) hb); have n1_ := za (Kd.N_below (by (with_reducible repeat (first | apply zC | apply zD | apply zE)); exact (Kd.N_mono (Kd.N_far (p := ⟨gb148, 2, none⟩) (Kd.N_far (p := ⟨gb148, 1, none⟩) (Kd.N_far (p := ⟨gb148, 0, none⟩) (Kd.N_mono HO_131.out (fun k_ hk => (⟨hk, hk.2⟩ : _ ∧ k_ ≠ gb148))) (fun _ hk => hk.2) (.int .i64 t140)) (fun _ hk => hk.2) (.int .i64 t141)) (fun _ hk => hk.2) (.slice Ao132 t142.length co132)) (fun _ h_ => h_.1))) hb); have n2_ := za (zI (by (with_reducible repeat (first | apply zl | apply zm | apply zk)); exact (zz (zn (p := ⟨gb148, 2, none⟩) (zn (p := ⟨gb148, 1, none⟩) (zn (p := ⟨gb148, 0, none⟩) (Kd.R_types HO_109002.out BK148.out (by decide)) (fun _ hk => hk.2) (.int .i64 t140)) (fun _ hk => hk.2) (.int .i64 t141)) (fun _ hk => hk.2) (.slice Ao132 t142.length co132)) (fun _ h_ => h_.1))) hb); have n3_ := za (zI (by (with_reducible repeat (first | apply zl | apply zm | apply zk)); exact (zz (zn (p := ⟨gb148, 2, none⟩) (zn (p := ⟨gb148, 1, none⟩) (zn (p := ⟨gb148, 0, none⟩) (Kd.R_types HO144.out BK148.out (by decide)) (fun _ hk => hk.2) (.int .i64 t140)) (fun _ hk => hk.2) (.int .i64 t141)) (fun _ hk => hk.2) (.slice Ao132 t142.length co132)) (fun _ h_ => h_.1))) hb); have n4_ := za (zI (by (with_reducible repeat (first | apply zl | apply zm | apply zk)); exact (zz (zn (p := ⟨gb148, 2, none⟩) (zn (p := ⟨gb148, 1, none⟩) (zn (p := ⟨gb148, 0, none⟩) (Kd.R_types HO147.out BK148.out (by decide)) (fun _ hk => hk.2) (.int .i64 t140)) (fun _ hk => hk.2) (.int .i64 t141)) (fun _ hk => hk.2) (.slice Ao132 t142.length co132)) (fun _ h_ => h_.1))) hb); have n5_ := za (zA (g := gb108) (o := .cells #[.int .i64 t102, .int .i64 t103, .slice Ao14 t104.length co14] 43 (0, 0)) (by (with_reducible repeat (first | refine zg ?_ _ | refine zf ?_ | refine zh ?_ _)); refine blk_far ?_ NB108_148.out _; (with_reducible repeat (first | refine zg ?_ _ | refine zf ?_ | refine zh ?_ _)); refine blk_far ?_ NB108_148.out _; (with_reducible repeat (first | refine zg ?_ _ | refine zf ?_ | refine zh ?_ _)); refine blk_far ?_ NB108_148.out _; (with_reducible repeat (first | refine zg ?_ _ | refine zf ?_ | refine zh ?_ _)); exact BK108.out) hb); have n6_ := za (zA (g := gb148) (o := .cells #[.int .i64 t140, .int .i64 t141, .slice Ao132 t142.length co132] 43 (0, 0)) (by (with_reducible repeat (first | refine zg ?_ _ | refine zf ?_ | refine zh ?_ _)); refine blk_put (cs := #[.int .i64 t140, .int .i64 t141, .slice none 0 0]) ?_ 2 _ rfl; (with_reducible repeat (first | refine zg ?_ _ | refine zf ?_ | refine zh ?_ _)); refine blk_put (cs := #[.int .i64 t140, .int .i64 0, .slice none 0 0]) ?_ 1 _ rfl; (with_reducible repeat (first | refine zg ?_ _ | refine zf ?_ | refine zh ?_ _)); refine blk_put (cs := #[.int .i64 0, .int .i64 0, .slice none 0 0]) ?_ 0 _ rfl; (with_reducible repeat (first | refine zg ?_ _ | refine zf ?_ | refine zh ?_ _)); exact BK148.out) hb); have n7_ := za (zw (by repeat (first | (with_reducible first | exact HB.out | apply zc | apply zd | apply zb | refine ze ?_ GE108.out | refine ze ?_ GE148.out) | exact HB.out)) hb); clear HO_7 HO_131; clear HO_109002 HO144; clear HO147 BK108; clear BK148 HB; have HO_7 := n0_; have HO_131 := n1_; have HO_109002 := n2_; have HO144 := n3_; have HO147 := n4_; have BK108 := n5_; have BK148 := n6_; have HB := n7_; clear n0_ n1_ n2_ n3_ n4_ n5_ n6_ n7_; (try clear hb); (try clear hb2); (try clear hk); (try clear hi); have hcz135_0 : w134.cell? ⟨gb148, 0, none⟩ = some (.int .i64 t140) := (zi BK148.out 0).trans rfl; have hcz135_1 : w134.cell? ⟨gb148, 1, none⟩ = some (.int .i64 t141) := (zi BK148.out 1).trans rfl; have hcz135_2 : w134.cell? ⟨gb148, 2, none⟩ = some (.slice Ao132 t142.length co132) := (zi BK148.out 2).trans rfl; have hfz135_0 := zj BK148.out 0; have hfz135_1 := zj BK148.out 1; have hfz135_2 := zj BK148.out 2) | ((with_reducible refine zy (f := 40) rfl ?_); refine goesL_ (some 180) rfl rfl Try.func40 (by kernel_rfl) rfl #[.agg #[.int .i64 t140, .int .i64 t141, .slice Ao132 t142.length co132], .slice Ao133 t145.length co133] rfl (by (try simp only [List.map_toArray, List.map_cons, List.map_nil]); first | done | rfl | (simp only [List.length_drop, List.length_take]; rfl)) ?_; (with_reducible refine (spec_HitsOf.calls k3 t140 t141 _ _ t142 _ _ t145 t151 t152 _ ?side1 ?side2 ?side3 ?side4 A117.out).mono ?_); (case side1 => repeat (first | exact (zB HO144.out).2.2 | (with_reducible refine zp ?_ _) | (with_reducible refine zq ?_ _) | (with_reducible refine zr ?_))); (case side2 => exact (zB HO144.out).2.1); (case side3 => repeat (first | exact (zB HO147.out).2.2 | (with_reducible refine zp ?_ _) | (with_reducible refine zq ?_ _) | (with_reducible refine zr ?_))); (case side4 => exact (zB HO147.out).2.1); rintro e w136 ⟨rfl, hb⟩; refine ⟨_, rfl, ?_⟩; have n0_ := za (Kd.N_below (by (with_reducible repeat (first | apply zC | apply zD | apply zE)); exact HO_7.out) hb); have n1_ := za (Kd.N_below (by (with_reducible repeat (first | apply zC | apply zD | apply zE)); exact HO_131.out) hb); have n2_ := za (zI (by (with_reducible repeat (first | apply zl | apply zm | apply zk)); exact HO_109002.out) hb); have n3_ := za (zI (by (with_reducible repeat (first | apply zl | apply zm | apply zk)); exact HO144.out) hb); have n4_ := za (zI (by (with_reducible repeat (first | apply zl | apply zm | apply zk)); exact HO147.out) hb); have n5_ := za (zA (g := gb108) (o := .cells #[.int .i64 t102, .int .i64 t103, .slice Ao14 t104.length co14] 43 (0, 0)) (by (with_reducible repeat (first | refine zg ?_ _ | refine zf ?_ | refine zh ?_ _)); exact BK108.out) hb); have n6_ := za (zA (g := gb148) (o := .cells #[.int .i64 t140, .int .i64 t141, .slice Ao132 t142.length co132] 43 (0, 0)) (by (with_reducible repeat (first | refine zg ?_ _ | refine zf ?_ | refine zh ?_ _)); exact BK148.out) hb); have n7_ := za (zw (by repeat (first | (with_reducible first | exact HB.out | apply zc | apply zd | apply zb | refine ze ?_ GE108.out | refine ze ?_ GE148.out) | exact HB.out)) hb); clear HO_7 HO_131; clear HO_109002 HO144; clear HO147 BK108; clear BK148 HB; have HO_7 := n0_; have HO_131 := n1_; have HO_109002 := n2_; have HO144 := n3_; have HO147 := n4_; have BK108 := n5_; have BK148 := n6_; have HB := n7_; clear n0_ n1_ n2_ n3_ n4_ n5_ n6_ n7_; (try clear hb); (try clear hb2); (try clear hk); (try clear hi)))
                   go_ret
                   exact ⟨by first | rfl | (simp [errW_none, errW_some] <;> rfl) | (simp [*, errW_none, errW_some] <;> rfl), by repeat (first | (with_reducible first | exact HB.out | apply zc | apply zd | apply zb | refine ze ?_ GE108.out | refine ze ?_ GE148.out) | exact HB.out)⟩
       ·
        as_aux_lemma =>
         replace c41 := Bool.eq_false_iff.mpr c41
         subst c41
         have H1 : ((spec_DrawHitsOf.f kj9 l1).bind fun bt158 => ((impl_HitsOf.f kj9 bt158.1 bt158.2.1 bt158.2.2.1 bt158.2.2.2).bind fun bt167 => ((spec_HitsOf.f kj9 bt158.1 bt158.2.1 bt158.2.2.1 bt158.2.2.2).bind fun bt169 => (if (bt167.2 == bt169.2) = true then (some (bt167.1 == bt169.1)) else (some false))))) = some r := by rw [if_neg (show ¬ (false = true) by decide)] at H; exact H
         clear H
         have H := H1
         clear H1
         replace H := Option.bind_eq_some_iff.mp H
         obtain ⟨⟨t158, t159, t160, t163⟩, A1370, H⟩ := H
         replace H : ((impl_HitsOf.f kj9 t158 t159 t160 t163).bind fun bt167 => ((spec_HitsOf.f kj9 t158 t159 t160 t163).bind fun bt169 => (if (bt167.2 == bt169.2) = true then (some (bt167.1 == bt169.1)) else (some false)))) = some r := H
         have A137 := za A1370
         clear A1370
         replace H := Option.bind_eq_some_iff.mp H
         obtain ⟨⟨t167, t168⟩, A1380, H⟩ := H
         replace H : ((spec_HitsOf.f kj9 t158 t159 t160 t163).bind fun bt169 => (if (t168 == bt169.2) = true then (some (t167 == bt169.1)) else (some false))) = some r := H
         have A138 := za A1380
         clear A1380
         replace H := Option.bind_eq_some_iff.mp H
         obtain ⟨⟨t169, t170⟩, A1390, H⟩ := H
         replace H : (if (t168 == t170) = true then (some (t167 == t169)) else (some false)) = some r := H
         have A139 := za A1390
         clear A1390
         by_cases c140 : (t168 == t170) = true
         ·
          as_aux_lemma =>
           rw [if_pos c140] at H
           have c140b0 : (t168 == t170) = true := c140
           (try (have c140b1 : decide (t168 = t170) = true := by simpa using c140))
           (try (have c140b2 : (t168 == t170) = true := by simpa using c140))
           clear c140
           obtain rfl := Option.some.inj H
           go_wp2_with (first | ((with_reducible refine zy (f := 39) rfl ?_); refine goesL_ (some 168) rfl rfl Try.func39 (by kernel_rfl) rfl #[.slice A1 l1.length c1] rfl (by (try simp only [List.map_toArray, List.map_cons, List.map_nil]); first | done | rfl | (simp only [List.length_drop, List.length_take]; rfl)) ?_; (with_reducible refine (spec_DrawHitsOf.calls kj9 _ _ l1 t158 t159 t160 t163 _ ?side1 ?side2 A137.out).mono ?_); (case side1 => repeat (first | exact (Kd.C_below HR1.out HB.out) | (with_reducible refine zp ?_ _) | (with_reducible refine zq ?_ _) | (with_reducible refine zr ?_))); (case side2 => exact HC1.out); rintro e w141 ⟨v161, v164, rfl, ho0, ho1, hb⟩; refine ⟨_, rfl, ?_⟩; have n0_ := za (Kd.N_mono (Kd.N_told (Kd.N_told (Kd.N_old (by (with_reducible repeat (first | apply zC | apply zD | apply zE)); exact HO_7.out) hb) (Kd.R_base ho0)) (Kd.R_base ho1)) (fun _ h_ => h_.1)); have n1_ := za (zz (Kd.R_told (Kd.R_told (Kd.R_old (by (with_reducible repeat (first | apply zl | apply zm | apply zk)); exact HO_11.out) hb) (Kd.R_base ho0)) (Kd.R_base ho1)) (fun _ h_ => h_.1)); have n2_ := za (zz (Kd.R_told (Kd.R_told (Kd.R_old (by (with_reducible repeat (first | apply zl | apply zm | apply zk)); exact HO_109002.out) hb) (Kd.R_base ho0)) (Kd.R_base ho1)) (fun _ h_ => h_.1)); have n3_ := za (Kd.R_lower (Kd.R_new' (Kd.R_new' ho0 (Kd.R_lt (by (with_reducible repeat (first | apply zl | apply zm | apply zk)); exact HO_11.out))) (Kd.R_lt (by (with_reducible repeat (first | apply zl | apply zm | apply zk)); exact HO_109002.out))) (zo (by repeat (first | (with_reducible first | exact HB.out | apply zc | apply zd | apply zb | refine ze ?_ GE108.out) | exact HB.out)))); have n4_ := za (Kd.R_lower (Kd.R_new' (Kd.R_new' ho1 (Kd.R_lt (by (with_reducible repeat (first | apply zl | apply zm | apply zk)); exact HO_11.out))) (Kd.R_lt (by (with_reducible repeat (first | apply zl | apply zm | apply zk)); exact HO_109002.out))) (zo (by repeat (first | (with_reducible first | exact HB.out | apply zc | apply zd | apply zb | refine ze ?_ GE108.out) | exact HB.out)))); have n5_ := za (zA (g := gb108) (o := .cells #[.int .i64 t102, .int .i64 t103, .slice Ao14 t104.length co14] 43 (0, 0)) (by (with_reducible repeat (first | refine zg ?_ _ | refine zf ?_ | refine zh ?_ _)); exact BK108.out) hb); have n6_ := za (zw (by repeat (first | (with_reducible first | exact HB.out | apply zc | apply zd | apply zb | refine ze ?_ GE108.out) | exact HB.out)) hb); clear HO_7 HO_11; clear HO_109002 BK108 HB; have HO_7 := n0_; have HO_11 := n1_; have HO_109002 := n2_; have HO162 := n3_; have HO165 := n4_; have BK108 := n5_; have HB := n6_; clear n0_ n1_ n2_ n3_ n4_ n5_ n6_; (try clear hb); (try clear hb2); (try clear hk); (try clear hi); (try clear ho0); (try clear ho1)) | ((with_reducible refine zF (N := 21) rfl ?_); refine zG ?hg (N := 21) ?hd (cs := #[.int .i64 0, .int .i64 0, .slice none 0 0]) (t := 43) ?hr ?_; (case hd => rfl); (case hg => rfl); (case hr => first | (go_simp; done) | (go_simp; rfl)); intro gb166 hg w142 hbox hb; have n0_ := za (Kd.N_below (Kd.N_elderB (by (with_reducible repeat (first | apply zC | apply zD | apply zE)); exact HO_7.out) gb166 (Nat.le_of_eq hg.symm)) hb); have n1_ := za (zI (by (with_reducible repeat (first | apply zl | apply zm | apply zk)); exact HO_11.out) hb); have n2_ := za (zI (by (with_reducible repeat (first | apply zl | apply zm | apply zk)); exact HO_109002.out) hb); have n3_ := za (zI (by (with_reducible repeat (first | apply zl | apply zm | apply zk)); exact HO162.out) hb); have n4_ := za (zI (by (with_reducible repeat (first | apply zl | apply zm | apply zk)); exact HO165.out) hb); have n5_ := za (zA (g := gb108) (o := .cells #[.int .i64 t102, .int .i64 t103, .slice Ao14 t104.length co14] 43 (0, 0)) (by (with_reducible repeat (first | refine zg ?_ _ | refine zf ?_ | refine zh ?_ _)); exact BK108.out) hb); have n6_ := za (zw (by repeat (first | (with_reducible first | exact HB.out | apply zc | apply zd | apply zb | refine ze ?_ GE108.out) | exact HB.out)) hb); have n7_ := za (hbox); have n8_ := za ((by rw [hg]; exact (zo (by repeat (first | (with_reducible first | exact HB.out | apply zc | apply zd | apply zb | refine ze ?_ GE108.out) | exact HB.out))) : w.heap.size ≤ gb166)); have n9_ := za ((by rw [hg]; exact (zo (by repeat (first | (with_reducible first | exact HB.out | apply zc | apply zd | apply zb | refine ze ?_ GE108.out) | exact HB.out))) : w.heap.size ≤ gb166)); have n10_ := za ((by rw [hg]; exact Nat.ne_of_lt (blk_lt (g := gb108) (o := .cells #[.int .i64 t102, .int .i64 t103, .slice Ao14 t104.length co14] 43 (0, 0)) (by (with_reducible repeat (first | refine zg ?_ _ | refine zf ?_ | refine zh ?_ _)); exact BK108.out)) : gb108 ≠ gb166)); have n11_ := za ((by rw [hg]; exact Nat.ne_of_gt (blk_lt (g := gb108) (o := .cells #[.int .i64 t102, .int .i64 t103, .slice Ao14 t104.length co14] 43 (0, 0)) (by (with_reducible repeat (first | refine zg ?_ _ | refine zf ?_ | refine zh ?_ _)); exact BK108.out)) : gb166 ≠ gb108)); clear HO_7 HO_11; clear HO_109002 HO162; clear HO165 BK108 HB; have HO_7 := n0_; have HO_11 := n1_; have HO_109002 := n2_; have HO162 := n3_; have HO165 := n4_; have BK108 := n5_; have HB := n6_; have BK166 := n7_; have GW166 := n8_; have GE166 := n9_; have NB108_166 := n10_; have NB166_108 := n11_; clear n0_ n1_ n2_ n3_ n4_ n5_ n6_ n7_ n8_ n9_ n10_ n11_; clear hb hbox hg; have hnb143 := NB166_108.out; have hnc143 := NB108_166.out; have hcz144_0 : w142.cell? ⟨gb166, 0, none⟩ = some (.int .i64 0) := (zi BK166.out 0).trans rfl; have hcz144_1 : w142.cell? ⟨gb166, 1, none⟩ = some (.int .i64 0) := (zi BK166.out 1).trans rfl; have hcz144_2 : w142.cell? ⟨gb166, 2, none⟩ = some (.slice none 0 0) := (zi BK166.out 2).trans rfl; have hfz144_0 := zj BK166.out 0; have hfz144_1 := zj BK166.out 1; have hfz144_2 := zj BK166.out 2; obtain ⟨Ao145, co145, eo145⟩ := Kd.R_slice HO162.out; subst eo145; obtain ⟨Ao146, co146, eo146⟩ := Kd.R_slice HO165.out; subst eo146) | ((with_reducible refine zy (f := 37) rfl ?_); refine goesL_ (some 174) rfl rfl Try.func37 (by kernel_rfl) rfl #[.agg #[.int .i64 t158, .int .i64 t159, .slice Ao145 t160.length co145], .slice Ao146 t163.length co146] rfl (by (try simp only [List.map_toArray, List.map_cons, List.map_nil]); first | done | rfl | (simp only [List.length_drop, List.length_take]; rfl)) ?_; (with_reducible refine (impl_HitsOf.calls kj9 t158 t159 _ _ t160 _ _ t163 t167 t168 _ ?side1 ?side2 ?side3 ?side4 A138.out).mono ?_); (case side1 => refine (zB (e := 3) (base := w.heap.size) (ok := fun k_ => ((some k_ ≠ (.slice Ao146 t163.length co146 : Value).ownBlock ∧ some k_ ≠ (v118 : Value).ownBlock) ∧ some k_ ≠ (.slice Ao14 t104.length co14 : Value).ownBlock)) (n := t160.length) (c := co145) ?_).2.2; exact (by (with_reducible repeat (first | apply zl | apply zm | apply zk)); exact (zz (zn (p := ⟨gb166, 2, none⟩) (zn (p := ⟨gb166, 1, none⟩) (zn (p := ⟨gb166, 0, none⟩) (Kd.R_types HO162.out BK166.out (by decide)) (fun _ hk => hk.2) (.int .i64 t158)) (fun _ hk => hk.2) (.int .i64 t159)) (fun _ hk => hk.2) (.slice Ao145 t160.length co145)) (fun _ h_ => h_.1)))); (case side2 => exact (zB HO162.out).2.1); (case side3 => refine (zB (e := 3) (base := w.heap.size) (ok := fun k_ => ((some k_ ≠ (.slice Ao145 t160.length co145 : Value).ownBlock ∧ some k_ ≠ (v118 : Value).ownBlock) ∧ some k_ ≠ (.slice Ao14 t104.length co14 : Value).ownBlock)) (n := t163.length) (c := co146) ?_).2.2; exact (by (with_reducible repeat (first | apply zl | apply zm | apply zk)); exact (zz (zn (p := ⟨gb166, 2, none⟩) (zn (p := ⟨gb166, 1, none⟩) (zn (p := ⟨gb166, 0, none⟩) (Kd.R_types HO165.out BK166.out (by decide)) (fun _ hk => hk.2) (.int .i64 t158)) (fun _ hk => hk.2) (.int .i64 t159)) (fun _ hk => hk.2) (.slice Ao145 t160.length co145)) (fun _ h_ => h_.1)))); (case side4 => exact (zB HO165.out).2.1); rintro e w147 ⟨rfl, hb⟩; refine ⟨_, rfl, ?_⟩; have n0_ := za (Kd.N_below (by (with_reducible repeat (first | apply zC | apply zD | apply zE)); exact (Kd.N_mono (Kd.N_far (p := ⟨gb166, 2, none⟩) (Kd.N_far (p := ⟨gb166, 1, none⟩) (Kd.N_far (p := ⟨gb166, 0, none⟩) (Kd.N_mono HO_7.out (fun k_ hk => (⟨hk, hk.2⟩ : _ ∧ k_ ≠ gb166))) (fun _ hk => hk.2) (.int .i64 t158)) (fun _ hk => hk.2) (.int .i64 t159)) (fun _ hk => hk.2) (.slice Ao145 t160.length co145)) (fun _ h_ => h_.1))) hb); have n1_ := za (zI (by (with_reducible repeat (first | apply zl | apply zm | apply zk)); exact (zz (zn (p := ⟨gb166, 2, none⟩) (zn (p := ⟨gb166, 1, none⟩) (zn (p := ⟨gb166, 0, none⟩) (Kd.R_types HO_11.out BK166.out (by decide)) (fun _ hk => hk.2) (.int .i64 t158)) (fun _ hk => hk.2) (.int .i64 t159)) (fun _ hk => hk.2) (.slice Ao145 t160.length co145)) (fun _ h_ => h_.1))) hb); have n2_ := za (zI (by (with_reducible repeat (first | apply zl | apply zm | apply zk)); exact (zz (zn (p := ⟨gb166, 2, none⟩) (zn (p := ⟨gb166, 1, none⟩) (zn (p := ⟨gb166, 0, none⟩) (Kd.R_types HO_109002.out BK166.out (by decide)) (fun _ hk => hk.2) (.int .i64 t158)) (fun _ hk => hk.2) (.int .i64 t159)) (fun _ hk => hk.2) (.slice Ao145 t160.length co145)) (fun _ h_ => h_.1))) hb); have n3_ := za (zI (by (with_reducible repeat (first | apply zl | apply zm | apply zk)); exact (zz (zn (p := ⟨gb166, 2, none⟩) (zn (p := ⟨gb166, 1, none⟩) (zn (p := ⟨gb166, 0, none⟩) (Kd.R_types HO162.out BK166.out (by decide)) (fun _ hk => hk.2) (.int .i64 t158)) (fun _ hk => hk.2) (.int .i64 t159)) (fun _ hk => hk.2) (.slice Ao145 t160.length co145)) (fun _ h_ => h_.1))) hb); have n4_ := za (zI (by (with_reducible repeat (first | apply zl | apply zm | apply zk)); exact (zz (zn (p := ⟨gb166, 2, none⟩) (zn (p := ⟨gb166, 1, none⟩) (zn (p := ⟨gb166, 0, none⟩) (Kd.R_types HO165.out BK166.out (by decide)) (fun _ hk => hk.2) (.int .i64 t158)) (fun _ hk => hk.2) (.int .i64 t159)) (fun _ hk => hk.2) (.slice Ao145 t160.length co145)) (fun _ h_ => h_.1))) hb); have n5_ := za (zA (g := gb108) (o := .cells #[.int .i64 t102, .int .i64 t103, .slice Ao14 t104.length co14] 43 (0, 0)) (by (with_reducible repeat (first | refine zg ?_ _ | refine zf ?_ | refine zh ?_ _)); refine blk_far ?_ NB108_166.out _; (with_reducible repeat (first | refine zg ?_ _ | refine zf ?_ | refine zh ?_ _)); refine blk_far ?_ NB108_166.out _; (with_reducible repeat (first | refine zg ?_ _ | refine zf ?_ | refine zh ?_ _)); refine blk_far ?_ NB108_166.out _; (with_reducible repeat (first | refine zg ?_ _ | refine zf ?_ | refine zh ?_ _)); exact BK108.out) hb); have n6_ := za (zA (g := gb166) (o := .cells #[.int .i64 t158, .int .i64 t159, .slice Ao145 t160.length co145] 43 (0, 0)) (by (with_reducible repeat (first | refine zg ?_ _ | refine zf ?_ | refine zh ?_ _)); refine blk_put (cs := #[.int .i64 t158, .int .i64 t159, .slice none 0 0]) ?_ 2 _ rfl; (with_reducible repeat (first | refine zg ?_ _ | refine zf ?_ | refine zh ?_ _)); refine blk_put (cs := #[.int .i64 t158, .int .i64 0, .slice none 0 0]) ?_ 1 _ rfl; (with_reducible repeat (first | refine zg ?_ _ | refine zf ?_ | refine zh ?_ _)); refine blk_put (cs := #[.int .i64 0, .int .i64 0, .slice none 0 0]) ?_ 0 _ rfl; (with_reducible repeat (first | refine zg ?_ _ | refine zf ?_ | refine zh ?_ _)); exact BK166.out) hb); have n7_ := za (zw (by repeat (first | (with_reducible first | exact HB.out | apply zc | apply zd | apply zb | refine ze ?_ GE108.out | refine ze ?_ GE166.out) | exact HB.out)) hb); clear HO_7 HO_11; clear HO_109002 HO162; clear HO165 BK108; clear BK166 HB; have HO_7 := n0_; have HO_11 := n1_; have HO_109002 := n2_; have HO162 := n3_; have HO165 := n4_; have BK108 := n5_; have BK166 := n6_; have HB := n7_; clear n0_ n1_ n2_ n3_ n4_ n5_ n6_ n7_; (try clear hb); (try clear hb2); (try clear hk); (try clear hi); have hcz148_0 : w147.cell? ⟨gb166, 0, none⟩ = some (.int .i64 t158) := (zi BK166.out 0).trans rfl; have hcz148_1 : w147.cell? ⟨gb166, 1, none⟩ = some (.int .i64 t159) := (zi BK166.out 1).trans rfl; have hcz148_2 : w147.cell? ⟨gb166, 2, none⟩ = some (.slice Ao145 t160.length co145) := (zi BK166.out 2).trans rfl; have hfz148_0 := zj BK166.out 0; have hfz148_1 := zj BK166.out 1; have hfz148_2 := zj BK166.out 2) | ((with_reducible refine zy (f := 40) rfl ?_); refine goesL_ (some 180) rfl rfl Try.func40 (by kernel_rfl) rfl #[.agg #[.int .i64 t158, .int .i64 t159, .slice Ao145 t160.length co145], .slice Ao146 t163.length co146] rfl (by (try simp only [List.map_toArray, List.map_cons, List.map_nil]); first | done | rfl | (simp only [List.length_drop, List.length_take]; rfl)) ?_; (with_reducible refine (spec_HitsOf.calls kj9 t158 t159 _ _ t160 _ _ t163 t169 t170 _ ?side1 ?side2 ?side3 ?side4 A139.out).mono ?_); (case side1 => repeat (first | exact (zB HO162.out).2.2 | (with_reducible refine zp ?_ _) | (with_reducible refine zq ?_ _) | (with_reducible refine zr ?_))); (case side2 => exact (zB HO162.out).2.1); (case side3 => repeat (first | exact (zB HO165.out).2.2 | (with_reducible refine zp ?_ _) | (with_reducible refine zq ?_ _) | (with_reducible refine zr ?_))); (case side4 => exact (zB HO165.out).2.1); rintro e w149 ⟨rfl, hb⟩; refine ⟨_, rfl, ?_⟩; have n0_ := za (Kd.N_below (by (with_reducible repeat (first | apply zC | apply zD | apply zE)); exact HO_7.out) hb); have n1_ := za (zI (by (with_reducible repeat (first | apply zl | apply zm | apply zk)); exact HO_11.out) hb); have n2_ := za (zI (by (with_reducible repeat (first | apply zl | apply zm | apply zk)); exact HO_109002.out) hb); have n3_ := za (zI (by (with_reducible repeat (first | apply zl | apply zm | apply zk)); exact HO162.out) hb); have n4_ := za (zI (by (with_reducible repeat (first | apply zl | apply zm | apply zk)); exact HO165.out) hb); have n5_ := za (zA (g := gb108) (o := .cells #[.int .i64 t102, .int .i64 t103, .slice Ao14 t104.length co14] 43 (0, 0)) (by (with_reducible repeat (first | refine zg ?_ _ | refine zf ?_ | refine zh ?_ _)); exact BK108.out) hb); have n6_ := za (zA (g := gb166) (o := .cells #[.int .i64 t158, .int .i64 t159, .slice Ao145 t160.length co145] 43 (0, 0)) (by (with_reducible repeat (first | refine zg ?_ _ | refine zf ?_ | refine zh ?_ _)); exact BK166.out) hb); have n7_ := za (zw (by repeat (first | (with_reducible first | exact HB.out | apply zc | apply zd | apply zb | refine ze ?_ GE108.out | refine ze ?_ GE166.out) | exact HB.out)) hb); clear HO_7 HO_11; clear HO_109002 HO162; clear HO165 BK108; clear BK166 HB; have HO_7 := n0_; have HO_11 := n1_; have HO_109002 := n2_; have HO162 := n3_; have HO165 := n4_; have BK108 := n5_; have BK166 := n6_; have HB := n7_; clear n0_ n1_ n2_ n3_ n4_ n5_ n6_ n7_; (try clear hb); (try clear hb2); (try clear hk); (try clear hi)))
           go_ret
           exact ⟨by first | rfl | (simp [errW_none, errW_some] <;> rfl) | (simp [*, errW_none, errW_some] <;> rfl), by repeat (first | (with_reducible first | exact HB.out | apply zc | apply zd | apply zb | refine ze ?_ GE108.out | refine ze ?_ GE166.out) | exact HB.out)⟩
         ·
          as_aux_lemma =>
           rw [if_neg c140] at H
           have c140b0 : (t168 == t170) = false := by simpa using c140
           (try (have c140b1 : decide (t168 = t170) = false := by simpa using c140))
           (try (have c140b2 : (t168 == t170) = false := by simpa using c140))
           (try (have c140b3 : ¬ (t168 = t170) := by simpa using c140))
           clear c140
           obtain rfl := Option.some.inj H
           go_wp2_with (first | ((with_reducible refine zy (f := 39) rfl ?_); refine goesL_ (some 168) rfl rfl Try.func39 (by kernel_rfl) rfl #[.slice A1 l1.length c1] rfl (by (try simp only [List.map_toArray, List.map_cons, List.map_nil]); first | done | rfl | (simp only [List.length_drop, List.length_take]; rfl)) ?_; (with_reducible refine (spec_DrawHitsOf.calls kj9 _ _ l1 t158 t159 t160 t163 _ ?side1 ?side2 A137.out).mono ?_); (case side1 => repeat (first | exact (Kd.C_below HR1.out HB.out) | (with_reducible refine zp ?_ _) | (with_reducible refine zq ?_ _) | (with_reducible refine zr ?_))); (case side2 => exact HC1.out); rintro e w150 ⟨v161, v164, rfl, ho0, ho1, hb⟩; refine ⟨_, rfl, ?_⟩; have n0_ := za (Kd.N_mono (Kd.N_told (Kd.N_told (Kd.N_old (by (with_reducible repeat (first | apply zC | apply zD | apply zE)); exact HO_7.out) hb) (Kd.R_base ho0)) (Kd.R_base ho1)) (fun _ h_ => h_.1)); have n1_ := za (zz (Kd.R_told (Kd.R_told (Kd.R_old (by (with_reducible repeat (first | apply zl | apply zm | apply zk)); exact HO_11.out) hb) (Kd.R_base ho0)) (Kd.R_base ho1)) (fun _ h_ => h_.1)); have n2_ := za (zz (Kd.R_told (Kd.R_told (Kd.R_old (by (with_reducible repeat (first | apply zl | apply zm | apply zk)); exact HO_109002.out) hb) (Kd.R_base ho0)) (Kd.R_base ho1)) (fun _ h_ => h_.1)); have n3_ := za (Kd.R_lower (Kd.R_new' (Kd.R_new' ho0 (Kd.R_lt (by (with_reducible repeat (first | apply zl | apply zm | apply zk)); exact HO_11.out))) (Kd.R_lt (by (with_reducible repeat (first | apply zl | apply zm | apply zk)); exact HO_109002.out))) (zo (by repeat (first | (with_reducible first | exact HB.out | apply zc | apply zd | apply zb | refine ze ?_ GE108.out) | exact HB.out)))); have n4_ := za (Kd.R_lower (Kd.R_new' (Kd.R_new' ho1 (Kd.R_lt (by (with_reducible repeat (first | apply zl | apply zm | apply zk)); exact HO_11.out))) (Kd.R_lt (by (with_reducible repeat (first | apply zl | apply zm | apply zk)); exact HO_109002.out))) (zo (by repeat (first | (with_reducible first | exact HB.out | apply zc | apply zd | apply zb | refine ze ?_ GE108.out) | exact HB.out)))); have n5_ := za (zA (g := gb108) (o := .cells #[.int .i64 t102, .int .i64 t103, .slice Ao14 t104.length co14] 43 (0, 0)) (by (with_reducible repeat (first | refine zg ?_ _ | refine zf ?_ | refine zh ?_ _)); exact BK108.out) hb); have n6_ := za (zw (by repeat (first | (with_reducible first | exact HB.out | apply zc | apply zd | apply zb | refine ze ?_ GE108.out) | exact HB.out)) hb); clear HO_7 HO_11; clear HO_109002 BK108 HB; have HO_7 := n0_; have HO_11 := n1_; have HO_109002 := n2_; have HO162 := n3_; have HO165 := n4_; have BK108 := n5_; have HB := n6_; clear n0_ n1_ n2_ n3_ n4_ n5_ n6_; (try clear hb); (try clear hb2); (try clear hk); (try clear hi); (try clear ho0); (try clear ho1)) | ((with_reducible refine zF (N := 21) rfl ?_); refine zG ?hg (N := 21) ?hd (cs := #[.int .i64 0, .int .i64 0, .slice none 0 0]) (t := 43) ?hr ?_; (case hd => rfl); (case hg => rfl); (case hr => first | (go_simp; done) | (go_simp; rfl)); intro gb166 hg w151 hbox hb; have n0_ := za (Kd.N_below (Kd.N_elderB (by (with_reducible repeat (first | apply zC | apply zD | apply zE)); exact HO_7.out) gb166 (Nat.le_of_eq hg.symm)) hb); have n1_ := za (zI (by (with_reducible repeat (first | apply zl | apply zm | apply zk)); exact HO_11.out) hb); have n2_ := za (zI (by (with_reducible repeat (first | apply zl | apply zm | apply zk)); exact HO_109002.out) hb); have n3_ := za (zI (by (with_reducible repeat (first | apply zl | apply zm | apply zk)); exact HO162.out) hb); have n4_ := za (zI (by (with_reducible repeat (first | apply zl | apply zm | apply zk)); exact HO165.out) hb); have n5_ := za (zA (g := gb108) (o := .cells #[.int .i64 t102, .int .i64 t103, .slice Ao14 t104.length co14] 43 (0, 0)) (by (with_reducible repeat (first | refine zg ?_ _ | refine zf ?_ | refine zh ?_ _)); exact BK108.out) hb); have n6_ := za (zw (by repeat (first | (with_reducible first | exact HB.out | apply zc | apply zd | apply zb | refine ze ?_ GE108.out) | exact HB.out)) hb); have n7_ := za (hbox); have n8_ := za ((by rw [hg]; exact (zo (by repeat (first | (with_reducible first | exact HB.out | apply zc | apply zd | apply zb | refine ze ?_ GE108.out) | exact HB.out))) : w.heap.size ≤ gb166)); have n9_ := za ((by rw [hg]; exact (zo (by repeat (first | (with_reducible first | exact HB.out | apply zc | apply zd | apply zb | refine ze ?_ GE108.out) | exact HB.out))) : w.heap.size ≤ gb166)); have n10_ := za ((by rw [hg]; exact Nat.ne_of_lt (blk_lt (g := gb108) (o := .cells #[.int .i64 t102, .int .i64 t103, .slice Ao14 t104.length co14] 43 (0, 0)) (by (with_reducible repeat (first | refine zg ?_ _ | refine zf ?_ | refine zh ?_ _)); exact BK108.out)) : gb108 ≠ gb166)); have n11_ := za ((by rw [hg]; exact Nat.ne_of_gt (blk_lt (g := gb108) (o := .cells #[.int .i64 t102, .int .i64 t103, .slice Ao14 t104.length co14] 43 (0, 0)) (by (with_reducible repeat (first | refine zg ?_ _ | refine zf ?_ | refine zh ?_ _)); exact BK108.out)) : gb166 ≠ gb108)); clear HO_7 HO_11; clear HO_109002 HO162; clear HO165 BK108 HB; have HO_7 := n0_; have HO_11 := n1_; have HO_109002 := n2_; have HO162 := n3_; have HO165 := n4_; have BK108 := n5_; have HB := n6_; have BK166 := n7_; have GW166 := n8_; have GE166 := n9_; have NB108_166 := n10_; have NB166_108 := n11_; clear n0_ n1_ n2_ n3_ n4_ n5_ n6_ n7_ n8_ n9_ n10_ n11_; clear hb hbox hg; have hnb152 := NB166_108.out; have hnc152 := NB108_166.out; have hcz153_0 : w151.cell? ⟨gb166, 0, none⟩ = some (.int .i64 0) := (zi BK166.out 0).trans rfl; have hcz153_1 : w151.cell? ⟨gb166, 1, none⟩ = some (.int .i64 0) := (zi BK166.out 1).trans rfl; have hcz153_2 : w151.cell? ⟨gb166, 2, none⟩ = some (.slice none 0 0) := (zi BK166.out 2).trans rfl; have hfz153_0 := zj BK166.out 0; have hfz153_1 := zj BK166.out 1; have hfz153_2 := zj BK166.out 2; obtain ⟨Ao154, co154, eo154⟩ := Kd.R_slice HO162.out; subst eo154; obtain ⟨Ao155, co155, eo155⟩ := Kd.R_slice HO165.out; subst eo155) | ((with_reducible refine zy (f := 37) rfl ?_); refine goesL_ (some 174) rfl rfl Try.func37 (by kernel_rfl) rfl #[.agg #[.int .i64 t158, .int .i64 t159, .slice Ao154 t160.length co154], .slice Ao155 t163.length co155] rfl (by (try simp only [List.map_toArray, List.map_cons, List.map_nil]); first | done | rfl | (simp only [List.length_drop, List.length_take]; rfl)) ?_; (with_reducible refine (impl_HitsOf.calls kj9 t158 t159 _ _ t160 _ _ t163 t167 t168 _ ?side1 ?side2 ?side3 ?side4 A138.out).mono ?_); (case side1 => refine (zB (e := 3) (base := w.heap.size) (ok := fun k_ => ((some k_ ≠ (.slice Ao155 t163.length co155 : Value).ownBlock ∧ some k_ ≠ (v118 : Value).ownBlock) ∧ some k_ ≠ (.slice Ao14 t104.length co14 : Value).ownBlock)) (n := t160.length) (c := co154) ?_).2.2; exact (by (with_reducible repeat (first | apply zl | apply zm | apply zk)); exact (zz (zn (p := ⟨gb166, 2, none⟩) (zn (p := ⟨gb166, 1, none⟩) (zn (p := ⟨gb166, 0, none⟩) (Kd.R_types HO162.out BK166.out (by decide)) (fun _ hk => hk.2) (.int .i64 t158)) (fun _ hk => hk.2) (.int .i64 t159)) (fun _ hk => hk.2) (.slice Ao154 t160.length co154)) (fun _ h_ => h_.1)))); (case side2 => exact (zB HO162.out).2.1); (case side3 => refine (zB (e := 3) (base := w.heap.size) (ok := fun k_ => ((some k_ ≠ (.slice Ao154 t160.length co154 : Value).ownBlock ∧ some k_ ≠ (v118 : Value).ownBlock) ∧ some k_ ≠ (.slice Ao14 t104.length co14 : Value).ownBlock)) (n := t163.length) (c := co155) ?_).2.2; exact (by (with_reducible repeat (first | apply zl | apply zm | apply zk)); exact (zz (zn (p := ⟨gb166, 2, none⟩) (zn (p := ⟨gb166, 1, none⟩) (zn (p := ⟨gb166, 0, none⟩) (Kd.R_types HO165.out BK166.out (by decide)) (fun _ hk => hk.2) (.int .i64 t158)) (fun _ hk => hk.2) (.int .i64 t159)) (fun _ hk => hk.2) (.slice Ao154 t160.length co154)) (fun _ h_ => h_.1)))); (case side4 => exact (zB HO165.out).2.1); rintro e w156 ⟨rfl, hb⟩; refine ⟨_, rfl, ?_⟩; have n0_ := za (Kd.N_below (by (with_reducible repeat (first | apply zC | apply zD | apply zE)); exact (Kd.N_mono (Kd.N_far (p := ⟨gb166, 2, none⟩) (Kd.N_far (p := ⟨gb166, 1, none⟩) (Kd.N_far (p := ⟨gb166, 0, none⟩) (Kd.N_mono HO_7.out (fun k_ hk => (⟨hk, hk.2⟩ : _ ∧ k_ ≠ gb166))) (fun _ hk => hk.2) (.int .i64 t158)) (fun _ hk => hk.2) (.int .i64 t159)) (fun _ hk => hk.2) (.slice Ao154 t160.length co154)) (fun _ h_ => h_.1))) hb); have n1_ := za (zI (by (with_reducible repeat (first | apply zl | apply zm | apply zk)); exact (zz (zn (p := ⟨gb166, 2, none⟩) (zn (p := ⟨gb166, 1, none⟩) (zn (p := ⟨gb166, 0, none⟩) (Kd.R_types HO_11.out BK166.out (by decide)) (fun _ hk => hk.2) (.int .i64 t158)) (fun _ hk => hk.2) (.int .i64 t159)) (fun _ hk => hk.2) (.slice Ao154 t160.length co154)) (fun _ h_ => h_.1))) hb); have n2_ := za (zI (by (with_reducible repeat (first | apply zl | apply zm | apply zk)); exact (zz (zn (p := ⟨gb166, 2, none⟩) (zn (p := ⟨gb166, 1, none⟩) (zn (p := ⟨gb166, 0, none⟩) (Kd.R_types HO_109002.out BK166.out (by decide)) (fun _ hk => hk.2) (.int .i64 t158)) (fun _ hk => hk.2) (.int .i64 t159)) (fun _ hk => hk.2) (.slice Ao154 t160.length co154)) (fun _ h_ => h_.1))) hb); have n3_ := za (zI (by (with_reducible repeat (first | apply zl | apply zm | apply zk)); exact (zz (zn (p := ⟨gb166, 2, none⟩) (zn (p := ⟨gb166, 1, none⟩) (zn (p := ⟨gb166, 0, none⟩) (Kd.R_types HO162.out BK166.out (by decide)) (fun _ hk => hk.2) (.int .i64 t158)) (fun _ hk => hk.2) (.int .i64 t159)) (fun _ hk => hk.2) (.slice Ao154 t160.length co154)) (fun _ h_ => h_.1))) hb); have n4_ := za (zI (by (with_reducible repeat (first | apply zl | apply zm | apply zk)); exact (zz (zn (p := ⟨gb166, 2, none⟩) (zn (p := ⟨gb166, 1, none⟩) (zn (p := ⟨gb166, 0, none⟩) (Kd.R_types HO165.out BK166.out (by decide)) (fun _ hk => hk.2) (.int .i64 t158)) (fun _ hk => hk.2) (.int .i64 t159)) (fun _ hk => hk.2) (.slice Ao154 t160.length co154)) (fun _ h_ => h_.1))) hb); have n5_ := za (zA (g := gb108) (o := .cells #[.int .i64 t102, .int .i64 t103, .slice Ao14 t104.length co14] 43 (0, 0)) (by (with_reducible repeat (first | refine zg ?_ _ | refine zf ?_ | refine zh ?_ _)); refine blk_far ?_ NB108_166.out _; (with_reducible repeat (first | refine zg ?_ _ | refine zf ?_ | refine zh ?_ _)); refine blk_far ?_ NB108_166.out _; (with_reducible repeat (first | refine zg ?_ _ | refine zf ?_ | refine zh ?_ _)); refine blk_far ?_ NB108_166.out _; (with_reducible repeat (first | refine zg ?_ _ | refine zf ?_ | refine zh ?_ _)); exact BK108.out) hb); have n6_ := za (zA (g := gb166) (o := .cells #[.int .i64 t158, .int .i64 t159, .slice Ao154 t160.length co154] 43 (0, 0)) (by (with_reducible repeat (first | refine zg ?_ _ | refine zf ?_ | refine zh ?_ _)); refine blk_put (cs := #[.int .i64 t158, .int .i64 t159, .slice none 0 0]) ?_ 2 _ rfl; (with_reducible repeat (first | refine zg ?_ _ | refine zf ?_ | refine zh ?_ _)); refine blk_put (cs := #[.int .i64 t158, .int .i64 0, .slice none 0 0]) ?_ 1 _ rfl; (with_reducible repeat (first | refine zg ?_ _ | refine zf ?_ | refine zh ?_ _)); refine blk_put (cs := #[.int .i64 0, .int .i64 0, .slice none 0 0]) ?_ 0 _ rfl; (with_reducible repeat (first | refine zg ?_ _ | refine zf ?_ | refine zh ?_ _)); exact BK166.out) hb); have n7_ := za (zw (by repeat (first | (with_reducible first | exact HB.out | apply zc | apply zd | apply zb | refine ze ?_ GE108.out | refine ze ?_ GE166.out) | exact HB.out)) hb); clear HO_7 HO_11; clear HO_109002 HO162; clear HO165 BK108; clear BK166 HB; have HO_7 := n0_; have HO_11 := n1_; have HO_109002 := n2_; have HO162 := n3_; have HO165 := n4_; have BK108 := n5_; have BK166 := n6_; have HB := n7_; clear n0_ n1_ n2_ n3_ n4_ n5_ n6_ n7_; (try clear hb); (try clear hb2); (try clear hk); (try clear hi); have hcz157_0 : w156.cell? ⟨gb166, 0, none⟩ = some (.int .i64 t158) := (zi BK166.out 0).trans rfl; have hcz157_1 : w156.cell? ⟨gb166, 1, none⟩ = some (.int .i64 t159) := (zi BK166.out 1).trans rfl; have hcz157_2 : w156.cell? ⟨gb166, 2, none⟩ = some (.slice Ao154 t160.length co154) := (zi BK166.out 2).trans rfl; have hfz157_0 := zj BK166.out 0; have hfz157_1 := zj BK166.out 1; have hfz157_2 := zj BK166.out 2) | ((with_reducible refine zy (f := 40) rfl ?_); refine goesL_ (some 180) rfl rfl Try.func40 (by kernel_rfl) rfl #[.agg #[.int .i64 t158, .int .i64 t159, .slice Ao154 t160.length co154], .slice Ao155 t163.length co155] rfl (by (try simp only [List.map_toArray, List.map_cons, List.map_nil]); first | done | rfl | (simp only [List.length_drop, List.length_take]; rfl)) ?_; (with_reducible refine (spec_HitsOf.calls kj9 t158 t159 _ _ t160 _ _ t163 t169 t170 _ ?side1 ?side2 ?side3 ?side4 A139.out).mono ?_); (case side1 => repeat (first | exact (zB HO162.out).2.2 | (with_reducible refine zp ?_ _) | (with_reducible refine zq ?_ _) | (with_reducible refine zr ?_))); (case side2 => exact (zB HO162.out).2.1); (case side3 => repeat (first | exact (zB HO165.out).2.2 | (with_reducible refine zp ?_ _) | (with_reducible refine zq ?_ _) | (with_reducible refine zr ?_))); (case side4 => exact (zB HO165.out).2.1); rintro e w158 ⟨rfl, hb⟩; refine ⟨_, rfl, ?_⟩; have n0_ := za (Kd.N_below (by (with_reducible repeat (first | apply zC | apply zD | apply zE)); exact HO_7.out) hb); have n1_ := za (zI (by (with_reducible repeat (first | apply zl | apply zm | apply zk)); exact HO_11.out) hb); have n2_ := za (zI (by (with_reducible repeat (first | apply zl | apply zm | apply zk)); exact HO_109002.out) hb); have n3_ := za (zI (by (with_reducible repeat (first | apply zl | apply zm | apply zk)); exact HO162.out) hb); have n4_ := za (zI (by (with_reducible repeat (first | apply zl | apply zm | apply zk)); exact HO165.out) hb); have n5_ := za (zA (g := gb108) (o := .cells #[.int .i64 t102, .int .i64 t103, .slice Ao14 t104.length co14] 43 (0, 0)) (by (with_reducible repeat (first | refine zg ?_ _ | refine zf ?_ | refine zh ?_ _)); exact BK108.out) hb); have n6_ := za (zA (g := gb166) (o := .cells #[.int .i64 t158, .int .i64 t159, .slice Ao154 t160.length co154] 43 (0, 0)) (by (with_reducible repeat (first | refine zg ?_ _ | refine zf ?_ | refine zh ?_ _)); exact BK166.out) hb); have n7_ := za (zw (by repeat (first | (with_reducible first | exact HB.out | apply zc | apply zd | apply zb | refine ze ?_ GE108.out | refine ze ?_ GE166.out) | exact HB.out)) hb); clear HO_7 HO_11; clear HO_109002 HO162; clear HO165 BK108; clear BK166 HB; have HO_7 := n0_; have HO_11 := n1_; have HO_109002 := n2_; have HO162 := n3_; have HO165 := n4_; have BK108 := n5_; have BK166 := n6_; have HB := n7_; clear n0_ n1_ n2_ n3_ n4_ n5_ n6_ n7_; (try clear hb); (try clear hb2); (try clear hk); (try clear hi)))
           go_ret
           exact ⟨by first | rfl | (simp [errW_none, errW_some] <;> rfl) | (simp [*, errW_none, errW_some] <;> rfl), by repeat (first | (with_reducible first | exact HB.out | apply zc | apply zd | apply zb | refine ze ?_ GE108.out | refine ze ?_ GE166.out) | exact HB.out)⟩
def laws_FnPermutationsHit.Pure : Prop := ∀ (l0 : List Int) (l1 : List Int), l0.length ≤ maxLen → l0.length * 1 ≤ 140737488351232 → (∀ x ∈ l0, (Lit.int .u8 x).wf = true) → l1.length ≤ maxLen → l1.length * 1 ≤ 140737488351232 → (∀ x ∈ l1, (Lit.int .u8 x).wf = true) → ∃ k, laws_FnPermutationsHit.f k l0 l1 = some true
theorem laws_FnPermutationsHit.walk (P : laws_FnPermutationsHit.Pure) (a0 : Option Addr) (len0 cap0 : Nat) (z0 : List Int) (a1 : Option Addr) (len1 cap1 : Nat) (z1 : List Int) (w : World) (w0 : (a0 = none ∧ len0 = 0 ∧ cap0 = 0 ∧ z0 = []) ∨ ∃ x, a0 = some x ∧ len0 ≤ cap0 ∧ cap0 ≤ maxLen ∧ z0.length = cap0 ∧ (∀ i, i < z0.length → w.cell? (x.add i) = some (.int .u8 (z0.getD i 0))) ∧ ∀ n ∈ z0, (Lit.int .u8 n).wf = true) (y0 : len0 * 1 ≤ 140737488351232) (w1 : (a1 = none ∧ len1 = 0 ∧ cap1 = 0 ∧ z1 = []) ∨ ∃ x, a1 = some x ∧ len1 ≤ cap1 ∧ cap1 ≤ maxLen ∧ z1.length = cap1 ∧ (∀ i, i < z1.length → w.cell? (x.add i) = some (.int .u8 (z1.getD i 0))) ∧ ∀ n ∈ z1, (Lit.int .u8 n).wf = true) (y1 : len1 * 1 ≤ 140737488351232) :
  Calls Try.prog 7 #[.slice a0 len0 cap0, .slice a1 len1 cap1] w fun e w' => e = .returned (.bool true) ∧ Below w.heap.size w w' := by
 obtain ⟨l0, rfl, hr0, hm0, hw0, hc0⟩ := ReadsInt.ofRowC w0
 obtain ⟨l1, rfl, hr1, hm1, hw1, hc1⟩ := ReadsInt.ofRowC w1
 obtain ⟨k, h⟩ := P l0 l1 hm0 y0 hw0 hm1 y1 hw1
 refine (laws_FnPermutationsHit.calls k _ _ l0 _ _ l1 true w (Kd.C_of_reads (d := (0 : Int)) (h1 := fun _ => rfl) hr0) hc0 (Kd.C_of_reads (d := (0 : Int)) (h1 := fun _ => rfl) hr1) hc1 h).mono ?_
 rintro e w' ⟨rfl, hd⟩
 exact ⟨rfl, hd⟩
end Go.Proofs.Ytiopnmgcajohfaa.Q
end
