/- What walk does when it is given loop.example/g01125/impl.weights$1: one call for each placement, in order. No conditions but a contract of the function that is called. -/
import Derived.Test.YtlhblnphfpijkaaWays
import Derived.Test.YtlhblnphfpijkaaQimplBoardhas
namespace Go.Proofs.Ytlhblnphfpijkaa.WalkW
set_option linter.unusedVariables false
open Go.RowKit Go.Proofs.YtlhblnphfpijkaaW.PrintWords Go.Proofs.YtlhblnphfpijkaaW.PrintLast Go.Proofs.YtlhblnphfpijkaaW.PrintMore
open Go.Proofs.YtlhblnphfpijkaaL Go.Proofs.Ytlhblnphfpijkaa.LawK Go.Proofs.Ytlhblnphfpijkaa.BoardK Go.Proofs.Ytlhblnphfpijkaa.Walk Go.Proofs.Ytlhblnphfpijkaa.Q

theorem run_store_func {P : Program} {w : World} {a : Addr} {m : Mode} (f : Fn) (xs : Array Value) (ys : Array Value) : (store a (.func f xs ys) m).run P w = stored P w a (.func f xs ys) m := run_store P w a _ m rfl
attribute [local go_sem] run_store_func
section
variable (k : Blks) (hk : k.Apart) (Inv : List (List Int) → World → Prop) (hI : ∀ vis w w', Inv vis w → Still k.has w w' → Inv vis w') (R C : Nat) (RI CI : Int) (hRI : RI = R) (hCI : CI = C) (l : List Int) (A0 : Option Addr) (c0 cp : Nat) (hc0 : l.length ≤ c0) (cc1 cc2 : Value)
  (hL : ∀ vis w, Inv vis w → Kd.C (Kd.int .i64) w A0 l.length l)
  (hl : l.length = R) (hR : R ≤ 6) (hC : C ≤ 6) (hb : ∀ i (hi : i < l.length), 0 ≤ l[i] ∧ l[i] < 2 ^ C)
  (P : List (List Int) → List Int → Prop) (hdo : ∀ vis ps w, ps.length = R → P vis ps → WSt k Inv RI CI R cp l A0 c0 (.func (.func 113) #[] #[cc1, cc2]) vis ps w →
    Calls Try.prog 113 #[.slice (some ⟨k.a, 0, none⟩) R cp, cc1, cc2] w fun e w' => e = .returned (.bool true) ∧ WSt k Inv RI CI R cp l A0 c0 (.func (.func 113) #[] #[cc1, cc2]) (vis ++ [ps]) ps w')
include hk hI hRI hCI hc0 hL hl hR hC hb hdo
set_option maxHeartbeats 4000000 in
set_option maxRecDepth 100000 in
theorem row_calls : ∀ (d r t : Nat) (rI tI : Int), rI = r → tI = t → r + d = R → t < 64 → ∀ vis ps w, ps.length = R → (∀ a q b, waysFrom l C d r t (ps.take r) = a ++ q :: b → P (vis ++ a) q) → WSt k Inv RI CI R cp l A0 c0 (.func (.func 113) #[] #[cc1, cc2]) vis ps w →
    Calls Try.prog 122 #[.int .i64 rI, .int .i64 tI, .pointer (some ⟨k.b, 0, none⟩), .pointer (some ⟨k.d, 0, none⟩), .pointer (some ⟨k.p, 0, none⟩), .pointer (some ⟨k.g, 0, none⟩), .pointer (some ⟨k.r, 0, none⟩)] w fun e w' => e = .returned (.tuple #[]) ∧
      ∃ ps', ps'.length = R ∧ ps'.take r = ps.take r ∧ WSt k Inv RI CI R cp l A0 c0 (.func (.func 113) #[] #[cc1, cc2]) (vis ++ waysFrom l C d r t (ps.take r)) ps' w'
  | 0, r, t, rI, tI, hr, ht, hrd, ht6, vis, ps, w, hps, hPP, hst => by
    have hP0 : P vis ps := by have := hPP [] ps [] (by rw [waysFrom, List.take_of_length_le (by omega)]; rfl); rwa [List.append_nil] at this
    have CX := Lib.hid (fun W (h : Aside0 (WSt k Inv RI CI R cp l A0 c0 (.func (.func 113) #[] #[cc1, cc2]) vis ps W)) => hdo vis ps W hps hP0 h.out)
    have MV := Lib.hid (fun W (h : Aside0 (WSt k Inv RI CI R cp l A0 c0 (.func (.func 113) #[] #[cc1, cc2]) (vis ++ [ps]) ps W)) => h.out.setG hI hk)
    have e0 : (rI == RI) = true := beq_iff_eq.mpr (by omega)
    have e1 := Aside0.mk (show ps.take r = ps from List.take_of_length_le (by omega))
    have hz1 : w.cell? ⟨k.b, 0, none⟩ = some (.int .i64 RI) := (blk_cell hst.cB 0).trans rfl
    have hz2 : w.cell? ⟨k.d, 0, none⟩ = some (.func (.func 113) #[] #[cc1, cc2]) := (blk_cell hst.cD 0).trans rfl
    have hz3 : w.cell? ⟨k.p, 0, none⟩ = some (.slice (some ⟨k.a, 0, none⟩) R cp) := (blk_cell hst.cP 0).trans rfl
    have HS := Aside0.mk hst
    have HP := Aside0.mk hps
    have hu24 := Try.underlying79
    clear hdo hst hps hr ht hrd ht6 hRI hCI hk hI hL hl hR hC hb hc0 hPP hP0
    go_enter Try.func122, Try.ntmps122
    go_wp2_with (first | (go_at_call 113; (refine (CX.out _ HS).mono ?_); rintro e w2 ⟨rfl, hs2⟩; have hz4 : w2.cell? ⟨k.g, 0, none⟩ = some (.bool true) := (blk_cell hs2.cG 0).trans rfl; have hf4 := blk_frozen hs2.cG 0; have HS2 := Aside0.mk hs2; clear hs2))
    first | go_end0 | ((try simp only [Exit.inBlock, Exit.then]); refine bodyPost_ret (results_none rfl _ _ _) rfl ?_)
    refine ⟨rfl, ps, HP.out, rfl, ?_⟩
    rw [e1.out]
    exact MV.out _ HS2
  | d + 1, r, t, rI, tI, hr, ht, hrd, ht6, vis, ps, w, hps, hPP, hst => by
    have IH := Lib.hid (fun (t' : Nat) (tI' : Int) (h2 : tI' = (t' : Int)) (h3 : t' < 64) vis ps W (h4 : ps.length = R) (h5 : ∀ a q b, waysFrom l C d (r + 1) t' (ps.take (r + 1)) = a ++ q :: b → P (vis ++ a) q) (h : WSt k Inv RI CI R cp l A0 c0 (.func (.func 113) #[] #[cc1, cc2]) vis ps W) => row_calls d (r + 1) t' (wrap64 (rI + 1)) tI' (by rw [hr, w64 (by omega) (by omega)]; rfl) h2 (by omega) h3 vis ps W h4 h5 h)
    have MVB := Lib.hid (fun vis ps W W' (h : WSt k Inv RI CI R cp l A0 c0 (.func (.func 113) #[] #[cc1, cc2]) vis ps W) (hb : Below W.heap.size W W') => h.below hI hb)
    have MVA := Lib.hid (fun vis ps W (h : WSt k Inv RI CI R cp l A0 c0 (.func (.func 113) #[] #[cc1, cc2]) vis ps W) (i c : Int) => h.setA hI hk i c)
    have HL := Lib.hid (fun vis ps W (h : WSt k Inv RI CI R cp l A0 c0 (.func (.func 113) #[] #[cc1, cc2]) vis ps W) => hL vis W h.inv)
    have HASF := Lib.hid (fun (j : Nat) (hj : j ≤ 64) => has_f RI CI (l := l) (i := r) (j := j) (by omega) (hb r (by omega)).1 (by have := (hb r (by omega)).2; have := two_pow_six hC; omega) hj)
    have e0 : (rI == RI) = false := beq_eq_false_iff_ne.mpr (by omega)
    have z1 : w.cell? ⟨k.b, 0, none⟩ = some (.int .i64 RI) := (blk_cell hst.cB 0).trans rfl
    have HS := Aside0.mk hst
    have HP := Aside0.mk hps
    have HR := Aside0.mk hr
    have HT := Aside0.mk ht
    have HT6 := Aside0.mk ht6
    have HRD := Aside0.mk hrd
    have HCI := Aside0.mk hCI
    have HC0 := Aside0.mk hc0
    have HC6 := Aside0.mk hC
    have HR6 := Aside0.mk hR
    have hu24 := Try.underlying79
    obtain ⟨pre, hpre⟩ : ∃ pre, pre = ps.take r := ⟨_, rfl⟩
    rw [← hpre] at hPP ⊢
    have HPP := Aside0.mk hPP
    have HPRE := Aside0.mk hpre
    have plt := eq_true (show 0 ≤ rI by omega)
    have plt2 := eq_true (show rI < (R : Int) by omega)
    clear hdo hst hps hr ht hrd ht6 hRI hCI hk hI hL hl hR hC hb hc0 hpre hPP row_calls
    go_enter Try.func122, Try.ntmps122
    go_wp2
    go_loopg [9] (C + 1) (fun kq v9 w' => ∃ (x9 : Int), v9 = .int .i64 x9 ∧ Aside0 (∃ (j : Nat) (ps' : List Int), x9 = -1 + j ∧ j + kq = C + 1 ∧ ps'.length = R ∧ ps'.take r = pre ∧ WSt k Inv RI CI R cp l A0 c0 (.func (.func 113) #[] #[cc1, cc2]) (vis ++ (iota (-1) j).flatMap (colWays l r t pre (waysFrom l C d (r + 1)))) ps' w'))
    case atStart => exact ⟨-1, rfl, ⟨0, ps, by omega, by omega, HP.out, HPRE.out.symm, by simpa [iota] using HS.out⟩⟩
    case round =>
      clear z1
      obtain ⟨x9, rfl, HX⟩ := hrel
      obtain ⟨j, qs, hx, hj, hql, hqt, hs⟩ := HX.out
      clear HX
      have HX := Aside0.mk hx
      have HQL := Aside0.mk hql
      have HQT := Aside0.mk hqt
      have HS2 := Aside0.mk hs
      have HJ := Aside0.mk hj
      have z1 : wr.cell? ⟨k.b, 1, none⟩ = some (.int .i64 CI) := (blk_cell hs.cB 1).trans rfl
      have z2 : wr.cell? ⟨k.g, 0, none⟩ = some (.bool true) := (blk_cell hs.cG 0).trans rfl
      have z3 : wr.cell? ⟨k.b, 0, none⟩ = some (.int .i64 RI) := (blk_cell hs.cB 0).trans rfl
      have z4 : wr.cell? ⟨k.b, 2, none⟩ = some (.slice A0 l.length c0) := (blk_cell hs.cB 2).trans rfl
      clear hx hj hql hqt hs
      by_cases c1 : x9 < CI
      · have c1b : decide (x9 < CI) = true := decide_eq_true c1
        cases gk with
        | zero => exact absurd c1 (by have := HX.out; have := HJ.out; have := HCI.out; omega)
        | succ k1 =>
          have EW := Aside0.mk (show wrap64 (x9 + 1) = -1 + ((j + 1 : Nat) : Int) by have := HX.out; have := HJ.out; have := HC6.out; rw [w64 (by omega) (by omega)]; omega)
          have EJ := Aside0.mk (show j + 1 + k1 = C + 1 by have := HJ.out; omega)
          have ES := Aside0.mk (show (iota (-1) (j + 1)).flatMap (colWays l r t pre (waysFrom l C d (r + 1))) = (iota (-1) j).flatMap (colWays l r t pre (waysFrom l C d (r + 1))) ++ colWays l r t pre (waysFrom l C d (r + 1)) x9 by rw [iota_snoc, List.flatMap_append, HX.out]; simp)
          have C1 := Aside0.mk c1
          clear c1
          by_cases c2 : 0 ≤ x9
          · have c2b : decide (0 ≤ x9) = true := decide_eq_true c2
            have c2e := eq_true c2
            obtain ⟨xn, hxn⟩ : ∃ xn : Nat, x9 = xn := ⟨x9.toNat, by omega⟩
            have HXN := Aside0.mk hxn
            have HX6 := Aside0.mk (show xn < 6 by have := C1.out; have := HCI.out; have := HC6.out; omega)
            have A1 := Aside0.mk (show impl_Board_has.f RI CI l rI x9 = some (cell l r xn) by rw [HR.out, hxn]; exact HASF.out xn (by have := HX6.out; omega))
            obtain ⟨sh, hsh⟩ : ∃ s : Int, shr .i64 tI x9 = s := ⟨_, rfl⟩
            have hsh1 : (tI / 2 ^ min x9.toNat 64) = sh := hsh
            have BT : Go.bits .and .i64 sh 1 = if t.testBit xn then 1 else 0 := by rw [← hsh, HT.out, hxn]; exact bit_and t xn (by have := HT6.out; omega) (by have := HX6.out; omega)
            clear c2 hxn
            by_cases c3 : cell l r xn = true
            · rw [c3] at A1
              by_cases c4 : t.testBit xn = true
              · have c4b : (Go.bits .and .i64 sh 1 == 1) = true := by rw [BT, if_pos c4]; rfl
                have NIL := Aside0.mk (show colWays l r t pre (waysFrom l C d (r + 1)) x9 = [] by have := HXN.out; unfold colWays; rw [if_neg (by omega), if_neg (by rw [HXN.out]; simp [c4])])
                clear c3 c4 BT hsh
                go_wp2_with (first | (go_at_call 123; (refine (impl_Board_has.calls RI CI _ _ l rI x9 true _ ?side1 ?side2 A1.out).mono ?_); (case side1 => exact HL.out _ _ _ HS2.out); (case side2 => exact HC0.out); rintro e w2 ⟨rfl, hb2⟩; have HS3 := Aside0.mk (MVB.out _ _ _ _ HS2.out hb2); clear hb2))
                go_roundg k1
                case measure => omega
                case rel => exact ⟨wrap64 (x9 + 1), (by first | rfl | (simp; done)), ⟨j + 1, qs, EW.out, EJ.out, HQL.out, HQT.out, by rw [ES.out, NIL.out, List.append_nil]; exact HS3.out⟩⟩
              · have c4b : (Go.bits .and .i64 sh 1 == 1) = false := by rw [BT, if_neg c4]; rfl
                have c4f : t.testBit xn = false := by simpa using c4
                have ONE := Aside0.mk (show colWays l r t pre (waysFrom l C d (r + 1)) x9 = waysFrom l C d (r + 1) (t ||| 2 ^ xn) (pre ++ [x9]) by have := HXN.out; unfold colWays; rw [if_neg (by omega), HXN.out, Int.toNat_natCast, if_pos (by rw [c3, c4f]; rfl)])
                obtain ⟨ji, hji⟩ : ∃ s : Int, shl .i64 1 x9 = s := ⟨_, rfl⟩
                have hji_ : (IntKind.i64.wrap (1 * 2 ^ min x9.toNat 64)) = ji := hji
                have hjiu : (IntKind.i64.wrap (2 ^ min x9.toNat 64)) = ji := by have h_ := hji_; rw [Int.one_mul] at h_; exact h_
                have p2x := Nat.pow_le_pow_right (show 0 < 2 by decide) (show xn ≤ 5 by have := HX6.out; omega)
                have OR := Aside0.mk (show Go.bits .or .i64 tI ji = ((t ||| 2 ^ xn : Nat) : Int) by rw [← hji, HT.out, HXN.out, shl_one xn (by have := HX6.out; omega)]; exact or_nat _ _ (by have := HT6.out; omega) (by omega))
                have OR6 := Aside0.mk (show t ||| 2 ^ xn < 64 from Nat.or_lt_two_pow (n := 6) HT6.out (by omega))
                clear c3 c4 c4f BT hsh hji p2x
                have HRT := Aside0.mk (show rI.toNat = r by rw [HR.out]; rfl)
                have HPT := Aside0.mk (show (qs.set rI.toNat x9).take (r + 1) = pre ++ [x9] by have hrl : r < qs.length := (by have := HQL.out; have := HRD.out; omega); rw [HRT.out, List.take_add_one, List.take_set_of_le (Nat.le_refl _), HQT.out]; simp [hrl])
                have NXT := Aside0.mk (show ∀ a q b, waysFrom l C d (r + 1) (t ||| 2 ^ xn) ((qs.set rI.toNat x9).take (r + 1)) = a ++ q :: b → P ((vis ++ (iota (-1) j).flatMap (colWays l r t pre (waysFrom l C d (r + 1)))) ++ a) q from fun a q b hq => by rw [HPT.out, ← ONE.out] at hq; rw [List.append_assoc]; exact HPP.out _ q (b ++ (iota (x9 + 1) (C + 1 - j - 1)).flatMap (colWays l r t pre (waysFrom l C d (r + 1)))) (by rw [ways_cut l C d r t pre j (by have := HX.out; have := C1.out; have := HCI.out; omega) HX.out, hq, List.append_assoc, List.append_assoc]; rfl))
                go_wp2_with (first | (go_at_call 123; (refine (impl_Board_has.calls RI CI _ _ l rI x9 true _ ?side1 ?side2 A1.out).mono ?_); (case side1 => exact HL.out _ _ _ HS2.out); (case side2 => exact HC0.out); rintro e w2 ⟨rfl, hb2⟩; have HS3 := Aside0.mk (MVB.out _ _ _ _ HS2.out hb2); clear hb2; have z5 : w2.cell? ⟨k.p, 0, none⟩ = some (.slice (some ⟨k.a, 0, none⟩) R cp) := (blk_cell HS3.out.cP 0).trans rfl; obtain ⟨z6, f6⟩ := Kd.R_celln 0 HS3.out.cA rI (of_eq_true plt) (of_eq_true plt2)) | ((with_reducible refine gate_store (t := 3) (p := 46) rfl ?_); refine store_event (t := 3) (p := 46) (v := ?vo) (w1 := (w2.setCell ⟨k.a, rI.toNat, none⟩ (.int .i64 x9))) ?hg ?ho ?hn ?hr ?_; (case ho => rfl); (case hg => rfl); (case hn => rfl); (case hr => first | (go_simp; done) | (go_simp; rfl)); intro w4 hw; have HS4 := Aside0.mk (by rw [hw]; exact MVA.out _ _ _ HS3.out rI x9 : WSt k Inv RI CI R cp l A0 c0 (.func (.func 113) #[] #[cc1, cc2]) (vis ++ (iota (-1) j).flatMap (colWays l r t pre (waysFrom l C d (r + 1)))) (qs.set rI.toNat x9) w4); clear hw; have z7 : w4.cell? ⟨k.r, 0, none⟩ = _ := (blk_cell HS4.out.cR 0).trans rfl) | (go_at_call 122; (refine (IH.out (t ||| 2 ^ xn) _ OR.out OR6.out _ (qs.set rI.toNat x9) _ (by rw [List.length_set]; exact HQL.out) NXT.out HS4.out).mono ?_); rintro e w5 ⟨rfl, hex⟩; have HE := Aside0.mk hex; clear hex))
                go_roundg k1
                case measure => omega
                case rel =>
                  obtain ⟨qs2, hl2, ht2, hs5⟩ := HE.out
                  have hrt := HRT.out
                  have hrl : r < qs.length := by have := HQL.out; have := HRD.out; omega
                  have hpt := HPT.out
                  refine ⟨wrap64 (x9 + 1), (by first | rfl | (simp; done)), ⟨j + 1, qs2, EW.out, EJ.out, hl2, ?_, ?_⟩⟩
                  · have h3 := congrArg (List.take r) ht2
                    rw [List.take_take, List.take_take, Nat.min_eq_left (by omega), hrt, List.take_set_of_le (Nat.le_refl _), HQT.out] at h3
                    exact h3
                  · rw [hpt, List.append_assoc] at hs5
                    rw [ES.out, ONE.out]
                    exact hs5
            · have c3f : cell l r xn = false := by simpa using c3
              rw [c3f] at A1
              have NIL := Aside0.mk (show colWays l r t pre (waysFrom l C d (r + 1)) x9 = [] by have := HXN.out; unfold colWays; rw [if_neg (by omega), if_neg (by rw [HXN.out]; simp [c3f])])
              clear c3 c3f BT hsh
              go_wp2_with (first | (go_at_call 123; (refine (impl_Board_has.calls RI CI _ _ l rI x9 false _ ?side1 ?side2 A1.out).mono ?_); (case side1 => exact HL.out _ _ _ HS2.out); (case side2 => exact HC0.out); rintro e w2 ⟨rfl, hb2⟩; have HS3 := Aside0.mk (MVB.out _ _ _ _ HS2.out hb2); clear hb2))
              go_roundg k1
              case measure => omega
              case rel => exact ⟨wrap64 (x9 + 1), (by first | rfl | (simp; done)), ⟨j + 1, qs, EW.out, EJ.out, HQL.out, HQT.out, by rw [ES.out, NIL.out, List.append_nil]; exact HS3.out⟩⟩
          · have c2b : decide (0 ≤ x9) = false := decide_eq_false c2
            have ONE := Aside0.mk (show colWays l r t pre (waysFrom l C d (r + 1)) x9 = waysFrom l C d (r + 1) t (pre ++ [x9]) by unfold colWays; rw [if_pos (by omega)])
            clear c2
            have z5 : wr.cell? ⟨k.p, 0, none⟩ = some (.slice (some ⟨k.a, 0, none⟩) R cp) := (blk_cell HS2.out.cP 0).trans rfl
            obtain ⟨z6, f6⟩ := Kd.R_celln 0 HS2.out.cA rI (of_eq_true plt) (of_eq_true plt2)
            have HRT := Aside0.mk (show rI.toNat = r by rw [HR.out]; rfl)
            have HPT := Aside0.mk (show (qs.set rI.toNat x9).take (r + 1) = pre ++ [x9] by have hrl : r < qs.length := (by have := HQL.out; have := HRD.out; omega); rw [HRT.out, List.take_add_one, List.take_set_of_le (Nat.le_refl _), HQT.out]; simp [hrl])
            have NXT := Aside0.mk (show ∀ a q b, waysFrom l C d (r + 1) t ((qs.set rI.toNat x9).take (r + 1)) = a ++ q :: b → P ((vis ++ (iota (-1) j).flatMap (colWays l r t pre (waysFrom l C d (r + 1)))) ++ a) q from fun a q b hq => by rw [HPT.out, ← ONE.out] at hq; rw [List.append_assoc]; exact HPP.out _ q (b ++ (iota (x9 + 1) (C + 1 - j - 1)).flatMap (colWays l r t pre (waysFrom l C d (r + 1)))) (by rw [ways_cut l C d r t pre j (by have := HX.out; have := C1.out; have := HCI.out; omega) HX.out, hq, List.append_assoc, List.append_assoc]; rfl))
            go_wp2_with (first | ((with_reducible refine gate_store (t := 3) (p := 46) rfl ?_); refine store_event (t := 3) (p := 46) (v := ?vo) (w1 := (wr.setCell ⟨k.a, rI.toNat, none⟩ (.int .i64 x9))) ?hg ?ho ?hn ?hr ?_; (case ho => rfl); (case hg => rfl); (case hn => rfl); (case hr => first | (go_simp; done) | (go_simp; rfl)); intro w4 hw; have HS4 := Aside0.mk (by rw [hw]; exact MVA.out _ _ _ HS2.out rI x9 : WSt k Inv RI CI R cp l A0 c0 (.func (.func 113) #[] #[cc1, cc2]) (vis ++ (iota (-1) j).flatMap (colWays l r t pre (waysFrom l C d (r + 1)))) (qs.set rI.toNat x9) w4); clear hw; have z7 : w4.cell? ⟨k.r, 0, none⟩ = _ := (blk_cell HS4.out.cR 0).trans rfl) | (go_at_call 122; (refine (IH.out t _ HT.out HT6.out _ (qs.set rI.toNat x9) _ (by rw [List.length_set]; exact HQL.out) NXT.out HS4.out).mono ?_); rintro e w5 ⟨rfl, hex⟩; have HE := Aside0.mk hex; clear hex))
            go_roundg k1
            case measure => omega
            case rel =>
              obtain ⟨qs2, hl2, ht2, hs5⟩ := HE.out
              have hrt := HRT.out
              have hrl : r < qs.length := by have := HQL.out; have := HRD.out; omega
              have hpt := HPT.out
              refine ⟨wrap64 (x9 + 1), (by first | rfl | (simp; done)), ⟨j + 1, qs2, EW.out, EJ.out, hl2, ?_, ?_⟩⟩
              · have h3 := congrArg (List.take r) ht2
                rw [List.take_take, List.take_take, Nat.min_eq_left (by omega), hrt, List.take_set_of_le (Nat.le_refl _), HQT.out] at h3
                exact h3
              · rw [hpt, List.append_assoc] at hs5
                rw [ES.out, ONE.out]
                exact hs5
      · have c1b : decide (x9 < CI) = false := decide_eq_false c1
        have FIN := Aside0.mk (show j = C + 1 by have := HX.out; have := HJ.out; have := HCI.out; omega)
        clear c1
        go_wp2
        first | go_end0 | ((try simp only [Exit.inBlock, Exit.then]); refine bodyPost_ret (results_none rfl _ _ _) rfl ?_)
        exact ⟨rfl, qs, HQL.out, HQT.out, by have := HS2.out; rw [FIN.out] at this; exact this⟩
end
section
variable (Inv : (Nat → Prop) → List (List Int) → World → Prop) (hI : ∀ S vis w w', Inv S vis w → Still S w w' → Inv S vis w') (R C : Nat) (RI CI : Int) (hRI : RI = R) (hCI : CI = C) (l : List Int) (A0 : Option Addr) (c0 : Nat) (hc0 : l.length ≤ c0) (cc1 cc2 : Value)
  (hL : ∀ S vis w, Inv S vis w → Kd.C (Kd.int .i64) w A0 l.length l)
  (hl : l.length = R) (h1R : 1 ≤ R) (hR : R ≤ 6) (hC : C ≤ 6) (hb : ∀ i (hi : i < l.length), 0 ≤ l[i] ∧ l[i] < 2 ^ C) (w0 : World)
  (h0 : ∀ S w, (∀ i, S i → w0.heap.size ≤ i) → Below w0.heap.size w0 w → Inv S [] w)
  (hdo : ∀ S vis ps w a cp, (∀ i, S i → w0.heap.size ≤ i) → (∀ i, S i → i < w.heap.size) → ps.length = R → (∃ b, waysFrom l C R 0 0 [] = vis ++ ps :: b) → S a → Kd.C (Kd.int .i64) w (some ⟨a, 0, none⟩) R ps → R ≤ cp → Inv S vis w →
    Calls Try.prog 113 #[.slice (some ⟨a, 0, none⟩) R cp, cc1, cc2] w fun e w' => e = .returned (.bool true) ∧ Inv S (vis ++ [ps]) w' ∧ (∀ i, S i → i < w.heap.size → w'.heap[i]? = w.heap[i]?))
include hI hRI hCI hc0 hL hl h1R hR hC hb h0 hdo
set_option maxHeartbeats 4000000 in
set_option maxRecDepth 100000 in
theorem walk_calls : Calls Try.prog 112 #[.agg #[.int .i64 RI, .int .i64 CI, .slice A0 l.length c0], .func (.func 113) #[] #[cc1, cc2]] w0 fun e w' => e = .returned (.tuple #[]) ∧ ∃ S, (∀ i, S i → w0.heap.size ≤ i) ∧ Inv S (waysFrom l C R 0 0 []) w' := by
  have KEY : ∀ (k : Blks) (cp : Nat) W, k.Apart → (∀ i, k.has i → w0.heap.size ≤ i) → R ≤ cp → WSt k (Inv k.has) RI CI R cp l A0 c0 (.func (.func 113) #[] #[cc1, cc2]) [] (List.replicate R 0) W →
      Calls Try.prog 122 #[.int .i64 0, .int .i64 0, .pointer (some ⟨k.b, 0, none⟩), .pointer (some ⟨k.d, 0, none⟩), .pointer (some ⟨k.p, 0, none⟩), .pointer (some ⟨k.g, 0, none⟩), .pointer (some ⟨k.r, 0, none⟩)] W fun e w' => e = .returned (.tuple #[]) ∧ ∃ S, (∀ i, S i → w0.heap.size ≤ i) ∧ Inv S (waysFrom l C R 0 0 []) w' := by
    intro k cp W hk hS hcp hst
    have := row_calls k hk (Inv k.has) (hI k.has) R C RI CI hRI hCI l A0 c0 cp hc0 cc1 cc2 (hL k.has) hl hR hC hb (fun vis q => ∃ b, waysFrom l C R 0 0 [] = vis ++ q :: b) (fun vis ps w hps hmem hs => by
      obtain ⟨_, _, hC'⟩ := Kd.R_reads' hs.cA
      rw [hps] at hC'
      have hlt : k.a < w.heap.size := by obtain ⟨cells, hc⟩ := Kd.R_typed hs.cA k.a rfl; exact blk_lt hc
      have hSlt : ∀ i, k.has i → i < w.heap.size := by
        rintro i (rfl | rfl | rfl | rfl | rfl | rfl)
        · exact blk_lt hs.cB
        · exact blk_lt hs.cD
        · exact hlt
        · exact blk_lt hs.cP
        · exact blk_lt hs.cG
        · exact blk_lt hs.cR
      refine (hdo k.has vis ps w k.a cp hS hSlt hps hmem (.inr (.inr (.inl rfl))) hC' hcp hs.inv).mono ?_
      rintro e w' ⟨rfl, hi, hkeep⟩
      refine ⟨rfl, (hkeep _ (.inl rfl) (blk_lt hs.cB)).trans hs.cB, (hkeep _ (.inr (.inl rfl)) (blk_lt hs.cD)).trans hs.cD, Kd.R_step hs.cA (fun i hi _ => by subst hi; exact hkeep _ (.inr (.inr (.inl rfl))) hlt), (hkeep _ (.inr (.inr (.inr (.inl rfl)))) (blk_lt hs.cP)).trans hs.cP, (hkeep _ (.inr (.inr (.inr (.inr (.inl rfl))))) (blk_lt hs.cG)).trans hs.cG, (hkeep _ (.inr (.inr (.inr (.inr (.inr rfl))))) (blk_lt hs.cR)).trans hs.cR, hi⟩)
      R 0 0 0 0 rfl rfl (by omega) (by omega) [] (List.replicate R 0) W (by simp) (fun a q b hq => ⟨b, by simpa using hq⟩) hst
    refine this.mono ?_
    rintro e w' ⟨rfl, ps', _, _, hw⟩
    exact ⟨rfl, k.has, hS, by simpa using hw.inv⟩
  have KX := Lib.hid KEY
  have H0 := Lib.hid h0
  have hu24 := Try.underlying79
  have p1 := Aside0.mk (show 0 ≤ RI by omega)
  have p2 := Aside0.mk (show RI.toNat * 8 ≤ 281474976710656 by omega)
  have p3 := Aside0.mk (show RI.toNat = R by omega)
  have p4 := Aside0.mk h1R
  clear KEY h0 hdo hb hC hR hl hL hc0 hCI hRI hI h1R
  go_enter Try.func112, Try.ntmps112
  go_wp2_with (first
    | ((with_reducible refine gate_dst (N := 2) rfl ?_); refine box_event ?hg (N := 2) ?hd (cs := #[.int .i64 RI, .int .i64 CI, .slice A0 l.length c0]) (t := 79) ?hr ?_; (case hd => rfl); (case hg => rfl); (case hr => first | (go_simp; done) | (go_simp; rfl)); intro gb hg w1 hbox hb; have G1 := Aside0.mk hg; have K1 := Aside0.mk hbox; have B1 := Aside0.mk hb; clear hg hbox hb; have z1 : w1.cell? ⟨gb, 0, none⟩ = some (.int .i64 RI) := (blk_cell K1.out 0).trans rfl)
    | ((with_reducible refine gate_dst (N := 3) rfl ?_); refine box_event ?hg (N := 3) ?hd (cs := #[.func (.func 113) #[] #[cc1, cc2]]) (t := 45) ?hr ?_; (case hd => rfl); (case hg => rfl); (case hr => first | (go_simp; done) | (go_simp; rfl)); intro gd hg w2 hbox hb; have G2 := Aside0.mk hg; have K2 := Aside0.mk hbox; have B2 := Aside0.mk hb; clear hg hbox hb; have z2 : w2.cell? ⟨gb, 0, none⟩ = some (.int .i64 RI) := (blk_cell (blk_below K1.out B2.out) 0).trans rfl)
    | ((with_reducible refine gate_dst (N := 9) rfl ?_); refine Kd.R_make (Kd.int .i64) (w0 := w2) w2.heap.size 3 rfl (N := 9) rfl 22 _ _ rfl RI rfl rfl Try.underlying22 (.int .i64 0) 8 info3 rfl (by decide) (by omega) 0 (ok := fun _ => True) (okp := fun _ => True) rfl (fun _ hk => hk) trivial p1.out p2.out (Below.refl _ _) (Nat.le_refl _) ?_; intro v3 w3 ho3 hb hg_ hnew_; clear hg_ hnew_; rw [p3.out] at ho3; obtain ⟨ga, cp, hv3, hga, hga2, cells3, hc3⟩ := Kd.R_form ho3 (by rw [List.length_replicate]; exact p4.out); rw [List.length_replicate] at hv3; subst hv3; have G3 := Aside0.mk (And.intro hga hga2); have K3 := Aside0.mk hc3; clear hga hga2 hc3; have B3 := Aside0.mk hb; have O3 := Aside0.mk ho3; clear hb ho3)
    | ((with_reducible refine gate_dst (N := 4) rfl ?_); refine box_event ?hg (N := 4) ?hd (cs := #[.slice none 0 0]) (t := 22) ?hr ?_; (case hd => rfl); (case hg => rfl); (case hr => first | (go_simp; done) | (go_simp; rfl)); intro gp hg w4 hbox hb; have G4 := Aside0.mk hg; have K4 := Aside0.mk hbox; have B4 := Aside0.mk hb; clear hg hbox hb)
    | ((with_reducible refine gate_dst (N := 5) rfl ?_); refine box_event ?hg (N := 5) ?hd (cs := #[.bool false]) (t := 4) ?hr ?_; (case hd => rfl); (case hg => rfl); (case hr => first | (go_simp; done) | (go_simp; rfl)); intro gg hg w5 hbox hb; have G5 := Aside0.mk hg; have K5 := Aside0.mk hbox; have B5 := Aside0.mk hb; clear hg hbox hb; have y1 : w5.cell? ⟨gp, 0, none⟩ = some (.slice none 0 0) := (blk_cell (blk_below K4.out B5.out) 0).trans rfl; have f1 : w5.frozen? ⟨gp, 0, none⟩ = false := blk_frozen (blk_below K4.out B5.out) 0)
    | ((with_reducible refine gate_store (t := 22) (p := 4) rfl ?_); refine store_event (t := 22) (p := 4) (v := ?vo) (w1 := (w5.setCell ⟨gp, 0, none⟩ (.slice (some ⟨ga, 0, none⟩) R cp))) ?hg ?ho ?hn ?hr ?_; (case ho => rfl); (case hg => rfl); (case hn => rfl); (case hr => first | (go_simp; done) | (go_simp; rfl)); intro w6 hw; have E6 := Aside0.mk hw; clear hw; have N65 := Aside0.mk (show gg ≠ gp by rw [G5.out]; exact Nat.ne_of_gt (blk_lt K4.out)); have K56 := Aside0.mk (show w6.heap[gg]? = some (.cells #[.bool false] 4 (0, 0)) by rw [E6.out]; exact blk_far K5.out N65.out _); have y2 : w6.cell? ⟨gg, 0, none⟩ = some (.bool false) := (blk_cell K56.out 0).trans rfl; have f2 : w6.frozen? ⟨gg, 0, none⟩ = false := blk_frozen K56.out 0)
    | ((with_reducible refine gate_dst (N := 6) rfl ?_); refine box_event ?hg (N := 6) ?hd (cs := #[.nilFunc]) (t := 86) ?hr ?_; (case hd => rfl); (case hg => rfl); (case hr => first | (go_simp; done) | (go_simp; rfl)); intro gr hg w8 hbox hb; have G8 := Aside0.mk hg; have K8 := Aside0.mk hbox; have B8 := Aside0.mk hb; clear hg hbox hb; have y3 : w8.cell? ⟨gr, 0, none⟩ = some .nilFunc := (blk_cell K8.out 0).trans rfl; have f3 : w8.frozen? ⟨gr, 0, none⟩ = false := blk_frozen K8.out 0)
    | (go_at_call 122; (refine (KX.out ⟨gb, gd, ga, gp, gg, gr⟩ cp _ ?sa ?ss ?sc ?sw).mono ?_); (case sa => (have o1 := blk_lt K1.out; have o2 := G2.out; have o3 := blk_lt K2.out; have o4 := G3.out; have o5 := G4.out; have o6 := blk_lt K4.out; have o7 := G5.out; have o8 := blk_lt K5.out; have o9 : w6.heap.size = w5.heap.size := (by rw [E6.out]; simp [World.setCell]); have o10 : (w6.setCell ⟨gg, 0, none⟩ (.bool true)).heap.size = w6.heap.size := (by simp [World.setCell]); have o11 := G8.out; have o12 := G1.out; constructor <;> (try simp only []) <;> omega)); (case ss => (have o1 := blk_lt K1.out; have o2 := G2.out; have o3 := blk_lt K2.out; have o4 := G3.out; have o5 := G4.out; have o6 := blk_lt K4.out; have o7 := G5.out; have o8 := blk_lt K5.out; have o9 : w6.heap.size = w5.heap.size := (by rw [E6.out]; simp [World.setCell]); have o10 : (w6.setCell ⟨gg, 0, none⟩ (.bool true)).heap.size = w6.heap.size := (by simp [World.setCell]); have o11 := G8.out; have o12 := G1.out; rintro i (rfl | rfl | rfl | rfl | rfl | rfl) <;> (try simp only []) <;> omega)); (case sc => exact (Kd.R_reads' O3.out).2.1); (case sw => (have o1 := blk_lt K1.out; have o2 := G2.out; have o3 := blk_lt K2.out; have o4 := G3.out; have o5 := G4.out; have o6 := blk_lt K4.out; have o7 := G5.out; have o8 := blk_lt K5.out; have o9 : w6.heap.size = w5.heap.size := (by rw [E6.out]; simp [World.setCell]); have o10 : (w6.setCell ⟨gg, 0, none⟩ (.bool true)).heap.size = w6.heap.size := (by simp [World.setCell]); have o11 := G8.out; have o12 := G1.out; have q1 := blk_below (blk_below (blk_below (blk_below K1.out B2.out) B3.out) B4.out) B5.out; have q2 := blk_below (blk_below (blk_below K2.out B3.out) B4.out) B5.out; have q3 := Kd.R_below (Kd.R_below (Kd.R_mono (Kd.R_lower (Kd.R_tight rfl O3.out) (Nat.zero_le _)) (fun i hi => (by simpa [Value.ownBlock] using hi : i = ga))) B4.out) B5.out; have q4 := blk_below K4.out B5.out; have e1 : gb ≠ gp := (by omega); have e2 : gd ≠ gp := (by omega); have e3 : ga ≠ gp := (by omega); have e4 : gb ≠ gg := (by omega); have e5 : gd ≠ gg := (by omega); have e6 : ga ≠ gg := (by omega); have e7 : gp ≠ gg := (by omega); have e8 : gb ≠ gr := (by omega); have e9 : gd ≠ gr := (by omega); have e10 : ga ≠ gr := (by omega); have e11 : gp ≠ gr := (by omega); have e12 : gg ≠ gr := (by omega); have b5 : Below w0.heap.size w0 w5 := (((B1.out.trans (B2.out.mono (by omega))).trans (B3.out.mono (by omega))).trans (B4.out.mono (by omega))).trans (B5.out.mono (by omega)); have b7 : Below w0.heap.size w0 (w6.setCell ⟨gg, 0, none⟩ (.bool true)) := (by refine Below.setCell ?_ (by (try simp only []); omega) _; rw [E6.out]; exact Below.setCell b5 (by (try simp only []); omega) _); have b9 : Below w0.heap.size w0 (w8.setCell ⟨gr, 0, none⟩ (.func (.func 122) #[] #[.pointer (some ⟨gb, 0, none⟩), .pointer (some ⟨gd, 0, none⟩), .pointer (some ⟨gp, 0, none⟩), .pointer (some ⟨gg, 0, none⟩), .pointer (some ⟨gr, 0, none⟩)])) := (by exact Below.setCell (b7.trans (B8.out.mono (by omega))) (by (try simp only []); omega) _); exact ⟨(by refine blk_far (blk_below ?_ B8.out) e8 _; rw [E6.out]; exact blk_far (blk_far q1 e1 _) e4 _), (by refine blk_far (blk_below ?_ B8.out) e9 _; rw [E6.out]; exact blk_far (blk_far q2 e2 _) e5 _), (by refine Kd.R_far (Kd.R_below ?_ B8.out) (fun i hi => (by rw [hi]; exact e10)) _; rw [E6.out]; exact Kd.R_far (Kd.R_far q3 (fun i hi => (by rw [hi]; exact e3)) _) (fun i hi => (by rw [hi]; exact e6)) _), (by refine blk_far (blk_below ?_ B8.out) e11 _; rw [E6.out]; exact blk_far (blk_put q4 0 _ rfl) e7 _), (by refine blk_far (blk_below ?_ B8.out) e12 _; rw [E6.out]; exact blk_put (blk_far K5.out e7.symm _) 0 _ rfl), (by exact blk_put K8.out 0 _ rfl), H0.out _ _ (by rintro i (rfl | rfl | rfl | rfl | rfl | rfl) <;> (try simp only []) <;> omega) b9⟩)); rintro e w10 ⟨rfl, hfin⟩))
  first | go_end0 | ((try simp only [Exit.inBlock, Exit.then]); refine bodyPost_ret (results_none rfl _ _ _) rfl ?_)
  exact ⟨rfl, hfin⟩
end

end Go.Proofs.Ytlhblnphfpijkaa.WalkW
