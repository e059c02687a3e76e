/- What the program's leads answers for rows of digits: the leads of the elimination. No conditions. -/
import Derived.Test.YtlhblnphfpijkaaLeadsK
import Derived.Test.YtlhblnphfpijkaaHandAreRows
import Derived.Test.YtlhblnphfpijkaaAreOut
import Derived.Test.YtlhblnphfpijkaaHandClone
import Derived.Test.YtlhblnphfpijkaaQslicesIndexFuncintintatimplleads1
import Derived.Deep.RegionWith
import Derived.StillTailTactics
namespace Go.Proofs.Ytlhblnphfpijkaa.Q
set_option linter.unusedVariables false
open Go.RowKit Go.Proofs.YtlhblnphfpijkaaW.PrintWords Go.Proofs.YtlhblnphfpijkaaW.PrintLast Go.Proofs.YtlhblnphfpijkaaW.PrintMore
open Go.Proofs.YtlhblnphfpijkaaL Go.Proofs.Ytlhblnphfpijkaa.BoardK Go.Proofs.Ytlhblnphfpijkaa.LeadsK
def impl_leads.f (l0 : List (List Int)) (a1 : Int) : Option (List Int) := if areRowsB l0 a1 = true then some (leadsF a1 (l0.getD 0 []).length l0 [] []) else none
theorem idx_lead : ∀ (x : List Int) (d i : Nat), x.length ≤ 1000 → i + d = x.length → Ev (fun k => slices_IndexFunc_int_int__at_impl_leads_1.l0 k x (x.length : Int) i) (leadOf (x.drop i) i)
  | x, 0, i, hl, hi => by
    rw [List.drop_eq_nil_of_le (by omega)]
    exact Ev.step (f := fun _ => some (-1)) (fun k => by rw [slices_IndexFunc_int_int__at_impl_leads_1.l0, if_neg (by omega)]) (Ev.now _)
  | x, d + 1, i, hl, hi => by
    have w1 := Aside0.mk (show wrap64 ((i : Int) + 1) = ((i + 1 : Nat) : Int) by rw [w64 (by omega) (by omega)]; rfl)
    have hi2 : i < x.length := by omega
    rw [List.drop_eq_getElem_cons hi2, leadOf]
    by_cases h : x[i] = 0
    · rw [if_pos h]
      refine Ev.step (fun k => ?_) (idx_lead x d (i + 1) hl (by omega))
      rw [slices_IndexFunc_int_int__at_impl_leads_1.l0, if_pos (by omega), if_pos (by omega), if_pos (by omega), rd_lt _ _ hi2, impl_leads_1.f, Option.bind_some, if_neg (by simp [h]), w1.out]
    · rw [if_neg h]
      refine Ev.step (f := fun _ => some (i : Int)) (fun k => ?_) (Ev.now _)
      rw [slices_IndexFunc_int_int__at_impl_leads_1.l0, if_pos (by omega), if_pos (by omega), if_pos (by omega), rd_lt _ _ hi2, impl_leads_1.f, Option.bind_some, if_pos (by simp [h])]
set_option maxHeartbeats 16000000 in
set_option maxRecDepth 100000 in
theorem impl_leads.calls (A0 : Option Addr) (c0 : Nat) (l0 : List (List Int)) (a1 : Int) (r : List Int) (w : World) (hr0 : Kd.C (Kd.slice 3 (Kd.int .i64)) w A0 l0.length l0) (hc0 : l0.length ≤ c0) (h : impl_leads.f l0 a1 = some r) :
    Calls Try.prog 79 #[.slice A0 l0.length c0, .int .i64 a1] w fun e w' => ∃ v0_ : Value, e = .returned (v0_) ∧ Kd.R (Kd.int .i64) 3 w' w.heap.size (fun _ => True) v0_ r ∧ Below w.heap.size w w' := by
  by_cases hs : areRowsB l0 a1 = true
  rotate_left
  · rw [impl_leads.f, if_neg hs] at h; cases h
  rw [impl_leads.f, if_pos hs] at h
  have h := Option.some.inj h
  obtain ⟨hq, hl6, hn1, hn6, hdig⟩ := areRows_out hs
  obtain ⟨n, hn⟩ : ∃ n, n = (l0.getD 0 []).length := ⟨_, rfl⟩
  rw [← hn] at h hn1 hn6 hdig
  have HQ := Aside0.mk hq
  have HL := Aside0.mk hl6
  have HN := Aside0.mk (And.intro hn1 hn6)
  have HD := Lib.hid hdig
  have HR := Aside0.mk hr0
  have HC := Aside0.mk hc0
  have HF := Aside0.mk h
  have q0 : (a1 == 0) = false := beq_eq_false_iff_ne.mpr (by omega)
  have q0b : (a1 = 0) = False := eq_false (by omega)
  clear hs h hq hl6 hn1 hn6 hdig hr0 hc0 hn
  go_enter Try.func79, Try.ntmps79
  go_wp2_with (first
    | ((with_reducible refine gate_dst (N := 15) rfl ?_); refine Kd.S_lit (Kd.slice 3 (Kd.int .i64)) _ 22 ?hg (N := 15) ?hd (xs := ([] : List (List Int))) (inner := []) (ok := fun _ => True) (okp := fun _ => True) ?hr ?hp (fun _ hk => hk) trivial (Below.refl _ _) (Nat.le_refl _) (by simp) ?_; (case hd => rfl); (case hg => rfl); (case hr => first | (go_simp; done) | (go_simp; rfl)); (case hp => exact (Reps.none _ _)); intro v15 w15 ho15 hb15 hg_ hnew_; clear hg_ hnew_; have O15 := Aside0.mk ho15; have B15 := Aside0.mk hb15; clear ho15 hb15)
    | ((with_reducible refine gate_dst (N := 16) rfl ?_); refine Kd.R_lit (Kd.int .i64) _ 3 ?hg (N := 16) ?hd (xs := ([] : List Int)) (inner := []) (ok := fun _ => True) (okp := fun _ => True) ?hr ?hp (fun _ hk => hk) trivial (Below.refl _ _) (Nat.le_refl _) (by simp) ?_; (case hd => rfl); (case hg => rfl); (case hr => first | (go_simp; done) | (go_simp; rfl)); (case hp => exact (Reps.none _ _)); intro v16 w16 ho16 hb16 hg_ hnew_; clear hg_ hnew_; have O16 := Aside0.mk ho16; have B16 := Aside0.mk hb16; clear ho16 hb16))
  have ST0 : L0St w v15 v16 [] [] w16 := ⟨Kd.S_below (Kd.S_mono (Kd.S_bound O15.out) (fun k hk e => by have := Kd.R_base O16.out k e.symm; have := hk.2.2.1; omega)) B16.out, Kd.R_lower O16.out B15.out.size, B15.out.trans (B16.out.mono B15.out.size)⟩
  have H0 := Aside0.mk ST0
  clear ST0
  go_loopg [5, 6, 19] l0.length (fun kq v5 v6 v19 w' => ∃ (x : Int) (done : List (List Int)) (out : List Int), v19 = .int .i64 x ∧ Aside0 (∃ i : Nat, x = i ∧ i + kq = l0.length ∧ done.length = i ∧ WFs a1 n done out ∧ leadsF a1 n (l0.drop i) done out = r) ∧ Aside0 (L0St w v5 v6 done out w'))
  case atStart => exact ⟨0, [], [], rfl, ⟨0, rfl, by omega, rfl, ⟨rfl, by simp, by simp⟩, by rw [List.drop_zero]; exact HF.out⟩, H0⟩
  case round =>
    clear O15 B15 O16 B16 H0
    obtain ⟨x, done, out, rfl, HI, HS⟩ := hrel
    by_cases c3 : x < (l0.length : Int)
    · have c4b0 : decide (0 ≤ x) = true := decide_eq_true (by obtain ⟨i, h, _⟩ := HI.out; omega)
      have c3b0 : decide (x < (l0.length : Int)) = true := decide_eq_true c3
      cases gk with
      | zero => exact absurd HI.out (by rintro ⟨i, h, h', _⟩; omega)
      | succ k1 =>
        clear c3
        obtain ⟨row, hrow⟩ : ∃ row, row = rd_L1 l0 x := ⟨_, rfl⟩
        have HX : Aside0 (∃ i : Nat, x = i ∧ i + k1 + 1 = l0.length ∧ done.length = i ∧ WFs a1 n done out ∧ Dig a1 n row ∧ leadsF a1 n (l0.drop (i + 1)) (done ++ [red a1 n done out row]) (out ++ [leadOf (red a1 n done out row) 0]) = r) := ⟨by
          obtain ⟨i, h, h', hd, hw, h3⟩ := HI.out
          have hg : row = l0[i]'(by omega) := by rw [hrow, h]; unfold rd_L1; rw [Int.toNat_natCast]; exact gD_lt _ _ (by omega)
          refine ⟨i, h, by omega, hd, hw, by rw [hg]; exact HD.out _ (List.getElem_mem _), ?_⟩
          rw [List.drop_eq_getElem_cons (by omega), leadsF] at h3
          rw [hg]
          exact h3⟩
        clear HI
        have p103 : 0 ≤ x := of_decide_eq_true (by first | (with_reducible assumption) | assumption)
        have q103 : x < (l0.length : Int) := of_decide_eq_true (by first | (with_reducible assumption) | assumption)
        have HR1 := Aside0.mk (Kd.C_below HR.out HS.out.B)
        obtain ⟨ad103, A103, c103, e103, hx103, hl103, hi103⟩ := at_L1 HR1.out x p103 q103
        cases e103
        rw [← hrow] at hx103 hl103 hi103
        clear hrow
        have HI3 := Aside0.mk hi103
        have HC3 := Aside0.mk hl103
        clear hi103 hl103
        replace p103 := eq_true p103
        replace q103 := eq_true q103
        have hrl : row.length = n := by obtain ⟨i, _, _, _, _, hd, _⟩ := HX.out; exact hd.len
        have HRL := Aside0.mk hrl
        clear hrl
        have CC0 : ∀ W : World, (∃ q, W = wr.drewN q) → Calls Try.prog 107 #[.slice A103 row.length c103] W fun e w' => ∃ (vn : Value), e = .returned vn ∧ LSt w u5 u6 vn done out row w' := by
          rintro W ⟨q, rfl⟩
          have := slices_Clone_int_int.calls A103 c103 row row (wr.drewN q) (Kd.C_drewN HI3.out q) HC3.out (by rw [slices_Clone_int_int.f, if_pos (by have := HRL.out; have := HN.out; omega)])
          exact this.mono (by rintro e w' ⟨v0, rfl, h3, h4⟩; exact ⟨v0, rfl, (HS.out.drewN q).fresh h3 h4⟩)
        have CC := Lib.hid CC0
        clear CC0
        obtain ⟨Ad, cd, hvd⟩ := Kd.S_slice HS.out.d
        obtain ⟨Ao, co, hvo⟩ := Kd.R_slice HS.out.o
        subst hvd
        subst hvo
        go_wp2_with (first | (go_at_call 107; (refine (CC.out _ (by first | exact ⟨0, rfl⟩ | exact ⟨_, rfl⟩)).mono ?_); rintro e wn ⟨vn, rfl, hst⟩; obtain ⟨gn, cn, evn, _, _, _, _⟩ := Kd.R_form hst.n (by have := HRL.out; have := HN.out; omega); rw [HRL.out] at evn; subst evn; have HT := Aside0.mk hst; clear hst))
        obtain ⟨now, hnow⟩ : ∃ now, now = red a1 n done out row := ⟨_, rfl⟩
        rw [← hnow] at HX
        have HW := Aside0.mk (show out.length = done.length ∧ (∀ o ∈ done, Dig a1 n o) ∧ (∀ e ∈ out, e = -1 ∨ (0 ≤ e ∧ e < n)) from by obtain ⟨i, _, _, _, hw, _⟩ := HX.out; exact ⟨hw.len, hw.dig, hw.lead⟩)
        have H1 := Aside0.mk (show Dig a1 n row ∧ red a1 n done out row = now from by obtain ⟨i, _, _, _, _, hd, _⟩ := HX.out; exact ⟨hd, hnow.symm⟩)
        clear hnow CC HS hx103 p103 q103 c4b0 c3b0
        go_loopg [27] out.length (fun kq v27 w' => ∃ (y : Int) (xs : List Int), v27 = .int .i64 y ∧ Aside0 (∃ k : Nat, y = k ∧ k + kq = out.length ∧ Dig a1 n xs ∧ red a1 n (done.drop k) (out.drop k) xs = now) ∧ Aside0 (LSt w (.slice Ad done.length cd) (.slice Ao out.length co) (.slice (some ⟨gn, 0, none⟩) n cn) done out xs w'))
        case atStart => exact ⟨0, row, rfl, ⟨0, rfl, by omega, H1.out.1, by rw [List.drop_zero, List.drop_zero]; exact H1.out.2⟩, HT⟩
        case round =>
          clear HT
          obtain ⟨y, xs, rfl, HY, HS2⟩ := hrel
          by_cases c5 : y < (out.length : Int)
          · have c6b0 : decide (0 ≤ y) = true := decide_eq_true (by obtain ⟨i, h, _⟩ := HY.out; omega)
            have c5b0 : decide (y < (out.length : Int)) = true := decide_eq_true c5
            cases gk with
            | zero => exact absurd HY.out (by rintro ⟨i, h, h', _⟩; omega)
            | succ k2 =>
              have y0 : 0 ≤ y := of_decide_eq_true c6b0
              obtain ⟨go, co2, evo, _, _, _, _⟩ := Kd.R_form HS2.out.o (by omega)
              cases evo
              obtain ⟨gd, cd2, evd, _, _, _, _⟩ := Kd.S_form HS2.out.d (by have := HW.out.1; omega)
              cases evd
              obtain ⟨hx1, _⟩ := Kd.R_celln (0 : Int) HS2.out.o y y0 c5
              obtain ⟨e, he⟩ : ∃ e, e = rdOf 0 out y := ⟨_, rfl⟩
              rw [← he] at hx1
              obtain ⟨o, ho⟩ : ∃ o, o = done.getD y.toNat [] := ⟨_, rfl⟩
              have hod : y.toNat < done.length := by have := HW.out.1; omega
              have HY2 := Aside0.mk (show ∃ k : Nat, y = k ∧ k + k2 + 1 = out.length ∧ Dig a1 n xs ∧ red a1 n (done.drop (k + 1)) (out.drop (k + 1)) (if e = -1 then xs else elimS a1 (Int.tmod (xs.getD e.toNat 0 * o.getD e.toNat 0) a1) o n 0 xs) = now from by
                obtain ⟨k, h1, h2, h3, h4⟩ := HY.out
                refine ⟨k, h1, by omega, h3, ?_⟩
                have e1 : y.toNat = k := by omega
                rw [List.drop_eq_getElem_cons (show k < done.length by omega), List.drop_eq_getElem_cons (show k < out.length by omega), red] at h4
                rw [he, ho]
                unfold rdOf
                rw [e1, gD_lt _ _ (show k < out.length by omega), gD_lt _ _ (show k < done.length by omega)]
                exact h4)
              have HO := Aside0.mk (show Dig a1 n o from by rw [ho, gD_lt _ _ hod]; exact HW.out.2.1 _ (List.getElem_mem _))
              have HE := Aside0.mk (show e = -1 ∨ (0 ≤ e ∧ e < n) from by rw [he]; unfold rdOf; rw [gD_lt _ _ (show y.toNat < out.length by omega)]; exact HW.out.2.2 _ (List.getElem_mem _))
              have HXS := Aside0.mk (show Dig a1 n xs from by obtain ⟨k, _, _, h3, _⟩ := HY.out; exact h3)
              have EW := Aside0.mk (show ∃ k : Nat, wrap64 (y + 1) = ((k + 1 : Nat) : Int) ∧ y = k from by
                obtain ⟨k, h1, h2, _⟩ := HY.out
                have := HL.out
                obtain ⟨i, _, h6, h7, _⟩ := HX.out
                have := HW.out.1
                exact ⟨k, by rw [w64 (by omega) (by omega)]; omega, h1⟩)
              have p1 := eq_true y0
              have q1 := eq_true c5
              have q1b : (y < (done.length : Int)) = True := eq_true (by have := HW.out.1; omega)
              clear HY he c5 y0
              by_cases e1 : e = -1
              · have b1 : (e == -1) = true := beq_iff_eq.mpr e1
                have HN2 := Aside0.mk (show ∃ k : Nat, wrap64 (y + 1) = k ∧ k + k2 = out.length ∧ Dig a1 n xs ∧ red a1 n (done.drop k) (out.drop k) xs = now from by
                  obtain ⟨k, h1, h2, h3, h4⟩ := HY2.out
                  rw [if_pos e1] at h4
                  obtain ⟨k', h5, h6⟩ := EW.out
                  have : k' = k := by omega
                  subst this
                  exact ⟨k' + 1, h5, by omega, h3, h4⟩)
                clear HY2 EW e1 ho hod
                go_wp2
                go_roundg k2
                case measure => omega
                case rel => exact ⟨wrap64 (y + 1), xs, (by first | rfl | (simp; done) | (simp [*]; done)), HN2, ⟨by repeat (first | exact HS2.out | refine LSt.drewN ?_ _ | refine LSt.drew ?_)⟩⟩
              · have b1 : (e == -1) = false := beq_eq_false_iff_ne.mpr e1
                have he2 : 0 ≤ e ∧ e < n := HE.out.resolve_left e1
                obtain ⟨hx2, _⟩ := Kd.R_celln (0 : Int) HS2.out.n e he2.1 he2.2
                obtain ⟨v, hv⟩ : ∃ v, v = rdOf 0 xs e := ⟨_, rfl⟩
                rw [← hv] at hx2
                have hv2 : v = xs.getD e.toNat 0 := hv
                have p2 := eq_true he2.1
                have q2 := eq_true he2.2
                have HY3 := Aside0.mk (show ∃ k : Nat, y = k ∧ k + k2 + 1 = out.length ∧ red a1 n (done.drop (k + 1)) (out.drop (k + 1)) (elimS a1 (Int.tmod (v * o.getD e.toNat 0) a1) o n 0 xs) = now from by
                  obtain ⟨k, h1, h2, h3, h4⟩ := HY2.out
                  rw [if_neg e1] at h4
                  rw [hv2]
                  exact ⟨k, h1, h2, h4⟩)
                clear HY2
                by_cases v0 : v = 0
                · have b2 : (v == 0) = true := beq_iff_eq.mpr v0
                  have HN2 := Aside0.mk (show ∃ k : Nat, wrap64 (y + 1) = k ∧ k + k2 = out.length ∧ Dig a1 n xs ∧ red a1 n (done.drop k) (out.drop k) xs = now from by
                    obtain ⟨k, h1, h2, h4⟩ := HY3.out
                    rw [hv2, red_skip HQ.out HO.out HXS.out (hv2.symm.trans v0)] at h4
                    obtain ⟨k', h5, h6⟩ := EW.out
                    have : k' = k := by omega
                    subst this
                    exact ⟨k' + 1, h5, by omega, HXS.out, h4⟩)
                  clear HY3 EW e1 ho hod v0 hv hv2 he2
                  go_wp2
                  go_roundg k2
                  case measure => omega
                  case rel => exact ⟨wrap64 (y + 1), xs, (by first | rfl | (simp; done) | (simp [*]; done)), HN2, ⟨by repeat (first | exact HS2.out | refine LSt.drewN ?_ _ | refine LSt.drew ?_)⟩⟩
                · have b2 : (v == 0) = false := beq_eq_false_iff_ne.mpr v0
                  obtain ⟨_, ce, hcl, hM, hcc, _, _, _⟩ := Kd.S_elem HS2.out.d [] y (of_eq_true p1) (of_eq_true q1b)
                  rw [← ho] at hM
                  obtain ⟨vi, rfl, hRi⟩ := hM
                  obtain ⟨gi, ci, evi, _, _, _, _⟩ := Kd.R_form hRi (by have := HO.out.len; have := HN.out; omega)
                  rw [HO.out.len] at evi
                  subst evi
                  have hx3 := hcc 0 _ rfl
                  (try simp only [show (Kd.slice 3 (Kd.int .i64)).sz = 1 from rfl, Nat.mul_one, Nat.add_zero] at hx3)
                  obtain ⟨hx4, _⟩ := Kd.R_celln (0 : Int) hRi e he2.1 he2.2
                  obtain ⟨oe, hoe⟩ : ∃ oe, oe = rdOf 0 o e := ⟨_, rfl⟩
                  rw [← hoe] at hx4
                  have hoe2 : oe = o.getD e.toNat 0 := hoe
                  obtain ⟨bq, hbq⟩ : ∃ bq, bq = Int.tmod (v * oe) a1 := ⟨_, rfl⟩
                  have hvd := HXS.out.dig e.toNat
                  have hod2 := HO.out.dig e.toNat
                  rw [← hv2] at hvd
                  rw [← hoe2] at hod2
                  have hq3 := HQ.out
                  have hmul := mul_in hq3 (a := v) (b := oe) (by omega) (by omega)
                  have hw1 : IntKind.i64.wrap (v * oe) = v * oe := by rw [wrap_i64']; exact w64 (by omega) (by omega)
                  have hw2 : Int.tmod (v * oe) a1 = bq := hbq.symm
                  have HBQ := Aside0.mk (show 0 ≤ bq ∧ bq < a1 from by rw [hbq]; exact mod_in hq3 hmul.1)
                  rw [← hoe2, ← hbq] at HY3
                  have HOD := Aside0.mk ho
                  clear hcl hcc hRi e1 v0 hv hv2 he2 hoe hoe2 hbq hvd hod2 hq3 hmul ho
                  obtain ⟨fin, hfin⟩ : ∃ fin, fin = elimS a1 bq o n 0 xs := ⟨_, rfl⟩
                  rw [← hfin] at HY3
                  have HFN := Aside0.mk hfin.symm
                  clear hfin
                  go_wp2
                  go_still (show Try.prog.follows .mixedOrders = true from by kernel_rfl)
                  go_wp2
                  have HLX := Aside0.mk (And.intro HS2.out HXS.out)
                  clear HS2 hx1 hx2 hx3 hx4 p1 q1 q1b p2 q2 HXS b1 b2 hw1 hw2
                  go_loopg [57] n (fun kq v57 w' => ∃ (z : Int) (ys : List Int), v57 = .int .i64 z ∧ Aside0 (∃ c : Nat, z = c ∧ c + kq = n ∧ Dig a1 n ys ∧ elimS a1 bq o (n - c) c ys = fin) ∧ Aside0 (LSt w (.slice (some ⟨gd, 0, none⟩) done.length cd) (.slice (some ⟨go, 0, none⟩) out.length co) (.slice (some ⟨gn, 0, none⟩) n cn) done out ys w'))
                  case atStart => exact ⟨0, xs, rfl, ⟨0, rfl, by omega, HLX.out.2, by rw [Nat.sub_zero]; exact HFN.out⟩, ⟨by repeat (first | exact HLX.out.1 | refine LSt.drewN ?_ _ | refine LSt.drew ?_)⟩⟩
                  case round =>
                    clear HLX
                    obtain ⟨z, ys, rfl, HZ, HS3⟩ := hrel
                    by_cases c7 : z < (n : Int)
                    · have c8b0 : decide (0 ≤ z) = true := decide_eq_true (by obtain ⟨i, h, _⟩ := HZ.out; omega)
                      have c7b0 : decide (z < (n : Int)) = true := decide_eq_true c7
                      cases gk with
                      | zero => exact absurd HZ.out (by rintro ⟨i, h, h', _⟩; omega)
                      | succ k3 =>
                        have z0 : 0 ≤ z := of_decide_eq_true c8b0
                        obtain ⟨hx5, hf5⟩ := Kd.R_celln (0 : Int) HS3.out.n z z0 c7
                        have hyd : y < (done.length : Int) := by obtain ⟨k, h1, h2, _⟩ := HY3.out; have := HW.out.1; omega
                        have hy0 : 0 ≤ y := by obtain ⟨k, h1, h2, _⟩ := HY3.out; omega
                        obtain ⟨_, ce, hcl, hM, hcc, _, _, _⟩ := Kd.S_elem HS3.out.d [] y hy0 hyd
                        rw [← HOD.out] at hM
                        obtain ⟨vi, rfl, hRi⟩ := hM
                        obtain ⟨gi2, ci2, evi, _, _, _, _⟩ := Kd.R_form hRi (by have := HO.out.len; have := HN.out; omega)
                        rw [HO.out.len] at evi
                        subst evi
                        have hx6 := hcc 0 _ rfl
                        (try simp only [show (Kd.slice 3 (Kd.int .i64)).sz = 1 from rfl, Nat.mul_one, Nat.add_zero] at hx6)
                        obtain ⟨hx7, _⟩ := Kd.R_celln (0 : Int) hRi z z0 c7
                        obtain ⟨yz, hyz⟩ : ∃ yz, yz = rdOf 0 ys z := ⟨_, rfl⟩
                        rw [← hyz] at hx5
                        have hyz2 : yz = ys.getD z.toNat 0 := hyz
                        obtain ⟨oz, hoz⟩ : ∃ oz, oz = rdOf 0 o z := ⟨_, rfl⟩
                        rw [← hoz] at hx7
                        have hoz2 : oz = o.getD z.toNat 0 := hoz
                        have hYS : Dig a1 n ys := by obtain ⟨c, _, _, h3, _⟩ := HZ.out; exact h3
                        have hvd := hYS.dig z.toNat
                        have hod2 := HO.out.dig z.toNat
                        rw [← hyz2] at hvd
                        rw [← hoz2] at hod2
                        have hq3 := HQ.out
                        have hb3 := HBQ.out
                        have hmul := mul_in hq3 (a := a1 - bq) (b := oz) (by omega) (by omega)
                        obtain ⟨E, hE⟩ : ∃ E, E = Int.tmod (yz + (a1 - bq) * oz) a1 := ⟨_, rfl⟩
                        have hw1 : IntKind.i64.wrap (a1 - bq) = a1 - bq := by rw [wrap_i64']; exact w64 (by omega) (by omega)
                        have hw2 : IntKind.i64.wrap ((a1 - bq) * oz) = (a1 - bq) * oz := by rw [wrap_i64']; exact w64 (by omega) (by omega)
                        have hw3 : IntKind.i64.wrap (yz + (a1 - bq) * oz) = yz + (a1 - bq) * oz := by rw [wrap_i64']; exact w64 (by omega) (by omega)
                        have hw4 : Int.tmod (yz + (a1 - bq) * oz) a1 = E := hE.symm
                        have HZ2 := Aside0.mk (show ∃ c : Nat, wrap64 (z + 1) = c ∧ c + k3 = n ∧ Dig a1 n (ys.set z.toNat E) ∧ elimS a1 bq o (n - c) c (ys.set z.toNat E) = fin from by
                          obtain ⟨c, h1, h2, h3, h4⟩ := HZ.out
                          have e1 : z.toNat = c := by omega
                          have hn6 := HN.out
                          have hs : ys.set z.toNat E = ys.set c (Int.tmod (ys.getD c 0 + (a1 - bq) * o.getD c 0) a1) := by rw [hE, hyz2, hoz2, e1]
                          rw [hs]
                          rw [show n - c = (n - (c + 1)) + 1 by omega, elimS] at h4
                          exact ⟨c + 1, by rw [w64 (by omega) (by omega)]; omega, by omega, Dig.step hq3 hb3 HO.out h3 (by omega), h4⟩)
                        have p5 := eq_true z0
                        have q5 := eq_true c7
                        have p6 := eq_true hy0
                        have q6 := eq_true hyd
                        have q6b : (y.toNat < done.length) = True := eq_true (by omega)
                        clear HZ c7 z0 hy0 hyd hcl hcc hRi hyz hyz2 hoz hoz2 hYS hvd hod2 hq3 hb3 hmul hE
                        go_wp2
                        go_still_tail 21, (show Try.prog.follows .mixedOrders = true from by kernel_rfl)
                        go_wp2
                        go_roundg k3
                        case measure => omega
                        case rel => exact ⟨wrap64 (z + 1), ys.set z.toNat E, (by first | rfl | (simp; done) | (simp [*]; done)), HZ2, ⟨LSt.drew (LSt.put HS3.out z.toNat E)⟩⟩
                    · have c7b0 : decide (z < (n : Int)) = false := decide_eq_false c7
                      have HN3 := Aside0.mk (show ∃ k : Nat, wrap64 (y + 1) = k ∧ k + k2 = out.length ∧ Dig a1 n ys ∧ red a1 n (done.drop k) (out.drop k) ys = now from by
                        obtain ⟨c, h1, h2, h3, h4⟩ := HZ.out
                        rw [show n - c = 0 by omega, elimS] at h4
                        obtain ⟨k, h5, h6, h7⟩ := HY3.out
                        obtain ⟨k', h8, h9⟩ := EW.out
                        have : k' = k := by omega
                        subst this
                        rw [← h4] at h7
                        exact ⟨k' + 1, h8, by omega, h3, h7⟩)
                      clear HZ c7 HY3 EW
                      go_wp2
                      go_roundg k2
                      case measure => omega
                      case rel => exact ⟨wrap64 (y + 1), ys, (by first | rfl | (simp; done) | (simp [*]; done)), HN3, ⟨by repeat (first | exact HS3.out | refine LSt.drewN ?_ _ | refine LSt.drew ?_)⟩⟩
          · have c5b0 : decide (y < (out.length : Int)) = false := decide_eq_false c5
            have HX4 := Aside0.mk (show Dig a1 n xs ∧ xs = now from by
              obtain ⟨k, h1, h2, h3, h4⟩ := HY.out
              have := HW.out.1
              rw [List.drop_eq_nil_of_le (by omega), red] at h4
              · exact ⟨h3, h4⟩
              · intro _ _ _ _ h _; cases h)
            obtain ⟨ld, hld⟩ : ∃ ld, ld = leadOf now 0 := ⟨_, rfl⟩
            have HLD := Aside0.mk hld
            obtain ⟨kx, hkx⟩ := (idx_lead xs xs.length 0 (by have := HX4.out.1.len; have := HN.out; omega) (by omega)).rounds
            rw [List.drop_zero, HX4.out.2] at hkx
            have hkx2 : slices_IndexFunc_int_int__at_impl_leads_1.f kx now = some ld := by rw [hld]; exact hkx
            have hnl : now.length = n := by rw [← HX4.out.2]; exact HX4.out.1.len
            have HNL := Aside0.mk hnl
            have HS4 := Aside0.mk (show LSt w (.slice Ad done.length cd) (.slice Ao out.length co) (.slice (some ⟨gn, 0, none⟩) n cn) done out now wr from by have := HS2.out; rw [HX4.out.2] at this; exact this)
            have CI0 : ∀ W : World, (∃ q, W = wr.drewN q) → Calls Try.prog 108 #[.slice (some ⟨gn, 0, none⟩) n cn, .func (.func 109) #[] #[]] W fun e w' => e = .returned (.int .i64 ld) ∧ LSt w (.slice Ad done.length cd) (.slice Ao out.length co) (.slice (some ⟨gn, 0, none⟩) n cn) done out now w' := by
              rintro W ⟨q, rfl⟩
              have hrd := Kd.R_reads' HS4.out.n
              have := slices_IndexFunc_int_int__at_impl_leads_1.calls kx (some ⟨gn, 0, none⟩) cn now ld (wr.drewN q) (Kd.C_drewN hrd.2.2 q) (by rw [hnl]; exact hrd.2.1) hkx2
              rw [hnl] at this
              exact this.mono (by rintro e w' ⟨rfl, ⟨m, rfl⟩⟩; exact ⟨rfl, (HS4.out.drewN q).drewN m⟩)
            have CI := Lib.hid CI0
            have HK := Aside0.mk (show ∃ i : Nat, wrap64 (x + 1) = i ∧ i + k1 = l0.length ∧ done.length + 1 = i ∧ WFs a1 n (done ++ [now]) (out ++ [ld]) ∧ leadsF a1 n (l0.drop i) (done ++ [now]) (out ++ [ld]) = r from by
              obtain ⟨i, h1, h2, h3, h4, h5, h6⟩ := HX.out
              have := HL.out
              rw [← hld] at h6
              have hw := h4.snoc (x := now) (by rw [← HX4.out.2]; exact HX4.out.1)
              rw [← hld] at hw
              exact ⟨i + 1, by rw [w64 (by omega) (by omega)]; omega, by omega, by omega, hw, h6⟩)
            have HDL := Aside0.mk (show done.length ≤ 6 ∧ out.length ≤ 6 from by obtain ⟨i, h1, h2, h3, _⟩ := HX.out; have := HL.out; have := HW.out.1; omega)
            clear HY c5 hld hkx hkx2 hnl CI0 HS2 HX HX4 HW H1
            go_wp2_with (first
              | (go_at_call 108; (refine (CI.out _ (by first | exact ⟨0, rfl⟩ | exact ⟨_, rfl⟩)).mono ?_); rintro e wi ⟨rfl, hst⟩; have HS5 := Aside0.mk hst; clear hst)
              | ((with_reducible refine gate_builtin (b := .append) (xs := #[.tmp 85, .tmp 87]) rfl ?_); at_builtin; refine Kd.S_append (Kd.slice 3 (Kd.int .i64)) (w0 := w) w.heap.size rfl (.tmp 85) (.tmp 87) 23 22 (.slice none 0 0) 24 rfl Try.underlying23 info22 rfl (by decide) (by omega) (.slice Ad done.length cd) done now [.slice (some ⟨gn, 0, none⟩) n cn] (fun k => some k ≠ (Value.slice Ao out.length co).ownBlock) (fun k => some k = (Value.slice (some ⟨gn, 0, none⟩) n cn).ownBlock) rfl rfl ?aP HS5.out.okp ?aF ?aO ?aB ?aS ?aL ?_; (case aP => exact Kd.M_row (Kd.R_tight rfl HS5.out.n)); (case aF => exact HS5.out.frsh); (case aO => exact (Kd.S_mono HS5.out.d (fun k hk => ⟨hk.1, hk.2⟩))); (case aB => exact HS5.out.B); (case aS => exact HS5.out.B.size); (case aL => have := HDL.out; omega); intro vd1 wa hs hb hg hat; have HS6 := Aside0.mk (HS5.out.append hs hb hg); clear hs hb hg hat)
              | ((with_reducible refine gate_builtin (b := .append) (xs := #[.tmp 89, .tmp 91]) rfl ?_); at_builtin; refine Kd.R_append (Kd.int .i64) (w0 := w) w.heap.size rfl (.tmp 89) (.tmp 91) 22 3 (.int .i64 0) 8 rfl Try.underlying22 info3 rfl (by decide) (by omega) (.slice Ao out.length co) out ld [.int .i64 ld] (fun _ => True) (fun _ => False) rfl rfl ?aP (fun _ hk => hk.elim) (fun _ _ => trivial) ?aO ?aB ?aS ?aL ?_; (case aP => exact rfl); (case aO => exact HS6.out.o); (case aB => exact HS6.out.B); (case aS => exact HS6.out.B.size); (case aL => have := HDL.out; omega); intro vo1 wb hr hb hg hat; have HS7 := Aside0.mk (HS6.out.lead hr hb hg hat); clear hr hb hg hat))
            go_roundg k1
            case measure => omega
            case rel =>
              obtain ⟨i, h1, h2, h3, h4, h5⟩ := HK.out
              exact ⟨wrap64 (x + 1), done ++ [now], out ++ [ld], (by first | rfl | (simp; done) | (simp [*]; done)), ⟨i, h1, h2, by rw [List.length_append]; exact h3, h4, h5⟩, HS7⟩
    · have c3b0 : decide (x < (l0.length : Int)) = false := decide_eq_false c3
      have HE := Aside0.mk (show out = r from by
        obtain ⟨i, h1, h2, h3, h4, h5⟩ := HI.out
        rw [List.drop_eq_nil_of_le (by omega), leadsF] at h5
        exact h5)
      clear c3 HI
      go_wp2
      go_ret
      exact ⟨_, rfl, by rw [← HE.out]; exact HS.out.o, HS.out.B⟩
end Go.Proofs.Ytlhblnphfpijkaa.Q
