/- Texts of this claim put together (6): words, what the functions compute, and plain facts. No conditions. -/
import Derived.Test.YtadkkcdhgepbkaaSFnMatricesOfRanks4
import Derived.Test.YtadkkcdhgepbkaaSFnMatricesOfRanks5
import Derived.Deep.RegionWith
import Derived.StillTailTactics
import Derived.Test.YtadkkcdhgepbkaaSFnMatricesOfRanks0
section
namespace Go.Proofs.Ytadkkcdhgepbkaa.Q
set_option linter.unusedVariables false
open Go.RowKit Go.Proofs.YtadkkcdhgepbkaaW.PrintWords Go.Proofs.YtadkkcdhgepbkaaW.PrintLast Go.Proofs.YtadkkcdhgepbkaaW.PrintMore
open Go.Proofs.YtadkkcdhgepbkaaL Go.Proofs.Ytadkkcdhgepbkaa.BoardK Go.Proofs.Ytadkkcdhgepbkaa.LeadsK
def impl_leads.f (l0 : List (List Int)) (a1 : Int) : Option (List Int) := if areRowsB l0 a1 = true then some (leadsF a1 (l0.getD 0 []).length l0 [] []) else none
theorem idx_lead : ∀ (x : List Int) (d i : Nat), x.length ≤ 1000 → i + d = x.length → Ev (fun k => slices_IndexFunc_int_int__at_impl_leads_1.l0 k x (x.length : Int) i) (leadOf (x.drop i) i)
  | x, 0, i, hl, hi => by
    rw [List.drop_eq_nil_of_le (by omega)]
    exact Ev.step (f := fun _ => some (-1)) (fun k => by rw [slices_IndexFunc_int_int__at_impl_leads_1.l0, if_neg (by omega)]) (Ev.now _)
  | x, d + 1, i, hl, hi => by
    have w1 := Aside0.mk (show wrap64 ((i : Int) + 1) = ((i + 1 : Nat) : Int) by rw [w64 (by omega) (by omega)]; rfl)
    have hi2 : i < x.length := by omega
    rw [List.drop_eq_getElem_cons hi2, leadOf]
    by_cases h : x[i] = 0
    · rw [if_pos h]
      refine Ev.step (fun k => ?_) (idx_lead x d (i + 1) hl (by omega))
      rw [slices_IndexFunc_int_int__at_impl_leads_1.l0, if_pos (by omega), if_pos (by omega), if_pos (by omega), rd_lt _ _ hi2, impl_leads_1.f, Option.bind_some, if_neg (by simp [h]), w1.out]
    · rw [if_neg h]
      refine Ev.step (f := fun _ => some (i : Int)) (fun k => ?_) (Ev.now _)
      rw [slices_IndexFunc_int_int__at_impl_leads_1.l0, if_pos (by omega), if_pos (by omega), if_pos (by omega), rd_lt _ _ hi2, impl_leads_1.f, Option.bind_some, if_pos (by simp [h])]
set_option maxHeartbeats 16000000 in
set_option maxRecDepth 100000 in
theorem impl_leads.calls (A0 : Option Addr) (c0 : Nat) (l0 : List (List Int)) (a1 : Int) (r : List Int) (w : World) (hr0 : Kd.C (Kd.slice 3 (Kd.int .i64)) w A0 l0.length l0) (hc0 : l0.length ≤ c0) (h : impl_leads.f l0 a1 = some r) :
    Calls Try.prog 37 #[.slice A0 l0.length c0, .int .i64 a1] w fun e w' => ∃ v0_ : Value, e = .returned (v0_) ∧ Kd.R (Kd.int .i64) 3 w' w.heap.size (fun _ => True) v0_ r ∧ Below w.heap.size w w' := by
  by_cases hs : areRowsB l0 a1 = true
  rotate_left
  · rw [impl_leads.f, if_neg hs] at h; cases h
  rw [impl_leads.f, if_pos hs] at h
  have h := Option.some.inj h
  obtain ⟨hq, hl6, hn1, hn6, hdig⟩ := areRows_out hs
  obtain ⟨n, hn⟩ : ∃ n, n = (l0.getD 0 []).length := ⟨_, rfl⟩
  rw [← hn] at h hn1 hn6 hdig
  have HQ := Aside0.mk hq
  have HL := Aside0.mk hl6
  have HN := Aside0.mk (And.intro hn1 hn6)
  have HD := Lib.hid hdig
  have HR := Aside0.mk hr0
  have HC := Aside0.mk hc0
  have HF := Aside0.mk h
  have q0 : (a1 == 0) = false := beq_eq_false_iff_ne.mpr (by omega)
  have q0b : (a1 = 0) = False := eq_false (by omega)
  clear hs h hq hl6 hn1 hn6 hdig hr0 hc0 hn
  go_enter Try.func37, Try.ntmps37
  go_wp2_with (first
    | ((with_reducible refine gate_dst (N := 15) rfl ?_); refine Kd.S_lit (Kd.slice 3 (Kd.int .i64)) _ 29 ?hg (N := 15) ?hd (xs := ([] : List (List Int))) (inner := []) (ok := fun _ => True) (okp := fun _ => True) ?hr ?hp (fun _ hk => hk) trivial (Below.refl _ _) (Nat.le_refl _) (by simp) ?_; (case hd => rfl); (case hg => rfl); (case hr => first | (go_simp; done) | (go_simp; rfl)); (case hp => exact (Reps.none _ _)); intro v15 w15 ho15 hb15 hg_ hnew_; clear hg_ hnew_; have O15 := Aside0.mk ho15; have B15 := Aside0.mk hb15; clear ho15 hb15)
    | ((with_reducible refine gate_dst (N := 16) rfl ?_); refine Kd.R_lit (Kd.int .i64) _ 3 ?hg (N := 16) ?hd (xs := ([] : List Int)) (inner := []) (ok := fun _ => True) (okp := fun _ => True) ?hr ?hp (fun _ hk => hk) trivial (Below.refl _ _) (Nat.le_refl _) (by simp) ?_; (case hd => rfl); (case hg => rfl); (case hr => first | (go_simp; done) | (go_simp; rfl)); (case hp => exact (Reps.none _ _)); intro v16 w16 ho16 hb16 hg_ hnew_; clear hg_ hnew_; have O16 := Aside0.mk ho16; have B16 := Aside0.mk hb16; clear ho16 hb16))
  have ST0 : L0St w v15 v16 [] [] w16 := ⟨Kd.S_below (Kd.S_mono (Kd.S_bound O15.out) (fun k hk e => by have := Kd.R_base O16.out k e.symm; have := hk.2.2.1; omega)) B16.out, Kd.R_lower O16.out B15.out.size, B15.out.trans (B16.out.mono B15.out.size)⟩
  have H0 := Aside0.mk ST0
  clear ST0
  go_loopg [5, 6, 19] l0.length (fun kq v5 v6 v19 w' => ∃ (x : Int) (done : List (List Int)) (out : List Int), v19 = .int .i64 x ∧ Aside0 (∃ i : Nat, x = i ∧ i + kq = l0.length ∧ done.length = i ∧ WFs a1 n done out ∧ leadsF a1 n (l0.drop i) done out = r) ∧ Aside0 (L0St w v5 v6 done out w'))
  case atStart => exact ⟨0, [], [], rfl, ⟨0, rfl, by omega, rfl, ⟨rfl, by simp, by simp⟩, by rw [List.drop_zero]; exact HF.out⟩, H0⟩
  case round =>
    clear O15 B15 O16 B16 H0
    obtain ⟨x, done, out, rfl, HI, HS⟩ := hrel
    by_cases c3 : x < (l0.length : Int)
    · have c4b0 : decide (0 ≤ x) = true := decide_eq_true (by obtain ⟨i, h, _⟩ := HI.out; omega)
      have c3b0 : decide (x < (l0.length : Int)) = true := decide_eq_true c3
      cases gk with
      | zero => exact absurd HI.out (by rintro ⟨i, h, h', _⟩; omega)
      | succ k1 =>
        clear c3
        obtain ⟨row, hrow⟩ : ∃ row, row = rd_L2 l0 x := ⟨_, rfl⟩
        have HX : Aside0 (∃ i : Nat, x = i ∧ i + k1 + 1 = l0.length ∧ done.length = i ∧ WFs a1 n done out ∧ Dig a1 n row ∧ leadsF a1 n (l0.drop (i + 1)) (done ++ [red a1 n done out row]) (out ++ [leadOf (red a1 n done out row) 0]) = r) := ⟨by
          obtain ⟨i, h, h', hd, hw, h3⟩ := HI.out
          have hg : row = l0[i]'(by omega) := by rw [hrow, h]; unfold rd_L2; rw [Int.toNat_natCast]; exact gD_lt _ _ (by omega)
          refine ⟨i, h, by omega, hd, hw, by rw [hg]; exact HD.out _ (List.getElem_mem _), ?_⟩
          rw [List.drop_eq_getElem_cons (by omega), leadsF] at h3
          rw [hg]
          exact h3⟩
        clear HI
        have p103 : 0 ≤ x := of_decide_eq_true (by first | (with_reducible assumption) | assumption)
        have q103 : x < (l0.length : Int) := of_decide_eq_true (by first | (with_reducible assumption) | assumption)
        have HR1 := Aside0.mk (Kd.C_below HR.out HS.out.B)
        obtain ⟨ad103, A103, c103, e103, hx103, hl103, hi103⟩ := at_L2 HR1.out x p103 q103
        cases e103
        rw [← hrow] at hx103 hl103 hi103
        clear hrow
        have HI3 := Aside0.mk hi103
        have HC3 := Aside0.mk hl103
        clear hi103 hl103
        replace p103 := eq_true p103
        replace q103 := eq_true q103
        have hrl : row.length = n := by obtain ⟨i, _, _, _, _, hd, _⟩ := HX.out; exact hd.len
        have HRL := Aside0.mk hrl
        clear hrl
        have CC0 : ∀ W : World, (∃ q, W = wr.drewN q) → Calls Try.prog 66 #[.slice A103 row.length c103] W fun e w' => ∃ (vn : Value), e = .returned vn ∧ LSt w u5 u6 vn done out row w' := by
          rintro W ⟨q, rfl⟩
          have := slices_Clone_int_int.calls A103 c103 row row (wr.drewN q) (Kd.C_drewN HI3.out q) HC3.out (by rw [slices_Clone_int_int.f, if_pos (by have := HRL.out; have := HN.out; omega)])
          exact this.mono (by rintro e w' ⟨v0, rfl, h3, h4⟩; exact ⟨v0, rfl, (HS.out.drewN q).fresh h3 h4⟩)
        have CC := Lib.hid CC0
        clear CC0
        obtain ⟨Ad, cd, hvd⟩ := Kd.S_slice HS.out.d
        obtain ⟨Ao, co, hvo⟩ := Kd.R_slice HS.out.o
        subst hvd
        subst hvo
        go_wp2_with (first | (go_at_call 66; (refine (CC.out _ (by first | exact ⟨0, rfl⟩ | exact ⟨_, rfl⟩)).mono ?_); rintro e wn ⟨vn, rfl, hst⟩; obtain ⟨gn, cn, evn, _, _, _, _⟩ := Kd.R_form hst.n (by have := HRL.out; have := HN.out; omega); rw [HRL.out] at evn; subst evn; have HT := Aside0.mk hst; clear hst))
        obtain ⟨now, hnow⟩ : ∃ now, now = red a1 n done out row := ⟨_, rfl⟩
        rw [← hnow] at HX
        have HW := Aside0.mk (show out.length = done.length ∧ (∀ o ∈ done, Dig a1 n o) ∧ (∀ e ∈ out, e = -1 ∨ (0 ≤ e ∧ e < n)) from by obtain ⟨i, _, _, _, hw, _⟩ := HX.out; exact ⟨hw.len, hw.dig, hw.lead⟩)
        have H1 := Aside0.mk (show Dig a1 n row ∧ red a1 n done out row = now from by obtain ⟨i, _, _, _, _, hd, _⟩ := HX.out; exact ⟨hd, hnow.symm⟩)
        clear hnow CC HS hx103 p103 q103 c4b0 c3b0
        go_loopg [27] out.length (fun kq v27 w' => ∃ (y : Int) (xs : List Int), v27 = .int .i64 y ∧ Aside0 (∃ k : Nat, y = k ∧ k + kq = out.length ∧ Dig a1 n xs ∧ red a1 n (done.drop k) (out.drop k) xs = now) ∧ Aside0 (LSt w (.slice Ad done.length cd) (.slice Ao out.length co) (.slice (some ⟨gn, 0, none⟩) n cn) done out xs w'))
        case atStart => exact ⟨0, row, rfl, ⟨0, rfl, by omega, H1.out.1, by rw [List.drop_zero, List.drop_zero]; exact H1.out.2⟩, HT⟩
        case round =>
          clear HT
          obtain ⟨y, xs, rfl, HY, HS2⟩ := hrel
          by_cases c5 : y < (out.length : Int)
          · have c6b0 : decide (0 ≤ y) = true := decide_eq_true (by obtain ⟨i, h, _⟩ := HY.out; omega)
            have c5b0 : decide (y < (out.length : Int)) = true := decide_eq_true c5
            cases gk with
            | zero => exact absurd HY.out (by rintro ⟨i, h, h', _⟩; omega)
            | succ k2 =>
              have y0 : 0 ≤ y := of_decide_eq_true c6b0
              obtain ⟨go, co2, evo, _, _, _, _⟩ := Kd.R_form HS2.out.o (by omega)
              cases evo
              obtain ⟨gd, cd2, evd, _, _, _, _⟩ := Kd.S_form HS2.out.d (by have := HW.out.1; omega)
              cases evd
              obtain ⟨hx1, _⟩ := Kd.R_celln (0 : Int) HS2.out.o y y0 c5
              obtain ⟨e, he⟩ : ∃ e, e = rdOf 0 out y := ⟨_, rfl⟩
              rw [← he] at hx1
              obtain ⟨o, ho⟩ : ∃ o, o = done.getD y.toNat [] := ⟨_, rfl⟩
              have hod : y.toNat < done.length := by have := HW.out.1; omega
              have HY2 := Aside0.mk (show ∃ k : Nat, y = k ∧ k + k2 + 1 = out.length ∧ Dig a1 n xs ∧ red a1 n (done.drop (k + 1)) (out.drop (k + 1)) (if e = -1 then xs else elimS a1 (Int.tmod (xs.getD e.toNat 0 * o.getD e.toNat 0) a1) o n 0 xs) = now from by
                obtain ⟨k, h1, h2, h3, h4⟩ := HY.out
                refine ⟨k, h1, by omega, h3, ?_⟩
                have e1 : y.toNat = k := by omega
                rw [List.drop_eq_getElem_cons (show k < done.length by omega), List.drop_eq_getElem_cons (show k < out.length by omega), red] at h4
                rw [he, ho]
                unfold rdOf
                rw [e1, gD_lt _ _ (show k < out.length by omega), gD_lt _ _ (show k < done.length by omega)]
                exact h4)
              have HO := Aside0.mk (show Dig a1 n o from by rw [ho, gD_lt _ _ hod]; exact HW.out.2.1 _ (List.getElem_mem _))
              have HE := Aside0.mk (show e = -1 ∨ (0 ≤ e ∧ e < n) from by rw [he]; unfold rdOf; rw [gD_lt _ _ (show y.toNat < out.length by omega)]; exact HW.out.2.2 _ (List.getElem_mem _))
              have HXS := Aside0.mk (show Dig a1 n xs from by obtain ⟨k, _, _, h3, _⟩ := HY.out; exact h3)
              have EW := Aside0.mk (show ∃ k : Nat, wrap64 (y + 1) = ((k + 1 : Nat) : Int) ∧ y = k from by
                obtain ⟨k, h1, h2, _⟩ := HY.out
                have := HL.out
                obtain ⟨i, _, h6, h7, _⟩ := HX.out
                have := HW.out.1
                exact ⟨k, by rw [w64 (by omega) (by omega)]; omega, h1⟩)
              have p1 := eq_true y0
              have q1 := eq_true c5
              have q1b : (y < (done.length : Int)) = True := eq_true (by have := HW.out.1; omega)
              clear HY he c5 y0
              by_cases e1 : e = -1
              · have b1 : (e == -1) = true := beq_iff_eq.mpr e1
                have HN2 := Aside0.mk (show ∃ k : Nat, wrap64 (y + 1) = k ∧ k + k2 = out.length ∧ Dig a1 n xs ∧ red a1 n (done.drop k) (out.drop k) xs = now from by
                  obtain ⟨k, h1, h2, h3, h4⟩ := HY2.out
                  rw [if_pos e1] at h4
                  obtain ⟨k', h5, h6⟩ := EW.out
                  have : k' = k := by omega
                  subst this
                  exact ⟨k' + 1, h5, by omega, h3, h4⟩)
                clear HY2 EW e1 ho hod
                go_wp2
                go_roundg k2
                case measure => omega
                case rel => exact ⟨wrap64 (y + 1), xs, (by first | rfl | (simp; done) | (simp [*]; done)), HN2, ⟨by repeat (first | exact HS2.out | refine LSt.drewN ?_ _ | refine LSt.drew ?_)⟩⟩
              · have b1 : (e == -1) = false := beq_eq_false_iff_ne.mpr e1
                have he2 : 0 ≤ e ∧ e < n := HE.out.resolve_left e1
                obtain ⟨hx2, _⟩ := Kd.R_celln (0 : Int) HS2.out.n e he2.1 he2.2
                obtain ⟨v, hv⟩ : ∃ v, v = rdOf 0 xs e := ⟨_, rfl⟩
                rw [← hv] at hx2
                have hv2 : v = xs.getD e.toNat 0 := hv
                have p2 := eq_true he2.1
                have q2 := eq_true he2.2
                have HY3 := Aside0.mk (show ∃ k : Nat, y = k ∧ k + k2 + 1 = out.length ∧ red a1 n (done.drop (k + 1)) (out.drop (k + 1)) (elimS a1 (Int.tmod (v * o.getD e.toNat 0) a1) o n 0 xs) = now from by
                  obtain ⟨k, h1, h2, h3, h4⟩ := HY2.out
                  rw [if_neg e1] at h4
                  rw [hv2]
                  exact ⟨k, h1, h2, h4⟩)
                clear HY2
                by_cases v0 : v = 0
                · have b2 : (v == 0) = true := beq_iff_eq.mpr v0
                  have HN2 := Aside0.mk (show ∃ k : Nat, wrap64 (y + 1) = k ∧ k + k2 = out.length ∧ Dig a1 n xs ∧ red a1 n (done.drop k) (out.drop k) xs = now from by
                    obtain ⟨k, h1, h2, h4⟩ := HY3.out
                    rw [hv2, red_skip HQ.out HO.out HXS.out (hv2.symm.trans v0)] at h4
                    obtain ⟨k', h5, h6⟩ := EW.out
                    have : k' = k := by omega
                    subst this
                    exact ⟨k' + 1, h5, by omega, HXS.out, h4⟩)
                  clear HY3 EW e1 ho hod v0 hv hv2 he2
                  go_wp2
                  go_roundg k2
                  case measure => omega
                  case rel => exact ⟨wrap64 (y + 1), xs, (by first | rfl | (simp; done) | (simp [*]; done)), HN2, ⟨by repeat (first | exact HS2.out | refine LSt.drewN ?_ _ | refine LSt.drew ?_)⟩⟩
                · have b2 : (v == 0) = false := beq_eq_false_iff_ne.mpr v0
                  obtain ⟨_, ce, hcl, hM, hcc, _, _, _⟩ := Kd.S_elem HS2.out.d [] y (of_eq_true p1) (of_eq_true q1b)
                  rw [← ho] at hM
                  obtain ⟨vi, rfl, hRi⟩ := hM
                  obtain ⟨gi, ci, evi, _, _, _, _⟩ := Kd.R_form hRi (by have := HO.out.len; have := HN.out; omega)
                  rw [HO.out.len] at evi
                  subst evi
                  have hx3 := hcc 0 _ rfl
                  (try simp only [show (Kd.slice 3 (Kd.int .i64)).sz = 1 from rfl, Nat.mul_one, Nat.add_zero] at hx3)
                  obtain ⟨hx4, _⟩ := Kd.R_celln (0 : Int) hRi e he2.1 he2.2
                  obtain ⟨oe, hoe⟩ : ∃ oe, oe = rdOf 0 o e := ⟨_, rfl⟩
                  rw [← hoe] at hx4
                  have hoe2 : oe = o.getD e.toNat 0 := hoe
                  obtain ⟨bq, hbq⟩ : ∃ bq, bq = Int.tmod (v * oe) a1 := ⟨_, rfl⟩
                  have hvd := HXS.out.dig e.toNat
                  have hod2 := HO.out.dig e.toNat
                  rw [← hv2] at hvd
                  rw [← hoe2] at hod2
                  have hq3 := HQ.out
                  have hmul := mul_in hq3 (a := v) (b := oe) (by omega) (by omega)
                  have hw1 : IntKind.i64.wrap (v * oe) = v * oe := by rw [wrap_i64']; exact w64 (by omega) (by omega)
                  have hw2 : Int.tmod (v * oe) a1 = bq := hbq.symm
                  have HBQ := Aside0.mk (show 0 ≤ bq ∧ bq < a1 from by rw [hbq]; exact mod_in hq3 hmul.1)
                  rw [← hoe2, ← hbq] at HY3
                  have HOD := Aside0.mk ho
                  clear hcl hcc hRi e1 v0 hv hv2 he2 hoe hoe2 hbq hvd hod2 hq3 hmul ho
                  obtain ⟨fin, hfin⟩ : ∃ fin, fin = elimS a1 bq o n 0 xs := ⟨_, rfl⟩
                  rw [← hfin] at HY3
                  have HFN := Aside0.mk hfin.symm
                  clear hfin
                  go_wp2
                  go_still (show Try.prog.follows .mixedOrders = true from by kernel_rfl)
                  go_wp2
                  have HLX := Aside0.mk (And.intro HS2.out HXS.out)
                  clear HS2 hx1 hx2 hx3 hx4 p1 q1 q1b p2 q2 HXS b1 b2 hw1 hw2
                  go_loopg [57] n (fun kq v57 w' => ∃ (z : Int) (ys : List Int), v57 = .int .i64 z ∧ Aside0 (∃ c : Nat, z = c ∧ c + kq = n ∧ Dig a1 n ys ∧ elimS a1 bq o (n - c) c ys = fin) ∧ Aside0 (LSt w (.slice (some ⟨gd, 0, none⟩) done.length cd) (.slice (some ⟨go, 0, none⟩) out.length co) (.slice (some ⟨gn, 0, none⟩) n cn) done out ys w'))
                  case atStart => exact ⟨0, xs, rfl, ⟨0, rfl, by omega, HLX.out.2, by rw [Nat.sub_zero]; exact HFN.out⟩, ⟨by repeat (first | exact HLX.out.1 | refine LSt.drewN ?_ _ | refine LSt.drew ?_)⟩⟩
                  case round =>
                    clear HLX
                    obtain ⟨z, ys, rfl, HZ, HS3⟩ := hrel
                    by_cases c7 : z < (n : Int)
                    · have c8b0 : decide (0 ≤ z) = true := decide_eq_true (by obtain ⟨i, h, _⟩ := HZ.out; omega)
                      have c7b0 : decide (z < (n : Int)) = true := decide_eq_true c7
                      cases gk with
                      | zero => exact absurd HZ.out (by rintro ⟨i, h, h', _⟩; omega)
                      | succ k3 =>
                        have z0 : 0 ≤ z := of_decide_eq_true c8b0
                        obtain ⟨hx5, hf5⟩ := Kd.R_celln (0 : Int) HS3.out.n z z0 c7
                        have hyd : y < (done.length : Int) := by obtain ⟨k, h1, h2, _⟩ := HY3.out; have := HW.out.1; omega
                        have hy0 : 0 ≤ y := by obtain ⟨k, h1, h2, _⟩ := HY3.out; omega
                        obtain ⟨_, ce, hcl, hM, hcc, _, _, _⟩ := Kd.S_elem HS3.out.d [] y hy0 hyd
                        rw [← HOD.out] at hM
                        obtain ⟨vi, rfl, hRi⟩ := hM
                        obtain ⟨gi2, ci2, evi, _, _, _, _⟩ := Kd.R_form hRi (by have := HO.out.len; have := HN.out; omega)
                        rw [HO.out.len] at evi
                        subst evi
                        have hx6 := hcc 0 _ rfl
                        (try simp only [show (Kd.slice 3 (Kd.int .i64)).sz = 1 from rfl, Nat.mul_one, Nat.add_zero] at hx6)
                        obtain ⟨hx7, _⟩ := Kd.R_celln (0 : Int) hRi z z0 c7
                        obtain ⟨yz, hyz⟩ : ∃ yz, yz = rdOf 0 ys z := ⟨_, rfl⟩
                        rw [← hyz] at hx5
                        have hyz2 : yz = ys.getD z.toNat 0 := hyz
                        obtain ⟨oz, hoz⟩ : ∃ oz, oz = rdOf 0 o z := ⟨_, rfl⟩
                        rw [← hoz] at hx7
                        have hoz2 : oz = o.getD z.toNat 0 := hoz
                        have hYS : Dig a1 n ys := by obtain ⟨c, _, _, h3, _⟩ := HZ.out; exact h3
                        have hvd := hYS.dig z.toNat
                        have hod2 := HO.out.dig z.toNat
                        rw [← hyz2] at hvd
                        rw [← hoz2] at hod2
                        have hq3 := HQ.out
                        have hb3 := HBQ.out
                        have hmul := mul_in hq3 (a := a1 - bq) (b := oz) (by omega) (by omega)
                        obtain ⟨E, hE⟩ : ∃ E, E = Int.tmod (yz + (a1 - bq) * oz) a1 := ⟨_, rfl⟩
                        have hw1 : IntKind.i64.wrap (a1 - bq) = a1 - bq := by rw [wrap_i64']; exact w64 (by omega) (by omega)
                        have hw2 : IntKind.i64.wrap ((a1 - bq) * oz) = (a1 - bq) * oz := by rw [wrap_i64']; exact w64 (by omega) (by omega)
                        have hw3 : IntKind.i64.wrap (yz + (a1 - bq) * oz) = yz + (a1 - bq) * oz := by rw [wrap_i64']; exact w64 (by omega) (by omega)
                        have hw4 : Int.tmod (yz + (a1 - bq) * oz) a1 = E := hE.symm
                        have HZ2 := Aside0.mk (show ∃ c : Nat, wrap64 (z + 1) = c ∧ c + k3 = n ∧ Dig a1 n (ys.set z.toNat E) ∧ elimS a1 bq o (n - c) c (ys.set z.toNat E) = fin from by
                          obtain ⟨c, h1, h2, h3, h4⟩ := HZ.out
                          have e1 : z.toNat = c := by omega
                          have hn6 := HN.out
                          have hs : ys.set z.toNat E = ys.set c (Int.tmod (ys.getD c 0 + (a1 - bq) * o.getD c 0) a1) := by rw [hE, hyz2, hoz2, e1]
                          rw [hs]
                          rw [show n - c = (n - (c + 1)) + 1 by omega, elimS] at h4
                          exact ⟨c + 1, by rw [w64 (by omega) (by omega)]; omega, by omega, Dig.step hq3 hb3 HO.out h3 (by omega), h4⟩)
                        have p5 := eq_true z0
                        have q5 := eq_true c7
                        have p6 := eq_true hy0
                        have q6 := eq_true hyd
                        have q6b : (y.toNat < done.length) = True := eq_true (by omega)
                        clear HZ c7 z0 hy0 hyd hcl hcc hRi hyz hyz2 hoz hoz2 hYS hvd hod2 hq3 hb3 hmul hE
                        go_wp2
                        go_still_tail 21, (show Try.prog.follows .mixedOrders = true from by kernel_rfl)
                        go_wp2
                        go_roundg k3
                        case measure => omega
                        case rel => exact ⟨wrap64 (z + 1), ys.set z.toNat E, (by first | rfl | (simp; done) | (simp [*]; done)), HZ2, ⟨LSt.drew (LSt.put HS3.out z.toNat E)⟩⟩
                    · have c7b0 : decide (z < (n : Int)) = false := decide_eq_false c7
                      have HN3 := Aside0.mk (show ∃ k : Nat, wrap64 (y + 1) = k ∧ k + k2 = out.length ∧ Dig a1 n ys ∧ red a1 n (done.drop k) (out.drop k) ys = now from by
                        obtain ⟨c, h1, h2, h3, h4⟩ := HZ.out
                        rw [show n - c = 0 by omega, elimS] at h4
                        obtain ⟨k, h5, h6, h7⟩ := HY3.out
                        obtain ⟨k', h8, h9⟩ := EW.out
                        have : k' = k := by omega
                        subst this
                        rw [← h4] at h7
                        exact ⟨k' + 1, h8, by omega, h3, h7⟩)
                      clear HZ c7 HY3 EW
                      go_wp2
                      go_roundg k2
                      case measure => omega
                      case rel => exact ⟨wrap64 (y + 1), ys, (by first | rfl | (simp; done) | (simp [*]; done)), HN3, ⟨by repeat (first | exact HS3.out | refine LSt.drewN ?_ _ | refine LSt.drew ?_)⟩⟩
          · have c5b0 : decide (y < (out.length : Int)) = false := decide_eq_false c5
            have HX4 := Aside0.mk (show Dig a1 n xs ∧ xs = now from by
              obtain ⟨k, h1, h2, h3, h4⟩ := HY.out
              have := HW.out.1
              rw [List.drop_eq_nil_of_le (by omega), red] at h4
              · exact ⟨h3, h4⟩
              · intro _ _ _ _ h _; cases h)
            obtain ⟨ld, hld⟩ : ∃ ld, ld = leadOf now 0 := ⟨_, rfl⟩
            have HLD := Aside0.mk hld
            obtain ⟨kx, hkx⟩ := (idx_lead xs xs.length 0 (by have := HX4.out.1.len; have := HN.out; omega) (by omega)).rounds
            rw [List.drop_zero, HX4.out.2] at hkx
            have hkx2 : slices_IndexFunc_int_int__at_impl_leads_1.f kx now = some ld := by rw [hld]; exact hkx
            have hnl : now.length = n := by rw [← HX4.out.2]; exact HX4.out.1.len
            have HNL := Aside0.mk hnl
            have HS4 := Aside0.mk (show LSt w (.slice Ad done.length cd) (.slice Ao out.length co) (.slice (some ⟨gn, 0, none⟩) n cn) done out now wr from by have := HS2.out; rw [HX4.out.2] at this; exact this)
            have CI0 : ∀ W : World, (∃ q, W = wr.drewN q) → Calls Try.prog 67 #[.slice (some ⟨gn, 0, none⟩) n cn, .func (.func 68) #[] #[]] W fun e w' => e = .returned (.int .i64 ld) ∧ LSt w (.slice Ad done.length cd) (.slice Ao out.length co) (.slice (some ⟨gn, 0, none⟩) n cn) done out now w' := by
              rintro W ⟨q, rfl⟩
              have hrd := Kd.R_reads' HS4.out.n
              have := slices_IndexFunc_int_int__at_impl_leads_1.calls kx (some ⟨gn, 0, none⟩) cn now ld (wr.drewN q) (Kd.C_drewN hrd.2.2 q) (by rw [hnl]; exact hrd.2.1) hkx2
              rw [hnl] at this
              exact this.mono (by rintro e w' ⟨rfl, ⟨m, rfl⟩⟩; exact ⟨rfl, (HS4.out.drewN q).drewN m⟩)
            have CI := Lib.hid CI0
            have HK := Aside0.mk (show ∃ i : Nat, wrap64 (x + 1) = i ∧ i + k1 = l0.length ∧ done.length + 1 = i ∧ WFs a1 n (done ++ [now]) (out ++ [ld]) ∧ leadsF a1 n (l0.drop i) (done ++ [now]) (out ++ [ld]) = r from by
              obtain ⟨i, h1, h2, h3, h4, h5, h6⟩ := HX.out
              have := HL.out
              rw [← hld] at h6
              have hw := h4.snoc (x := now) (by rw [← HX4.out.2]; exact HX4.out.1)
              rw [← hld] at hw
              exact ⟨i + 1, by rw [w64 (by omega) (by omega)]; omega, by omega, by omega, hw, h6⟩)
            have HDL := Aside0.mk (show done.length ≤ 6 ∧ out.length ≤ 6 from by obtain ⟨i, h1, h2, h3, _⟩ := HX.out; have := HL.out; have := HW.out.1; omega)
            clear HY c5 hld hkx hkx2 hnl CI0 HS2 HX HX4 HW H1
            go_wp2_with (first
              | (go_at_call 67; (refine (CI.out _ (by first | exact ⟨0, rfl⟩ | exact ⟨_, rfl⟩)).mono ?_); rintro e wi ⟨rfl, hst⟩; have HS5 := Aside0.mk hst; clear hst)
              | ((with_reducible refine gate_builtin (b := .append) (xs := #[.tmp 85, .tmp 87]) rfl ?_); at_builtin; refine Kd.S_append (Kd.slice 3 (Kd.int .i64)) (w0 := w) w.heap.size rfl (.tmp 85) (.tmp 87) 24 29 (.slice none 0 0) 24 rfl Try.underlying24 info29 rfl (by decide) (by omega) (.slice Ad done.length cd) done now [.slice (some ⟨gn, 0, none⟩) n cn] (fun k => some k ≠ (Value.slice Ao out.length co).ownBlock) (fun k => some k = (Value.slice (some ⟨gn, 0, none⟩) n cn).ownBlock) rfl rfl ?aP HS5.out.okp ?aF ?aO ?aB ?aS ?aL ?_; (case aP => exact Kd.M_row (Kd.R_tight rfl HS5.out.n)); (case aF => exact HS5.out.frsh); (case aO => exact (Kd.S_mono HS5.out.d (fun k hk => ⟨hk.1, hk.2⟩))); (case aB => exact HS5.out.B); (case aS => exact HS5.out.B.size); (case aL => have := HDL.out; omega); intro vd1 wa hs hb hg hat; have HS6 := Aside0.mk (HS5.out.append hs hb hg); clear hs hb hg hat)
              | ((with_reducible refine gate_builtin (b := .append) (xs := #[.tmp 89, .tmp 91]) rfl ?_); at_builtin; refine Kd.R_append (Kd.int .i64) (w0 := w) w.heap.size rfl (.tmp 89) (.tmp 91) 29 3 (.int .i64 0) 8 rfl Try.underlying29 info3 rfl (by decide) (by omega) (.slice Ao out.length co) out ld [.int .i64 ld] (fun _ => True) (fun _ => False) rfl rfl ?aP (fun _ hk => hk.elim) (fun _ _ => trivial) ?aO ?aB ?aS ?aL ?_; (case aP => exact rfl); (case aO => exact HS6.out.o); (case aB => exact HS6.out.B); (case aS => exact HS6.out.B.size); (case aL => have := HDL.out; omega); intro vo1 wb hr hb hg hat; have HS7 := Aside0.mk (HS6.out.lead hr hb hg hat); clear hr hb hg hat))
            go_roundg k1
            case measure => omega
            case rel =>
              obtain ⟨i, h1, h2, h3, h4, h5⟩ := HK.out
              exact ⟨wrap64 (x + 1), done ++ [now], out ++ [ld], (by first | rfl | (simp; done) | (simp [*]; done)), ⟨i, h1, h2, by rw [List.length_append]; exact h3, h4, h5⟩, HS7⟩
    · have c3b0 : decide (x < (l0.length : Int)) = false := decide_eq_false c3
      have HE := Aside0.mk (show out = r from by
        obtain ⟨i, h1, h2, h3, h4, h5⟩ := HI.out
        rw [List.drop_eq_nil_of_le (by omega), leadsF] at h5
        exact h5)
      clear c3 HI
      go_wp2
      go_ret
      exact ⟨_, rfl, by rw [← HE.out]; exact HS.out.o, HS.out.B⟩
end Go.Proofs.Ytadkkcdhgepbkaa.Q
end
section
namespace Go.Proofs.Ytadkkcdhgepbkaa.Q
open Go.RowKit Go.Proofs.YtadkkcdhgepbkaaW.PrintWords Go.Proofs.YtadkkcdhgepbkaaW.PrintLast Go.Proofs.YtadkkcdhgepbkaaW.PrintMore
attribute [local go_sem] max2_int min2_int max_two min_two max_three min_three max_four min_four   -- for this text's walks alone
set_option linter.unusedVariables false
set_option linter.unusedSimpArgs false
def impl_rank.f (k:Nat) (l0:List (List Int)) (a1:Int):Option (Int):=(impl_leads.f l0 a1).bind fun t101=>((impl_rooks.f k t101).bind fun t104=>(some t104))
set_option maxHeartbeats 8000000 in
set_option maxRecDepth 100000 in
theorem impl_rank.calls (k:Nat) (A0:Option Addr) (c0:Nat) (l0:List (List Int)) (a1:Int) (r:Int) (w:World) (hr0:Kd.C (Kd.slice 3 (Kd.int .i64)) w A0 l0.length l0) (hc0:l0.length≤c0) (h:impl_rank.f k l0 a1=some r) :
  Calls Try.prog 33 #[.slice A0 l0.length c0,.int .i64 a1] w fun e w'=>e=.returned (.int .i64 r)∧Below w.heap.size w w':=by
 have HR0:=za hr0;have HC0:=za hc0;clear hr0 hc0;have HB:=za (Below.refl w.heap.size w);have H:((impl_leads.f l0 a1).bind fun t101=>((impl_rooks.f k t101).bind fun t104=>(some t104)))=some r:=h;clear h;obtain ⟨t101,A3,H⟩:=bindAside H;(try dsimp only at H);obtain ⟨t104,A4,H⟩:=bindAside H;(try dsimp only at H);obtain rfl:=Option.some.inj H;(go_enter Try.func33,Try.ntmps33);(go_wp2_with (first|((with_reducible refine zh (f:=37) rfl ?_);refine goesL_ (some 7) rfl rfl Try.func37 (by kernel_rfl) rfl #[.slice A0 l0.length c0,.int .i64 a1] rfl (by first|rfl|simp only [z3_,z4_,z5_];try rfl) ?_;(with_reducible refine (impl_leads.calls _ _ l0 a1 t101 _ ?side1 ?side2 A3.out).mono ?_);(case side1=>repeat (first|exact HR0.out|(with_reducible refine zi ?_ _)|(with_reducible refine zj ?_ _)|(with_reducible refine zk ?_)));(case side2=>exact HC0.out);rintro e w5 ⟨v102,rfl,ho0,hb⟩;refine ⟨_,rfl,?_⟩;have HO103:=za (Kd.R_lower ho0 (zr (by repeat (first|(with_reducible first|exact HB.out|apply zc|apply zd|apply zb)|exact HB.out))));replace HB:=za (below_step (by repeat (first|(with_reducible first|exact HB.out|apply zc|apply zd|apply zb)|exact HB.out)) hb);obtain ⟨Ao6,co6,eo6⟩:=Kd.R_slice HO103.out;subst eo6)|((with_reducible refine zh (f:=64) rfl ?_);refine goesL_ (some 8) rfl rfl Try.func64 (by kernel_rfl) rfl #[.slice Ao6 t101.length co6] rfl (by first|rfl|simp only [z3_,z4_,z5_];try rfl) ?_;(with_reducible refine (impl_rooks.calls k _ _ t101 t104 _ ?side1 ?side2 A4.out).mono ?_);(case side1=>repeat (first|exact (zl HO103.out).2.2|(with_reducible refine zi ?_ _)|(with_reducible refine zj ?_ _)|(with_reducible refine zk ?_)));(case side2=>exact (zl HO103.out).2.1);rintro e w' ⟨rfl,⟨nd,rfl⟩⟩;refine ⟨_,rfl,?_⟩)));(go_ret);exact ⟨by first|rfl|simp [*,errW_none,errW_some] <;> rfl,by repeat (first|(with_reducible first|exact HB.out|apply zc|apply zd|apply zb)|exact HB.out)⟩
end Go.Proofs.Ytadkkcdhgepbkaa.Q
end
section
namespace Go.Proofs.Ytadkkcdhgepbkaa.Q
open Go.RowKit Go.Proofs.YtadkkcdhgepbkaaW.PrintWords Go.Proofs.YtadkkcdhgepbkaaW.PrintLast Go.Proofs.YtadkkcdhgepbkaaW.PrintMore
attribute [local go_sem] max2_int min2_int max_two min_two max_three min_three max_four min_four   -- for this text's walks alone
set_option linter.unusedVariables false
set_option linter.unusedSimpArgs false
def cmp_isNaN_int.f (a0:Int):Option (Bool):=some (a0 != a0)
set_option maxHeartbeats 8000000 in
set_option maxRecDepth 100000 in
theorem cmp_isNaN_int.calls (a0:Int) (r:Bool) (w:World) (h:cmp_isNaN_int.f a0=some r) :
  Calls Try.prog 85 #[.int .i64 a0] w fun e w'=>e=.returned (.bool r)∧Drawn0 w w':=by
 have H:(some (a0 != a0))=some r:=h;clear h;obtain rfl:=Option.some.inj H;(go_enter Try.func85,Try.ntmps85);(go_wp2);(go_ret);exact ⟨by first|rfl|(simp;done)|(simp [*];done),by repeat (first|exact Drawn0.refl _|apply Drawn0.step)⟩
end Go.Proofs.Ytadkkcdhgepbkaa.Q
end
section
namespace Go.Proofs.Ytadkkcdhgepbkaa.Q
open Go.RowKit Go.Proofs.YtadkkcdhgepbkaaW.PrintWords Go.Proofs.YtadkkcdhgepbkaaW.PrintLast Go.Proofs.YtadkkcdhgepbkaaW.PrintMore
attribute [local go_sem] max2_int min2_int max_two min_two max_three min_three max_four min_four   -- for this text's walks alone
set_option linter.unusedVariables false
set_option linter.unusedSimpArgs false
def cmp_Less_int.f (a0:Int) (a1:Int):Option (Bool):=(cmp_isNaN_int.f a0).bind fun t101=>(if t101=true then ((cmp_isNaN_int.f a1).bind fun t102=>(if t102=true then (some (decide (a0 < a1))) else (some true))) else (some (decide (a0 < a1))))
set_option maxHeartbeats 8000000 in
set_option maxRecDepth 100000 in
theorem cmp_Less_int.calls (a0:Int) (a1:Int) (r:Bool) (w:World) (h:cmp_Less_int.f a0 a1=some r) :
  Calls Try.prog 79 #[.int .i64 a0,.int .i64 a1] w fun e w'=>e=.returned (.bool r)∧Drawn0 w w':=by
 have H:((cmp_isNaN_int.f a0).bind fun t101=>(if t101=true then ((cmp_isNaN_int.f a1).bind fun t102=>(if t102=true then (some (decide (a0 < a1))) else (some true))) else (some (decide (a0 < a1)))))=some r:=h;clear h;obtain ⟨t101,A3,H⟩:=bindAside H;(try dsimp only at H);by_cases c4:t101=true
 ·
  subst c4;(have H1:((cmp_isNaN_int.f a1).bind fun t102=>(if t102=true then (some (decide (a0 < a1))) else (some true)))=some r:=by rw [if_pos rfl] at H;exact H);clear H;have H:=H1;clear H1;obtain ⟨t102,A5,H⟩:=bindAside H;(try dsimp only at H);by_cases c6:t102=true
  · subst c6;(have H1:(some (decide (a0 < a1)))=some r:=by rw [if_pos rfl] at H;exact H);clear H;have H:=H1;clear H1;obtain rfl:=Option.some.inj H;(go_enter Try.func79,Try.ntmps79);(go_wp2_with (first|((with_reducible refine zh (f:=85) rfl ?_);refine goesL_ (some 6) rfl rfl Try.func85 (by kernel_rfl) rfl #[.int .i64 a0] rfl (by first|rfl|simp only [z3_,z4_,z5_];try rfl) ?_;(with_reducible refine (cmp_isNaN_int.calls a0 true _ A3.out).mono ?_);rintro e w' ⟨rfl,⟨nd,rfl⟩⟩;refine ⟨_,rfl,?_⟩)|(go_at_call 85;(with_reducible refine (cmp_isNaN_int.calls a1 true _ A5.out).mono ?_);rintro e w' ⟨rfl,⟨nd,rfl⟩⟩)));(go_ret);exact ⟨by first|rfl|(simp;done)|(simp [*];done),by repeat (first|exact Drawn0.refl _|apply Drawn0.step)⟩
  · replace c6:=Bool.eq_false_iff.mpr c6;subst c6;(have H1:(some true)=some r:=by rw [if_neg (show ¬ (false=true) by decide)] at H;exact H);clear H;have H:=H1;clear H1;obtain rfl:=Option.some.inj H;(go_enter Try.func79,Try.ntmps79);(go_wp2_with (first|((with_reducible refine zh (f:=85) rfl ?_);refine goesL_ (some 6) rfl rfl Try.func85 (by kernel_rfl) rfl #[.int .i64 a0] rfl (by first|rfl|simp only [z3_,z4_,z5_];try rfl) ?_;(with_reducible refine (cmp_isNaN_int.calls a0 true _ A3.out).mono ?_);rintro e w' ⟨rfl,⟨nd,rfl⟩⟩;refine ⟨_,rfl,?_⟩)|(go_at_call 85;(with_reducible refine (cmp_isNaN_int.calls a1 false _ A5.out).mono ?_);rintro e w' ⟨rfl,⟨nd,rfl⟩⟩)));(go_ret);exact ⟨by first|rfl|(simp;done)|(simp [*];done),by repeat (first|exact Drawn0.refl _|apply Drawn0.step)⟩
 · replace c4:=Bool.eq_false_iff.mpr c4;subst c4;(have H1:(some (decide (a0 < a1)))=some r:=by rw [if_neg (show ¬ (false=true) by decide)] at H;exact H);clear H;have H:=H1;clear H1;obtain rfl:=Option.some.inj H;(go_enter Try.func79,Try.ntmps79);(go_wp2_with (first|((with_reducible refine zh (f:=85) rfl ?_);refine goesL_ (some 6) rfl rfl Try.func85 (by kernel_rfl) rfl #[.int .i64 a0] rfl (by first|rfl|simp only [z3_,z4_,z5_];try rfl) ?_;(with_reducible refine (cmp_isNaN_int.calls a0 false _ A3.out).mono ?_);rintro e w' ⟨rfl,⟨nd,rfl⟩⟩;refine ⟨_,rfl,?_⟩)));(go_ret);exact ⟨by first|rfl|(simp;done)|(simp [*];done),by repeat (first|exact Drawn0.refl _|apply Drawn0.step)⟩
end Go.Proofs.Ytadkkcdhgepbkaa.Q
end
section
namespace Go.Proofs.Ytadkkcdhgepbkaa.Q
open Go.RowKit Go.Proofs.YtadkkcdhgepbkaaW.PrintWords Go.Proofs.YtadkkcdhgepbkaaW.PrintLast Go.Proofs.YtadkkcdhgepbkaaW.PrintMore
attribute [local go_sem] max2_int min2_int max_two min_two max_three min_three max_four min_four   -- for this text's walks alone
set_option linter.unusedVariables false
set_option linter.unusedSimpArgs false
def slices_IsSorted_int_int.l0:Nat→List Int→Int→Option (Bool)
|0,_,_=>none
|k + 1,x0,x3=>if x3 > 0 then (if 0≤x3 then (if x3 < (x0.length:Int) then (if 0≤(wrap64 (x3 - 1)) then (if (wrap64 (x3 - 1)) < (x0.length:Int) then ((cmp_Less_int.f (rd x0 x3) (rd x0 (wrap64 (x3 - 1)))).bind fun t103=>(if t103=true then (some false) else (slices_IsSorted_int_int.l0 k x0 (wrap64 (x3 - 1))))) else (none)) else (none)) else (none)) else (none)) else (some true)
def slices_IsSorted_int_int.f (k:Nat) (l0:List Int):Option (Bool):=slices_IsSorted_int_int.l0 k l0 (wrap64 ((l0.length:Int) - 1))
set_option maxHeartbeats 8000000 in
set_option maxRecDepth 100000 in
theorem slices_IsSorted_int_int.calls (k:Nat) (A0:Option Addr) (c0:Nat) (l0:List Int) (r:Bool) (w:World) (hr0:Kd.C (Kd.int .i64) w A0 l0.length l0) (hc0:l0.length≤c0) (h:slices_IsSorted_int_int.f k l0=some r) :
  Calls Try.prog 71 #[.slice A0 l0.length c0] w fun e w'=>e=.returned (.bool r)∧Drawn0 w w':=by
 have HR0:=za hr0;have HC0:=za hc0;clear hr0 hc0;have H:(slices_IsSorted_int_int.l0 k l0 (wrap64 ((l0.length:Int) - 1)))=some r:=h;clear h;have H':=za H;clear H;(go_enter Try.func71,Try.ntmps71);(go_wp2);(repeat (go_quiet (fail);try go_wp2));(go_loopg [3] k (fun kq v3 w'=>∃ (x3_1:Int),v3=.int .i64 x3_1∧Aside0 (slices_IsSorted_int_int.l0 kq l0 x3_1=some r)∧Aside0 (kq≤k)∧Drawn0 w w'));case atStart=>exact ⟨(wrap64 ((l0.length:Int) - 1)),(by first|rfl|(simp;done)|(simp [*];done)),H',⟨Nat.le_refl _⟩,by repeat (first|exact Drawn0.refl _|apply Drawn0.step)⟩
 case round =>
  clear H';obtain ⟨x3_1,rfl,HA,HK1,⟨m1,rfl⟩⟩:=hrel
  cases gk with
 |zero=>exact absurd HA.out (by simp [slices_IsSorted_int_int.l0])
 |succ k1 =>
   have H:=HA.out;clear HA;simp only [slices_IsSorted_int_int.l0] at H;by_cases c2:x3_1 > 0
   ·
    rw [if_pos c2] at H;have c2b0:decide (0 < x3_1)=true:=decide_eq_true c2;clear c2;by_cases c3:0≤x3_1
    ·
     rw [if_pos c3] at H;have c3b0:decide (0≤x3_1)=true:=decide_eq_true c3;clear c3;by_cases c4:x3_1 < (l0.length:Int)
     ·
      rw [if_pos c4] at H;have c4b0:decide (x3_1 < (l0.length:Int))=true:=decide_eq_true c4;clear c4;obtain ⟨ji5,hji5⟩:∃ j_:Int,(wrap64 (x3_1 - 1))=j_:=⟨_,rfl⟩;(replace H:(if 0≤(ji5) then (if (ji5) < (l0.length:Int) then ((cmp_Less_int.f (rd l0 x3_1) (rd l0 (ji5))).bind fun t103=>(if t103=true then (some false) else (slices_IsSorted_int_int.l0 k1 l0 ji5))) else (none)) else (none))=some r:=by first|(rw [hji5] at H;exact H)|(simp only [hji5] at H ⊢;exact H));have hji5w:(IntKind.i64.wrap (x3_1 - 1))=ji5:=(i64_w _).trans hji5;by_cases c6:0≤(ji5)
      ·
       rw [if_pos c6] at H;have c6b0:decide (0≤(ji5))=true:=decide_eq_true c6;clear c6;by_cases c7:(ji5) < (l0.length:Int)
       ·
        rw [if_pos c7] at H;have c7b0:decide ((ji5) < (l0.length:Int))=true:=decide_eq_true c7;clear c7;obtain ⟨t103,A8,H⟩:=bindAside H;(try dsimp only at H);by_cases c9:t103=true
        · subst c9;(have H1:(some false)=some r:=by rw [if_pos rfl] at H;exact H);clear H;have H:=H1;clear H1;obtain rfl:=Option.some.inj H;have p101:0≤(x3_1:Int):=of_decide_eq_true ‹_›;have q101:x3_1 < (l0.length:Int):=of_decide_eq_true ‹_›;obtain ⟨ad101,e101,hx101_0⟩:=Kd.at_int HR0.out x3_1 p101 q101;cases e101;replace p101:=eq_true p101;replace q101:=eq_true q101;have p102:0≤((ji5):Int):=of_decide_eq_true ‹_›;have q102:(ji5) < (l0.length:Int):=of_decide_eq_true ‹_›;obtain ⟨ad102,e102,hx102_0⟩:=Kd.at_int HR0.out (ji5) p102 q102;obtain rfl:ad101=ad102:=(by injection e102);replace p102:=eq_true p102;replace q102:=eq_true q102;(go_wp2_with (first|(go_at_call 79;(with_reducible refine (cmp_Less_int.calls (rd l0 x3_1) (rd l0 (ji5)) true _ A8.out).mono ?_);rintro e w' ⟨rfl,⟨nd,rfl⟩⟩;(try first|exact ⟨rfl,_,World.drewN_drewN _ _ _⟩|exact ⟨rfl,_,Eq.trans (World.drewN_drewN _ _ _) (congrArg (World.drewN _) (Nat.add_assoc _ _ _))⟩))));(repeat (go_quiet (first|(go_at_call 79;(with_reducible refine (cmp_Less_int.calls (rd l0 x3_1) (rd l0 (ji5)) true _ A8.out).mono ?_);rintro e w' ⟨rfl,⟨nd,rfl⟩⟩;(try first|exact ⟨rfl,_,World.drewN_drewN _ _ _⟩|exact ⟨rfl,_,Eq.trans (World.drewN_drewN _ _ _) (congrArg (World.drewN _) (Nat.add_assoc _ _ _))⟩)));try go_wp2_with (first|(go_at_call 79;(with_reducible refine (cmp_Less_int.calls (rd l0 x3_1) (rd l0 (ji5)) true _ A8.out).mono ?_);rintro e w' ⟨rfl,⟨nd,rfl⟩⟩;(try first|exact ⟨rfl,_,World.drewN_drewN _ _ _⟩|exact ⟨rfl,_,Eq.trans (World.drewN_drewN _ _ _) (congrArg (World.drewN _) (Nat.add_assoc _ _ _))⟩)))));(go_ret);exact ⟨by first|rfl|(simp;done)|(simp only [← hji5] <;> (first|rfl|simp))|(simp [*];done),by repeat (first|exact Drawn0.refl _|apply Drawn0.step)⟩
        · replace c9:=Bool.eq_false_iff.mpr c9;subst c9;(have H1:(slices_IsSorted_int_int.l0 k1 l0 ji5)=some r:=by rw [if_neg (show ¬ (false=true) by decide)] at H;exact H);clear H;have H:=H1;clear H1;have H':=za H;clear H;have p101:0≤(x3_1:Int):=of_decide_eq_true ‹_›;have q101:x3_1 < (l0.length:Int):=of_decide_eq_true ‹_›;obtain ⟨ad101,e101,hx101_0⟩:=Kd.at_int HR0.out x3_1 p101 q101;cases e101;replace p101:=eq_true p101;replace q101:=eq_true q101;have p102:0≤((ji5):Int):=of_decide_eq_true ‹_›;have q102:(ji5) < (l0.length:Int):=of_decide_eq_true ‹_›;obtain ⟨ad102,e102,hx102_0⟩:=Kd.at_int HR0.out (ji5) p102 q102;obtain rfl:ad101=ad102:=(by injection e102);replace p102:=eq_true p102;replace q102:=eq_true q102;(go_wp2_with (first|(go_at_call 79;(with_reducible refine (cmp_Less_int.calls (rd l0 x3_1) (rd l0 (ji5)) false _ A8.out).mono ?_);rintro e w' ⟨rfl,⟨nd,rfl⟩⟩;(try first|exact ⟨rfl,_,World.drewN_drewN _ _ _⟩|exact ⟨rfl,_,Eq.trans (World.drewN_drewN _ _ _) (congrArg (World.drewN _) (Nat.add_assoc _ _ _))⟩))));(repeat (go_quiet (first|(go_at_call 79;(with_reducible refine (cmp_Less_int.calls (rd l0 x3_1) (rd l0 (ji5)) false _ A8.out).mono ?_);rintro e w' ⟨rfl,⟨nd,rfl⟩⟩;(try first|exact ⟨rfl,_,World.drewN_drewN _ _ _⟩|exact ⟨rfl,_,Eq.trans (World.drewN_drewN _ _ _) (congrArg (World.drewN _) (Nat.add_assoc _ _ _))⟩)));try go_wp2_with (first|(go_at_call 79;(with_reducible refine (cmp_Less_int.calls (rd l0 x3_1) (rd l0 (ji5)) false _ A8.out).mono ?_);rintro e w' ⟨rfl,⟨nd,rfl⟩⟩;(try first|exact ⟨rfl,_,World.drewN_drewN _ _ _⟩|exact ⟨rfl,_,Eq.trans (World.drewN_drewN _ _ _) (congrArg (World.drewN _) (Nat.add_assoc _ _ _))⟩)))));(go_roundg k1);(case measure=>have:=HK1.out;omega);case rel=>exact ⟨(ji5),(by first|rfl|(simp;done)|(simp only [← hji5] <;> (first|rfl|simp))|(simp [*];done)),H',⟨by have:=HK1.out;omega⟩,by repeat (first|exact Drawn0.refl _|apply Drawn0.step)⟩
       · rw [if_neg c7] at H;exact absurd H (by simp)
      · rw [if_neg c6] at H;exact absurd H (by simp)
     · rw [if_neg c4] at H;exact absurd H (by simp)
    · rw [if_neg c3] at H;exact absurd H (by simp)
   · rw [if_neg c2] at H;have c2b0:decide (0 < x3_1)=false:=decide_eq_false c2;clear c2;obtain rfl:=Option.some.inj H;(go_wp2);(repeat (go_quiet (fail);try go_wp2));(go_ret);exact ⟨by first|rfl|(simp;done)|(simp [*];done),by repeat (first|exact Drawn0.refl _|apply Drawn0.step)⟩
end Go.Proofs.Ytadkkcdhgepbkaa.Q
end
section
namespace Go.Proofs.Ytadkkcdhgepbkaa.Q
open Go.RowKit Go.Proofs.YtadkkcdhgepbkaaW.PrintWords Go.Proofs.YtadkkcdhgepbkaaW.PrintLast Go.Proofs.YtadkkcdhgepbkaaW.PrintMore
attribute [local go_sem] max2_int min2_int max_two min_two max_three min_three max_four min_four   -- for this text's walks alone
set_option linter.unusedVariables false
set_option linter.unusedSimpArgs false
def impl_AreLengths.f (k:Nat) (l0:List Int):Option (Bool):=(impl_isSide.f (l0.length:Int)).bind fun t101=>(if t101=true then ((slices_IsSorted_int_int.f k l0).bind fun t102=>(if t102=true then (if 0 < (l0.length:Int) then ((impl_within.f (rd l0 0) 0 (l0.length:Int)).bind fun t104=>(if t104=true then (if 0≤(wrap64 ((l0.length:Int) - 1)) then (if (wrap64 ((l0.length:Int) - 1)) < (l0.length:Int) then ((impl_within.f (rd l0 (wrap64 ((l0.length:Int) - 1))) 0 (l0.length:Int)).bind fun t106=>(some t106)) else (none)) else (none)) else (some false))) else (none)) else (some false))) else (some false))
set_option maxHeartbeats 8000000 in
set_option maxRecDepth 100000 in
theorem impl_AreLengths.calls (k:Nat) (A0:Option Addr) (c0:Nat) (l0:List Int) (r:Bool) (w:World) (hr0:Kd.C (Kd.int .i64) w A0 l0.length l0) (hc0:l0.length≤c0) (h:impl_AreLengths.f k l0=some r) :
  Calls Try.prog 45 #[.slice A0 l0.length c0] w fun e w'=>e=.returned (.bool r)∧Drawn0 w w':=by
 have HR0:=za hr0;have HC0:=za hc0;clear hr0 hc0;have H:((impl_isSide.f (l0.length:Int)).bind fun t101=>(if t101=true then ((slices_IsSorted_int_int.f k l0).bind fun t102=>(if t102=true then (if 0 < (l0.length:Int) then ((impl_within.f (rd l0 0) 0 (l0.length:Int)).bind fun t104=>(if t104=true then (if 0≤(wrap64 ((l0.length:Int) - 1)) then (if (wrap64 ((l0.length:Int) - 1)) < (l0.length:Int) then ((impl_within.f (rd l0 (wrap64 ((l0.length:Int) - 1))) 0 (l0.length:Int)).bind fun t106=>(some t106)) else (none)) else (none)) else (some false))) else (none)) else (some false))) else (some false)))=some r:=h;clear h;obtain ⟨t101,A2,H⟩:=bindAside H;(try dsimp only at H);by_cases c3:t101=true
 ·
  subst c3;(have H1:((slices_IsSorted_int_int.f k l0).bind fun t102=>(if t102=true then (if 0 < (l0.length:Int) then ((impl_within.f (rd l0 0) 0 (l0.length:Int)).bind fun t104=>(if t104=true then (if 0≤(wrap64 ((l0.length:Int) - 1)) then (if (wrap64 ((l0.length:Int) - 1)) < (l0.length:Int) then ((impl_within.f (rd l0 (wrap64 ((l0.length:Int) - 1))) 0 (l0.length:Int)).bind fun t106=>(some t106)) else (none)) else (none)) else (some false))) else (none)) else (some false)))=some r:=by rw [if_pos rfl] at H;exact H);clear H;have H:=H1;clear H1;obtain ⟨t102,A4,H⟩:=bindAside H;(try dsimp only at H);by_cases c5:t102=true
  ·
   subst c5;(have H1:(if 0 < (l0.length:Int) then ((impl_within.f (rd l0 0) 0 (l0.length:Int)).bind fun t104=>(if t104=true then (if 0≤(wrap64 ((l0.length:Int) - 1)) then (if (wrap64 ((l0.length:Int) - 1)) < (l0.length:Int) then ((impl_within.f (rd l0 (wrap64 ((l0.length:Int) - 1))) 0 (l0.length:Int)).bind fun t106=>(some t106)) else (none)) else (none)) else (some false))) else (none))=some r:=by rw [if_pos rfl] at H;exact H);clear H;have H:=H1;clear H1;by_cases c6:0 < (l0.length:Int)
   ·
    rw [if_pos c6] at H;have c6b0:decide (0 < (l0.length:Int))=true:=decide_eq_true c6;have c6b1:decide (0 < l0.length)=true:=decide_eq_true (by omega);clear c6;obtain ⟨t104,A7,H⟩:=bindAside H;(try dsimp only at H);by_cases c8:t104=true
    ·
     subst c8;(have H1:(if 0≤(wrap64 ((l0.length:Int) - 1)) then (if (wrap64 ((l0.length:Int) - 1)) < (l0.length:Int) then ((impl_within.f (rd l0 (wrap64 ((l0.length:Int) - 1))) 0 (l0.length:Int)).bind fun t106=>(some t106)) else (none)) else (none))=some r:=by rw [if_pos rfl] at H;exact H);clear H;have H:=H1;clear H1;obtain ⟨ji9,hji9⟩:∃ j_:Int,(wrap64 ((l0.length:Int) - 1))=j_:=⟨_,rfl⟩;(replace H:(if 0≤(ji9) then (if (ji9) < (l0.length:Int) then ((impl_within.f (rd l0 (ji9)) 0 (l0.length:Int)).bind fun t106=>(some t106)) else (none)) else (none))=some r:=by first|(rw [hji9] at H;exact H)|(simp only [hji9] at H ⊢;exact H));(try rw [hji9] at A2);(try rw [hji9] at A4);(try rw [hji9] at A7);have hji9w:(IntKind.i64.wrap ((l0.length:Int) - 1))=ji9:=(i64_w _).trans hji9;by_cases c10:0≤(ji9)
     ·
      rw [if_pos c10] at H;have c10b0:decide (0≤(ji9))=true:=decide_eq_true c10;clear c10;by_cases c11:(ji9) < (l0.length:Int)
      · rw [if_pos c11] at H;have c11b0:decide ((ji9) < (l0.length:Int))=true:=decide_eq_true c11;clear c11;obtain ⟨t106,A12,H⟩:=bindAside H;(try dsimp only at H);obtain rfl:=Option.some.inj H;(go_enter Try.func45,Try.ntmps45);(go_wp2_with (first|((with_reducible refine zh (f:=61) rfl ?_);refine goesL_ (some 7) rfl rfl Try.func61 (by kernel_rfl) rfl #[.int .i64 (l0.length:Int)] rfl (by first|rfl|simp only [z3_,z4_,z5_];try rfl) ?_;(with_reducible refine (impl_isSide.calls (l0.length:Int) true _ A2.out).mono ?_);rintro e w' ⟨rfl,⟨nd,rfl⟩⟩;refine ⟨_,rfl,?_⟩)|(go_at_call 71;(with_reducible refine (slices_IsSorted_int_int.calls k _ _ l0 true _ ?side1 ?side2 A4.out).mono ?_);(case side1=>repeat (first|exact HR0.out|(with_reducible refine zi ?_ _)|(with_reducible refine zj ?_ _)|(with_reducible refine zk ?_)));(case side2=>exact HC0.out);rintro e w' ⟨rfl,⟨nd,rfl⟩⟩;have p103:0≤(0:Int):=(by omega);have q103:0 < (l0.length:Int):=of_decide_eq_true ‹_›;obtain ⟨ad103,e103,hx103_0⟩:=Kd.at_int HR0.out 0 p103 q103;cases e103;have qi103:(0 < l0.length)=True:=eq_true (by omega);(try rw [show ((0:Int)).toNat=0 from rfl] at hx103_0);(try rw [Addr.add_zero'] at hx103_0);replace p103:=eq_true p103;replace q103:=eq_true q103)|(go_at_call 48;(with_reducible refine (impl_within.calls (rd l0 0) 0 (l0.length:Int) true _ A7.out).mono ?_);rintro e w' ⟨rfl,⟨nd,rfl⟩⟩;have p105:0≤((ji9):Int):=of_decide_eq_true ‹_›;have q105:(ji9) < (l0.length:Int):=of_decide_eq_true ‹_›;obtain ⟨ad105,e105,hx105_0⟩:=Kd.at_int HR0.out (ji9) p105 q105;obtain rfl:ad103=ad105:=(by injection e105);replace p105:=eq_true p105;replace q105:=eq_true q105)|(go_at_call 48;(with_reducible refine (impl_within.calls (rd l0 (ji9)) 0 (l0.length:Int) t106 _ A12.out).mono ?_);rintro e w' ⟨rfl,⟨nd,rfl⟩⟩)));(go_ret);exact ⟨by first|rfl|(simp;done)|(simp only [← hji9] <;> (first|rfl|simp))|(simp [*];done),by repeat (first|exact Drawn0.refl _|apply Drawn0.step)⟩
      · rw [if_neg c11] at H;exact absurd H (by simp)
     · rw [if_neg c10] at H;exact absurd H (by simp)
    · replace c8:=Bool.eq_false_iff.mpr c8;subst c8;(have H1:(some false)=some r:=by rw [if_neg (show ¬ (false=true) by decide)] at H;exact H);clear H;have H:=H1;clear H1;obtain rfl:=Option.some.inj H;(go_enter Try.func45,Try.ntmps45);(go_wp2_with (first|((with_reducible refine zh (f:=61) rfl ?_);refine goesL_ (some 7) rfl rfl Try.func61 (by kernel_rfl) rfl #[.int .i64 (l0.length:Int)] rfl (by first|rfl|simp only [z3_,z4_,z5_];try rfl) ?_;(with_reducible refine (impl_isSide.calls (l0.length:Int) true _ A2.out).mono ?_);rintro e w' ⟨rfl,⟨nd,rfl⟩⟩;refine ⟨_,rfl,?_⟩)|(go_at_call 71;(with_reducible refine (slices_IsSorted_int_int.calls k _ _ l0 true _ ?side1 ?side2 A4.out).mono ?_);(case side1=>repeat (first|exact HR0.out|(with_reducible refine zi ?_ _)|(with_reducible refine zj ?_ _)|(with_reducible refine zk ?_)));(case side2=>exact HC0.out);rintro e w' ⟨rfl,⟨nd,rfl⟩⟩;have p103:0≤(0:Int):=(by omega);have q103:0 < (l0.length:Int):=of_decide_eq_true ‹_›;obtain ⟨ad103,e103,hx103_0⟩:=Kd.at_int HR0.out 0 p103 q103;cases e103;have qi103:(0 < l0.length)=True:=eq_true (by omega);(try rw [show ((0:Int)).toNat=0 from rfl] at hx103_0);(try rw [Addr.add_zero'] at hx103_0);replace p103:=eq_true p103;replace q103:=eq_true q103)|(go_at_call 48;(with_reducible refine (impl_within.calls (rd l0 0) 0 (l0.length:Int) false _ A7.out).mono ?_);rintro e w' ⟨rfl,⟨nd,rfl⟩⟩)));(go_ret);exact ⟨by first|rfl|(simp;done)|(simp [*];done),by repeat (first|exact Drawn0.refl _|apply Drawn0.step)⟩
   · rw [if_neg c6] at H;exact absurd H (by simp)
  · replace c5:=Bool.eq_false_iff.mpr c5;subst c5;(have H1:(some false)=some r:=by rw [if_neg (show ¬ (false=true) by decide)] at H;exact H);clear H;have H:=H1;clear H1;obtain rfl:=Option.some.inj H;(go_enter Try.func45,Try.ntmps45);(go_wp2_with (first|((with_reducible refine zh (f:=61) rfl ?_);refine goesL_ (some 7) rfl rfl Try.func61 (by kernel_rfl) rfl #[.int .i64 (l0.length:Int)] rfl (by first|rfl|simp only [z3_,z4_,z5_];try rfl) ?_;(with_reducible refine (impl_isSide.calls (l0.length:Int) true _ A2.out).mono ?_);rintro e w' ⟨rfl,⟨nd,rfl⟩⟩;refine ⟨_,rfl,?_⟩)|(go_at_call 71;(with_reducible refine (slices_IsSorted_int_int.calls k _ _ l0 false _ ?side1 ?side2 A4.out).mono ?_);(case side1=>repeat (first|exact HR0.out|(with_reducible refine zi ?_ _)|(with_reducible refine zj ?_ _)|(with_reducible refine zk ?_)));(case side2=>exact HC0.out);rintro e w' ⟨rfl,⟨nd,rfl⟩⟩)));(go_ret);exact ⟨by first|rfl|(simp;done)|(simp [*];done),by repeat (first|exact Drawn0.refl _|apply Drawn0.step)⟩
 · replace c3:=Bool.eq_false_iff.mpr c3;subst c3;(have H1:(some false)=some r:=by rw [if_neg (show ¬ (false=true) by decide)] at H;exact H);clear H;have H:=H1;clear H1;obtain rfl:=Option.some.inj H;(go_enter Try.func45,Try.ntmps45);(go_wp2_with (first|((with_reducible refine zh (f:=61) rfl ?_);refine goesL_ (some 7) rfl rfl Try.func61 (by kernel_rfl) rfl #[.int .i64 (l0.length:Int)] rfl (by first|rfl|simp only [z3_,z4_,z5_];try rfl) ?_;(with_reducible refine (impl_isSide.calls (l0.length:Int) false _ A2.out).mono ?_);rintro e w' ⟨rfl,⟨nd,rfl⟩⟩;refine ⟨_,rfl,?_⟩)));(go_ret);exact ⟨by first|rfl|(simp;done)|(simp [*];done),by repeat (first|exact Drawn0.refl _|apply Drawn0.step)⟩
end Go.Proofs.Ytadkkcdhgepbkaa.Q
end
section
namespace Go.Proofs.Ytadkkcdhgepbkaa.Q
open Go.RowKit Go.Proofs.YtadkkcdhgepbkaaW.PrintWords Go.Proofs.YtadkkcdhgepbkaaW.PrintLast Go.Proofs.YtadkkcdhgepbkaaW.PrintMore
attribute [local go_sem] max2_int min2_int max_two min_two max_three min_three max_four min_four   -- for this text's walks alone
set_option linter.unusedVariables false
set_option linter.unusedSimpArgs false
def impl_sum.l0:Nat→Int→List Int→Int→Int→Option (Int)
|0,_,_,_,_=>none
|k + 1,x3,x6,x7,x8=>if x8 < x7 then (if 0≤x8 then (if x8 < (x6.length:Int) then (impl_sum.l0 k (wrap64 (x3 + (rd x6 x8))) x6 x7 (wrap64 (x8 + 1))) else (none)) else (none)) else (some x3)
def impl_sum.f (k:Nat) (l0:List Int):Option (Int):=impl_sum.l0 k 0 l0 (l0.length:Int) 0
set_option maxHeartbeats 8000000 in
set_option maxRecDepth 100000 in
theorem impl_sum.calls (k:Nat) (A0:Option Addr) (c0:Nat) (l0:List Int) (r:Int) (w:World) (hr0:Kd.C (Kd.int .i64) w A0 l0.length l0) (hc0:l0.length≤c0) (h:impl_sum.f k l0=some r) :
  Calls Try.prog 56 #[.slice A0 l0.length c0] w fun e w'=>e=.returned (.int .i64 r)∧Drawn0 w w':=by
 have HR0:=za hr0;have HC0:=za hc0;clear hr0 hc0;have H:(impl_sum.l0 k 0 l0 (l0.length:Int) 0)=some r:=h;clear h;have H':=za H;clear H;(go_enter Try.func56,Try.ntmps56);(go_wp2);(go_loopg [3,8] k (fun kq v3 v8 w'=>∃ (x3_1:Int) (x8_1:Int),v3=.int .i64 x3_1∧v8=.int .i64 x8_1∧Aside0 (impl_sum.l0 kq x3_1 l0 (l0.length:Int) x8_1=some r)∧Aside0 (kq≤k)∧Drawn0 w w'));case atStart=>exact ⟨(0),(0),(by first|rfl|(simp;done)|(simp [*];done)),(by first|rfl|(simp;done)|(simp [*];done)),H',⟨Nat.le_refl _⟩,by repeat (first|exact Drawn0.refl _|apply Drawn0.step)⟩
 case round =>
  clear H';obtain ⟨x3_1,x8_1,rfl,rfl,HA,HK1,⟨m1,rfl⟩⟩:=hrel
  cases gk with
 |zero=>exact absurd HA.out (by simp [impl_sum.l0])
 |succ k1 =>
   have H:=HA.out;clear HA;simp only [impl_sum.l0] at H;by_cases c2:x8_1 < (l0.length:Int)
   ·
    rw [if_pos c2] at H;have c2b0:decide (x8_1 < (l0.length:Int))=true:=decide_eq_true c2;clear c2;by_cases c3:0≤x8_1
    ·
     rw [if_pos c3] at H;have c3b0:decide (0≤x8_1)=true:=decide_eq_true c3;clear c3;by_cases c4:x8_1 < (l0.length:Int)
     · rw [if_pos c4] at H;have c4b0:decide (x8_1 < (l0.length:Int))=true:=decide_eq_true c4;clear c4;have H':=za H;clear H;have p101:0≤(x8_1:Int):=of_decide_eq_true ‹_›;have q101:x8_1 < (l0.length:Int):=of_decide_eq_true ‹_›;obtain ⟨ad101,e101,hx101_0⟩:=Kd.at_int HR0.out x8_1 p101 q101;cases e101;replace p101:=eq_true p101;replace q101:=eq_true q101;(go_wp2);(go_roundg k1);(case measure=>have:=HK1.out;omega);case rel=>exact ⟨(wrap64 (x3_1 + (rd l0 x8_1))),(wrap64 (x8_1 + 1)),(by first|rfl|(simp;done)|(simp [*];done)),(by first|rfl|(simp;done)|(simp [*];done)),H',⟨by have:=HK1.out;omega⟩,by repeat (first|exact Drawn0.refl _|apply Drawn0.step)⟩
     · rw [if_neg c4] at H;exact absurd H (by simp)
    · rw [if_neg c3] at H;exact absurd H (by simp)
   · rw [if_neg c2] at H;have c2b0:decide (x8_1 < (l0.length:Int))=false:=decide_eq_false c2;clear c2;obtain rfl:=Option.some.inj H;(go_wp2);(go_ret);exact ⟨by first|rfl|(simp;done)|(simp [*];done),by repeat (first|exact Drawn0.refl _|apply Drawn0.step)⟩
end Go.Proofs.Ytadkkcdhgepbkaa.Q
end
section
namespace Go.Proofs.Ytadkkcdhgepbkaa.Q
open Go.RowKit Go.Proofs.YtadkkcdhgepbkaaW.PrintWords Go.Proofs.YtadkkcdhgepbkaaW.PrintLast Go.Proofs.YtadkkcdhgepbkaaW.PrintMore
attribute [local go_sem] max2_int min2_int max_two min_two max_three min_three max_four min_four   -- for this text's walks alone
set_option linter.unusedVariables false
set_option linter.unusedSimpArgs false
def impl_matrices.l0:Nat→Int→Int→Int→Int→Option (Int × Bool)
|0,_,_,_,_=>none
|k + 1,x1,x6,x8,x9=>if x9 < x8 then (if (wrap64 (x6 * x1)) > 6561 then (some (0,false)) else (impl_matrices.l0 k x1 (wrap64 (x6 * x1)) x8 (wrap64 (x9 + 1)))) else (some (x6,true))
def impl_matrices.f (k:Nat) (l0:List Int) (a1:Int):Option (Int × Bool):=(impl_sum.f k l0).bind fun t101=>(impl_matrices.l0 k a1 1 t101 0)
set_option maxHeartbeats 8000000 in
set_option maxRecDepth 100000 in
theorem impl_matrices.calls (k:Nat) (A0:Option Addr) (c0:Nat) (l0:List Int) (a1:Int) (r1:Int) (r2:Bool) (w:World) (hr0:Kd.C (Kd.int .i64) w A0 l0.length l0) (hc0:l0.length≤c0) (h:impl_matrices.f k l0 a1=some (r1,r2)) :
  Calls Try.prog 47 #[.slice A0 l0.length c0,.int .i64 a1] w fun e w'=>e=.returned (.tuple #[.int .i64 r1,.bool r2])∧Drawn0 w w':=by
 have HR0:=za hr0;have HC0:=za hc0;clear hr0 hc0;have H:((impl_sum.f k l0).bind fun t101=>(impl_matrices.l0 k a1 1 t101 0))=some (r1,r2):=h;clear h;obtain ⟨t101,A3,H⟩:=bindAside H;(try dsimp only at H);have H':=za H;clear H;(go_enter Try.func47,Try.ntmps47);(go_wp2_with (first|((with_reducible refine zh (f:=56) rfl ?_);refine goesL_ (some 8) rfl rfl Try.func56 (by kernel_rfl) rfl #[.slice A0 l0.length c0] rfl (by first|rfl|simp only [z3_,z4_,z5_];try rfl) ?_;(with_reducible refine (impl_sum.calls k _ _ l0 t101 _ ?side1 ?side2 A3.out).mono ?_);(case side1=>repeat (first|exact HR0.out|(with_reducible refine zi ?_ _)|(with_reducible refine zj ?_ _)|(with_reducible refine zk ?_)));(case side2=>exact HC0.out);rintro e w' ⟨rfl,⟨nd,rfl⟩⟩;refine ⟨_,rfl,?_⟩)));(go_loopg [6,9] k (fun kq v6 v9 w'=>∃ (x6_1:Int) (x9_1:Int),v6=.int .i64 x6_1∧v9=.int .i64 x9_1∧Aside0 (impl_matrices.l0 kq a1 x6_1 t101 x9_1=some (r1,r2))∧Aside0 (kq≤k)∧Drawn0 w w'));case atStart=>exact ⟨(1),(0),(by first|rfl|(simp;done)|(simp [*];done)),(by first|rfl|(simp;done)|(simp [*];done)),H',⟨Nat.le_refl _⟩,by repeat (first|exact Drawn0.refl _|apply Drawn0.step)⟩
 case round =>
  clear H';(try clear p2);obtain ⟨x6_1,x9_1,rfl,rfl,HA,HK1,⟨m1,rfl⟩⟩:=hrel
  cases gk with
 |zero=>exact absurd HA.out (by simp [impl_matrices.l0])
 |succ k1 =>
   have H:=HA.out;clear HA;simp only [impl_matrices.l0] at H;by_cases c4:x9_1 < t101
   ·
    rw [if_pos c4] at H;have c4b0:decide (x9_1 < t101)=true:=decide_eq_true c4;clear c4;by_cases c5:(wrap64 (x6_1 * a1)) > 6561
    · rw [if_pos c5] at H;have c5b0:decide (6561 < (wrap64 (x6_1 * a1)))=true:=decide_eq_true c5;clear c5;simp only [Option.some.injEq,Prod.mk.injEq] at H;obtain ⟨rfl,rfl⟩:=H;(go_wp2);(go_ret2);exact ⟨by first|rfl|(simp;done)|(simp [*];done),by repeat (first|exact Drawn0.refl _|apply Drawn0.step)⟩
    · rw [if_neg c5] at H;have c5b0:decide (6561 < (wrap64 (x6_1 * a1)))=false:=decide_eq_false c5;clear c5;have H':=za H;clear H;(go_wp2);(go_roundg k1);(case measure=>have:=HK1.out;omega);case rel=>exact ⟨(wrap64 (x6_1 * a1)),(wrap64 (x9_1 + 1)),(by first|rfl|(simp;done)|(simp [*];done)),(by first|rfl|(simp;done)|(simp [*];done)),H',⟨by have:=HK1.out;omega⟩,by repeat (first|exact Drawn0.refl _|apply Drawn0.step)⟩
   · rw [if_neg c4] at H;have c4b0:decide (x9_1 < t101)=false:=decide_eq_false c4;clear c4;simp only [Option.some.injEq,Prod.mk.injEq] at H;obtain ⟨rfl,rfl⟩:=H;(go_wp2);(go_ret2);exact ⟨by first|rfl|(simp;done)|(simp [*];done),by repeat (first|exact Drawn0.refl _|apply Drawn0.step)⟩
end Go.Proofs.Ytadkkcdhgepbkaa.Q
end
section
namespace Go.Proofs.Ytadkkcdhgepbkaa.Q
open Go.RowKit Go.Proofs.YtadkkcdhgepbkaaW.PrintWords Go.Proofs.YtadkkcdhgepbkaaW.PrintLast Go.Proofs.YtadkkcdhgepbkaaW.PrintMore
attribute [local go_sem] max2_int min2_int max_two min_two max_three min_three max_four min_four   -- for this text's walks alone
set_option linter.unusedVariables false
set_option linter.unusedSimpArgs false
mutual
def impl_matrix.l0:Nat→List Int→Int→Int→List (List Int)→List Int→Int→Int→Option ((List (List Int)))
|0,_,_,_,_,_,_,_=>none
|k + 1,x0,x1,x2,x7,x13,x14,x15=>if x15 < x14 then (if 0≤x15 then (if x15 < (x13.length:Int) then (if 0≤(x0.length:Int) then (if ((x0.length:Int):Int).toNat≤35184372088832 then (impl_matrix.l1 k x0 x1 x2 x7 (List.replicate ((x0.length:Int):Int).toNat 0) x13 x14 x15 (rd x13 x15) 0) else (none)) else (none)) else (none)) else (none)) else (some x7)
def impl_matrix.l1:Nat→List Int→Int→Int→List (List Int)→List Int→List Int→Int→Int→Int→Int→Option ((List (List Int)))
|0,_,_,_,_,_,_,_,_,_,_=>none
|k + 1,x0,x1,x2,x7,x10,x13,x14,x15,x22,x23=>if x23 < x22 then (if x1=0 then (none) else (if 0≤x23 then (if x23 < (x10.length:Int) then (impl_matrix.l1 k x0 x1 (wrap64 (Int.tdiv x2 x1)) x7 (x10.set (x23:Int).toNat (Int.tmod x2 x1)) x13 x14 x15 x22 (wrap64 (x23 + 1))) else (none)) else (none))) else (if x7.length < 5864062014805 then (impl_matrix.l0 k x0 x1 x2 (x7 ++ [x10]) x13 x14 (wrap64 (x15 + 1))) else (none))
end
def impl_matrix.f (k:Nat) (l0:List Int) (a1:Int) (a2:Int):Option ((List (List Int))):=impl_matrix.l0 k l0 a1 a2 (([]:List (List Int))) l0 (l0.length:Int) 0
set_option maxHeartbeats 8000000 in
set_option maxRecDepth 100000 in
theorem impl_matrix.calls (k:Nat) (A0:Option Addr) (c0:Nat) (l0:List Int) (a1:Int) (a2:Int) (r:List (List Int)) (w:World) (hr0:Kd.C (Kd.int .i64) w A0 l0.length l0) (hc0:l0.length≤c0) (h:impl_matrix.f k l0 a1 a2=some r) :
  Calls Try.prog 49 #[.slice A0 l0.length c0,.int .i64 a1,.int .i64 a2] w fun e w'=>∃ v0_:Value,e=.returned (v0_)∧Kd.S (Kd.slice 3 (Kd.int .i64)) 29 w' w.heap.size (fun _=>True) v0_ r∧Below w.heap.size w w':=by
 have HR0:=za hr0;have HC0:=za hc0;clear hr0 hc0;have HB:=za (Below.refl w.heap.size w);have H:(impl_matrix.l0 k l0 a1 a2 (([]:List (List Int))) l0 (l0.length:Int) 0)=some r:=h;clear h;obtain ⟨y101,hy101⟩:∃ y_:List (List Int),y_=(([]:List (List Int))):=⟨_,rfl⟩;(replace H:(impl_matrix.l0 k l0 a1 a2 y101 l0 (l0.length:Int) 0)=some r:=by first|(rw [hy101];with_reducible exact H)|(have H2_:=(Option.bind_some _ _).symm.trans H;rw [hy101];with_reducible exact H2_)|(have H2_:=(Option.bind_some _ _).symm.trans H;with_reducible exact H2_)|with_reducible exact H|(rw [hy101];exact H)|exact H);have Ny101:=za hy101;clear hy101;have H':=za H;clear H;(go_enter Try.func49,Try.ntmps49);(go_wp2_with (first|((with_reducible refine gate_dst (N:=12) rfl ?_);refine Kd.S_lit (Kd.slice 3 (Kd.int .i64)) _ 29 ?hg (N:=12) ?hd (xs:=([]:List (List Int))) (inner:=[]) (ok:=fun _=>True) (okp:=fun _=>True) ?hr ?hp (fun _ hk=>hk) trivial (Below.refl _ _) (Nat.le_refl _) (by simp) ?_;(case hd=>rfl);(case hg=>rfl);(case hr=>first|(go_simp;done)|(go_simp;rfl));(case hp=>exact (Reps.none _ _));intro v102 w4 ho5 hb hg_ hnew_;clear hg_ hnew_;(first|rw [← Ny101.out] at ho5|(simp only [Int.reduceToNat] at ho5;rw [← Ny101.out] at ho5));have HO103:=za (Kd.S_lower ho5 (zr (by repeat (first|(with_reducible first|exact HB.out|apply zc|apply zd|apply zb)|exact HB.out))));replace HB:=za (below_step (by repeat (first|(with_reducible first|exact HB.out|apply zc|apply zd|apply zb)|exact HB.out)) hb);clear hb ho5)));(go_loopg [2,7,15] k (fun kq v2 v7 v15 w'=>∃ (x2_1:Int) (x7_1:List (List Int)) (x15_1:Int),v2=.int .i64 x2_1∧v15=.int .i64 x15_1∧Aside0 (impl_matrix.l0 kq l0 a1 x2_1 x7_1 l0 (l0.length:Int) x15_1=some r)∧Aside0 (kq≤k)∧Aside0 (Kd.S (Kd.slice 3 (Kd.int .i64)) 29 w' w.heap.size (fun _=>True) v7 x7_1)∧Aside0 (Below w.heap.size w w')));case atStart=>exact ⟨(a2),(y101),(0),(by first|rfl|(simp;done)|(simp [*];done)),(by first|rfl|(simp;done)|(simp [*];done)),H',⟨Nat.le_refl _⟩,⟨by (with_reducible repeat (first|apply Kd.S_alloc|apply Kd.S_drewN|apply Kd.S_drew));exact HO103.out⟩,⟨by repeat (first|(with_reducible first|exact HB.out|apply zc|apply zd|apply zb)|exact HB.out)⟩⟩
 case round =>
  clear H';(try clear p2);(try clear c4);obtain ⟨x2_1,x7_1,x15_1,rfl,rfl,HA,HK1,HO_7,HB⟩:=hrel
  cases gk with
 |zero=>exact absurd HA.out (by simp [impl_matrix.l0])
 |succ k1 =>
   have H:=HA.out;clear HA;simp only [impl_matrix.l0] at H;by_cases c6:x15_1 < (l0.length:Int)
   ·
    rw [if_pos c6] at H;have c6b0:decide (x15_1 < (l0.length:Int))=true:=decide_eq_true c6;clear c6;by_cases c7:0≤x15_1
    ·
     rw [if_pos c7] at H;have c7b0:decide (0≤x15_1)=true:=decide_eq_true c7;clear c7;by_cases c8:x15_1 < (l0.length:Int)
     ·
      rw [if_pos c8] at H;have c8b0:decide (x15_1 < (l0.length:Int))=true:=decide_eq_true c8;clear c8;by_cases c9:0≤(l0.length:Int)
      ·
       rw [if_pos c9] at H;have c9b0:=eq_true c9;have c9b1:decide (0≤(l0.length:Int))=true:=decide_eq_true c9;clear c9;by_cases c10:((l0.length:Int):Int).toNat≤35184372088832
       ·
        rw [if_pos c10] at H;have c10b0:=eq_true c10;have c10b1:decide (((l0.length:Int):Int).toNat≤35184372088832)=true:=decide_eq_true c10;clear c10;obtain ⟨y105,hy105⟩:∃ y_:List Int,y_=(List.replicate ((l0.length:Int):Int).toNat 0):=⟨_,rfl⟩;(replace H:(impl_matrix.l1 k1 l0 a1 x2_1 x7_1 y105 l0 (l0.length:Int) x15_1 (rd l0 x15_1) 0)=some r:=by first|(rw [hy105];with_reducible exact H)|(have H2_:=(Option.bind_some _ _).symm.trans H;rw [hy105];with_reducible exact H2_)|(have H2_:=(Option.bind_some _ _).symm.trans H;with_reducible exact H2_)|with_reducible exact H|(rw [hy105];exact H)|exact H);have Ny105:=za hy105;clear hy105;have H':=za H;clear H;have p104:0≤(x15_1:Int):=of_decide_eq_true ‹_›;have q104:x15_1 < (l0.length:Int):=of_decide_eq_true ‹_›;obtain ⟨ad104,e104,hx104_0⟩:=Kd.at_int HR0.out x15_1 p104 q104;cases e104;replace hx104_0:=(HB.out.cell (World.block_lt_of_cell? w _ hx104_0)).trans hx104_0;replace p104:=eq_true p104;replace q104:=eq_true q104;(go_wp2_with (first|((with_reducible refine gate_dst (N:=21) rfl ?_);refine Kd.R_make (Kd.int .i64) _ 3 rfl (N:=21) rfl 29 _ _ rfl (l0.length:Int) rfl rfl Try.underlying29 (.int .i64 0) 8 info3 rfl (by decide) (by omega) 0 (ok:=fun _=>True) (okp:=fun _=>True) rfl (fun _ hk=>hk) trivial (of_decide_eq_true ‹_›) (Nat.le_trans (Nat.mul_le_mul_right _ (of_decide_eq_true ‹_›:(l0.length:Int).toNat≤35184372088832)) (by omega)) (Below.refl _ _) (Nat.le_refl _) ?_;intro v106 w11 ho12 hb hg_ hnew_;clear hg_ hnew_;(first|rw [← Ny105.out] at ho12|(simp only [Int.reduceToNat] at ho12;rw [← Ny105.out] at ho12));replace HO_7:=za (Kd.S_elder' (by (with_reducible repeat (first|apply Kd.S_alloc|apply Kd.S_drewN|apply Kd.S_drew));exact HO_7.out) (Kd.R_base ho12) hb);have HO107:=za (Kd.R_lower ho12 (zr (by repeat (first|(with_reducible first|exact HB.out|apply zc|apply zd|apply zb)|exact HB.out))));replace HB:=za (below_step (by repeat (first|(with_reducible first|exact HB.out|apply zc|apply zd|apply zb)|exact HB.out)) hb);clear hb ho12)));(go_loopg [2,23] k1 (fun kq v2 v23 w'=>∃ (x2_2:Int) (x10_2:List Int) (x23_2:Int),v2=.int .i64 x2_2∧v23=.int .i64 x23_2∧Aside0 (impl_matrix.l1 kq l0 a1 x2_2 x7_1 x10_2 l0 (l0.length:Int) x15_1 (rd l0 x15_1) x23_2=some r)∧Aside0 (kq≤k1)∧Aside0 (Kd.S (Kd.slice 3 (Kd.int .i64)) 29 w' w.heap.size (fun k_=>some k_ ≠ (v106:Value).ownBlock) u7 x7_1)∧Aside0 (Kd.R (Kd.int .i64) 3 w' w.heap.size (fun _=>True) v106 x10_2)∧Aside0 (Below w.heap.size w w')));case atStart=>exact ⟨(x2_1),(y105),(0),(by first|rfl|(simp;done)|(simp [*];done)),(by first|rfl|(simp;done)|(simp [*];done)),H',⟨Nat.le_refl _⟩,⟨by (with_reducible repeat (first|apply Kd.S_alloc|apply Kd.S_drewN|apply Kd.S_drew));exact Kd.S_mono HO_7.out (fun _ hk=>hk.2)⟩,⟨by (with_reducible repeat (first|apply zf|apply zg|apply ze));exact HO107.out⟩,⟨by repeat (first|(with_reducible first|exact HB.out|apply zc|apply zd|apply zb)|exact HB.out)⟩⟩
        case round =>
         clear H';(try clear c1);(try clear p1);(try clear q1);(try clear hx1);(try clear p2);(try clear c4);(try clear c6);(try clear c6b0);(try clear c7);(try clear c7b0);(try clear c8);(try clear c8b0);(try clear c9);(try clear c9b0);(try clear c9b1);(try clear c10);(try clear c10b0);(try clear c10b1);(try clear p10);(try clear q10);(try clear hx10);(try clear hx104_0);(try clear p104);(try clear p2);(try clear q104);obtain ⟨x2_2,x10_2,x23_2,rfl,rfl,HA,HK2,HO_7,HO_10,HB⟩:=hrel
         cases gk with
        |zero=>exact absurd HA.out (by simp [impl_matrix.l1])
        |succ k2 =>
          have H:=HA.out;clear HA;simp only [impl_matrix.l1] at H;by_cases c13:x23_2 < (rd l0 x15_1)
          ·
           rw [if_pos c13] at H;have c13b0:decide (x23_2 < (rd l0 x15_1))=true:=decide_eq_true c13;clear c13;by_cases c14:a1=0
           · rw [if_pos c14] at H;exact absurd H (by simp)
           ·
            rw [if_neg c14] at H;have c14b0:(a1 == 0)=false:=beq_eq_false_iff_ne.mpr c14;have c14b1:(a1 != 0)=true:=bne_iff_ne.mpr c14;by_cases c15:0≤x23_2
            ·
             rw [if_pos c15] at H;have c15b0:decide (0≤x23_2)=true:=decide_eq_true c15;clear c15;by_cases c16:x23_2 < (x10_2.length:Int)
             · rw [if_pos c16] at H;have c16b0:decide (x23_2 < (x10_2.length:Int))=true:=decide_eq_true c16;clear c16;obtain ⟨y108,hy108⟩:∃ y_:List Int,y_=(x10_2.set (x23_2:Int).toNat (Int.tmod x2_2 a1)):=⟨_,rfl⟩;(replace H:(impl_matrix.l1 k2 l0 a1 (wrap64 (Int.tdiv x2_2 a1)) x7_1 y108 l0 (l0.length:Int) x15_1 (rd l0 x15_1) (wrap64 (x23_2 + 1)))=some r:=by first|(rw [hy108];with_reducible exact H)|(have H2_:=(Option.bind_some _ _).symm.trans H;rw [hy108];with_reducible exact H2_)|(have H2_:=(Option.bind_some _ _).symm.trans H;with_reducible exact H2_)|with_reducible exact H|(rw [hy108];exact H)|exact H);have Ny108:=za hy108;clear hy108;have H':=za H;clear H;have p17:0≤(x23_2:Int):=of_decide_eq_true ‹_›;have q17:(x23_2:Int) < ((x10_2.length:Int):Int):=of_decide_eq_true ‹_›;obtain ⟨go17,co17,eo17,gb17,gl17,cl17,HG17⟩:=Kd.R_form HO_10.out (by omega);(first|cases eo17|(injection eo17 with ea_ en_ ec_;(first|subst ea_|(injection ea_ with ea_;subst ea_));subst ec_;clear en_));have GB17:=za gb17;have GG17:=za HG17;clear gb17 gl17 HG17;obtain ⟨hx17_0,hf17_0⟩:=Kd.R_celln 0 HO_10.out (x23_2:Int) p17 q17;replace p17:=eq_true p17;replace q17:=eq_true q17;have HP18:=Kd.R_putg HO_10.out (x23_2:Int) (Int.tmod x2_2 a1);(go_wp2_with (first|((with_reducible refine gate_store (t:=3) (p:=31) rfl ?_);refine store_event (t:=3) (p:=31) (v:=?vo_w19) (w1:=(wr.setCell ⟨go17,(x23_2:Int).toNat,none⟩ (.int .i64 (Int.tmod x2_2 a1)))) ?hg ?ho ?hn ?hr ?_;(case ho=>rfl);(case hg=>rfl);(case hn=>rfl);(case hr=>first|(go_simp;done)|(go_simp;rfl));intro w19 hw;have hg:wr.grownBy w19 (some go17):=(by rw [hw];exact HP18.2);have hp_:Kd.R (Kd.int .i64) 3 w19 w.heap.size (fun _=>True) (.slice (some ⟨go17,0,none⟩) x10_2.length co17) y108:=(by rw [hw,Ny108.out];exact HP18.1);clear HP18;replace HO_7:=za (Kd.S_after (v:=(.slice (some ⟨go17,0,none⟩) x10_2.length co17)) (v1:=(.slice (some ⟨go17,0,none⟩) x10_2.length co17)) (ok:=(fun _=>True)) (by (with_reducible repeat (first|apply Kd.S_alloc|apply Kd.S_drewN|apply Kd.S_drew));exact Kd.S_mono HO_7.out (fun _ hk=>⟨trivial,hk⟩)) hg (.inl rfl));replace HO_10:=za (hp_);replace HB:=za ((by rw [hw];exact zm (HB.out) GB17.out:Below w.heap.size w w19));clear hg hw hp_)));(go_roundg k2);(case measure=>have:=HK1.out;have:=HK2.out;omega);case rel=>exact ⟨(wrap64 (Int.tdiv x2_2 a1)),(y108),(wrap64 (x23_2 + 1)),(by first|rfl|(simp;done)|(simp [*];done)),(by first|rfl|(simp;done)|(simp [*];done)),H',⟨by have:=HK1.out;have:=HK2.out;omega⟩,⟨by (with_reducible repeat (first|apply Kd.S_alloc|apply Kd.S_drewN|apply Kd.S_drew));exact Kd.S_mono HO_7.out (fun _ hk=>hk.2)⟩,⟨by (with_reducible repeat (first|apply zf|apply zg|apply ze));exact HO_10.out⟩,⟨by repeat (first|(with_reducible first|exact HB.out|apply zc|apply zd|apply zb)|exact HB.out)⟩⟩
             · rw [if_neg c16] at H;exact absurd H (by simp)
            · rw [if_neg c15] at H;exact absurd H (by simp)
          ·
           rw [if_neg c13] at H;have c13b0:decide (x23_2 < (rd l0 x15_1))=false:=decide_eq_false c13;clear c13;by_cases c20:x7_1.length < 5864062014805
           · rw [if_pos c20] at H;have LMc20:=za c20;clear c20;obtain ⟨y109,hy109⟩:∃ y_:List (List Int),y_=(x7_1 ++ [x10_2]):=⟨_,rfl⟩;(replace H:(impl_matrix.l0 k2 l0 a1 x2_2 y109 l0 (l0.length:Int) (wrap64 (x15_1 + 1)))=some r:=by first|(rw [hy109];with_reducible exact H)|(have H2_:=(Option.bind_some _ _).symm.trans H;rw [hy109];with_reducible exact H2_)|(have H2_:=(Option.bind_some _ _).symm.trans H;with_reducible exact H2_)|with_reducible exact H|(rw [hy109];exact H)|exact H);have Ny109:=za hy109;clear hy109;have H':=za H;clear H;obtain ⟨Ao22,co22,eo22⟩:=Kd.R_slice HO_10.out;subst eo22;(go_wp2_with (first|((with_reducible refine gate_builtin (b:=.append) (xs:=#[.tmp 36,.tmp 38]) rfl ?_);at_builtin;refine Kd.S_append (Kd.slice 3 (Kd.int .i64)) (w0:=w) w.heap.size rfl (.tmp 36) (.tmp 38) 24 29 (.slice none 0 0) 24 rfl Try.underlying24 info29 rfl (by decide) (by omega) u7 x7_1 x10_2 [.slice Ao22 x10_2.length co22] (fun _=>True) (fun k_=>some k_=(.slice Ao22 x10_2.length co22:Value).ownBlock) rfl rfl ?aP (fun k_ hk_=>((Kd.R_mono (ok':=fun k_=>((fun _=>True)) k_∧some k_ ≠ (u7:Value).ownBlock) (Kd.R_apart' (HO_10.out) (Kd.S_typed HO_7.out) (by decide)) (fun k_ hk=>⟨trivial,hk.2⟩))).1 k_ hk_.symm) ?aF ?aO ?aB ?aS ?aL ?_;(case aP=>exact Kd.M_row (Kd.R_mono (Kd.R_tight rfl (Kd.R_mono (ok':=fun k_=>((fun _=>True)) k_∧some k_ ≠ (u7:Value).ownBlock) (Kd.R_apart' (HO_10.out) (Kd.S_typed HO_7.out) (by decide)) (fun k_ hk=>⟨trivial,hk.2⟩))) (fun _ h_=>h_)));(case aB=>exact (by repeat (first|(with_reducible first|exact HB.out|apply zc|apply zd|apply zb)|exact HB.out)));(case aF=>exact (fun _ _=>trivial));(case aO=>exact (by (with_reducible repeat (first|apply Kd.S_alloc|apply Kd.S_drewN|apply Kd.S_drew));exact Kd.S_mono HO_7.out (fun k_ hk=>⟨trivial,fun e_=>hk e_⟩)));(case aS=>exact (zr (by repeat (first|(with_reducible first|exact HB.out|apply zc|apply zd|apply zb)|exact HB.out))));(case aL=>have:=LMc20.out;omega);intro v110 w21 ho hb hg hat;rw [← Ny109.out] at ho;replace HB:=za (hb);have HO111:=za (ho);clear HO_7 HO_10;clear ho hb hg hat)));(go_roundg k2);(case measure=>have:=HK1.out;have:=HK2.out;omega);case rel=>exact ⟨(x2_2),(y109),(wrap64 (x15_1 + 1)),(by first|rfl|(simp;done)|(simp [*];done)),(by first|rfl|(simp;done)|(simp [*];done)),H',⟨by have:=HK1.out;have:=HK2.out;omega⟩,⟨by (with_reducible repeat (first|apply Kd.S_alloc|apply Kd.S_drewN|apply Kd.S_drew));exact HO111.out⟩,⟨by repeat (first|(with_reducible first|exact HB.out|apply zc|apply zd|apply zb)|exact HB.out)⟩⟩
           · rw [if_neg c20] at H;exact absurd H (by simp)
       · rw [if_neg c10] at H;exact absurd H (by simp)
      · rw [if_neg c9] at H;exact absurd H (by simp)
     · rw [if_neg c8] at H;exact absurd H (by simp)
    · rw [if_neg c7] at H;exact absurd H (by simp)
   · rw [if_neg c6] at H;have c6b0:decide (x15_1 < (l0.length:Int))=false:=decide_eq_false c6;clear c6;obtain rfl:=Option.some.inj H;(go_wp2);(go_ret);exact ⟨_,by first|rfl|simp [*,errW_none,errW_some] <;> rfl,by (with_reducible repeat (first|apply Kd.S_alloc|apply Kd.S_drewN|apply Kd.S_drew));exact HO_7.out,by repeat (first|(with_reducible first|exact HB.out|apply zc|apply zd|apply zb)|exact HB.out)⟩
end Go.Proofs.Ytadkkcdhgepbkaa.Q
end
section
namespace Go.Proofs.Ytadkkcdhgepbkaa.Q
open Go.RowKit Go.Proofs.YtadkkcdhgepbkaaW.PrintWords Go.Proofs.YtadkkcdhgepbkaaW.PrintLast Go.Proofs.YtadkkcdhgepbkaaW.PrintMore
attribute [local go_sem] max2_int min2_int max_two min_two max_three min_three max_four min_four   -- for this text's walks alone
set_option linter.unusedVariables false
set_option linter.unusedSimpArgs false
mutual
def impl_RankCountsPlain.j0:Nat→List Int→Int→Bool→Option (List Int × Bool)
|0,_,_,_=>none
|k + 1,x0,x1,x17=>if x17=true then (some (([]:List Int),false)) else ((impl_matrices.f k x0 x1).bind fun bt103=>(if bt103.2=true then (if 0≤(wrap64 ((x0.length:Int) + 1)) then (if (wrap64 ((x0.length:Int) + 1):Int).toNat≤35184372088832 then (impl_RankCountsPlain.l0 k x0 x1 (List.replicate (wrap64 ((x0.length:Int) + 1):Int).toNat 0) bt103.1 0) else (none)) else (none)) else (some (([]:List Int),false))))
def impl_RankCountsPlain.l0:Nat→List Int→Int→List Int→Int→Int→Option (List Int × Bool)
|0,_,_,_,_,_=>none
|k + 1,x0,x1,x8,x30,x31=>if x31 < x30 then ((impl_matrix.f k x0 x1 x31).bind fun t108=>((impl_rank.f k t108 x1).bind fun t111=>(if 0≤t111 then (if t111 < (x8.length:Int) then (impl_RankCountsPlain.l0 k x0 x1 (x8.set (t111:Int).toNat (wrap64 ((rd x8 t111) + 1))) x30 (wrap64 (x31 + 1))) else (none)) else (none)))) else (some (x8,true))
end
def impl_RankCountsPlain.f (k:Nat) (l0:List Int) (a1:Int):Option (List Int × Bool):=(impl_AreLengths.f k l0).bind fun t101=>(if t101=true then ((impl_isQ.f a1).bind fun t102=>(impl_RankCountsPlain.j0 k l0 a1 (!t102))) else (impl_RankCountsPlain.j0 k l0 a1 true))
set_option maxHeartbeats 8000000 in
set_option maxRecDepth 100000 in
theorem impl_RankCountsPlain.calls (k:Nat) (A0:Option Addr) (c0:Nat) (l0:List Int) (a1:Int) (r1:List Int) (r2:Bool) (w:World) (hr0:Kd.C (Kd.int .i64) w A0 l0.length l0) (hc0:l0.length≤c0) (h:impl_RankCountsPlain.f k l0 a1=some (r1,r2)) :
  Calls Try.prog 21 #[.slice A0 l0.length c0,.int .i64 a1] w fun e w'=>∃ v0_:Value,e=.returned (.tuple #[v0_,.bool r2])∧Kd.R (Kd.int .i64) 3 w' w.heap.size (fun _=>True) v0_ r1∧Below w.heap.size w w':=by
 have HR0:=za hr0;have HC0:=za hc0;clear hr0 hc0;have HB:=za (Below.refl w.heap.size w);have H:((impl_AreLengths.f k l0).bind fun t101=>(if t101=true then ((impl_isQ.f a1).bind fun t102=>(impl_RankCountsPlain.j0 k l0 a1 (!t102))) else (impl_RankCountsPlain.j0 k l0 a1 true)))=some (r1,r2):=h;clear h;have HC3:=za H;clear H;(go_enter Try.func21,Try.ntmps21);(go_upto_region 1 with (fail));go_cut [17] (fun v17 wc=>∃ (kq:Nat) (x17_2:Bool),v17=.bool x17_2∧Aside0 (impl_RankCountsPlain.j0 kq l0 a1 x17_2=some (r1,r2))∧Aside0 (kq≤k)∧Aside0 (Below w.heap.size w wc))
 case first =>
  have H:=HC3.out;clear HC3;obtain ⟨t101,A4,H⟩:=bindAside H;(try dsimp only at H);by_cases c5:t101=true
  · subst c5;(have H1:((impl_isQ.f a1).bind fun t102=>(impl_RankCountsPlain.j0 k l0 a1 (!t102)))=some (r1,r2):=by rw [if_pos rfl] at H;exact H);clear H;have H:=H1;clear H1;obtain ⟨t102,A6,H⟩:=bindAside H;(try dsimp only at H);have H':=za H;clear H;(go_wp2_with (first|((with_reducible refine zh (f:=45) rfl ?_);refine goesL_ (some 11) rfl rfl Try.func45 (by kernel_rfl) rfl #[.slice A0 l0.length c0] rfl (by first|rfl|simp only [z3_,z4_,z5_];try rfl) ?_;(with_reducible refine (impl_AreLengths.calls k _ _ l0 true _ ?side1 ?side2 A4.out).mono ?_);(case side1=>repeat (first|exact (Kd.C_below HR0.out HB.out)|(with_reducible refine zi ?_ _)|(with_reducible refine zj ?_ _)|(with_reducible refine zk ?_)));(case side2=>exact HC0.out);rintro e w' ⟨rfl,⟨nd,rfl⟩⟩;refine ⟨_,rfl,?_⟩)|(go_at_call 46;(with_reducible refine (impl_isQ.calls a1 t102 _ A6.out).mono ?_);rintro e w' ⟨rfl,⟨nd,rfl⟩⟩)));(go_meet);case rel=>exact ⟨_,(!t102),(by first|rfl|(simp;done)|(simp [*];done)),H',⟨by first|omega|exact Nat.le_refl _⟩,⟨by repeat (first|(with_reducible first|exact HB.out|apply zc|apply zd|apply zb)|exact HB.out)⟩⟩
  · replace c5:=Bool.eq_false_iff.mpr c5;subst c5;(have H1:(impl_RankCountsPlain.j0 k l0 a1 true)=some (r1,r2):=by rw [if_neg (show ¬ (false=true) by decide)] at H;exact H);clear H;have H:=H1;clear H1;have H':=za H;clear H;(go_wp2_with (first|((with_reducible refine zh (f:=45) rfl ?_);refine goesL_ (some 11) rfl rfl Try.func45 (by kernel_rfl) rfl #[.slice A0 l0.length c0] rfl (by first|rfl|simp only [z3_,z4_,z5_];try rfl) ?_;(with_reducible refine (impl_AreLengths.calls k _ _ l0 false _ ?side1 ?side2 A4.out).mono ?_);(case side1=>repeat (first|exact (Kd.C_below HR0.out HB.out)|(with_reducible refine zi ?_ _)|(with_reducible refine zj ?_ _)|(with_reducible refine zk ?_)));(case side2=>exact HC0.out);rintro e w' ⟨rfl,⟨nd,rfl⟩⟩;refine ⟨_,rfl,?_⟩)));(go_meet);case rel=>exact ⟨_,(true),(by first|rfl|(simp;done)|(simp [*];done)),H',⟨by first|omega|exact Nat.le_refl _⟩,⟨by repeat (first|(with_reducible first|exact HB.out|apply zc|apply zd|apply zb)|exact HB.out)⟩⟩
 case rest =>
  clear HC3;(try clear c2);(try clear p2);(try clear c4);(try clear c5);obtain ⟨kq,x17_2,rfl,HA,HJ2,HB⟩:=hcut
  cases kq with
 |zero=>exact absurd HA.out (by simp [impl_RankCountsPlain.j0])
 |succ kj2 =>
   have H:=HA.out;clear HA;simp only [impl_RankCountsPlain.j0] at H;by_cases c7:x17_2=true
   · subst c7;(have H1:(some (([]:List Int),false))=some (r1,r2):=by rw [if_pos rfl] at H;exact H);clear H;have H:=H1;clear H1;simp only [Option.some.injEq,Prod.mk.injEq] at H;obtain ⟨rfl,rfl⟩:=H;(go_wp2);(go_ret2);exact ⟨_,by first|rfl|simp [*,errW_none,errW_some] <;> rfl,by first|exact Kd.R_nil _ _ _ _ _|exact Kd.N_nil _ _ _ _ _|exact Kd.V_nil _ _ _ _ _|exact Kd.Q_nil _ _ _ _ _|exact Kd.S_nil _ _ _ _ _,by repeat (first|(with_reducible first|exact HB.out|apply zc|apply zd|apply zb)|exact HB.out)⟩
   ·
    replace c7:=Bool.eq_false_iff.mpr c7;subst c7;(have H1:((impl_matrices.f kj2 l0 a1).bind fun bt103=>(if bt103.2=true then (if 0≤(wrap64 ((l0.length:Int) + 1)) then (if (wrap64 ((l0.length:Int) + 1):Int).toNat≤35184372088832 then (impl_RankCountsPlain.l0 kj2 l0 a1 (List.replicate (wrap64 ((l0.length:Int) + 1):Int).toNat 0) bt103.1 0) else (none)) else (none)) else (some (([]:List Int),false))))=some (r1,r2):=by rw [if_neg (show ¬ (false=true) by decide)] at H;exact H);clear H;have H:=H1;clear H1;obtain ⟨⟨t103,t104⟩,A8,H⟩:=bindAside H;(try dsimp only at H);by_cases c9:t104=true
    ·
     subst c9;(have H1:(if 0≤(wrap64 ((l0.length:Int) + 1)) then (if (wrap64 ((l0.length:Int) + 1):Int).toNat≤35184372088832 then (impl_RankCountsPlain.l0 kj2 l0 a1 (List.replicate (wrap64 ((l0.length:Int) + 1):Int).toNat 0) t103 0) else (none)) else (none))=some (r1,r2):=by rw [if_pos rfl] at H;exact H);clear H;have H:=H1;clear H1;obtain ⟨ji10,hji10⟩:∃ j_:Int,(wrap64 ((l0.length:Int) + 1))=j_:=⟨_,rfl⟩;(replace H:(if 0≤(ji10) then (if (ji10:Int).toNat≤35184372088832 then (impl_RankCountsPlain.l0 kj2 l0 a1 (List.replicate (ji10:Int).toNat 0) t103 0) else (none)) else (none))=some (r1,r2):=by first|(rw [hji10] at H;exact H)|(simp only [hji10] at H ⊢;exact H));(try rw [hji10] at A8);have hji10w:(IntKind.i64.wrap ((l0.length:Int) + 1))=ji10:=(i64_w _).trans hji10;by_cases c11:0≤(ji10)
     ·
      rw [if_pos c11] at H;have c11b0:=eq_true c11;have c11b1:decide (0≤(ji10))=true:=decide_eq_true c11;clear c11;by_cases c12:(ji10:Int).toNat≤35184372088832
      ·
       rw [if_pos c12] at H;have c12b0:=eq_true c12;have c12b1:decide ((ji10:Int).toNat≤35184372088832)=true:=decide_eq_true c12;clear c12;obtain ⟨y105,hy105⟩:∃ y_:List Int,y_=(List.replicate (ji10:Int).toNat 0):=⟨_,rfl⟩;(replace H:(impl_RankCountsPlain.l0 kj2 l0 a1 y105 t103 0)=some (r1,r2):=by first|(rw [hy105];with_reducible exact H)|(have H2_:=(Option.bind_some _ _).symm.trans H;rw [hy105];with_reducible exact H2_)|(have H2_:=(Option.bind_some _ _).symm.trans H;with_reducible exact H2_)|with_reducible exact H|(rw [hy105];exact H)|exact H);have Ny105:=za hy105;clear hy105;have H':=za H;clear H;(go_wp2_with (first|((with_reducible refine zh (f:=47) rfl ?_);refine goesL_ (some 21) rfl rfl Try.func47 (by kernel_rfl) rfl #[.slice A0 l0.length c0,.int .i64 a1] rfl (by first|rfl|simp only [z3_,z4_,z5_];try rfl) ?_;(with_reducible refine (impl_matrices.calls kj2 _ _ l0 a1 t103 true _ ?side1 ?side2 A8.out).mono ?_);(case side1=>repeat (first|exact (Kd.C_below HR0.out HB.out)|(with_reducible refine zi ?_ _)|(with_reducible refine zj ?_ _)|(with_reducible refine zk ?_)));(case side2=>exact HC0.out);rintro e w' ⟨rfl,⟨nd,rfl⟩⟩;refine ⟨_,rfl,?_⟩)|((with_reducible refine gate_dst (N:=29) rfl ?_);refine Kd.R_make (Kd.int .i64) _ 3 rfl (N:=29) rfl 29 _ _ rfl ji10 rfl rfl Try.underlying29 (.int .i64 0) 8 info3 rfl (by decide) (by omega) 0 (ok:=fun _=>True) (okp:=fun _=>True) rfl (fun _ hk=>hk) trivial (of_decide_eq_true ‹_›) (Nat.le_trans (Nat.mul_le_mul_right _ (of_decide_eq_true ‹_›:ji10.toNat≤35184372088832)) (by omega)) (Below.refl _ _) (Nat.le_refl _) ?_;intro v106 w13 ho14 hb hg_ hnew_;clear hg_ hnew_;(first|rw [← Ny105.out] at ho14|(simp only [Int.reduceToNat] at ho14;rw [← Ny105.out] at ho14));have HO107:=za (Kd.R_lower ho14 (zr (by repeat (first|(with_reducible first|exact HB.out|apply zc|apply zd|apply zb)|exact HB.out))));replace HB:=za (below_step (by repeat (first|(with_reducible first|exact HB.out|apply zc|apply zd|apply zb)|exact HB.out)) hb);clear hb ho14)));(go_loopg [31] kj2 (fun kq v31 w'=>∃ (x8_2:List Int) (x31_2:Int),v31=.int .i64 x31_2∧Aside0 (impl_RankCountsPlain.l0 kq l0 a1 x8_2 t103 x31_2=some (r1,r2))∧Aside0 (kq≤kj2)∧Aside0 (Kd.R (Kd.int .i64) 3 w' w.heap.size (fun _=>True) v106 x8_2)∧Aside0 (Below w.heap.size w w')));case atStart=>exact ⟨(y105),(0),(by first|rfl|(simp;done)|(simp [*];done)),H',⟨Nat.le_refl _⟩,⟨by (with_reducible repeat (first|apply zf|apply zg|apply ze));exact HO107.out⟩,⟨by repeat (first|(with_reducible first|exact HB.out|apply zc|apply zd|apply zb)|exact HB.out)⟩⟩
       case round =>
        clear H';(try clear c1);(try clear c2);(try clear p2);(try clear c4);(try clear c5);(try clear p6);(try clear c7);(try clear c9);(try clear c11);(try clear c11b0);(try clear c11b1);(try clear c12);(try clear c12b0);(try clear c12b1);(try clear p2);obtain ⟨x8_2,x31_2,rfl,HA,HK2,HO_8,HB⟩:=hrel
        cases gk with
       |zero=>exact absurd HA.out (by simp [impl_RankCountsPlain.l0])
       |succ k2 =>
         have H:=HA.out;clear HA;simp only [impl_RankCountsPlain.l0] at H;by_cases c15:x31_2 < t103
         ·
          rw [if_pos c15] at H;have c15b0:decide (x31_2 < t103)=true:=decide_eq_true c15;clear c15;obtain ⟨t108,A16,H⟩:=bindAside H;(try dsimp only at H);obtain ⟨t111,A17,H⟩:=bindAside H;(try dsimp only at H);by_cases c18:0≤t111
          ·
           rw [if_pos c18] at H;have c18b0:decide (0≤t111)=true:=decide_eq_true c18;clear c18;by_cases c19:t111 < (x8_2.length:Int)
           · rw [if_pos c19] at H;have c19b0:decide (t111 < (x8_2.length:Int))=true:=decide_eq_true c19;clear c19;obtain ⟨y113,hy113⟩:∃ y_:List Int,y_=(x8_2.set (t111:Int).toNat (wrap64 ((rd x8_2 t111) + 1))):=⟨_,rfl⟩;(replace H:(impl_RankCountsPlain.l0 k2 l0 a1 y113 t103 (wrap64 (x31_2 + 1)))=some (r1,r2):=by first|(rw [hy113];with_reducible exact H)|(have H2_:=(Option.bind_some _ _).symm.trans H;rw [hy113];with_reducible exact H2_)|(have H2_:=(Option.bind_some _ _).symm.trans H;with_reducible exact H2_)|with_reducible exact H|(rw [hy113];exact H)|exact H);have Ny113:=za hy113;clear hy113;have H':=za H;clear H;(go_wp2_with (first|((with_reducible refine zh (f:=49) rfl ?_);refine goesL_ (some 38) rfl rfl Try.func49 (by kernel_rfl) rfl #[.slice A0 l0.length c0,.int .i64 a1,.int .i64 x31_2] rfl (by first|rfl|simp only [z3_,z4_,z5_];try rfl) ?_;(with_reducible refine (impl_matrix.calls k2 _ _ l0 a1 x31_2 t108 _ ?side1 ?side2 A16.out).mono ?_);(case side1=>repeat (first|exact (Kd.C_below HR0.out HB.out)|(with_reducible refine zi ?_ _)|(with_reducible refine zj ?_ _)|(with_reducible refine zk ?_)));(case side2=>exact HC0.out);rintro e w21 ⟨v109,rfl,ho0,hb⟩;refine ⟨_,rfl,?_⟩;have HO110:=za (Kd.S_lower (Kd.S_new' ho0 (Kd.R_lt (by (with_reducible repeat (first|apply zf|apply zg|apply ze));exact HO_8.out))) (zr (by repeat (first|(with_reducible first|exact HB.out|apply zc|apply zd|apply zb)|exact HB.out))));replace HO_8:=za (Kd.R_below (by (with_reducible repeat (first|apply zf|apply zg|apply ze));exact HO_8.out) hb);replace HB:=za (below_step (by repeat (first|(with_reducible first|exact HB.out|apply zc|apply zd|apply zb)|exact HB.out)) hb);obtain ⟨Ao22,co22,eo22⟩:=Kd.S_slice HO110.out;subst eo22)|((with_reducible refine zh (f:=33) rfl ?_);refine goesL_ (some 40) rfl rfl Try.func33 (by kernel_rfl) rfl #[.slice Ao22 t108.length co22,.int .i64 a1] rfl (by first|rfl|simp only [z3_,z4_,z5_];try rfl) ?_;(with_reducible refine (impl_rank.calls k2 _ _ t108 a1 t111 _ ?side1 ?side2 A17.out).mono ?_);(case side1=>repeat (first|exact (Kd.S_reads' HO110.out).2.2|(with_reducible refine zi ?_ _)|(with_reducible refine zj ?_ _)|(with_reducible refine zk ?_)));(case side2=>exact (Kd.S_reads' HO110.out).2.1);rintro e w23 ⟨rfl,hb⟩;refine ⟨_,rfl,?_⟩;replace HO_8:=za (Kd.R_below (by (with_reducible repeat (first|apply zf|apply zg|apply ze));exact HO_8.out) hb);replace HO110:=za (Kd.S_below (by (with_reducible repeat (first|apply Kd.S_alloc|apply Kd.S_drewN|apply Kd.S_drew));exact HO110.out) hb);replace HB:=za (below_step (by repeat (first|(with_reducible first|exact HB.out|apply zc|apply zd|apply zb)|exact HB.out)) hb);obtain ⟨Ao24,co24,eo24⟩:=Kd.R_slice HO_8.out;subst eo24;have p112:0≤(t111:Int):=of_decide_eq_true ‹_›;have q112:t111 < (x8_2.length:Int):=of_decide_eq_true ‹_›;obtain ⟨ad112,e112,hx112_0⟩:=Kd.at_int (zl HO_8.out).2.2 t111 p112 q112;cases e112;replace p112:=eq_true p112;replace q112:=eq_true q112;have p20:0≤(t111:Int):=of_decide_eq_true ‹_›;have q20:(t111:Int) < ((x8_2.length:Int):Int):=of_decide_eq_true ‹_›;obtain ⟨go20,co20,eo20,gb20,gl20,cl20,HG20⟩:=Kd.R_form HO_8.out (by omega);(first|cases eo20|(injection eo20 with ea_ en_ ec_;(first|subst ea_|(injection ea_ with ea_;subst ea_));subst ec_;clear en_));have GB20:=za gb20;have GG20:=za HG20;clear gb20 gl20 HG20;(first|simp only [add_plain] at hx112_0|skip);obtain ⟨hx20_0,hf20_0⟩:=Kd.R_celln 0 HO_8.out (t111:Int) p20 q20;replace p20:=eq_true p20;replace q20:=eq_true q20;obtain ⟨hy25_,hz25_⟩:=Kd.R_celln 0 HO_8.out (t111:Int) (of_decide_eq_true ‹_›) (of_decide_eq_true ‹_›);have HP25:=Kd.R_putg HO_8.out (t111:Int) (wrap64 ((rd x8_2 t111) + 1)))|((with_reducible refine gate_store (t:=3) (p:=44) rfl ?_);refine store_event (t:=3) (p:=44) (v:=?vo_w26) (w1:=(w23.setCell ⟨go20,(t111:Int).toNat,none⟩ (.int .i64 (wrap64 ((rd x8_2 t111) + 1))))) ?hg ?ho ?hn ?hr ?_;(case ho=>rfl);(case hg=>rfl);(case hn=>rfl);(case hr=>first|(go_simp;done)|(go_simp;rfl));intro w26 hw;have hg:w23.grownBy w26 (some go20):=(by rw [hw];exact HP25.2);have hp_:Kd.R (Kd.int .i64) 3 w26 w.heap.size (fun _=>True) (.slice (some ⟨go20,0,none⟩) x8_2.length co24) y113:=(by rw [hw,Ny113.out];exact HP25.1);clear HP25;replace HO_8:=za (hp_);replace HO110:=za (Kd.S_after (v:=(.slice (some ⟨go20,0,none⟩) x8_2.length co24)) (v1:=(.slice (some ⟨go20,0,none⟩) x8_2.length co24)) (ok:=(fun _=>True)) (by (with_reducible repeat (first|apply Kd.S_alloc|apply Kd.S_drewN|apply Kd.S_drew));exact HO110.out) hg (.inl rfl));replace HB:=za ((by rw [hw];exact zm (HB.out) GB20.out:Below w.heap.size w w26));clear hg hw hp_)));(go_roundg k2);(case measure=>have:=HJ2.out;have:=HK2.out;omega);case rel=>exact ⟨(y113),(wrap64 (x31_2 + 1)),(by first|rfl|(simp;done)|(simp [*];done)),H',⟨by have:=HJ2.out;have:=HK2.out;omega⟩,⟨by (with_reducible repeat (first|apply zf|apply zg|apply ze));exact HO_8.out⟩,⟨by repeat (first|(with_reducible first|exact HB.out|apply zc|apply zd|apply zb)|exact HB.out)⟩⟩
           · rw [if_neg c19] at H;exact absurd H (by simp)
          · rw [if_neg c18] at H;exact absurd H (by simp)
         · rw [if_neg c15] at H;have c15b0:decide (x31_2 < t103)=false:=decide_eq_false c15;clear c15;simp only [Option.some.injEq,Prod.mk.injEq] at H;obtain ⟨rfl,rfl⟩:=H;(go_wp2);(go_ret2);exact ⟨_,by first|rfl|(simp [errW_none,errW_some] <;> rfl)|(simp only [← hji10];first|rfl|(simp [errW_none,errW_some] <;> rfl))|(simp [*,errW_none,errW_some] <;> rfl),by (with_reducible repeat (first|apply zf|apply zg|apply ze));exact HO_8.out,by repeat (first|(with_reducible first|exact HB.out|apply zc|apply zd|apply zb)|exact HB.out)⟩
      · rw [if_neg c12] at H;exact absurd H (by simp)
     · rw [if_neg c11] at H;exact absurd H (by simp)
    · replace c9:=Bool.eq_false_iff.mpr c9;subst c9;(have H1:(some (([]:List Int),false))=some (r1,r2):=by rw [if_neg (show ¬ (false=true) by decide)] at H;exact H);clear H;have H:=H1;clear H1;simp only [Option.some.injEq,Prod.mk.injEq] at H;obtain ⟨rfl,rfl⟩:=H;(go_wp2_with (first|((with_reducible refine zh (f:=47) rfl ?_);refine goesL_ (some 21) rfl rfl Try.func47 (by kernel_rfl) rfl #[.slice A0 l0.length c0,.int .i64 a1] rfl (by first|rfl|simp only [z3_,z4_,z5_];try rfl) ?_;(with_reducible refine (impl_matrices.calls kj2 _ _ l0 a1 t103 false _ ?side1 ?side2 A8.out).mono ?_);(case side1=>repeat (first|exact (Kd.C_below HR0.out HB.out)|(with_reducible refine zi ?_ _)|(with_reducible refine zj ?_ _)|(with_reducible refine zk ?_)));(case side2=>exact HC0.out);rintro e w' ⟨rfl,⟨nd,rfl⟩⟩;refine ⟨_,rfl,?_⟩)));(go_ret2);exact ⟨_,by first|rfl|simp [*,errW_none,errW_some] <;> rfl,by first|exact Kd.R_nil _ _ _ _ _|exact Kd.N_nil _ _ _ _ _|exact Kd.V_nil _ _ _ _ _|exact Kd.Q_nil _ _ _ _ _|exact Kd.S_nil _ _ _ _ _,by repeat (first|(with_reducible first|exact HB.out|apply zc|apply zd|apply zb)|exact HB.out)⟩
end Go.Proofs.Ytadkkcdhgepbkaa.Q
end
section
namespace Go.Proofs.Ytadkkcdhgepbkaa.Q
set_option linter.unusedVariables false
open Go.RowKit Go.Proofs.YtadkkcdhgepbkaaW.PrintWords Go.Proofs.YtadkkcdhgepbkaaW.PrintLast Go.Proofs.YtadkkcdhgepbkaaW.PrintMore
open Go.Proofs.YtadkkcdhgepbkaaL Go.Proofs.Ytadkkcdhgepbkaa.BoardK Go.Proofs.Ytadkkcdhgepbkaa.LeadsK
def spec_weLeads.f (l0 : List (List Int)) (a1 : Int) : Option (List Int) := if areRowsB l0 a1 = true then some (leadsF a1 (l0.getD 0 []).length l0 [] []) else none
set_option maxHeartbeats 16000000 in
set_option maxRecDepth 100000 in
theorem spec_weLeads.calls (A0 : Option Addr) (c0 : Nat) (l0 : List (List Int)) (a1 : Int) (r : List Int) (w : World) (hr0 : Kd.C (Kd.slice 3 (Kd.int .i64)) w A0 l0.length l0) (hc0 : l0.length ≤ c0) (h : spec_weLeads.f l0 a1 = some r) :
    Calls Try.prog 38 #[.slice A0 l0.length c0, .int .i64 a1] w fun e w' => ∃ v0_ : Value, e = .returned (v0_) ∧ Kd.R (Kd.int .i64) 3 w' w.heap.size (fun _ => True) v0_ r ∧ Below w.heap.size w w' := by
  by_cases hs : areRowsB l0 a1 = true
  rotate_left
  · rw [spec_weLeads.f, if_neg hs] at h; cases h
  rw [spec_weLeads.f, if_pos hs] at h
  have h := Option.some.inj h
  obtain ⟨hq, hl6, hn1, hn6, hdig⟩ := areRows_out hs
  obtain ⟨n, hn⟩ : ∃ n, n = (l0.getD 0 []).length := ⟨_, rfl⟩
  rw [← hn] at h hn1 hn6 hdig
  have HQ := Aside0.mk hq
  have HL := Aside0.mk hl6
  have HN := Aside0.mk (And.intro hn1 hn6)
  have HD := Lib.hid hdig
  have HR := Aside0.mk hr0
  have HC := Aside0.mk hc0
  have HF := Aside0.mk h
  have q0 : (a1 == 0) = false := beq_eq_false_iff_ne.mpr (by omega)
  have q0b : (a1 = 0) = False := eq_false (by omega)
  clear hs h hq hl6 hn1 hn6 hdig hr0 hc0 hn
  go_enter Try.func38, Try.ntmps38
  go_wp2
  have ST0 : L0St w (.slice none 0 0) (.slice none 0 0) [] [] w := ⟨Kd.S_nil _ _ _ _ _, Kd.R_nil _ _ _ _ _, Below.refl _ _⟩
  have H0 := Aside0.mk ST0
  clear ST0
  go_loopg [5, 6, 18] l0.length (fun kq v5 v6 v18 w' => ∃ (x : Int) (done : List (List Int)) (out : List Int), v18 = .int .i64 x ∧ Aside0 (∃ i : Nat, x = i ∧ i + kq = l0.length ∧ done.length = i ∧ WFs a1 n done out ∧ leadsF a1 n (l0.drop i) done out = r) ∧ Aside0 (L0St w v5 v6 done out w'))
  case atStart => exact ⟨0, [], [], rfl, ⟨0, rfl, by omega, rfl, ⟨rfl, by simp, by simp⟩, by rw [List.drop_zero]; exact HF.out⟩, H0⟩
  case round =>
    clear H0
    obtain ⟨x, done, out, rfl, HI, HS⟩ := hrel
    by_cases c3 : x < (l0.length : Int)
    · have c4b0 : decide (0 ≤ x) = true := decide_eq_true (by obtain ⟨i, h, _⟩ := HI.out; omega)
      have c3b0 : decide (x < (l0.length : Int)) = true := decide_eq_true c3
      cases gk with
      | zero => exact absurd HI.out (by rintro ⟨i, h, h', _⟩; omega)
      | succ k1 =>
        clear c3
        obtain ⟨row, hrow⟩ : ∃ row, row = rd_L2 l0 x := ⟨_, rfl⟩
        have HX : Aside0 (∃ i : Nat, x = i ∧ i + k1 + 1 = l0.length ∧ done.length = i ∧ WFs a1 n done out ∧ Dig a1 n row ∧ leadsF a1 n (l0.drop (i + 1)) (done ++ [red a1 n done out row]) (out ++ [leadOf (red a1 n done out row) 0]) = r) := ⟨by
          obtain ⟨i, h, h', hd, hw, h3⟩ := HI.out
          have hg : row = l0[i]'(by omega) := by rw [hrow, h]; unfold rd_L2; rw [Int.toNat_natCast]; exact gD_lt _ _ (by omega)
          refine ⟨i, h, by omega, hd, hw, by rw [hg]; exact HD.out _ (List.getElem_mem _), ?_⟩
          rw [List.drop_eq_getElem_cons (by omega), leadsF] at h3
          rw [hg]
          exact h3⟩
        clear HI
        have p103 : 0 ≤ x := of_decide_eq_true (by first | (with_reducible assumption) | assumption)
        have q103 : x < (l0.length : Int) := of_decide_eq_true (by first | (with_reducible assumption) | assumption)
        have HR1 := Aside0.mk (Kd.C_below HR.out HS.out.B)
        obtain ⟨ad103, A103, c103, e103, hx103, hl103, hi103⟩ := at_L2 HR1.out x p103 q103
        cases e103
        rw [← hrow] at hx103 hl103 hi103
        clear hrow
        have HI3 := Aside0.mk hi103
        have HC3 := Aside0.mk hl103
        clear hi103 hl103
        replace p103 := eq_true p103
        replace q103 := eq_true q103
        have hrl : row.length = n := by obtain ⟨i, _, _, _, _, hd, _⟩ := HX.out; exact hd.len
        have HRL := Aside0.mk hrl
        clear hrl
        have CC0 : ∀ W : World, (∃ q, W = wr.drewN q) → Calls Try.prog 69 #[.slice A103 row.length c103] W fun e w' => ∃ (vn : Value), e = .returned vn ∧ LSt w u5 u6 vn done out row w' := by
          rintro W ⟨q, rfl⟩
          have := spec_l1Own.calls A103 c103 row row (wr.drewN q) (Kd.C_drewN HI3.out q) HC3.out (by rw [spec_l1Own.f, Option.bind_some, if_pos (by have := HRL.out; have := HN.out; simp; omega)]; rfl)
          exact this.mono (by rintro e w' ⟨v0, rfl, h3, h4⟩; exact ⟨v0, rfl, (HS.out.drewN q).fresh h3 h4⟩)
        have CC := Lib.hid CC0
        clear CC0
        obtain ⟨Ad, cd, hvd⟩ := Kd.S_slice HS.out.d
        obtain ⟨Ao, co, hvo⟩ := Kd.R_slice HS.out.o
        subst hvd
        subst hvo
        go_wp2_with (first | (go_at_call 69; (refine (CC.out _ (by first | exact ⟨0, rfl⟩ | exact ⟨_, rfl⟩)).mono ?_); rintro e wn ⟨vn, rfl, hst⟩; obtain ⟨gn, cn, evn, _, _, _, _⟩ := Kd.R_form hst.n (by have := HRL.out; have := HN.out; omega); rw [HRL.out] at evn; subst evn; have HT := Aside0.mk hst; clear hst))
        obtain ⟨now, hnow⟩ : ∃ now, now = red a1 n done out row := ⟨_, rfl⟩
        rw [← hnow] at HX
        have HW := Aside0.mk (show out.length = done.length ∧ (∀ o ∈ done, Dig a1 n o) ∧ (∀ e ∈ out, e = -1 ∨ (0 ≤ e ∧ e < n)) from by obtain ⟨i, _, _, _, hw, _⟩ := HX.out; exact ⟨hw.len, hw.dig, hw.lead⟩)
        have H1 := Aside0.mk (show Dig a1 n row ∧ red a1 n done out row = now from by obtain ⟨i, _, _, _, _, hd, _⟩ := HX.out; exact ⟨hd, hnow.symm⟩)
        clear hnow CC HS hx103 p103 q103 c4b0 c3b0
        go_loopg [26] out.length (fun kq v26 w' => ∃ (y : Int) (xs : List Int), v26 = .int .i64 y ∧ Aside0 (∃ k : Nat, y = k ∧ k + kq = out.length ∧ Dig a1 n xs ∧ red a1 n (done.drop k) (out.drop k) xs = now) ∧ Aside0 (LSt w (.slice Ad done.length cd) (.slice Ao out.length co) (.slice (some ⟨gn, 0, none⟩) n cn) done out xs w'))
        case atStart => exact ⟨0, row, rfl, ⟨0, rfl, by omega, H1.out.1, by rw [List.drop_zero, List.drop_zero]; exact H1.out.2⟩, HT⟩
        case round =>
          clear HT
          obtain ⟨y, xs, rfl, HY, HS2⟩ := hrel
          have HDO := Aside0.mk (show (done.length : Int) = (out.length : Int) from by have := HW.out.1; omega)
          by_cases c5 : y < (out.length : Int)
          · have c6b0 : decide (0 ≤ y) = true := decide_eq_true (by obtain ⟨i, h, _⟩ := HY.out; omega)
            have c5b0 : decide (y < (done.length : Int)) = true := decide_eq_true (by have := HDO.out; omega)
            cases gk with
            | zero => exact absurd HY.out (by rintro ⟨i, h, h', _⟩; omega)
            | succ k2 =>
              have y0 : 0 ≤ y := of_decide_eq_true c6b0
              obtain ⟨go, co2, evo, _, _, _, _⟩ := Kd.R_form HS2.out.o (by omega)
              cases evo
              obtain ⟨gd, cd2, evd, _, _, _, _⟩ := Kd.S_form HS2.out.d (by have := HW.out.1; omega)
              cases evd
              obtain ⟨hx1, _⟩ := Kd.R_celln (0 : Int) HS2.out.o y y0 c5
              obtain ⟨e, he⟩ : ∃ e, e = rdOf 0 out y := ⟨_, rfl⟩
              rw [← he] at hx1
              obtain ⟨o, ho⟩ : ∃ o, o = done.getD y.toNat [] := ⟨_, rfl⟩
              have hod : y.toNat < done.length := by have := HW.out.1; omega
              have HY2 := Aside0.mk (show ∃ k : Nat, y = k ∧ k + k2 + 1 = out.length ∧ Dig a1 n xs ∧ red a1 n (done.drop (k + 1)) (out.drop (k + 1)) (if e = -1 then xs else elimS a1 (Int.tmod (xs.getD e.toNat 0 * o.getD e.toNat 0) a1) o n 0 xs) = now from by
                obtain ⟨k, h1, h2, h3, h4⟩ := HY.out
                refine ⟨k, h1, by omega, h3, ?_⟩
                have e1 : y.toNat = k := by omega
                rw [List.drop_eq_getElem_cons (show k < done.length by omega), List.drop_eq_getElem_cons (show k < out.length by omega), red] at h4
                rw [he, ho]
                unfold rdOf
                rw [e1, gD_lt _ _ (show k < out.length by omega), gD_lt _ _ (show k < done.length by omega)]
                exact h4)
              have HO := Aside0.mk (show Dig a1 n o from by rw [ho, gD_lt _ _ hod]; exact HW.out.2.1 _ (List.getElem_mem _))
              have HE := Aside0.mk (show e = -1 ∨ (0 ≤ e ∧ e < n) from by rw [he]; unfold rdOf; rw [gD_lt _ _ (show y.toNat < out.length by omega)]; exact HW.out.2.2 _ (List.getElem_mem _))
              have HXS := Aside0.mk (show Dig a1 n xs from by obtain ⟨k, _, _, h3, _⟩ := HY.out; exact h3)
              have EW := Aside0.mk (show ∃ k : Nat, wrap64 (y + 1) = ((k + 1 : Nat) : Int) ∧ y = k from by
                obtain ⟨k, h1, h2, _⟩ := HY.out
                have := HL.out
                obtain ⟨i, _, h6, h7, _⟩ := HX.out
                have := HW.out.1
                exact ⟨k, by rw [w64 (by omega) (by omega)]; omega, h1⟩)
              have p1 := eq_true y0
              have q1 := eq_true c5
              have q1b : (y < (done.length : Int)) = True := eq_true (by have := HW.out.1; omega)
              obtain ⟨_, ce, hcl, hM, hcc, _, _, _⟩ := Kd.S_elem HS2.out.d [] y (of_eq_true p1) (of_eq_true q1b)
              rw [← ho] at hM
              obtain ⟨vi, rfl, hRi⟩ := hM
              obtain ⟨gi, ci, evi, _, _, _, _⟩ := Kd.R_form hRi (by have := HO.out.len; have := HN.out; omega)
              rw [HO.out.len] at evi
              subst evi
              have hx3 := hcc 0 _ rfl
              (try simp only [show (Kd.slice 3 (Kd.int .i64)).sz = 1 from rfl, Nat.mul_one, Nat.add_zero] at hx3)
              have HRI := Aside0.mk hRi
              have HX3 := Aside0.mk hx3
              clear hcl hcc hRi
              clear HY he c5 y0
              by_cases e1 : e = -1
              · have b1 : decide (e < 0) = true := decide_eq_true (by omega)
                have HN2 := Aside0.mk (show ∃ k : Nat, wrap64 (y + 1) = k ∧ k + k2 = out.length ∧ Dig a1 n xs ∧ red a1 n (done.drop k) (out.drop k) xs = now from by
                  obtain ⟨k, h1, h2, h3, h4⟩ := HY2.out
                  rw [if_pos e1] at h4
                  obtain ⟨k', h5, h6⟩ := EW.out
                  have : k' = k := by omega
                  subst this
                  exact ⟨k' + 1, h5, by omega, h3, h4⟩)
                clear HY2 EW e1 ho hod
                go_wp2
                go_roundg k2
                case measure => omega
                case rel => exact ⟨wrap64 (y + 1), xs, (by first | rfl | (simp; done) | (simp [*]; done)), HN2, ⟨by repeat (first | exact HS2.out | refine LSt.drewN ?_ _ | refine LSt.drew ?_)⟩⟩
              · have he2 : 0 ≤ e ∧ e < n := HE.out.resolve_left e1
                have b1 : decide (e < 0) = false := decide_eq_false (by omega)
                obtain ⟨hx2, _⟩ := Kd.R_celln (0 : Int) HS2.out.n e he2.1 he2.2
                obtain ⟨v, hv⟩ : ∃ v, v = rdOf 0 xs e := ⟨_, rfl⟩
                rw [← hv] at hx2
                have hv2 : v = xs.getD e.toNat 0 := hv
                have p2 := eq_true he2.1
                have q2 := eq_true he2.2
                have HY3 := Aside0.mk (show ∃ k : Nat, y = k ∧ k + k2 + 1 = out.length ∧ red a1 n (done.drop (k + 1)) (out.drop (k + 1)) (elimS a1 (Int.tmod (v * o.getD e.toNat 0) a1) o n 0 xs) = now from by
                  obtain ⟨k, h1, h2, h3, h4⟩ := HY2.out
                  rw [if_neg e1] at h4
                  rw [hv2]
                  exact ⟨k, h1, h2, h4⟩)
                clear HY2
                obtain ⟨hx4, _⟩ := Kd.R_celln (0 : Int) HRI.out e he2.1 he2.2
                obtain ⟨oe, hoe⟩ : ∃ oe, oe = rdOf 0 o e := ⟨_, rfl⟩
                rw [← hoe] at hx4
                have hoe2 : oe = o.getD e.toNat 0 := hoe
                obtain ⟨bq, hbq⟩ : ∃ bq, bq = Int.tmod (v * oe) a1 := ⟨_, rfl⟩
                have hvd := HXS.out.dig e.toNat
                have hod2 := HO.out.dig e.toNat
                rw [← hv2] at hvd
                rw [← hoe2] at hod2
                have hq3 := HQ.out
                have hmul := mul_in hq3 (a := v) (b := oe) (by omega) (by omega)
                have hw1 : IntKind.i64.wrap (v * oe) = v * oe := by rw [wrap_i64']; exact w64 (by omega) (by omega)
                have hw2 : Int.tmod (v * oe) a1 = bq := hbq.symm
                have HBQ := Aside0.mk (show 0 ≤ bq ∧ bq < a1 from by rw [hbq]; exact mod_in hq3 hmul.1)
                rw [← hoe2, ← hbq] at HY3
                have HOD := Aside0.mk ho
                clear e1 hv hv2 he2 hoe hoe2 hbq hvd hod2 hq3 hmul ho
                obtain ⟨fin, hfin⟩ : ∃ fin, fin = elimS a1 bq o n 0 xs := ⟨_, rfl⟩
                rw [← hfin] at HY3
                have HFN := Aside0.mk hfin.symm
                clear hfin
                go_wp2
                go_still (show Try.prog.follows .mixedOrders = true from by kernel_rfl)
                go_wp2
                have HLX := Aside0.mk (And.intro HS2.out HXS.out)
                clear HS2 hx1 hx2 hx3 hx4 p1 q1 q1b p2 q2 HXS b1 hw1 hw2
                go_loopg [55] n (fun kq v55 w' => ∃ (z : Int) (ys : List Int), v55 = .int .i64 z ∧ Aside0 (∃ c : Nat, z = c ∧ c + kq = n ∧ Dig a1 n ys ∧ elimS a1 bq o (n - c) c ys = fin) ∧ Aside0 (LSt w (.slice (some ⟨gd, 0, none⟩) done.length cd) (.slice (some ⟨go, 0, none⟩) out.length co) (.slice (some ⟨gn, 0, none⟩) n cn) done out ys w') ∧ Aside0 (w'.cell? ⟨gd, y.toNat, none⟩ = some (.slice (some ⟨gi, 0, none⟩) n ci)))
                case atStart => exact ⟨0, xs, rfl, ⟨0, rfl, by omega, HLX.out.2, by rw [Nat.sub_zero]; exact HFN.out⟩, ⟨by repeat (first | exact HLX.out.1 | refine LSt.drewN ?_ _ | refine LSt.drew ?_)⟩, ⟨HX3.out⟩⟩
                case round =>
                  clear HLX
                  obtain ⟨z, ys, rfl, HZ, HS3, HC5⟩ := hrel
                  by_cases c7 : z < (n : Int)
                  · have c8b0 : decide (0 ≤ z) = true := decide_eq_true (by obtain ⟨i, h, _⟩ := HZ.out; omega)
                    have c7b0 : decide (z < (n : Int)) = true := decide_eq_true c7
                    cases gk with
                    | zero => exact absurd HZ.out (by rintro ⟨i, h, h', _⟩; omega)
                    | succ k3 =>
                      have z0 : 0 ≤ z := of_decide_eq_true c8b0
                      obtain ⟨hx5, hf5⟩ := Kd.R_celln (0 : Int) HS3.out.n z z0 c7
                      have hyd : y < (done.length : Int) := by obtain ⟨k, h1, h2, _⟩ := HY3.out; have := HW.out.1; omega
                      have hy0 : 0 ≤ y := by obtain ⟨k, h1, h2, _⟩ := HY3.out; omega
                      obtain ⟨_, ce, hcl, hM, hcc, _, _, _⟩ := Kd.S_elem HS3.out.d [] y hy0 hyd
                      rw [← HOD.out] at hM
                      obtain ⟨vi, rfl, hRi⟩ := hM
                      obtain ⟨gi2, ci2, evi, _, _, _, _⟩ := Kd.R_form hRi (by have := HO.out.len; have := HN.out; omega)
                      rw [HO.out.len] at evi
                      subst evi
                      have hx6 := hcc 0 _ rfl
                      (try simp only [show (Kd.slice 3 (Kd.int .i64)).sz = 1 from rfl, Nat.mul_one, Nat.add_zero] at hx6)
                      have hxe := Option.some.inj (hx6.symm.trans HC5.out)
                      injection hxe with hxa hxb hxc
                      injection hxa with hxa
                      injection hxa with hxa
                      subst hxa
                      subst hxc
                      have hgdn : gd ≠ gn := fun e => ((Kd.S_R HS3.out.d).1 gd rfl).2 (by rw [e]; rfl)
                      have HGN := Aside0.mk hgdn
                      clear hxb hgdn
                      obtain ⟨hx7, _⟩ := Kd.R_celln (0 : Int) hRi z z0 c7
                      obtain ⟨yz, hyz⟩ : ∃ yz, yz = rdOf 0 ys z := ⟨_, rfl⟩
                      rw [← hyz] at hx5
                      have hyz2 : yz = ys.getD z.toNat 0 := hyz
                      obtain ⟨oz, hoz⟩ : ∃ oz, oz = rdOf 0 o z := ⟨_, rfl⟩
                      rw [← hoz] at hx7
                      have hoz2 : oz = o.getD z.toNat 0 := hoz
                      have hYS : Dig a1 n ys := by obtain ⟨c, _, _, h3, _⟩ := HZ.out; exact h3
                      have hvd := hYS.dig z.toNat
                      have hod2 := HO.out.dig z.toNat
                      rw [← hyz2] at hvd
                      rw [← hoz2] at hod2
                      have hq3 := HQ.out
                      have hb3 := HBQ.out
                      have hmul := mul_in hq3 (a := a1 - bq) (b := oz) (by omega) (by omega)
                      obtain ⟨E, hE⟩ : ∃ E, E = Int.tmod (yz + (a1 - bq) * oz) a1 := ⟨_, rfl⟩
                      have hw1 : IntKind.i64.wrap (a1 - bq) = a1 - bq := by rw [wrap_i64']; exact w64 (by omega) (by omega)
                      have hw2 : IntKind.i64.wrap ((a1 - bq) * oz) = (a1 - bq) * oz := by rw [wrap_i64']; exact w64 (by omega) (by omega)
                      have hw3 : IntKind.i64.wrap (yz + (a1 - bq) * oz) = yz + (a1 - bq) * oz := by rw [wrap_i64']; exact w64 (by omega) (by omega)
                      have hw4 : Int.tmod (yz + (a1 - bq) * oz) a1 = E := hE.symm
                      have HZ2 := Aside0.mk (show ∃ c : Nat, wrap64 (z + 1) = c ∧ c + k3 = n ∧ Dig a1 n (ys.set z.toNat E) ∧ elimS a1 bq o (n - c) c (ys.set z.toNat E) = fin from by
                        obtain ⟨c, h1, h2, h3, h4⟩ := HZ.out
                        have e1 : z.toNat = c := by omega
                        have hn6 := HN.out
                        have hs : ys.set z.toNat E = ys.set c (Int.tmod (ys.getD c 0 + (a1 - bq) * o.getD c 0) a1) := by rw [hE, hyz2, hoz2, e1]
                        rw [hs]
                        rw [show n - c = (n - (c + 1)) + 1 by omega, elimS] at h4
                        exact ⟨c + 1, by rw [w64 (by omega) (by omega)]; omega, by omega, Dig.step hq3 hb3 HO.out h3 (by omega), h4⟩)
                      have p5 := eq_true z0
                      have q5 := eq_true c7
                      have p6 := eq_true hy0
                      have q6 := eq_true hyd
                      have q6b : (y.toNat < done.length) = True := eq_true (by omega)
                      clear HZ c7 z0 hy0 hyd hcl hcc hRi hyz hyz2 hoz hoz2 hYS hvd hod2 hq3 hb3 hmul hE
                      go_wp2
                      go_still_tail 18, (show Try.prog.follows .mixedOrders = true from by kernel_rfl)
                      go_wp2
                      go_roundg k3
                      case measure => omega
                      case rel => exact ⟨wrap64 (z + 1), ys.set z.toNat E, (by first | rfl | (simp; done) | (simp [*]; done)), HZ2, ⟨LSt.drew (LSt.put HS3.out z.toNat E)⟩, ⟨(World.cell?_setCell_other _ _ _ _ (by intro e; simp only [Addr.mk.injEq] at e; exact HGN.out e.1.symm)).trans HC5.out⟩⟩
                  · have c7b0 : decide (z < (n : Int)) = false := decide_eq_false c7
                    have HN3 := Aside0.mk (show ∃ k : Nat, wrap64 (y + 1) = k ∧ k + k2 = out.length ∧ Dig a1 n ys ∧ red a1 n (done.drop k) (out.drop k) ys = now from by
                      obtain ⟨c, h1, h2, h3, h4⟩ := HZ.out
                      rw [show n - c = 0 by omega, elimS] at h4
                      obtain ⟨k, h5, h6, h7⟩ := HY3.out
                      obtain ⟨k', h8, h9⟩ := EW.out
                      have : k' = k := by omega
                      subst this
                      rw [← h4] at h7
                      exact ⟨k' + 1, h8, by omega, h3, h7⟩)
                    clear HZ c7 HY3 EW
                    go_wp2
                    go_roundg k2
                    case measure => omega
                    case rel => exact ⟨wrap64 (y + 1), ys, (by first | rfl | (simp; done) | (simp [*]; done)), HN3, ⟨by repeat (first | exact HS3.out | refine LSt.drewN ?_ _ | refine LSt.drew ?_)⟩⟩
          · have c5b0 : decide (y < (done.length : Int)) = false := decide_eq_false (by have := HDO.out; omega)
            have HX4 := Aside0.mk (show Dig a1 n xs ∧ xs = now from by
              obtain ⟨k, h1, h2, h3, h4⟩ := HY.out
              have := HW.out.1
              rw [List.drop_eq_nil_of_le (by omega), red] at h4
              · exact ⟨h3, h4⟩
              · intro _ _ _ _ h _; cases h)
            obtain ⟨ld, hld⟩ : ∃ ld, ld = leadOf now 0 := ⟨_, rfl⟩
            have HLD := Aside0.mk hld.symm
            have hnl : now.length = n := by rw [← HX4.out.2]; exact HX4.out.1.len
            have HNL := Aside0.mk hnl
            have HND := Aside0.mk (show Dig a1 n now from by rw [← HX4.out.2]; exact HX4.out.1)
            have HS4 := Aside0.mk (show LSt w (.slice Ad done.length cd) (.slice Ao out.length co) (.slice (some ⟨gn, 0, none⟩) n cn) done out now wr from by have := HS2.out; rw [HX4.out.2] at this; exact this)
            have HK := Aside0.mk (show ∃ i : Nat, wrap64 (x + 1) = i ∧ i + k1 = l0.length ∧ done.length + 1 = i ∧ WFs a1 n (done ++ [now]) (out ++ [ld]) ∧ leadsF a1 n (l0.drop i) (done ++ [now]) (out ++ [ld]) = r from by
              obtain ⟨i, h1, h2, h3, h4, h5, h6⟩ := HX.out
              have := HL.out
              rw [← hld] at h6
              have hw := h4.snoc (x := now) (by rw [← HX4.out.2]; exact HX4.out.1)
              rw [← hld] at hw
              exact ⟨i + 1, by rw [w64 (by omega) (by omega)]; omega, by omega, by omega, hw, h6⟩)
            have HDL := Aside0.mk (show done.length ≤ 6 ∧ out.length ≤ 6 from by obtain ⟨i, h1, h2, h3, _⟩ := HX.out; have := HL.out; have := HW.out.1; omega)
            have hwn : IntKind.i64.wrap ((n : Int) - 1) = (n : Int) - 1 := by rw [wrap_i64']; exact w64 (by have := HN.out; omega) (by have := HN.out; omega)
            clear HY c5 hld hnl HS2 HX HX4 HW H1
            go_wp2
            go_loopg [14, 15] n (fun kq v14 v15 w' => ∃ (z g : Int), v15 = .int .i64 z ∧ v14 = .int .i64 g ∧ Aside0 (∃ c : Nat, z = (c : Int) - 1 ∧ kq = c ∧ c ≤ n ∧ g = leadOf (now.drop c) c) ∧ Aside0 (LSt w (.slice Ad done.length cd) (.slice Ao out.length co) (.slice (some ⟨gn, 0, none⟩) n cn) done out now w'))
            case atStart => exact ⟨(n : Int) - 1, -1, (by first | rfl | (simp; done) | (simp [*]; done)), (by first | rfl | (simp; done) | (simp [*]; done)), ⟨n, rfl, rfl, Nat.le_refl _, by rw [List.drop_eq_nil_of_le (by have := HNL.out; omega)]; rfl⟩, ⟨by repeat (first | exact HS4.out | refine LSt.drewN ?_ _ | refine LSt.drew ?_)⟩⟩
            case round =>
              clear HS4 hwn
              obtain ⟨z, g, rfl, rfl, HZ, HS5⟩ := hrel
              by_cases c9 : 0 ≤ z
              · have c9b0 : decide (0 ≤ z) = true := decide_eq_true c9
                have c9p := eq_true c9
                cases gk with
                | zero => exact absurd HZ.out (by rintro ⟨c, h1, h2, h3⟩; omega)
                | succ k3 =>
                  have hzn : z < (n : Int) := by obtain ⟨c, h1, h2, h3, _⟩ := HZ.out; omega
                  obtain ⟨hx5, _⟩ := Kd.R_celln (0 : Int) HS5.out.n z c9 hzn
                  obtain ⟨vz, hvz⟩ : ∃ vz, vz = rdOf 0 now z := ⟨_, rfl⟩
                  rw [← hvz] at hx5
                  have hvz2 : vz = now.getD z.toNat 0 := hvz
                  have hvd := HND.out.dig z.toNat
                  rw [← hvz2] at hvd
                  have hzp := eq_true hzn
                  have hwz : wrap64 (z - 1) = z - 1 := w64 (by have := HN.out; omega) (by have := HN.out; omega)
                  have HWZ := Aside0.mk hwz
                  have HNX := Aside0.mk (show ∃ c : Nat, z - 1 = (c : Int) - 1 ∧ k3 = c ∧ c ≤ n ∧ (if vz = 0 then g else z) = leadOf (now.drop c) c from by
                    obtain ⟨c, h1, h2, h3, h4⟩ := HZ.out
                    have hl := HNL.out
                    subst h2
                    have ez : z = (k3 : Int) := by omega
                    subst ez
                    refine ⟨k3, rfl, rfl, by omega, ?_⟩
                    rw [List.drop_eq_getElem_cons (show k3 < now.length by omega), leadOf, hvz2, Int.toNat_natCast, gD_lt _ _ (show k3 < now.length by omega), h4]
                    rfl)
                  by_cases v0 : vz = 0
                  · have b5 : decide (0 < vz) = false := decide_eq_false (by omega)
                    have HNX2 := Aside0.mk (show ∃ c : Nat, z - 1 = (c : Int) - 1 ∧ k3 = c ∧ c ≤ n ∧ g = leadOf (now.drop c) c from by have := HNX.out; rw [if_pos v0] at this; exact this)
                    clear HNX HZ c9 hzn hvz hvz2 hvd hwz v0
                    go_wp2
                    go_roundg k3
                    case measure => omega
                    case rel => exact ⟨z - 1, g, (by first | rfl | rw [HWZ.out]), (by first | rfl | (simp; done) | (simp [*]; done)), HNX2, ⟨by repeat (first | exact HS5.out | refine LSt.drewN ?_ _ | refine LSt.drew ?_)⟩⟩
                  · have b5 : decide (0 < vz) = true := decide_eq_true (by omega)
                    have HNX2 := Aside0.mk (show ∃ c : Nat, z - 1 = (c : Int) - 1 ∧ k3 = c ∧ c ≤ n ∧ z = leadOf (now.drop c) c from by have := HNX.out; rw [if_neg v0] at this; exact this)
                    clear HNX HZ c9 hzn hvz hvz2 hvd hwz v0
                    go_wp2
                    go_roundg k3
                    case measure => omega
                    case rel => exact ⟨z - 1, z, (by first | rfl | rw [HWZ.out]), (by first | rfl | (simp; done) | (simp [*]; done)), HNX2, ⟨by repeat (first | exact HS5.out | refine LSt.drewN ?_ _ | refine LSt.drew ?_)⟩⟩
              · have c9b0 : decide (0 ≤ z) = false := decide_eq_false c9
                have c9p := eq_false c9
                have hgl : ld = g := by
                  obtain ⟨c, h1, h2, h3, h4⟩ := HZ.out
                  have e : c = 0 := by omega
                  subst e
                  rw [List.drop_zero] at h4
                  exact (h4.trans HLD.out).symm
                subst hgl
                clear HZ c9
                go_wp2_with (first
                  | ((with_reducible refine gate_builtin (b := .append) (xs := #[.tmp 91, .tmp 93]) rfl ?_); at_builtin; refine Kd.S_append (Kd.slice 3 (Kd.int .i64)) (w0 := w) w.heap.size rfl (.tmp 91) (.tmp 93) 24 29 (.slice none 0 0) 24 rfl Try.underlying24 info29 rfl (by decide) (by omega) (.slice Ad done.length cd) done now [.slice (some ⟨gn, 0, none⟩) n cn] (fun k => some k ≠ (Value.slice Ao out.length co).ownBlock) (fun k => some k = (Value.slice (some ⟨gn, 0, none⟩) n cn).ownBlock) rfl rfl ?aP HS5.out.okp ?aF ?aO ?aB ?aS ?aL ?_; (case aP => exact Kd.M_row (Kd.R_tight rfl HS5.out.n)); (case aF => exact HS5.out.frsh); (case aO => exact (Kd.S_mono HS5.out.d (fun k hk => ⟨hk.1, hk.2⟩))); (case aB => exact HS5.out.B); (case aS => exact HS5.out.B.size); (case aL => have := HDL.out; omega); intro vd1 wa hs hb hg hat; have HS6 := Aside0.mk (HS5.out.append hs hb hg); clear hs hb hg hat)
                  | ((with_reducible refine gate_builtin (b := .append) (xs := #[.tmp 95, .tmp 97]) rfl ?_); at_builtin; refine Kd.R_append (Kd.int .i64) (w0 := w) w.heap.size rfl (.tmp 95) (.tmp 97) 29 3 (.int .i64 0) 8 rfl Try.underlying29 info3 rfl (by decide) (by omega) (.slice Ao out.length co) out ld [.int .i64 ld] (fun _ => True) (fun _ => False) rfl rfl ?aP (fun _ hk => hk.elim) (fun _ _ => trivial) ?aO ?aB ?aS ?aL ?_; (case aP => exact rfl); (case aO => exact HS6.out.o); (case aB => exact HS6.out.B); (case aS => exact HS6.out.B.size); (case aL => have := HDL.out; omega); intro vo1 wb hr hb hg hat; have HS7 := Aside0.mk (HS6.out.lead hr hb hg hat); clear hr hb hg hat))
                go_roundg k1
                case measure => omega
                case rel =>
                  obtain ⟨i, h1, h2, h3, h4, h5⟩ := HK.out
                  exact ⟨wrap64 (x + 1), done ++ [now], out ++ [ld], (by first | rfl | (simp; done) | (simp [*]; done)), ⟨i, h1, h2, by rw [List.length_append]; exact h3, h4, h5⟩, HS7⟩
    · have c3b0 : decide (x < (l0.length : Int)) = false := decide_eq_false c3
      have HE := Aside0.mk (show out = r from by
        obtain ⟨i, h1, h2, h3, h4, h5⟩ := HI.out
        rw [List.drop_eq_nil_of_le (by omega), leadsF] at h5
        exact h5)
      clear c3 HI
      go_wp2
      go_ret
      exact ⟨_, rfl, by rw [← HE.out]; exact HS.out.o, HS.out.B⟩
end Go.Proofs.Ytadkkcdhgepbkaa.Q
end
section
namespace Go.Proofs.Ytadkkcdhgepbkaa.Q
open Go.RowKit Go.Proofs.YtadkkcdhgepbkaaW.PrintWords Go.Proofs.YtadkkcdhgepbkaaW.PrintLast Go.Proofs.YtadkkcdhgepbkaaW.PrintMore
attribute [local go_sem] max2_int min2_int max_two min_two max_three min_three max_four min_four   -- for this text's walks alone
set_option linter.unusedVariables false
set_option linter.unusedSimpArgs false
def spec_weRank.l0:Nat→Int→List Int→Int→Int→Option (Int)
|0,_,_,_,_=>none
|k + 1,x5,x10,x11,x12=>if x12 < x11 then (if 0≤x12 then (if x12 < (x10.length:Int) then (if (rd x10 x12) ≥ 0 then (spec_weRank.l0 k (wrap64 (x5 + 1)) x10 x11 (wrap64 (x12 + 1))) else (spec_weRank.l0 k x5 x10 x11 (wrap64 (x12 + 1)))) else (none)) else (none)) else (some x5)
def spec_weRank.f (k:Nat) (l0:List (List Int)) (a1:Int):Option (Int):=(spec_weLeads.f l0 a1).bind fun t101=>(spec_weRank.l0 k 0 t101 (t101.length:Int) 0)
set_option maxHeartbeats 8000000 in
set_option maxRecDepth 100000 in
theorem spec_weRank.calls (k:Nat) (A0:Option Addr) (c0:Nat) (l0:List (List Int)) (a1:Int) (r:Int) (w:World) (hr0:Kd.C (Kd.slice 3 (Kd.int .i64)) w A0 l0.length l0) (hc0:l0.length≤c0) (h:spec_weRank.f k l0 a1=some r) :
  Calls Try.prog 36 #[.slice A0 l0.length c0,.int .i64 a1] w fun e w'=>e=.returned (.int .i64 r)∧Below w.heap.size w w':=by
 have HR0:=za hr0;have HC0:=za hc0;clear hr0 hc0;have HB:=za (Below.refl w.heap.size w);have H:((spec_weLeads.f l0 a1).bind fun t101=>(spec_weRank.l0 k 0 t101 (t101.length:Int) 0))=some r:=h;clear h;obtain ⟨t101,A3,H⟩:=bindAside H;(try dsimp only at H);have H':=za H;clear H;(go_enter Try.func36,Try.ntmps36);(go_wp2_with (first|((with_reducible refine zh (f:=38) rfl ?_);refine goesL_ (some 10) rfl rfl Try.func38 (by kernel_rfl) rfl #[.slice A0 l0.length c0,.int .i64 a1] rfl (by first|rfl|simp only [z3_,z4_,z5_];try rfl) ?_;(with_reducible refine (spec_weLeads.calls _ _ l0 a1 t101 _ ?side1 ?side2 A3.out).mono ?_);(case side1=>repeat (first|exact HR0.out|(with_reducible refine zi ?_ _)|(with_reducible refine zj ?_ _)|(with_reducible refine zk ?_)));(case side2=>exact HC0.out);rintro e w4 ⟨v102,rfl,ho0,hb⟩;refine ⟨_,rfl,?_⟩;have HO103:=za (Kd.R_lower ho0 (zr (by repeat (first|(with_reducible first|exact HB.out|apply zc|apply zd|apply zb)|exact HB.out))));replace HB:=za (below_step (by repeat (first|(with_reducible first|exact HB.out|apply zc|apply zd|apply zb)|exact HB.out)) hb);obtain ⟨Ao5,co5,eo5⟩:=Kd.R_slice HO103.out;subst eo5)));(go_loopg [5,12] k (fun kq v5 v12 w'=>∃ (x5_1:Int) (x12_1:Int),v5=.int .i64 x5_1∧v12=.int .i64 x12_1∧Aside0 (spec_weRank.l0 kq x5_1 t101 (t101.length:Int) x12_1=some r)∧Aside0 (kq≤k)∧Aside0 (Kd.R (Kd.int .i64) 3 w' w.heap.size (fun _=>True) (.slice Ao5 t101.length co5) t101)∧Aside0 (Below w.heap.size w w')));case atStart=>exact ⟨(0),(0),(by first|rfl|(simp;done)|(simp [*];done)),(by first|rfl|(simp;done)|(simp [*];done)),H',⟨Nat.le_refl _⟩,⟨by (with_reducible repeat (first|apply zf|apply zg|apply ze));exact HO103.out⟩,⟨by repeat (first|(with_reducible first|exact HB.out|apply zc|apply zd|apply zb)|exact HB.out)⟩⟩
 case round =>
  clear H';(try clear p2);(try clear c3);obtain ⟨x5_1,x12_1,rfl,rfl,HA,HK1,HO_10,HB⟩:=hrel
  cases gk with
 |zero=>exact absurd HA.out (by simp [spec_weRank.l0])
 |succ k1 =>
   have H:=HA.out;clear HA;simp only [spec_weRank.l0] at H;by_cases c6:x12_1 < (t101.length:Int)
   ·
    rw [if_pos c6] at H;have c6b0:decide (x12_1 < (t101.length:Int))=true:=decide_eq_true c6;clear c6;by_cases c7:0≤x12_1
    ·
     rw [if_pos c7] at H;have c7b0:decide (0≤x12_1)=true:=decide_eq_true c7;clear c7;by_cases c8:x12_1 < (t101.length:Int)
     ·
      rw [if_pos c8] at H;have c8b0:decide (x12_1 < (t101.length:Int))=true:=decide_eq_true c8;clear c8;by_cases c9:(rd t101 x12_1) ≥ 0
      · rw [if_pos c9] at H;have c9b0:decide (0≤(rd t101 x12_1))=true:=decide_eq_true c9;clear c9;have H':=za H;clear H;have p104:0≤(x12_1:Int):=of_decide_eq_true ‹_›;have q104:x12_1 < (t101.length:Int):=of_decide_eq_true ‹_›;obtain ⟨ad104,e104,hx104_0⟩:=Kd.at_int (zl HO_10.out).2.2 x12_1 p104 q104;cases e104;replace p104:=eq_true p104;replace q104:=eq_true q104;(go_wp2);(go_roundg k1);(case measure=>have:=HK1.out;omega);case rel=>exact ⟨(wrap64 (x5_1 + 1)),(wrap64 (x12_1 + 1)),(by first|rfl|(simp;done)|(simp [*];done)),(by first|rfl|(simp;done)|(simp [*];done)),H',⟨by have:=HK1.out;omega⟩,⟨by (with_reducible repeat (first|apply zf|apply zg|apply ze));exact HO_10.out⟩,⟨by repeat (first|(with_reducible first|exact HB.out|apply zc|apply zd|apply zb)|exact HB.out)⟩⟩
      · rw [if_neg c9] at H;have c9b0:decide (0≤(rd t101 x12_1))=false:=decide_eq_false c9;clear c9;have H':=za H;clear H;have p104:0≤(x12_1:Int):=of_decide_eq_true ‹_›;have q104:x12_1 < (t101.length:Int):=of_decide_eq_true ‹_›;obtain ⟨ad104,e104,hx104_0⟩:=Kd.at_int (zl HO_10.out).2.2 x12_1 p104 q104;cases e104;replace p104:=eq_true p104;replace q104:=eq_true q104;(go_wp2);(go_roundg k1);(case measure=>have:=HK1.out;omega);case rel=>exact ⟨(x5_1),(wrap64 (x12_1 + 1)),(by first|rfl|(simp;done)|(simp [*];done)),(by first|rfl|(simp;done)|(simp [*];done)),H',⟨by have:=HK1.out;omega⟩,⟨by (with_reducible repeat (first|apply zf|apply zg|apply ze));exact HO_10.out⟩,⟨by repeat (first|(with_reducible first|exact HB.out|apply zc|apply zd|apply zb)|exact HB.out)⟩⟩
     · rw [if_neg c8] at H;exact absurd H (by simp)
    · rw [if_neg c7] at H;exact absurd H (by simp)
   · rw [if_neg c6] at H;have c6b0:decide (x12_1 < (t101.length:Int))=false:=decide_eq_false c6;clear c6;obtain rfl:=Option.some.inj H;(go_wp2);(go_ret);exact ⟨by first|rfl|simp [*,errW_none,errW_some] <;> rfl,by repeat (first|(with_reducible first|exact HB.out|apply zc|apply zd|apply zb)|exact HB.out)⟩
end Go.Proofs.Ytadkkcdhgepbkaa.Q
end
