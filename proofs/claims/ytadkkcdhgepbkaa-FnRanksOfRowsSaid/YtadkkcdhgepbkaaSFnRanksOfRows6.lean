/- Texts of this claim put together (6): words, what the functions compute, and plain facts. No conditions. -/
import Derived.Test.YtadkkcdhgepbkaaSFnRanksOfRows4
import Derived.Test.YtadkkcdhgepbkaaSFnRanksOfRows5
import Derived.Outline
import Derived.Lib.Hide
import Derived.Laws.Cover3
import Derived.Deep.RegionWith
import Derived.StillTailTactics
section
namespace Go.Proofs.Ytadkkcdhgepbkaa.Q
open Go.RowKit Go.Proofs.YtadkkcdhgepbkaaW.PrintWords Go.Proofs.YtadkkcdhgepbkaaW.PrintLast Go.Proofs.YtadkkcdhgepbkaaW.PrintMore
open Go.Proofs.YtadkkcdhgepbkaaL Go.Proofs.Ytadkkcdhgepbkaa.BoardK
set_option linter.unusedVariables false
def digIn (q : Int) (n : Int) : Bool := decide (0 ≤ n ∧ n ≤ q - 1)
set_option maxHeartbeats 1000000 in
theorem areRows1 (m c : Int) (B : Nat) (w : World) (hc : w.cell? ⟨B, 0, none⟩ = some (.int .i64 c)) (h1 : 2 ≤ c) (h6 : c ≤ 3) :
    Calls Try.prog 63 #[.int .i64 m, .pointer (some ⟨B, 0, none⟩)] w fun e w' => e = .returned (.bool (!digIn c m)) ∧ Drawn0 w w' := by
  have key : ∀ x : Int, x = c - 1 → Aside0 (impl_within.f m 0 x = some (digIn c m)) := fun x hx => ⟨by rw [hx]; exact within_f m 0 _⟩
  obtain rfl | rfl : c = 2 ∨ c = 3 := by omega
  all_goals
    have K := key _ rfl
    clear key
    generalize digIn _ m = rr at K ⊢
    simp only [Int.reduceSub] at K
    go_enter Try.func63, Try.ntmps63
    go_wp2_with (first | (go_at_call 48; (refine (impl_within.calls m 0 _ rr _ K.out).mono ?_); rintro e w' ⟨rfl, ⟨nd, rfl⟩⟩))
    go_ret
    exact ⟨rfl, by repeat (first | exact Drawn0.refl _ | apply Drawn0.step)⟩
def idxD (c : Int) : List Int → Int → Int
  | [], _ => -1
  | x :: t, i => if digIn c x = true then idxD c t (i + 1) else i
theorem idxD_neg (c : Int) : ∀ (l : List Int) (i : Int), 0 ≤ i → decide (0 ≤ idxD c l i) = !l.all (digIn c)
  | [], _, _ => rfl
  | x :: t, i, h => by
    rw [idxD, List.all_cons]
    by_cases hx : digIn c x = true
    · rw [if_pos hx, idxD_neg c t (i + 1) (by omega), hx, Bool.true_and]
    · rw [if_neg hx]; simp [hx, h]
set_option maxHeartbeats 1000000 in
theorem areRowsIndex (A0 : Option Addr) (c0 : Nat) (l0 : List Int) (c : Int) (B : Nat) (w : World) (hr0 : Kd.C (Kd.int .i64) w A0 l0.length l0) (hc0 : l0.length ≤ c0) (hlen : l0.length ≤ 6)
    (hc : w.cell? ⟨B, 0, none⟩ = some (.int .i64 c)) (h1 : 2 ≤ c) (h6 : c ≤ 3) :
    Calls Try.prog 67 #[.slice A0 l0.length c0, .func (.func 63) #[] #[.pointer (some ⟨B, 0, none⟩)]] w fun e w' => e = .returned (.int .i64 (idxD c l0 0)) ∧ Drawn0 w w' := by
  have HR0 := Aside0.mk hr0
  have HC0 := Aside0.mk hc0
  have HL := Aside0.mk hlen
  have HC := Aside0.mk hc
  have H1 := Aside0.mk h1
  have H6 := Aside0.mk h6
  clear hr0 hc0 hlen hc h1 h6
  obtain ⟨r, hr⟩ : ∃ r, r = idxD c l0 0 := ⟨_, rfl⟩
  rw [← hr]
  have HR := Aside0.mk hr
  clear hr
  go_enter Try.func67, Try.ntmps67
  go_wp2
  go_loopg [8] l0.length (fun kq v8 w' => ∃ (x8_1 : Int), v8 = .int .i64 x8_1 ∧ Aside0 (∃ i : Nat, x8_1 = i ∧ i + kq = l0.length ∧ idxD c (l0.drop i) i = r) ∧ Drawn0 w w')
  case atStart => exact ⟨(0), rfl, ⟨0, rfl, by omega, by rw [HR.out]; rfl⟩, by repeat (first | exact Drawn0.refl _ | apply Drawn0.step)⟩
  case round =>
    obtain ⟨x8_1, rfl, HI, ⟨m1, rfl⟩⟩ := hrel
    by_cases c3 : x8_1 < (l0.length : Int)
    · have c4b0 : decide (0 ≤ x8_1) = true := decide_eq_true (by obtain ⟨i, h, _⟩ := HI.out; omega)
      have c3b0 : decide (x8_1 < (l0.length : Int)) = true := decide_eq_true c3
      cases gk with
      | zero => exact absurd HI.out (by rintro ⟨i, h, h', _⟩; omega)
      | succ k1 =>
        clear c3
        have p101 : 0 ≤ (x8_1 : Int) := of_decide_eq_true (by first | (with_reducible assumption) | assumption)
        have q101 : x8_1 < (l0.length : Int) := of_decide_eq_true (by first | (with_reducible assumption) | assumption)
        have HX : Aside0 (∃ i : Nat, x8_1 = i ∧ i + k1 + 1 = l0.length ∧ (if digIn c (rd l0 x8_1) = true then idxD c (l0.drop (i + 1)) (i + 1) else i) = r) := ⟨by
          obtain ⟨i, h, h', h3⟩ := HI.out
          refine ⟨i, h, by omega, ?_⟩
          rw [List.drop_eq_getElem_cons (by omega), idxD] at h3
          rw [h, rd_lt _ _ (by omega)]
          exact h3⟩
        clear HI
        obtain ⟨ad101, e101, hx101_0⟩ := Kd.at_int HR0.out x8_1 p101 q101
        cases e101
        replace p101 := eq_true p101
        replace q101 := eq_true q101
        by_cases cr : digIn c (rd l0 x8_1) = true
        · have HB : Aside0 ((!digIn c (rd l0 x8_1)) = false) := ⟨by rw [cr]; rfl⟩
          have HX2 : Aside0 (∃ i : Nat, wrap64 (x8_1 + 1) = i ∧ i + k1 = l0.length ∧ idxD c (l0.drop i) i = r) := ⟨by
            obtain ⟨i, h, h', h3⟩ := HX.out
            rw [if_pos cr] at h3
            have := HL.out
            refine ⟨i + 1, by rw [w64 (by omega) (by omega)]; omega, by omega, h3⟩⟩
          clear HX cr
          have CC : ∀ W : World, (∃ q, W = w.drewN q) → Calls Try.prog 63 #[.int .i64 (rd l0 x8_1), .pointer (some ⟨B, 0, none⟩)] W fun e w' => e = .returned (.bool false) ∧ Drawn0 W w' := by
            rintro W ⟨q, rfl⟩
            have := areRows1 (rd l0 x8_1) c B (w.drewN q) HC.out H1.out H6.out
            rw [HB.out] at this
            exact this
          have CX := Lib.hid CC
          clear CC
          go_wp2_with (first | (go_at_call 63; (refine (CX.out _ ⟨_, rfl⟩).mono ?_); rintro e w' ⟨rfl, ⟨nd, rfl⟩⟩))
          go_roundg k1
          case measure => omega
          case rel => exact ⟨(wrap64 (x8_1 + 1)), (by first | rfl | (simp; done) | (simp [*]; done)), HX2, by repeat (first | exact Drawn0.refl _ | apply Drawn0.step)⟩
        · have HB : Aside0 ((!digIn c (rd l0 x8_1)) = true) := ⟨by simp [cr]⟩
          have HX2 : Aside0 (x8_1 = r) := ⟨by
            obtain ⟨i, h, h', h3⟩ := HX.out
            rw [if_neg cr] at h3
            omega⟩
          clear HX cr
          have CC : ∀ W : World, (∃ q, W = w.drewN q) → Calls Try.prog 63 #[.int .i64 (rd l0 x8_1), .pointer (some ⟨B, 0, none⟩)] W fun e w' => e = .returned (.bool true) ∧ Drawn0 W w' := by
            rintro W ⟨q, rfl⟩
            have := areRows1 (rd l0 x8_1) c B (w.drewN q) HC.out H1.out H6.out
            rw [HB.out] at this
            exact this
          have CX := Lib.hid CC
          clear CC
          go_wp2_with (first | (go_at_call 63; (refine (CX.out _ ⟨_, rfl⟩).mono ?_); rintro e w' ⟨rfl, ⟨nd, rfl⟩⟩))
          go_ret
          exact ⟨by rw [HX2.out]; rfl, by repeat (first | exact Drawn0.refl _ | apply Drawn0.step)⟩
    · have c3b0 : decide (x8_1 < (l0.length : Int)) = false := decide_eq_false c3
      have HX2 : Aside0 (-1 = r) := ⟨by
        obtain ⟨i, h, h', h3⟩ := HI.out
        rw [List.drop_eq_nil_of_le (by omega), idxD] at h3
        exact h3⟩
      clear c3 HI
      go_wp2
      go_ret
      exact ⟨by rw [HX2.out]; rfl, by repeat (first | exact Drawn0.refl _ | apply Drawn0.step)⟩
theorem areRowsContains (A0 : Option Addr) (c0 : Nat) (l0 : List Int) (c : Int) (B : Nat) (w : World) (hr0 : Kd.C (Kd.int .i64) w A0 l0.length l0) (hc0 : l0.length ≤ c0) (hlen : l0.length ≤ 6)
    (hc : w.cell? ⟨B, 0, none⟩ = some (.int .i64 c)) (h1 : 2 ≤ c) (h6 : c ≤ 3) :
    Calls Try.prog 62 #[.slice A0 l0.length c0, .func (.func 63) #[] #[.pointer (some ⟨B, 0, none⟩)]] w fun e w' => e = .returned (.bool (!l0.all (digIn c))) ∧ Drawn0 w w' := by
  have C := areRowsIndex A0 c0 l0 c B w hr0 hc0 hlen hc h1 h6
  have N := Aside0.mk (idxD_neg c l0 0 (Int.le_refl _))
  have CX := Lib.hid C
  clear C hr0 hc0 hlen hc h1 h6
  rw [← N.out]
  clear N
  go_enter Try.func62, Try.ntmps62
  go_wp2_with (first | (go_at_call 67; (refine CX.out.mono ?_); rintro e w' ⟨rfl, ⟨nd, rfl⟩⟩))
  go_ret
  exact ⟨by first | rfl | (simp; done), by repeat (first | exact Drawn0.refl _ | apply Drawn0.step)⟩
def rowOk (q : Int) (n : Nat) (row : List Int) : Bool := decide (1 ≤ (row.length : Int) ∧ (row.length : Int) ≤ 6) && (decide ((row.length : Int) = (n : Int)) && row.all (digIn q))
def areRowsB (rows : List (List Int)) (q : Int) : Bool := decide (2 ≤ q ∧ q ≤ 3) && (decide (1 ≤ (rows.length : Int) ∧ (rows.length : Int) ≤ 6) && rows.all (rowOk q (rows.getD 0 []).length))
def impl_areRows.f (l0 : List (List Int)) (a1 : Int) : Option (Bool) := some (areRowsB l0 a1)
theorem isQ_f (a : Int) : impl_isQ.f a = some (decide (2 ≤ a ∧ a ≤ 3)) := by unfold impl_isQ.f; rw [within_f]; rfl
set_option maxHeartbeats 4000000 in
set_option maxRecDepth 100000 in
theorem impl_areRows.calls (A0 : Option Addr) (c0 : Nat) (l0 : List (List Int)) (a1 : Int) (r : Bool) (w : World) (hr0 : Kd.C (Kd.slice 3 (Kd.int .i64)) w A0 l0.length l0) (hc0 : l0.length ≤ c0) (h : impl_areRows.f l0 a1 = some r) :
    Calls Try.prog 32 #[.slice A0 l0.length c0, .int .i64 a1] w fun e w' => e = .returned (.bool r) ∧ Below w.heap.size w w' := by
  have hB := Option.some.inj h
  clear h
  unfold areRowsB at hB
  have s1 := Aside0.mk (isQ_f a1)
  have s2 := Aside0.mk (isSide_f (l0.length : Int))
  have HR := Aside0.mk hr0
  have HC := Aside0.mk hc0
  clear hr0 hc0
  by_cases h1 : 2 ≤ a1 ∧ a1 ≤ 3
  rotate_left
  · rw [decide_eq_false h1] at s1 hB
    rw [Bool.false_and] at hB
    subst hB
    clear h1 s2
    go_enter Try.func32, Try.ntmps32
    go_wp2_with (first
      | ((with_reducible refine gate_dst (N := 3) rfl ?_); refine box_event ?hg (N := 3) ?hd (cs := #[.int .i64 a1]) (t := 3) ?hr ?_; (case hd => rfl); (case hg => rfl); (case hr => first | (go_simp; done) | (go_simp; rfl)); intro gq hg w1 hbox hb; have G1 := Aside0.mk hg; have K1 := Aside0.mk hbox; have B1 := Aside0.mk hb; clear hg hbox hb; have z1 : w1.cell? ⟨gq, 0, none⟩ = some (.int .i64 a1) := (blk_cell K1.out 0).trans rfl)
      | (go_at_call 46; (with_reducible refine (impl_isQ.calls a1 false _ s1.out).mono ?_); rintro e w' ⟨rfl, ⟨nd, rfl⟩⟩))
    go_ret
    exact ⟨by first | rfl | (simp; done), by repeat (first | exact B1.out | apply below_alloc | apply pw_below_drewN | apply below_drew1)⟩
  rw [decide_eq_true h1] at s1 hB
  rw [Bool.true_and] at hB
  by_cases h2 : 1 ≤ (l0.length : Int) ∧ (l0.length : Int) ≤ 6
  rotate_left
  · rw [decide_eq_false h2] at s2 hB
    rw [Bool.false_and] at hB
    subst hB
    clear h1 h2
    go_enter Try.func32, Try.ntmps32
    go_wp2_with (first
      | ((with_reducible refine gate_dst (N := 3) rfl ?_); refine box_event ?hg (N := 3) ?hd (cs := #[.int .i64 a1]) (t := 3) ?hr ?_; (case hd => rfl); (case hg => rfl); (case hr => first | (go_simp; done) | (go_simp; rfl)); intro gq hg w1 hbox hb; have G1 := Aside0.mk hg; have K1 := Aside0.mk hbox; have B1 := Aside0.mk hb; clear hg hbox hb; have z1 : w1.cell? ⟨gq, 0, none⟩ = some (.int .i64 a1) := (blk_cell K1.out 0).trans rfl)
      | (go_at_call 46; (with_reducible refine (impl_isQ.calls a1 true _ s1.out).mono ?_); rintro e w' ⟨rfl, ⟨nd, rfl⟩⟩)
      | (go_at_call 61; (with_reducible refine (impl_isSide.calls (l0.length : Int) false _ s2.out).mono ?_); rintro e w' ⟨rfl, ⟨nd, rfl⟩⟩))
    go_ret
    exact ⟨by first | rfl | (simp; done), by repeat (first | exact B1.out | apply below_alloc | apply pw_below_drewN | apply below_drew1)⟩
  rw [decide_eq_true h2] at s2 hB
  rw [Bool.true_and] at hB
  obtain ⟨n, hn⟩ : ∃ n, n = (l0.getD 0 []).length := ⟨_, rfl⟩
  rw [← hn] at hB
  have HB := Aside0.mk hB
  have HQ := Aside0.mk h1
  have HL := Aside0.mk h2
  have HN := Aside0.mk (show (rd_L2 l0 0).length = n from hn.symm)
  clear hB h1 h2 hn
  go_enter Try.func32, Try.ntmps32
  go_wp2_with (first
    | ((with_reducible refine gate_dst (N := 3) rfl ?_); refine box_event ?hg (N := 3) ?hd (cs := #[.int .i64 a1]) (t := 3) ?hr ?_; (case hd => rfl); (case hg => rfl); (case hr => first | (go_simp; done) | (go_simp; rfl)); intro gq hg w1 hbox hb; have G1 := Aside0.mk hg; have K1 := Aside0.mk hbox; have B1 := Aside0.mk hb; clear hg hbox hb; have z1 : w1.cell? ⟨gq, 0, none⟩ = some (.int .i64 a1) := (blk_cell K1.out 0).trans rfl)
    | (go_at_call 46; (with_reducible refine (impl_isQ.calls a1 true _ s1.out).mono ?_); rintro e w' ⟨rfl, ⟨nd, rfl⟩⟩)
    | (go_at_call 61; (with_reducible refine (impl_isSide.calls (l0.length : Int) true _ s2.out).mono ?_); rintro e w' ⟨rfl, ⟨nd, rfl⟩⟩))
  have HR1 := Aside0.mk (Kd.C_below HR.out B1.out)
  go_loopg [18] l0.length (fun kq v18 w' => ∃ (x : Int), v18 = .int .i64 x ∧ Aside0 (∃ i : Nat, x = i ∧ i + kq = l0.length ∧ (l0.drop i).all (rowOk a1 n) = r) ∧ Drawn0 w1 w')
  case atStart => exact ⟨0, rfl, ⟨0, rfl, by omega, by rw [List.drop_zero]; exact HB.out⟩, by repeat (first | exact Drawn0.refl _ | apply Drawn0.step)⟩
  case round =>
    clear z1
    obtain ⟨x, rfl, HI, ⟨m1, rfl⟩⟩ := hrel
    by_cases c3 : x < (l0.length : Int)
    · have c4b0 : decide (0 ≤ x) = true := decide_eq_true (by obtain ⟨i, h, _⟩ := HI.out; omega)
      have c3b0 : decide (x < (l0.length : Int)) = true := decide_eq_true c3
      cases gk with
      | zero => exact absurd HI.out (by rintro ⟨i, h, h', _⟩; omega)
      | succ k1 =>
        clear c3
        have HX : Aside0 (∃ i : Nat, x = i ∧ i + k1 + 1 = l0.length ∧ (rowOk a1 n (rd_L2 l0 x) && (l0.drop (i + 1)).all (rowOk a1 n)) = r) := ⟨by
          obtain ⟨i, h, h', h3⟩ := HI.out
          refine ⟨i, h, by omega, ?_⟩
          rw [List.drop_eq_getElem_cons (by omega), List.all_cons] at h3
          rw [h, show rd_L2 l0 (i : Int) = l0[i] by unfold rd_L2; rw [Int.toNat_natCast]; exact gD_lt _ _ (by omega)]
          exact h3⟩
        clear HI
        have p103 : 0 ≤ x := of_decide_eq_true (by first | (with_reducible assumption) | assumption)
        have q103 : x < (l0.length : Int) := of_decide_eq_true (by first | (with_reducible assumption) | assumption)
        have p104 : (0 : Int) < (l0.length : Int) := by have := HL.out; omega
        obtain ⟨ad103, A103, c103, e103, hx103, hl103, hi103⟩ := at_L2 HR1.out x p103 q103
        cases e103
        obtain ⟨ad104, A104, c104, e104, hx104, hl104, hi104⟩ := at_L2 HR1.out 0 (by omega) p104
        obtain rfl : ad103 = ad104 := by injection e104
        (try simp only [show ((0 : Int)).toNat = 0 from rfl] at hx104)
        (try simp only [Addr.add_zero'] at hx104)
        rw [HN.out] at hx104
        have HI3 := Aside0.mk hi103
        have HC3 := Aside0.mk hl103
        clear hi103 hl103 hi104 hl104 e104
        replace p103 := eq_true p103
        replace q103 := eq_true q103
        have p104b : (0 < l0.length) = True := eq_true (by omega)
        replace p104 := eq_true p104
        obtain ⟨row, hrow⟩ : ∃ row, row = rd_L2 l0 x := ⟨_, rfl⟩
        rw [← hrow] at hx103 HI3 HC3 HX
        have s3 := Aside0.mk (isSide_f (row.length : Int))
        clear hrow
        by_cases b1 : 1 ≤ (row.length : Int) ∧ (row.length : Int) ≤ 6
        rotate_left
        · rw [decide_eq_false b1] at s3
          have HF : Aside0 (false = r) := ⟨by obtain ⟨i, _, _, h3⟩ := HX.out; rw [← h3, rowOk, decide_eq_false b1]; rfl⟩
          clear b1 HX
          go_wp2_with (first | (go_at_call 61; (with_reducible refine (impl_isSide.calls (row.length : Int) false _ s3.out).mono ?_); rintro e w' ⟨rfl, ⟨nd, rfl⟩⟩))
          go_ret
          exact ⟨by rw [← HF.out]; rfl, by repeat (first | exact B1.out | apply below_alloc | apply pw_below_drewN | apply below_drew1)⟩
        rw [decide_eq_true b1] at s3
        by_cases b2 : (row.length : Int) = (n : Int)
        rotate_left
        · have b2b : ((row.length : Int) != (n : Int)) = true := bne_iff_ne.mpr b2
          have HF : Aside0 (false = r) := ⟨by obtain ⟨i, _, _, h3⟩ := HX.out; rw [← h3, rowOk, decide_eq_false b2, Bool.false_and, Bool.and_false]; rfl⟩
          clear b1 b2 HX
          go_wp2_with (first | (go_at_call 61; (with_reducible refine (impl_isSide.calls (row.length : Int) true _ s3.out).mono ?_); rintro e w' ⟨rfl, ⟨nd, rfl⟩⟩))
          go_ret
          exact ⟨by rw [← HF.out]; rfl, by repeat (first | exact B1.out | apply below_alloc | apply pw_below_drewN | apply below_drew1)⟩
        have b2b : ((row.length : Int) != (n : Int)) = false := bne_eq_false_iff_eq.mpr b2
        have b2c : (row.length != n) = false := bne_eq_false_iff_eq.mpr (by omega)
        have HX3 : Aside0 (∃ i : Nat, x = i ∧ i + k1 + 1 = l0.length ∧ (row.all (digIn a1) && (l0.drop (i + 1)).all (rowOk a1 n)) = r) := ⟨by
          obtain ⟨i, h, h', h3⟩ := HX.out
          rw [rowOk, decide_eq_true b1, decide_eq_true b2, Bool.true_and, Bool.true_and] at h3
          exact ⟨i, h, h', h3⟩⟩
        have b6 := Aside0.mk (show row.length ≤ 6 by omega)
        obtain ⟨rr, hrr⟩ : ∃ rr, rr = row.all (digIn a1) := ⟨_, rfl⟩
        have CF0 : ∀ W : World, (∃ q, W = w1.drewN q) → Calls Try.prog 62 #[.slice A103 row.length c103, .func (.func 63) #[] #[.pointer (some ⟨gq, 0, none⟩)]] W fun e w' => e = .returned (.bool (!rr)) ∧ Drawn0 W w' := by
          rintro W ⟨q, rfl⟩
          have := areRowsContains A103 c103 row a1 gq (w1.drewN q) (Kd.C_drewN HI3.out q) HC3.out b6.out ((blk_cell K1.out 0).trans rfl) HQ.out.1 HQ.out.2
          rw [← hrr] at this
          exact this
        have CF := Lib.hid CF0
        rw [← hrr] at HX3
        clear b1 b2 HX hrr CF0
        cases rr with
        | false =>
          have HF : Aside0 (false = r) := ⟨by obtain ⟨i, _, _, h3⟩ := HX3.out; rw [← h3]; rfl⟩
          go_wp2_with (first | (go_at_call 61; (with_reducible refine (impl_isSide.calls (row.length : Int) true _ s3.out).mono ?_); rintro e w' ⟨rfl, ⟨nd, rfl⟩⟩) | (go_at_call 62; (refine (CF.out _ ⟨_, rfl⟩).mono ?_); rintro e w' ⟨rfl, ⟨nd, rfl⟩⟩))
          go_ret
          exact ⟨by rw [← HF.out]; rfl, by repeat (first | exact B1.out | apply below_alloc | apply pw_below_drewN | apply below_drew1)⟩
        | true =>
          have HX2 : Aside0 (∃ i : Nat, wrap64 (x + 1) = i ∧ i + k1 = l0.length ∧ (l0.drop i).all (rowOk a1 n) = r) := ⟨by
            obtain ⟨i, h, h', h3⟩ := HX3.out
            rw [Bool.true_and] at h3
            have := HL.out
            exact ⟨i + 1, by rw [w64 (by omega) (by omega)]; omega, by omega, h3⟩⟩
          clear HX3
          go_wp2_with (first | (go_at_call 61; (with_reducible refine (impl_isSide.calls (row.length : Int) true _ s3.out).mono ?_); rintro e w' ⟨rfl, ⟨nd, rfl⟩⟩) | (go_at_call 62; (refine (CF.out _ ⟨_, rfl⟩).mono ?_); rintro e w' ⟨rfl, ⟨nd, rfl⟩⟩))
          go_roundg k1
          case measure => omega
          case rel => exact ⟨(wrap64 (x + 1)), (by first | rfl | (simp; done) | (simp [*]; done)), HX2, by repeat (first | exact Drawn0.refl _ | apply Drawn0.step)⟩
    · have c3b0 : decide (x < (l0.length : Int)) = false := decide_eq_false c3
      have HF : Aside0 (true = r) := ⟨by
        obtain ⟨i, h, h', h3⟩ := HI.out
        rw [List.drop_eq_nil_of_le (by omega)] at h3
        exact h3⟩
      clear c3 HI
      go_wp2
      go_ret
      exact ⟨by rw [← HF.out]; rfl, by repeat (first | exact B1.out | apply below_alloc | apply pw_below_drewN | apply below_drew1)⟩
end Go.Proofs.Ytadkkcdhgepbkaa.Q
end
section
namespace Go.Proofs.Ytadkkcdhgepbkaa.Q
set_option linter.unusedVariables false
open Go.RowKit Go.Proofs.YtadkkcdhgepbkaaW.PrintWords Go.Proofs.YtadkkcdhgepbkaaW.PrintLast Go.Proofs.YtadkkcdhgepbkaaW.PrintMore
open Go.Proofs.YtadkkcdhgepbkaaL Go.Proofs.Ytadkkcdhgepbkaa.BoardK Go.Proofs.Ytadkkcdhgepbkaa.LeadsK
theorem areRows_out {rows : List (List Int)} {q : Int} (h : areRowsB rows q = true) : (2 ≤ q ∧ q ≤ 3) ∧ rows.length ≤ 6 ∧ 1 ≤ (rows.getD 0 []).length ∧ (rows.getD 0 []).length ≤ 6 ∧ ∀ row ∈ rows, Dig q (rows.getD 0 []).length row := by
  unfold areRowsB at h
  rw [Bool.and_eq_true, Bool.and_eq_true, decide_eq_true_eq, decide_eq_true_eq, List.all_eq_true] at h
  obtain ⟨h1, h2, h3⟩ := h
  have key : ∀ row ∈ rows, (1 ≤ row.length ∧ row.length ≤ 6) ∧ row.length = (rows.getD 0 []).length ∧ ∀ x ∈ row, 0 ≤ x ∧ x ≤ q - 1 := by
    intro row hr
    have := h3 row hr
    unfold rowOk at this
    rw [Bool.and_eq_true, Bool.and_eq_true, decide_eq_true_eq, decide_eq_true_eq, List.all_eq_true] at this
    exact ⟨by omega, by omega, fun x hx => of_decide_eq_true (this.2.2 x hx)⟩
  have h0 : rows.getD 0 [] ∈ rows := by rw [gD_lt _ _ (by omega)]; exact List.getElem_mem _
  refine ⟨h1, by omega, (key _ h0).1.1, (key _ h0).1.2, fun row hr => ⟨(key row hr).2.1, fun i => ?_⟩⟩
  by_cases hi : i < row.length
  · rw [gD_lt _ _ hi]; have := (key row hr).2.2 _ (List.getElem_mem hi); omega
  · rw [gD_ge _ _ (by omega)]; omega
end Go.Proofs.Ytadkkcdhgepbkaa.Q
end
section
namespace Go.Proofs.Ytadkkcdhgepbkaa.Q
open Go.RowKit Go.Proofs.YtadkkcdhgepbkaaW.PrintWords Go.Proofs.YtadkkcdhgepbkaaW.PrintLast Go.Proofs.YtadkkcdhgepbkaaW.PrintMore
open Go.Proofs.YtadkkcdhgepbkaaL
set_option linter.unusedVariables false
theorem run_eql_slice_nil_ {w : World} (a : Option Addr) (l c : Nat) : (binOp .eql 29 (.slice a l c) (.slice none 0 0)).run Try.prog w = .ok (.bool a.isNone) w := by
  simp only [binOp]
  simp [run_equal_slice_nil _ _ _ _ _ _ Try.underlying29]
attribute [local go_sem] run_eql_slice_nil_
def slices_Clone_int_int.f (l0 : List Int) : Option (List Int) := if l0.length < 17592186044416 then some l0 else none
set_option maxHeartbeats 8000000 in
set_option maxRecDepth 100000 in
theorem slices_Clone_int_int.calls (A0 : Option Addr) (c0 : Nat) (l0 : List Int) (r : List Int) (w : World) (hr0 : Kd.C (Kd.int .i64) w A0 l0.length l0) (hc0 : l0.length ≤ c0) (h : slices_Clone_int_int.f l0 = some r) :
    Calls Try.prog 66 #[.slice A0 l0.length c0] w fun e w' => ∃ v0_ : Value, e = .returned (v0_) ∧ Kd.R (Kd.int .i64) 3 w' w.heap.size (fun _ => True) v0_ r ∧ Below w.heap.size w w' := by
  rw [slices_Clone_int_int.f] at h
  by_cases c2 : l0.length < 17592186044416
  rotate_left
  · rw [if_neg c2] at h; cases h
  rw [if_pos c2] at h
  obtain rfl := Option.some.inj h
  clear h
  cases A0 with
  | none =>
    have hl : l0 = [] := by
      cases l0 with
      | nil => rfl
      | cons a t =>
        obtain ⟨ad, e, _⟩ := Kd.at_int hr0 0 (by omega) (by simp)
        cases e
    subst hl
    have hu22 := Try.underlying29
    clear hr0 c2
    go_enter Try.func66, Try.ntmps66
    go_wp2
    go_ret
    exact ⟨_, rfl, Kd.R_nil _ _ _ _ _, by repeat (first | exact Below.refl _ _ | apply below_alloc | apply pw_below_drewN | apply below_drew1)⟩
  | some ad =>
    have HR0 := Aside0.mk hr0
    have HC0 := Aside0.mk hc0
    have HB := Aside0.mk (Below.refl w.heap.size w)
    have LMc2 := Aside0.mk c2
    obtain ⟨y101, hy101⟩ : ∃ y_ : List Int, y_ = (([] : List Int)) := ⟨_, rfl⟩
    have Ny101 := Aside0.mk hy101
    obtain ⟨y104, hy104⟩ : ∃ y_ : List Int, y_ = (y101 ++ l0) := ⟨_, rfl⟩
    have Ny104 := Aside0.mk hy104
    have LL := Aside0.mk (show y101.length = 0 by rw [hy101]; rfl)
    have E104 := Aside0.mk (show y104 = l0 by rw [hy104, hy101]; rfl)
    have hu22 := Try.underlying29
    clear hy101 hy104 hr0 hc0 c2
    go_enter Try.func66, Try.ntmps66
    go_wp2_with (first | ((with_reducible refine gate_dst (N := 5) rfl ?_); refine Kd.R_lit (Kd.int .i64) _ 3 ?hg (N := 5) ?hd (xs := ([] : List Int)) (inner := []) (ok := fun _ => True) (okp := fun _ => True) ?hr ?hp (fun _ hk => hk) trivial (Below.refl _ _) (Nat.le_refl _) (by simp) ?_; (case hd => rfl); (case hg => rfl); (case hr => first | (go_simp; done) | (go_simp; rfl)); (case hp => exact (Reps.none _ _)); intro v102 w3 ho4 hb hg_ hnew_; clear hg_ hnew_; (first | rw [← Ny101.out] at ho4 | (simp only [Int.reduceToNat] at ho4; rw [← Ny101.out] at ho4)); have n0_ := Aside0.mk (Kd.R_lower ho4 (below_size (by repeat (first | (with_reducible first | exact HB.out | apply below_alloc | apply pw_below_drewN | apply below_drew1) | exact HB.out)))); have n1_ := Aside0.mk (below_step (by repeat (first | (with_reducible first | exact HB.out | apply below_alloc | apply pw_below_drewN | apply below_drew1) | exact HB.out)) hb); clear HB; have HO103 := n0_; have HB := n1_; clear n0_ n1_; clear hb ho4) | ((with_reducible refine gate_builtin (b := .append) (xs := #[.tmp 5, .tmp 6]) rfl ?_); at_builtin; refine Kd.R_append_rows (Kd.int .i64) (w0 := w) w.heap.size rfl (.tmp 5) (.tmp 6) 29 3 (.int .i64 0) 8 rfl Try.underlying29 info3 rfl (by decide) (by omega) v102 y101 l0 _ _ _ (fun _ => True) (fun _ => False) rfl rfl ?aO ?aR (fun _ _ h => h) (fun _ h => h.elim) ?aF ?aB ?aS ?aL ?_; (case aR => repeat (first | exact (Kd.C_below HR0.out HB.out) | (with_reducible refine Kd.C_alloc ?_ _) | (with_reducible refine Kd.C_drewN ?_ _) | (with_reducible refine Kd.C_drew ?_))); (case aB => exact (by repeat (first | (with_reducible first | exact HB.out | apply below_alloc | apply pw_below_drewN | apply below_drew1) | exact HB.out))); (case aF => exact (fun _ _ => trivial)); (case aO => exact (by (with_reducible repeat (first | apply Kd.R_alloc | apply Kd.R_drewN | apply Kd.R_drew)); exact HO103.out)); (case aS => exact (below_size (by repeat (first | (with_reducible first | exact HB.out | apply below_alloc | apply pw_below_drewN | apply below_drew1) | exact HB.out)))); (case aL => have := LMc2.out; have := LL.out; omega); intro v105 w5 ho hb hg hat; rw [← Ny104.out] at ho; have n0_ := Aside0.mk (hb); have n1_ := Aside0.mk (ho); clear HB; clear HO103; have HB := n0_; have HO106 := n1_; clear n0_ n1_; clear ho hb hg hat))
    go_ret
    exact ⟨_, by first | rfl | (simp [errW_none, errW_some] <;> rfl) | (simp [*, errW_none, errW_some] <;> rfl), by rw [← E104.out]; (with_reducible repeat (first | apply Kd.R_alloc | apply Kd.R_drewN | apply Kd.R_drew)); exact HO106.out, by repeat (first | (with_reducible first | exact HB.out | apply below_alloc | apply pw_below_drewN | apply below_drew1) | exact HB.out)⟩
end Go.Proofs.Ytadkkcdhgepbkaa.Q
end
section
namespace Go.Proofs.Ytadkkcdhgepbkaa.Q
open Go.RowKit Go.Proofs.YtadkkcdhgepbkaaW.PrintWords Go.Proofs.YtadkkcdhgepbkaaW.PrintLast Go.Proofs.YtadkkcdhgepbkaaW.PrintMore
attribute [local go_sem] max2_int min2_int max_two min_two max_three min_three max_four min_four   -- for this text's walks alone
set_option linter.unusedVariables false
set_option linter.unusedSimpArgs false
def impl_leads_1.f (a0 : Int) : Option (Bool) := some (a0 != 0)
set_option maxHeartbeats 8000000 in
set_option maxRecDepth 100000 in
theorem impl_leads_1.calls (a0 : Int) (r : Bool) (w : World) (h : impl_leads_1.f a0 = some r) :
    Calls Try.prog 68 #[.int .i64 a0] w fun e w' => e = .returned (.bool r) ∧ Drawn0 w w' := by
  have H : (some (a0 != 0)) = some r := h
  clear h
  obtain rfl := Option.some.inj H
  go_enter Try.func68, Try.ntmps68
  go_wp2
  go_ret
  exact ⟨by first | rfl | (simp; done) | (simp [*]; done), by repeat (first | exact Drawn0.refl _ | apply Drawn0.step)⟩
end Go.Proofs.Ytadkkcdhgepbkaa.Q
end
section
namespace Go.Proofs.Ytadkkcdhgepbkaa.Q
open Go.RowKit Go.Proofs.YtadkkcdhgepbkaaW.PrintWords Go.Proofs.YtadkkcdhgepbkaaW.PrintLast Go.Proofs.YtadkkcdhgepbkaaW.PrintMore
attribute [local go_sem] max2_int min2_int max_two min_two max_three min_three max_four min_four   -- for this text's walks alone
set_option linter.unusedVariables false
set_option linter.unusedSimpArgs false
def slices_IndexFunc_int_int__at_impl_leads_1.l0 : Nat → List Int → Int → Int → Option (Int)
  | 0, _, _, _ => none
  | k + 1, x0, x7, x8 => if x8 < x7 then (if 0 ≤ x8 then (if x8 < (x0.length : Int) then ((impl_leads_1.f (rd x0 x8)).bind fun t102 => (if t102 = true then (some x8) else (slices_IndexFunc_int_int__at_impl_leads_1.l0 k x0 x7 (wrap64 (x8 + 1))))) else (none)) else (none)) else (some (-1))
def slices_IndexFunc_int_int__at_impl_leads_1.f (k : Nat) (l0 : List Int)  : Option (Int) := slices_IndexFunc_int_int__at_impl_leads_1.l0 k l0 (l0.length : Int) 0
set_option maxHeartbeats 8000000 in
set_option maxRecDepth 100000 in
theorem slices_IndexFunc_int_int__at_impl_leads_1.calls (k : Nat) (A0 : Option Addr) (c0 : Nat) (l0 : List Int)  (r : Int) (w : World) (hr0 : Kd.C (Kd.int .i64) w A0 l0.length l0) (hc0 : l0.length ≤ c0) (h : slices_IndexFunc_int_int__at_impl_leads_1.f k l0 = some r) :
    Calls Try.prog 67 #[.slice A0 l0.length c0, .func (.func 68) #[] #[]] w fun e w' => e = .returned (.int .i64 r) ∧ Drawn0 w w' := by
  have HR0 := Aside0.mk hr0
  have HC0 := Aside0.mk hc0
  clear hr0 hc0
  have H : (slices_IndexFunc_int_int__at_impl_leads_1.l0 k l0 (l0.length : Int) 0) = some r := h
  clear h
  have H' := Aside0.mk H
  clear H
  go_enter Try.func67, Try.ntmps67
  go_wp2
  go_loopg [8] k (fun kq v8 w' => ∃ (x8_1 : Int), v8 = .int .i64 x8_1 ∧ Aside0 (slices_IndexFunc_int_int__at_impl_leads_1.l0 kq l0 (l0.length : Int) x8_1 = some r) ∧ Aside0 (kq ≤ k) ∧ Drawn0 w w')
  case atStart => exact ⟨(0), (by first | rfl | (simp; done) | (simp [*]; done)), H', ⟨Nat.le_refl _⟩, by repeat (first | exact Drawn0.refl _ | apply Drawn0.step)⟩
  case round =>
    clear H'
    try clear p2
    obtain ⟨x8_1, rfl, HA, HK1, ⟨m1, rfl⟩⟩ := hrel
    cases gk with
    | zero => exact absurd HA.out (by simp [slices_IndexFunc_int_int__at_impl_leads_1.l0])
    | succ k1 =>
      have H := HA.out
      clear HA
      simp only [slices_IndexFunc_int_int__at_impl_leads_1.l0] at H
      by_cases c3 : x8_1 < (l0.length : Int)
      · rw [if_pos c3] at H
        have c3b0 : decide (x8_1 < (l0.length : Int)) = true := decide_eq_true c3
        clear c3
        by_cases c4 : 0 ≤ x8_1
        · rw [if_pos c4] at H
          have c4b0 : decide (0 ≤ x8_1) = true := decide_eq_true c4
          clear c4
          by_cases c5 : x8_1 < (l0.length : Int)
          · rw [if_pos c5] at H
            have c5b0 : decide (x8_1 < (l0.length : Int)) = true := decide_eq_true c5
            clear c5
            replace H := Option.bind_eq_some_iff.mp H
            obtain ⟨t102, A60, H⟩ := H
            replace H : (if t102 = true then (some x8_1) else (slices_IndexFunc_int_int__at_impl_leads_1.l0 k1 l0 (l0.length : Int) (wrap64 (x8_1 + 1)))) = some r := H
            have A6 := Aside0.mk A60
            clear A60
            by_cases c7 : t102 = true
            · subst c7
              have H1 : (some x8_1) = some r := by rw [if_pos rfl] at H; exact H
              clear H
              have H := H1
              clear H1
              obtain rfl := Option.some.inj H
              have p101 : 0 ≤ (x8_1 : Int) := of_decide_eq_true (by first | (with_reducible assumption) | assumption)
              have q101 : x8_1 < (l0.length : Int) := of_decide_eq_true (by first | (with_reducible assumption) | assumption)
              obtain ⟨ad101, e101, hx101_0⟩ := Kd.at_int HR0.out x8_1 p101 q101
              cases e101
              replace p101 := eq_true p101
              replace q101 := eq_true q101
              go_wp2_with (first | (go_at_call 68; (with_reducible refine (impl_leads_1.calls (rd l0 x8_1) true _ A6.out).mono ?_); rintro e w' ⟨rfl, ⟨nd, rfl⟩⟩))
              go_ret
              exact ⟨by first | rfl | (simp; done) | (simp [*]; done), by repeat (first | exact Drawn0.refl _ | apply Drawn0.step)⟩
            · replace c7 := Bool.eq_false_iff.mpr c7
              subst c7
              have H1 : (slices_IndexFunc_int_int__at_impl_leads_1.l0 k1 l0 (l0.length : Int) (wrap64 (x8_1 + 1))) = some r := by rw [if_neg (show ¬ (false = true) by decide)] at H; exact H
              clear H
              have H := H1
              clear H1
              have H' := Aside0.mk H
              clear H
              have p101 : 0 ≤ (x8_1 : Int) := of_decide_eq_true (by first | (with_reducible assumption) | assumption)
              have q101 : x8_1 < (l0.length : Int) := of_decide_eq_true (by first | (with_reducible assumption) | assumption)
              obtain ⟨ad101, e101, hx101_0⟩ := Kd.at_int HR0.out x8_1 p101 q101
              cases e101
              replace p101 := eq_true p101
              replace q101 := eq_true q101
              go_wp2_with (first | (go_at_call 68; (with_reducible refine (impl_leads_1.calls (rd l0 x8_1) false _ A6.out).mono ?_); rintro e w' ⟨rfl, ⟨nd, rfl⟩⟩))
              go_roundg k1
              case measure => have := HK1.out; omega
              case rel => exact ⟨(wrap64 (x8_1 + 1)), (by first | rfl | (simp; done) | (simp [*]; done)), H', ⟨by have := HK1.out; omega⟩, by repeat (first | exact Drawn0.refl _ | apply Drawn0.step)⟩
          · rw [if_neg c5] at H
            exact absurd H (by simp)
        · rw [if_neg c4] at H
          exact absurd H (by simp)
      · rw [if_neg c3] at H
        have c3b0 : decide (x8_1 < (l0.length : Int)) = false := decide_eq_false c3
        clear c3
        obtain rfl := Option.some.inj H
        go_wp2
        go_ret
        exact ⟨by first | rfl | (simp; done) | (simp [*]; done), by repeat (first | exact Drawn0.refl _ | apply Drawn0.step)⟩
end Go.Proofs.Ytadkkcdhgepbkaa.Q
end
section
namespace Go.Proofs.Ytadkkcdhgepbkaa.Q
set_option linter.unusedVariables false
open Go.RowKit Go.Proofs.YtadkkcdhgepbkaaW.PrintWords Go.Proofs.YtadkkcdhgepbkaaW.PrintLast Go.Proofs.YtadkkcdhgepbkaaW.PrintMore
open Go.Proofs.YtadkkcdhgepbkaaL Go.Proofs.Ytadkkcdhgepbkaa.BoardK Go.Proofs.Ytadkkcdhgepbkaa.LeadsK
def impl_leads.f (l0 : List (List Int)) (a1 : Int) : Option (List Int) := if areRowsB l0 a1 = true then some (leadsF a1 (l0.getD 0 []).length l0 [] []) else none
theorem idx_lead : ∀ (x : List Int) (d i : Nat), x.length ≤ 1000 → i + d = x.length → Ev (fun k => slices_IndexFunc_int_int__at_impl_leads_1.l0 k x (x.length : Int) i) (leadOf (x.drop i) i)
  | x, 0, i, hl, hi => by
    rw [List.drop_eq_nil_of_le (by omega)]
    exact Ev.step (f := fun _ => some (-1)) (fun k => by rw [slices_IndexFunc_int_int__at_impl_leads_1.l0, if_neg (by omega)]) (Ev.now _)
  | x, d + 1, i, hl, hi => by
    have w1 := Aside0.mk (show wrap64 ((i : Int) + 1) = ((i + 1 : Nat) : Int) by rw [w64 (by omega) (by omega)]; rfl)
    have hi2 : i < x.length := by omega
    rw [List.drop_eq_getElem_cons hi2, leadOf]
    by_cases h : x[i] = 0
    · rw [if_pos h]
      refine Ev.step (fun k => ?_) (idx_lead x d (i + 1) hl (by omega))
      rw [slices_IndexFunc_int_int__at_impl_leads_1.l0, if_pos (by omega), if_pos (by omega), if_pos (by omega), rd_lt _ _ hi2, impl_leads_1.f, Option.bind_some, if_neg (by simp [h]), w1.out]
    · rw [if_neg h]
      refine Ev.step (f := fun _ => some (i : Int)) (fun k => ?_) (Ev.now _)
      rw [slices_IndexFunc_int_int__at_impl_leads_1.l0, if_pos (by omega), if_pos (by omega), if_pos (by omega), rd_lt _ _ hi2, impl_leads_1.f, Option.bind_some, if_pos (by simp [h])]
set_option maxHeartbeats 16000000 in
set_option maxRecDepth 100000 in
theorem impl_leads.calls (A0 : Option Addr) (c0 : Nat) (l0 : List (List Int)) (a1 : Int) (r : List Int) (w : World) (hr0 : Kd.C (Kd.slice 3 (Kd.int .i64)) w A0 l0.length l0) (hc0 : l0.length ≤ c0) (h : impl_leads.f l0 a1 = some r) :
    Calls Try.prog 37 #[.slice A0 l0.length c0, .int .i64 a1] w fun e w' => ∃ v0_ : Value, e = .returned (v0_) ∧ Kd.R (Kd.int .i64) 3 w' w.heap.size (fun _ => True) v0_ r ∧ Below w.heap.size w w' := by
  by_cases hs : areRowsB l0 a1 = true
  rotate_left
  · rw [impl_leads.f, if_neg hs] at h; cases h
  rw [impl_leads.f, if_pos hs] at h
  have h := Option.some.inj h
  obtain ⟨hq, hl6, hn1, hn6, hdig⟩ := areRows_out hs
  obtain ⟨n, hn⟩ : ∃ n, n = (l0.getD 0 []).length := ⟨_, rfl⟩
  rw [← hn] at h hn1 hn6 hdig
  have HQ := Aside0.mk hq
  have HL := Aside0.mk hl6
  have HN := Aside0.mk (And.intro hn1 hn6)
  have HD := Lib.hid hdig
  have HR := Aside0.mk hr0
  have HC := Aside0.mk hc0
  have HF := Aside0.mk h
  have q0 : (a1 == 0) = false := beq_eq_false_iff_ne.mpr (by omega)
  have q0b : (a1 = 0) = False := eq_false (by omega)
  clear hs h hq hl6 hn1 hn6 hdig hr0 hc0 hn
  go_enter Try.func37, Try.ntmps37
  go_wp2_with (first
    | ((with_reducible refine gate_dst (N := 15) rfl ?_); refine Kd.S_lit (Kd.slice 3 (Kd.int .i64)) _ 29 ?hg (N := 15) ?hd (xs := ([] : List (List Int))) (inner := []) (ok := fun _ => True) (okp := fun _ => True) ?hr ?hp (fun _ hk => hk) trivial (Below.refl _ _) (Nat.le_refl _) (by simp) ?_; (case hd => rfl); (case hg => rfl); (case hr => first | (go_simp; done) | (go_simp; rfl)); (case hp => exact (Reps.none _ _)); intro v15 w15 ho15 hb15 hg_ hnew_; clear hg_ hnew_; have O15 := Aside0.mk ho15; have B15 := Aside0.mk hb15; clear ho15 hb15)
    | ((with_reducible refine gate_dst (N := 16) rfl ?_); refine Kd.R_lit (Kd.int .i64) _ 3 ?hg (N := 16) ?hd (xs := ([] : List Int)) (inner := []) (ok := fun _ => True) (okp := fun _ => True) ?hr ?hp (fun _ hk => hk) trivial (Below.refl _ _) (Nat.le_refl _) (by simp) ?_; (case hd => rfl); (case hg => rfl); (case hr => first | (go_simp; done) | (go_simp; rfl)); (case hp => exact (Reps.none _ _)); intro v16 w16 ho16 hb16 hg_ hnew_; clear hg_ hnew_; have O16 := Aside0.mk ho16; have B16 := Aside0.mk hb16; clear ho16 hb16))
  have ST0 : L0St w v15 v16 [] [] w16 := ⟨Kd.S_below (Kd.S_mono (Kd.S_bound O15.out) (fun k hk e => by have := Kd.R_base O16.out k e.symm; have := hk.2.2.1; omega)) B16.out, Kd.R_lower O16.out B15.out.size, B15.out.trans (B16.out.mono B15.out.size)⟩
  have H0 := Aside0.mk ST0
  clear ST0
  go_loopg [5, 6, 19] l0.length (fun kq v5 v6 v19 w' => ∃ (x : Int) (done : List (List Int)) (out : List Int), v19 = .int .i64 x ∧ Aside0 (∃ i : Nat, x = i ∧ i + kq = l0.length ∧ done.length = i ∧ WFs a1 n done out ∧ leadsF a1 n (l0.drop i) done out = r) ∧ Aside0 (L0St w v5 v6 done out w'))
  case atStart => exact ⟨0, [], [], rfl, ⟨0, rfl, by omega, rfl, ⟨rfl, by simp, by simp⟩, by rw [List.drop_zero]; exact HF.out⟩, H0⟩
  case round =>
    clear O15 B15 O16 B16 H0
    obtain ⟨x, done, out, rfl, HI, HS⟩ := hrel
    by_cases c3 : x < (l0.length : Int)
    · have c4b0 : decide (0 ≤ x) = true := decide_eq_true (by obtain ⟨i, h, _⟩ := HI.out; omega)
      have c3b0 : decide (x < (l0.length : Int)) = true := decide_eq_true c3
      cases gk with
      | zero => exact absurd HI.out (by rintro ⟨i, h, h', _⟩; omega)
      | succ k1 =>
        clear c3
        obtain ⟨row, hrow⟩ : ∃ row, row = rd_L2 l0 x := ⟨_, rfl⟩
        have HX : Aside0 (∃ i : Nat, x = i ∧ i + k1 + 1 = l0.length ∧ done.length = i ∧ WFs a1 n done out ∧ Dig a1 n row ∧ leadsF a1 n (l0.drop (i + 1)) (done ++ [red a1 n done out row]) (out ++ [leadOf (red a1 n done out row) 0]) = r) := ⟨by
          obtain ⟨i, h, h', hd, hw, h3⟩ := HI.out
          have hg : row = l0[i]'(by omega) := by rw [hrow, h]; unfold rd_L2; rw [Int.toNat_natCast]; exact gD_lt _ _ (by omega)
          refine ⟨i, h, by omega, hd, hw, by rw [hg]; exact HD.out _ (List.getElem_mem _), ?_⟩
          rw [List.drop_eq_getElem_cons (by omega), leadsF] at h3
          rw [hg]
          exact h3⟩
        clear HI
        have p103 : 0 ≤ x := of_decide_eq_true (by first | (with_reducible assumption) | assumption)
        have q103 : x < (l0.length : Int) := of_decide_eq_true (by first | (with_reducible assumption) | assumption)
        have HR1 := Aside0.mk (Kd.C_below HR.out HS.out.B)
        obtain ⟨ad103, A103, c103, e103, hx103, hl103, hi103⟩ := at_L2 HR1.out x p103 q103
        cases e103
        rw [← hrow] at hx103 hl103 hi103
        clear hrow
        have HI3 := Aside0.mk hi103
        have HC3 := Aside0.mk hl103
        clear hi103 hl103
        replace p103 := eq_true p103
        replace q103 := eq_true q103
        have hrl : row.length = n := by obtain ⟨i, _, _, _, _, hd, _⟩ := HX.out; exact hd.len
        have HRL := Aside0.mk hrl
        clear hrl
        have CC0 : ∀ W : World, (∃ q, W = wr.drewN q) → Calls Try.prog 66 #[.slice A103 row.length c103] W fun e w' => ∃ (vn : Value), e = .returned vn ∧ LSt w u5 u6 vn done out row w' := by
          rintro W ⟨q, rfl⟩
          have := slices_Clone_int_int.calls A103 c103 row row (wr.drewN q) (Kd.C_drewN HI3.out q) HC3.out (by rw [slices_Clone_int_int.f, if_pos (by have := HRL.out; have := HN.out; omega)])
          exact this.mono (by rintro e w' ⟨v0, rfl, h3, h4⟩; exact ⟨v0, rfl, (HS.out.drewN q).fresh h3 h4⟩)
        have CC := Lib.hid CC0
        clear CC0
        obtain ⟨Ad, cd, hvd⟩ := Kd.S_slice HS.out.d
        obtain ⟨Ao, co, hvo⟩ := Kd.R_slice HS.out.o
        subst hvd
        subst hvo
        go_wp2_with (first | (go_at_call 66; (refine (CC.out _ (by first | exact ⟨0, rfl⟩ | exact ⟨_, rfl⟩)).mono ?_); rintro e wn ⟨vn, rfl, hst⟩; obtain ⟨gn, cn, evn, _, _, _, _⟩ := Kd.R_form hst.n (by have := HRL.out; have := HN.out; omega); rw [HRL.out] at evn; subst evn; have HT := Aside0.mk hst; clear hst))
        obtain ⟨now, hnow⟩ : ∃ now, now = red a1 n done out row := ⟨_, rfl⟩
        rw [← hnow] at HX
        have HW := Aside0.mk (show out.length = done.length ∧ (∀ o ∈ done, Dig a1 n o) ∧ (∀ e ∈ out, e = -1 ∨ (0 ≤ e ∧ e < n)) from by obtain ⟨i, _, _, _, hw, _⟩ := HX.out; exact ⟨hw.len, hw.dig, hw.lead⟩)
        have H1 := Aside0.mk (show Dig a1 n row ∧ red a1 n done out row = now from by obtain ⟨i, _, _, _, _, hd, _⟩ := HX.out; exact ⟨hd, hnow.symm⟩)
        clear hnow CC HS hx103 p103 q103 c4b0 c3b0
        go_loopg [27] out.length (fun kq v27 w' => ∃ (y : Int) (xs : List Int), v27 = .int .i64 y ∧ Aside0 (∃ k : Nat, y = k ∧ k + kq = out.length ∧ Dig a1 n xs ∧ red a1 n (done.drop k) (out.drop k) xs = now) ∧ Aside0 (LSt w (.slice Ad done.length cd) (.slice Ao out.length co) (.slice (some ⟨gn, 0, none⟩) n cn) done out xs w'))
        case atStart => exact ⟨0, row, rfl, ⟨0, rfl, by omega, H1.out.1, by rw [List.drop_zero, List.drop_zero]; exact H1.out.2⟩, HT⟩
        case round =>
          clear HT
          obtain ⟨y, xs, rfl, HY, HS2⟩ := hrel
          by_cases c5 : y < (out.length : Int)
          · have c6b0 : decide (0 ≤ y) = true := decide_eq_true (by obtain ⟨i, h, _⟩ := HY.out; omega)
            have c5b0 : decide (y < (out.length : Int)) = true := decide_eq_true c5
            cases gk with
            | zero => exact absurd HY.out (by rintro ⟨i, h, h', _⟩; omega)
            | succ k2 =>
              have y0 : 0 ≤ y := of_decide_eq_true c6b0
              obtain ⟨go, co2, evo, _, _, _, _⟩ := Kd.R_form HS2.out.o (by omega)
              cases evo
              obtain ⟨gd, cd2, evd, _, _, _, _⟩ := Kd.S_form HS2.out.d (by have := HW.out.1; omega)
              cases evd
              obtain ⟨hx1, _⟩ := Kd.R_celln (0 : Int) HS2.out.o y y0 c5
              obtain ⟨e, he⟩ : ∃ e, e = rdOf 0 out y := ⟨_, rfl⟩
              rw [← he] at hx1
              obtain ⟨o, ho⟩ : ∃ o, o = done.getD y.toNat [] := ⟨_, rfl⟩
              have hod : y.toNat < done.length := by have := HW.out.1; omega
              have HY2 := Aside0.mk (show ∃ k : Nat, y = k ∧ k + k2 + 1 = out.length ∧ Dig a1 n xs ∧ red a1 n (done.drop (k + 1)) (out.drop (k + 1)) (if e = -1 then xs else elimS a1 (Int.tmod (xs.getD e.toNat 0 * o.getD e.toNat 0) a1) o n 0 xs) = now from by
                obtain ⟨k, h1, h2, h3, h4⟩ := HY.out
                refine ⟨k, h1, by omega, h3, ?_⟩
                have e1 : y.toNat = k := by omega
                rw [List.drop_eq_getElem_cons (show k < done.length by omega), List.drop_eq_getElem_cons (show k < out.length by omega), red] at h4
                rw [he, ho]
                unfold rdOf
                rw [e1, gD_lt _ _ (show k < out.length by omega), gD_lt _ _ (show k < done.length by omega)]
                exact h4)
              have HO := Aside0.mk (show Dig a1 n o from by rw [ho, gD_lt _ _ hod]; exact HW.out.2.1 _ (List.getElem_mem _))
              have HE := Aside0.mk (show e = -1 ∨ (0 ≤ e ∧ e < n) from by rw [he]; unfold rdOf; rw [gD_lt _ _ (show y.toNat < out.length by omega)]; exact HW.out.2.2 _ (List.getElem_mem _))
              have HXS := Aside0.mk (show Dig a1 n xs from by obtain ⟨k, _, _, h3, _⟩ := HY.out; exact h3)
              have EW := Aside0.mk (show ∃ k : Nat, wrap64 (y + 1) = ((k + 1 : Nat) : Int) ∧ y = k from by
                obtain ⟨k, h1, h2, _⟩ := HY.out
                have := HL.out
                obtain ⟨i, _, h6, h7, _⟩ := HX.out
                have := HW.out.1
                exact ⟨k, by rw [w64 (by omega) (by omega)]; omega, h1⟩)
              have p1 := eq_true y0
              have q1 := eq_true c5
              have q1b : (y < (done.length : Int)) = True := eq_true (by have := HW.out.1; omega)
              clear HY he c5 y0
              by_cases e1 : e = -1
              · have b1 : (e == -1) = true := beq_iff_eq.mpr e1
                have HN2 := Aside0.mk (show ∃ k : Nat, wrap64 (y + 1) = k ∧ k + k2 = out.length ∧ Dig a1 n xs ∧ red a1 n (done.drop k) (out.drop k) xs = now from by
                  obtain ⟨k, h1, h2, h3, h4⟩ := HY2.out
                  rw [if_pos e1] at h4
                  obtain ⟨k', h5, h6⟩ := EW.out
                  have : k' = k := by omega
                  subst this
                  exact ⟨k' + 1, h5, by omega, h3, h4⟩)
                clear HY2 EW e1 ho hod
                go_wp2
                go_roundg k2
                case measure => omega
                case rel => exact ⟨wrap64 (y + 1), xs, (by first | rfl | (simp; done) | (simp [*]; done)), HN2, ⟨by repeat (first | exact HS2.out | refine LSt.drewN ?_ _ | refine LSt.drew ?_)⟩⟩
              · have b1 : (e == -1) = false := beq_eq_false_iff_ne.mpr e1
                have he2 : 0 ≤ e ∧ e < n := HE.out.resolve_left e1
                obtain ⟨hx2, _⟩ := Kd.R_celln (0 : Int) HS2.out.n e he2.1 he2.2
                obtain ⟨v, hv⟩ : ∃ v, v = rdOf 0 xs e := ⟨_, rfl⟩
                rw [← hv] at hx2
                have hv2 : v = xs.getD e.toNat 0 := hv
                have p2 := eq_true he2.1
                have q2 := eq_true he2.2
                have HY3 := Aside0.mk (show ∃ k : Nat, y = k ∧ k + k2 + 1 = out.length ∧ red a1 n (done.drop (k + 1)) (out.drop (k + 1)) (elimS a1 (Int.tmod (v * o.getD e.toNat 0) a1) o n 0 xs) = now from by
                  obtain ⟨k, h1, h2, h3, h4⟩ := HY2.out
                  rw [if_neg e1] at h4
                  rw [hv2]
                  exact ⟨k, h1, h2, h4⟩)
                clear HY2
                by_cases v0 : v = 0
                · have b2 : (v == 0) = true := beq_iff_eq.mpr v0
                  have HN2 := Aside0.mk (show ∃ k : Nat, wrap64 (y + 1) = k ∧ k + k2 = out.length ∧ Dig a1 n xs ∧ red a1 n (done.drop k) (out.drop k) xs = now from by
                    obtain ⟨k, h1, h2, h4⟩ := HY3.out
                    rw [hv2, red_skip HQ.out HO.out HXS.out (hv2.symm.trans v0)] at h4
                    obtain ⟨k', h5, h6⟩ := EW.out
                    have : k' = k := by omega
                    subst this
                    exact ⟨k' + 1, h5, by omega, HXS.out, h4⟩)
                  clear HY3 EW e1 ho hod v0 hv hv2 he2
                  go_wp2
                  go_roundg k2
                  case measure => omega
                  case rel => exact ⟨wrap64 (y + 1), xs, (by first | rfl | (simp; done) | (simp [*]; done)), HN2, ⟨by repeat (first | exact HS2.out | refine LSt.drewN ?_ _ | refine LSt.drew ?_)⟩⟩
                · have b2 : (v == 0) = false := beq_eq_false_iff_ne.mpr v0
                  obtain ⟨_, ce, hcl, hM, hcc, _, _, _⟩ := Kd.S_elem HS2.out.d [] y (of_eq_true p1) (of_eq_true q1b)
                  rw [← ho] at hM
                  obtain ⟨vi, rfl, hRi⟩ := hM
                  obtain ⟨gi, ci, evi, _, _, _, _⟩ := Kd.R_form hRi (by have := HO.out.len; have := HN.out; omega)
                  rw [HO.out.len] at evi
                  subst evi
                  have hx3 := hcc 0 _ rfl
                  (try simp only [show (Kd.slice 3 (Kd.int .i64)).sz = 1 from rfl, Nat.mul_one, Nat.add_zero] at hx3)
                  obtain ⟨hx4, _⟩ := Kd.R_celln (0 : Int) hRi e he2.1 he2.2
                  obtain ⟨oe, hoe⟩ : ∃ oe, oe = rdOf 0 o e := ⟨_, rfl⟩
                  rw [← hoe] at hx4
                  have hoe2 : oe = o.getD e.toNat 0 := hoe
                  obtain ⟨bq, hbq⟩ : ∃ bq, bq = Int.tmod (v * oe) a1 := ⟨_, rfl⟩
                  have hvd := HXS.out.dig e.toNat
                  have hod2 := HO.out.dig e.toNat
                  rw [← hv2] at hvd
                  rw [← hoe2] at hod2
                  have hq3 := HQ.out
                  have hmul := mul_in hq3 (a := v) (b := oe) (by omega) (by omega)
                  have hw1 : IntKind.i64.wrap (v * oe) = v * oe := by rw [wrap_i64']; exact w64 (by omega) (by omega)
                  have hw2 : Int.tmod (v * oe) a1 = bq := hbq.symm
                  have HBQ := Aside0.mk (show 0 ≤ bq ∧ bq < a1 from by rw [hbq]; exact mod_in hq3 hmul.1)
                  rw [← hoe2, ← hbq] at HY3
                  have HOD := Aside0.mk ho
                  clear hcl hcc hRi e1 v0 hv hv2 he2 hoe hoe2 hbq hvd hod2 hq3 hmul ho
                  obtain ⟨fin, hfin⟩ : ∃ fin, fin = elimS a1 bq o n 0 xs := ⟨_, rfl⟩
                  rw [← hfin] at HY3
                  have HFN := Aside0.mk hfin.symm
                  clear hfin
                  go_wp2
                  go_still (show Try.prog.follows .mixedOrders = true from by kernel_rfl)
                  go_wp2
                  have HLX := Aside0.mk (And.intro HS2.out HXS.out)
                  clear HS2 hx1 hx2 hx3 hx4 p1 q1 q1b p2 q2 HXS b1 b2 hw1 hw2
                  go_loopg [57] n (fun kq v57 w' => ∃ (z : Int) (ys : List Int), v57 = .int .i64 z ∧ Aside0 (∃ c : Nat, z = c ∧ c + kq = n ∧ Dig a1 n ys ∧ elimS a1 bq o (n - c) c ys = fin) ∧ Aside0 (LSt w (.slice (some ⟨gd, 0, none⟩) done.length cd) (.slice (some ⟨go, 0, none⟩) out.length co) (.slice (some ⟨gn, 0, none⟩) n cn) done out ys w'))
                  case atStart => exact ⟨0, xs, rfl, ⟨0, rfl, by omega, HLX.out.2, by rw [Nat.sub_zero]; exact HFN.out⟩, ⟨by repeat (first | exact HLX.out.1 | refine LSt.drewN ?_ _ | refine LSt.drew ?_)⟩⟩
                  case round =>
                    clear HLX
                    obtain ⟨z, ys, rfl, HZ, HS3⟩ := hrel
                    by_cases c7 : z < (n : Int)
                    · have c8b0 : decide (0 ≤ z) = true := decide_eq_true (by obtain ⟨i, h, _⟩ := HZ.out; omega)
                      have c7b0 : decide (z < (n : Int)) = true := decide_eq_true c7
                      cases gk with
                      | zero => exact absurd HZ.out (by rintro ⟨i, h, h', _⟩; omega)
                      | succ k3 =>
                        have z0 : 0 ≤ z := of_decide_eq_true c8b0
                        obtain ⟨hx5, hf5⟩ := Kd.R_celln (0 : Int) HS3.out.n z z0 c7
                        have hyd : y < (done.length : Int) := by obtain ⟨k, h1, h2, _⟩ := HY3.out; have := HW.out.1; omega
                        have hy0 : 0 ≤ y := by obtain ⟨k, h1, h2, _⟩ := HY3.out; omega
                        obtain ⟨_, ce, hcl, hM, hcc, _, _, _⟩ := Kd.S_elem HS3.out.d [] y hy0 hyd
                        rw [← HOD.out] at hM
                        obtain ⟨vi, rfl, hRi⟩ := hM
                        obtain ⟨gi2, ci2, evi, _, _, _, _⟩ := Kd.R_form hRi (by have := HO.out.len; have := HN.out; omega)
                        rw [HO.out.len] at evi
                        subst evi
                        have hx6 := hcc 0 _ rfl
                        (try simp only [show (Kd.slice 3 (Kd.int .i64)).sz = 1 from rfl, Nat.mul_one, Nat.add_zero] at hx6)
                        obtain ⟨hx7, _⟩ := Kd.R_celln (0 : Int) hRi z z0 c7
                        obtain ⟨yz, hyz⟩ : ∃ yz, yz = rdOf 0 ys z := ⟨_, rfl⟩
                        rw [← hyz] at hx5
                        have hyz2 : yz = ys.getD z.toNat 0 := hyz
                        obtain ⟨oz, hoz⟩ : ∃ oz, oz = rdOf 0 o z := ⟨_, rfl⟩
                        rw [← hoz] at hx7
                        have hoz2 : oz = o.getD z.toNat 0 := hoz
                        have hYS : Dig a1 n ys := by obtain ⟨c, _, _, h3, _⟩ := HZ.out; exact h3
                        have hvd := hYS.dig z.toNat
                        have hod2 := HO.out.dig z.toNat
                        rw [← hyz2] at hvd
                        rw [← hoz2] at hod2
                        have hq3 := HQ.out
                        have hb3 := HBQ.out
                        have hmul := mul_in hq3 (a := a1 - bq) (b := oz) (by omega) (by omega)
                        obtain ⟨E, hE⟩ : ∃ E, E = Int.tmod (yz + (a1 - bq) * oz) a1 := ⟨_, rfl⟩
                        have hw1 : IntKind.i64.wrap (a1 - bq) = a1 - bq := by rw [wrap_i64']; exact w64 (by omega) (by omega)
                        have hw2 : IntKind.i64.wrap ((a1 - bq) * oz) = (a1 - bq) * oz := by rw [wrap_i64']; exact w64 (by omega) (by omega)
                        have hw3 : IntKind.i64.wrap (yz + (a1 - bq) * oz) = yz + (a1 - bq) * oz := by rw [wrap_i64']; exact w64 (by omega) (by omega)
                        have hw4 : Int.tmod (yz + (a1 - bq) * oz) a1 = E := hE.symm
                        have HZ2 := Aside0.mk (show ∃ c : Nat, wrap64 (z + 1) = c ∧ c + k3 = n ∧ Dig a1 n (ys.set z.toNat E) ∧ elimS a1 bq o (n - c) c (ys.set z.toNat E) = fin from by
                          obtain ⟨c, h1, h2, h3, h4⟩ := HZ.out
                          have e1 : z.toNat = c := by omega
                          have hn6 := HN.out
                          have hs : ys.set z.toNat E = ys.set c (Int.tmod (ys.getD c 0 + (a1 - bq) * o.getD c 0) a1) := by rw [hE, hyz2, hoz2, e1]
                          rw [hs]
                          rw [show n - c = (n - (c + 1)) + 1 by omega, elimS] at h4
                          exact ⟨c + 1, by rw [w64 (by omega) (by omega)]; omega, by omega, Dig.step hq3 hb3 HO.out h3 (by omega), h4⟩)
                        have p5 := eq_true z0
                        have q5 := eq_true c7
                        have p6 := eq_true hy0
                        have q6 := eq_true hyd
                        have q6b : (y.toNat < done.length) = True := eq_true (by omega)
                        clear HZ c7 z0 hy0 hyd hcl hcc hRi hyz hyz2 hoz hoz2 hYS hvd hod2 hq3 hb3 hmul hE
                        go_wp2
                        go_still_tail 21, (show Try.prog.follows .mixedOrders = true from by kernel_rfl)
                        go_wp2
                        go_roundg k3
                        case measure => omega
                        case rel => exact ⟨wrap64 (z + 1), ys.set z.toNat E, (by first | rfl | (simp; done) | (simp [*]; done)), HZ2, ⟨LSt.drew (LSt.put HS3.out z.toNat E)⟩⟩
                    · have c7b0 : decide (z < (n : Int)) = false := decide_eq_false c7
                      have HN3 := Aside0.mk (show ∃ k : Nat, wrap64 (y + 1) = k ∧ k + k2 = out.length ∧ Dig a1 n ys ∧ red a1 n (done.drop k) (out.drop k) ys = now from by
                        obtain ⟨c, h1, h2, h3, h4⟩ := HZ.out
                        rw [show n - c = 0 by omega, elimS] at h4
                        obtain ⟨k, h5, h6, h7⟩ := HY3.out
                        obtain ⟨k', h8, h9⟩ := EW.out
                        have : k' = k := by omega
                        subst this
                        rw [← h4] at h7
                        exact ⟨k' + 1, h8, by omega, h3, h7⟩)
                      clear HZ c7 HY3 EW
                      go_wp2
                      go_roundg k2
                      case measure => omega
                      case rel => exact ⟨wrap64 (y + 1), ys, (by first | rfl | (simp; done) | (simp [*]; done)), HN3, ⟨by repeat (first | exact HS3.out | refine LSt.drewN ?_ _ | refine LSt.drew ?_)⟩⟩
          · have c5b0 : decide (y < (out.length : Int)) = false := decide_eq_false c5
            have HX4 := Aside0.mk (show Dig a1 n xs ∧ xs = now from by
              obtain ⟨k, h1, h2, h3, h4⟩ := HY.out
              have := HW.out.1
              rw [List.drop_eq_nil_of_le (by omega), red] at h4
              · exact ⟨h3, h4⟩
              · intro _ _ _ _ h _; cases h)
            obtain ⟨ld, hld⟩ : ∃ ld, ld = leadOf now 0 := ⟨_, rfl⟩
            have HLD := Aside0.mk hld
            obtain ⟨kx, hkx⟩ := (idx_lead xs xs.length 0 (by have := HX4.out.1.len; have := HN.out; omega) (by omega)).rounds
            rw [List.drop_zero, HX4.out.2] at hkx
            have hkx2 : slices_IndexFunc_int_int__at_impl_leads_1.f kx now = some ld := by rw [hld]; exact hkx
            have hnl : now.length = n := by rw [← HX4.out.2]; exact HX4.out.1.len
            have HNL := Aside0.mk hnl
            have HS4 := Aside0.mk (show LSt w (.slice Ad done.length cd) (.slice Ao out.length co) (.slice (some ⟨gn, 0, none⟩) n cn) done out now wr from by have := HS2.out; rw [HX4.out.2] at this; exact this)
            have CI0 : ∀ W : World, (∃ q, W = wr.drewN q) → Calls Try.prog 67 #[.slice (some ⟨gn, 0, none⟩) n cn, .func (.func 68) #[] #[]] W fun e w' => e = .returned (.int .i64 ld) ∧ LSt w (.slice Ad done.length cd) (.slice Ao out.length co) (.slice (some ⟨gn, 0, none⟩) n cn) done out now w' := by
              rintro W ⟨q, rfl⟩
              have hrd := Kd.R_reads' HS4.out.n
              have := slices_IndexFunc_int_int__at_impl_leads_1.calls kx (some ⟨gn, 0, none⟩) cn now ld (wr.drewN q) (Kd.C_drewN hrd.2.2 q) (by rw [hnl]; exact hrd.2.1) hkx2
              rw [hnl] at this
              exact this.mono (by rintro e w' ⟨rfl, ⟨m, rfl⟩⟩; exact ⟨rfl, (HS4.out.drewN q).drewN m⟩)
            have CI := Lib.hid CI0
            have HK := Aside0.mk (show ∃ i : Nat, wrap64 (x + 1) = i ∧ i + k1 = l0.length ∧ done.length + 1 = i ∧ WFs a1 n (done ++ [now]) (out ++ [ld]) ∧ leadsF a1 n (l0.drop i) (done ++ [now]) (out ++ [ld]) = r from by
              obtain ⟨i, h1, h2, h3, h4, h5, h6⟩ := HX.out
              have := HL.out
              rw [← hld] at h6
              have hw := h4.snoc (x := now) (by rw [← HX4.out.2]; exact HX4.out.1)
              rw [← hld] at hw
              exact ⟨i + 1, by rw [w64 (by omega) (by omega)]; omega, by omega, by omega, hw, h6⟩)
            have HDL := Aside0.mk (show done.length ≤ 6 ∧ out.length ≤ 6 from by obtain ⟨i, h1, h2, h3, _⟩ := HX.out; have := HL.out; have := HW.out.1; omega)
            clear HY c5 hld hkx hkx2 hnl CI0 HS2 HX HX4 HW H1
            go_wp2_with (first
              | (go_at_call 67; (refine (CI.out _ (by first | exact ⟨0, rfl⟩ | exact ⟨_, rfl⟩)).mono ?_); rintro e wi ⟨rfl, hst⟩; have HS5 := Aside0.mk hst; clear hst)
              | ((with_reducible refine gate_builtin (b := .append) (xs := #[.tmp 85, .tmp 87]) rfl ?_); at_builtin; refine Kd.S_append (Kd.slice 3 (Kd.int .i64)) (w0 := w) w.heap.size rfl (.tmp 85) (.tmp 87) 24 29 (.slice none 0 0) 24 rfl Try.underlying24 info29 rfl (by decide) (by omega) (.slice Ad done.length cd) done now [.slice (some ⟨gn, 0, none⟩) n cn] (fun k => some k ≠ (Value.slice Ao out.length co).ownBlock) (fun k => some k = (Value.slice (some ⟨gn, 0, none⟩) n cn).ownBlock) rfl rfl ?aP HS5.out.okp ?aF ?aO ?aB ?aS ?aL ?_; (case aP => exact Kd.M_row (Kd.R_tight rfl HS5.out.n)); (case aF => exact HS5.out.frsh); (case aO => exact (Kd.S_mono HS5.out.d (fun k hk => ⟨hk.1, hk.2⟩))); (case aB => exact HS5.out.B); (case aS => exact HS5.out.B.size); (case aL => have := HDL.out; omega); intro vd1 wa hs hb hg hat; have HS6 := Aside0.mk (HS5.out.append hs hb hg); clear hs hb hg hat)
              | ((with_reducible refine gate_builtin (b := .append) (xs := #[.tmp 89, .tmp 91]) rfl ?_); at_builtin; refine Kd.R_append (Kd.int .i64) (w0 := w) w.heap.size rfl (.tmp 89) (.tmp 91) 29 3 (.int .i64 0) 8 rfl Try.underlying29 info3 rfl (by decide) (by omega) (.slice Ao out.length co) out ld [.int .i64 ld] (fun _ => True) (fun _ => False) rfl rfl ?aP (fun _ hk => hk.elim) (fun _ _ => trivial) ?aO ?aB ?aS ?aL ?_; (case aP => exact rfl); (case aO => exact HS6.out.o); (case aB => exact HS6.out.B); (case aS => exact HS6.out.B.size); (case aL => have := HDL.out; omega); intro vo1 wb hr hb hg hat; have HS7 := Aside0.mk (HS6.out.lead hr hb hg hat); clear hr hb hg hat))
            go_roundg k1
            case measure => omega
            case rel =>
              obtain ⟨i, h1, h2, h3, h4, h5⟩ := HK.out
              exact ⟨wrap64 (x + 1), done ++ [now], out ++ [ld], (by first | rfl | (simp; done) | (simp [*]; done)), ⟨i, h1, h2, by rw [List.length_append]; exact h3, h4, h5⟩, HS7⟩
    · have c3b0 : decide (x < (l0.length : Int)) = false := decide_eq_false c3
      have HE := Aside0.mk (show out = r from by
        obtain ⟨i, h1, h2, h3, h4, h5⟩ := HI.out
        rw [List.drop_eq_nil_of_le (by omega), leadsF] at h5
        exact h5)
      clear c3 HI
      go_wp2
      go_ret
      exact ⟨_, rfl, by rw [← HE.out]; exact HS.out.o, HS.out.B⟩
end Go.Proofs.Ytadkkcdhgepbkaa.Q
end
section
namespace Go.Proofs.Ytadkkcdhgepbkaa.Q
open Go.RowKit Go.Proofs.YtadkkcdhgepbkaaW.PrintWords Go.Proofs.YtadkkcdhgepbkaaW.PrintLast Go.Proofs.YtadkkcdhgepbkaaW.PrintMore
attribute [local go_sem] max2_int min2_int max_two min_two max_three min_three max_four min_four   -- for this text's walks alone
set_option linter.unusedVariables false
set_option linter.unusedSimpArgs false
def impl_rank.f (k : Nat) (l0 : List (List Int)) (a1 : Int) : Option (Int) := (impl_leads.f l0 a1).bind fun t101 => ((impl_rooks.f k t101).bind fun t104 => (some t104))
set_option maxHeartbeats 8000000 in
set_option maxRecDepth 100000 in
theorem impl_rank.calls (k : Nat) (A0 : Option Addr) (c0 : Nat) (l0 : List (List Int)) (a1 : Int) (r : Int) (w : World) (hr0 : Kd.C (Kd.slice 3 (Kd.int .i64)) w A0 l0.length l0) (hc0 : l0.length ≤ c0) (h : impl_rank.f k l0 a1 = some r) :
    Calls Try.prog 33 #[.slice A0 l0.length c0, .int .i64 a1] w fun e w' => e = .returned (.int .i64 r) ∧ Below w.heap.size w w' := by
  have HR0 := Aside0.mk hr0
  have HC0 := Aside0.mk hc0
  clear hr0 hc0
  have HB := Aside0.mk (Below.refl w.heap.size w)
  have H : ((impl_leads.f l0 a1).bind fun t101 => ((impl_rooks.f k t101).bind fun t104 => (some t104))) = some r := h
  clear h
  replace H := Option.bind_eq_some_iff.mp H
  obtain ⟨t101, A30, H⟩ := H
  replace H : ((impl_rooks.f k t101).bind fun t104 => (some t104)) = some r := H
  have A3 := Aside0.mk A30
  clear A30
  replace H := Option.bind_eq_some_iff.mp H
  obtain ⟨t104, A40, H⟩ := H
  replace H : (some t104) = some r := H
  have A4 := Aside0.mk A40
  clear A40
  obtain rfl := Option.some.inj H
  go_enter Try.func33, Try.ntmps33
  go_wp2_with (first | ((with_reducible refine gate_callee (f := 37) rfl ?_); refine goesL_ (some 7) rfl rfl Try.func37 (by kernel_rfl) rfl #[.slice A0 l0.length c0, .int .i64 a1] rfl (by (try simp only [List.map_toArray, List.map_cons, List.map_nil]); first | done | rfl | (simp only [List.length_drop, List.length_take]; rfl)) ?_; (with_reducible refine (impl_leads.calls _ _ l0 a1 t101 _ ?side1 ?side2 A3.out).mono ?_); (case side1 => repeat (first | exact HR0.out | (with_reducible refine Kd.C_alloc ?_ _) | (with_reducible refine Kd.C_drewN ?_ _) | (with_reducible refine Kd.C_drew ?_))); (case side2 => exact HC0.out); rintro e w5 ⟨v102, rfl, ho0, hb⟩; refine ⟨_, rfl, ?_⟩; have n0_ := Aside0.mk (Kd.R_lower ho0 (below_size (by repeat (first | (with_reducible first | exact HB.out | apply below_alloc | apply pw_below_drewN | apply below_drew1) | exact HB.out)))); have n1_ := Aside0.mk (below_step (by repeat (first | (with_reducible first | exact HB.out | apply below_alloc | apply pw_below_drewN | apply below_drew1) | exact HB.out)) hb); clear HB; have HO103 := n0_; have HB := n1_; clear n0_ n1_; (try clear hb); (try clear hb2); (try clear hk); (try clear hi); (try clear ho0); obtain ⟨Ao6, co6, eo6⟩ := Kd.R_slice HO103.out; subst eo6) | ((with_reducible refine gate_callee (f := 64) rfl ?_); refine goesL_ (some 8) rfl rfl Try.func64 (by kernel_rfl) rfl #[.slice Ao6 t101.length co6] rfl (by (try simp only [List.map_toArray, List.map_cons, List.map_nil]); first | done | rfl | (simp only [List.length_drop, List.length_take]; rfl)) ?_; (with_reducible refine (impl_rooks.calls k _ _ t101 t104 _ ?side1 ?side2 A4.out).mono ?_); (case side1 => repeat (first | exact (Kd.R_reads' HO103.out).2.2 | (with_reducible refine Kd.C_alloc ?_ _) | (with_reducible refine Kd.C_drewN ?_ _) | (with_reducible refine Kd.C_drew ?_))); (case side2 => exact (Kd.R_reads' HO103.out).2.1); rintro e w' ⟨rfl, ⟨nd, rfl⟩⟩; refine ⟨_, rfl, ?_⟩))
  go_ret
  exact ⟨by first | rfl | (simp [errW_none, errW_some] <;> rfl) | (simp [*, errW_none, errW_some] <;> rfl), by repeat (first | (with_reducible first | exact HB.out | apply below_alloc | apply pw_below_drewN | apply below_drew1) | exact HB.out)⟩
end Go.Proofs.Ytadkkcdhgepbkaa.Q
end
section
namespace Go.Proofs.Ytadkkcdhgepbkaa.Q
open Go.RowKit Go.Proofs.YtadkkcdhgepbkaaW.PrintWords Go.Proofs.YtadkkcdhgepbkaaW.PrintLast Go.Proofs.YtadkkcdhgepbkaaW.PrintMore
attribute [local go_sem] max2_int min2_int max_two min_two max_three min_three max_four min_four   -- for this text's walks alone
set_option linter.unusedVariables false
set_option linter.unusedSimpArgs false
def impl_RankModulo.f (k : Nat) (l0 : List (List Int)) (a1 : Int) : Option (Int × Bool) := (impl_areRows.f l0 a1).bind fun t101 => (if t101 = true then ((impl_rank.f k l0 a1).bind fun t102 => (some (t102, true))) else (some (0, false)))
set_option maxHeartbeats 8000000 in
set_option maxRecDepth 100000 in
theorem impl_RankModulo.calls (k : Nat) (A0 : Option Addr) (c0 : Nat) (l0 : List (List Int)) (a1 : Int) (r1 : Int) (r2 : Bool) (w : World) (hr0 : Kd.C (Kd.slice 3 (Kd.int .i64)) w A0 l0.length l0) (hc0 : l0.length ≤ c0) (h : impl_RankModulo.f k l0 a1 = some (r1, r2)) :
    Calls Try.prog 7 #[.slice A0 l0.length c0, .int .i64 a1] w fun e w' => e = .returned (.tuple #[.int .i64 r1, .bool r2]) ∧ Below w.heap.size w w' := by
  have HR0 := Aside0.mk hr0
  have HC0 := Aside0.mk hc0
  clear hr0 hc0
  have HB := Aside0.mk (Below.refl w.heap.size w)
  have H : ((impl_areRows.f l0 a1).bind fun t101 => (if t101 = true then ((impl_rank.f k l0 a1).bind fun t102 => (some (t102, true))) else (some (0, false)))) = some (r1, r2) := h
  clear h
  replace H := Option.bind_eq_some_iff.mp H
  obtain ⟨t101, A30, H⟩ := H
  replace H : (if t101 = true then ((impl_rank.f k l0 a1).bind fun t102 => (some (t102, true))) else (some (0, false))) = some (r1, r2) := H
  have A3 := Aside0.mk A30
  clear A30
  by_cases c4 : t101 = true
  · subst c4
    have H1 : ((impl_rank.f k l0 a1).bind fun t102 => (some (t102, true))) = some (r1, r2) := by rw [if_pos rfl] at H; exact H
    clear H
    have H := H1
    clear H1
    replace H := Option.bind_eq_some_iff.mp H
    obtain ⟨t102, A50, H⟩ := H
    replace H : (some (t102, true)) = some (r1, r2) := H
    have A5 := Aside0.mk A50
    clear A50
    simp only [Option.some.injEq, Prod.mk.injEq] at H
    obtain ⟨rfl, rfl⟩ := H
    go_enter Try.func7, Try.ntmps7
    go_wp2_with (first | ((with_reducible refine gate_callee (f := 32) rfl ?_); refine goesL_ (some 8) rfl rfl Try.func32 (by kernel_rfl) rfl #[.slice A0 l0.length c0, .int .i64 a1] rfl (by (try simp only [List.map_toArray, List.map_cons, List.map_nil]); first | done | rfl | (simp only [List.length_drop, List.length_take]; rfl)) ?_; (with_reducible refine (impl_areRows.calls _ _ l0 a1 true _ ?side1 ?side2 A3.out).mono ?_); (case side1 => repeat (first | exact HR0.out | (with_reducible refine Kd.C_alloc ?_ _) | (with_reducible refine Kd.C_drewN ?_ _) | (with_reducible refine Kd.C_drew ?_))); (case side2 => exact HC0.out); rintro e w6 ⟨rfl, hb⟩; refine ⟨_, rfl, ?_⟩; have n0_ := Aside0.mk (below_step (by repeat (first | (with_reducible first | exact HB.out | apply below_alloc | apply pw_below_drewN | apply below_drew1) | exact HB.out)) hb); clear HB; have HB := n0_; clear n0_; (try clear hb); (try clear hb2); (try clear hk); (try clear hi)) | ((with_reducible refine gate_callee (f := 33) rfl ?_); refine goesL_ (some 12) rfl rfl Try.func33 (by kernel_rfl) rfl #[.slice A0 l0.length c0, .int .i64 a1] rfl (by (try simp only [List.map_toArray, List.map_cons, List.map_nil]); first | done | rfl | (simp only [List.length_drop, List.length_take]; rfl)) ?_; (with_reducible refine (impl_rank.calls k _ _ l0 a1 t102 _ ?side1 ?side2 A5.out).mono ?_); (case side1 => repeat (first | exact (Kd.C_below HR0.out HB.out) | (with_reducible refine Kd.C_alloc ?_ _) | (with_reducible refine Kd.C_drewN ?_ _) | (with_reducible refine Kd.C_drew ?_))); (case side2 => exact HC0.out); rintro e w7 ⟨rfl, hb⟩; refine ⟨_, rfl, ?_⟩; have n0_ := Aside0.mk (below_step (by repeat (first | (with_reducible first | exact HB.out | apply below_alloc | apply pw_below_drewN | apply below_drew1) | exact HB.out)) hb); clear HB; have HB := n0_; clear n0_; (try clear hb); (try clear hb2); (try clear hk); (try clear hi)))
    go_ret2
    exact ⟨by first | rfl | (simp [errW_none, errW_some] <;> rfl) | (simp [*, errW_none, errW_some] <;> rfl), by repeat (first | (with_reducible first | exact HB.out | apply below_alloc | apply pw_below_drewN | apply below_drew1) | exact HB.out)⟩
  · replace c4 := Bool.eq_false_iff.mpr c4
    subst c4
    have H1 : (some (0, false)) = some (r1, r2) := by rw [if_neg (show ¬ (false = true) by decide)] at H; exact H
    clear H
    have H := H1
    clear H1
    simp only [Option.some.injEq, Prod.mk.injEq] at H
    obtain ⟨rfl, rfl⟩ := H
    go_enter Try.func7, Try.ntmps7
    go_wp2_with (first | ((with_reducible refine gate_callee (f := 32) rfl ?_); refine goesL_ (some 8) rfl rfl Try.func32 (by kernel_rfl) rfl #[.slice A0 l0.length c0, .int .i64 a1] rfl (by (try simp only [List.map_toArray, List.map_cons, List.map_nil]); first | done | rfl | (simp only [List.length_drop, List.length_take]; rfl)) ?_; (with_reducible refine (impl_areRows.calls _ _ l0 a1 false _ ?side1 ?side2 A3.out).mono ?_); (case side1 => repeat (first | exact HR0.out | (with_reducible refine Kd.C_alloc ?_ _) | (with_reducible refine Kd.C_drewN ?_ _) | (with_reducible refine Kd.C_drew ?_))); (case side2 => exact HC0.out); rintro e w8 ⟨rfl, hb⟩; refine ⟨_, rfl, ?_⟩; have n0_ := Aside0.mk (below_step (by repeat (first | (with_reducible first | exact HB.out | apply below_alloc | apply pw_below_drewN | apply below_drew1) | exact HB.out)) hb); clear HB; have HB := n0_; clear n0_; (try clear hb); (try clear hb2); (try clear hk); (try clear hi)))
    go_ret2
    exact ⟨by first | rfl | (simp [errW_none, errW_some] <;> rfl) | (simp [*, errW_none, errW_some] <;> rfl), by repeat (first | (with_reducible first | exact HB.out | apply below_alloc | apply pw_below_drewN | apply below_drew1) | exact HB.out)⟩
end Go.Proofs.Ytadkkcdhgepbkaa.Q
end
section
namespace Go.Proofs.Ytadkkcdhgepbkaa.Q
open Go.RowKit Go.Proofs.YtadkkcdhgepbkaaW.PrintWords Go.Proofs.YtadkkcdhgepbkaaW.PrintLast Go.Proofs.YtadkkcdhgepbkaaW.PrintMore
attribute [local go_sem] max2_int min2_int max_two min_two max_three min_three max_four min_four   -- for this text's walks alone
set_option linter.unusedVariables false
set_option linter.unusedSimpArgs false
def spec_weBase.f (a0 : Int) : Option (Bool) := (spec_l1In.f a0 2 3).bind fun t101 => (some t101)
set_option maxHeartbeats 8000000 in
set_option maxRecDepth 100000 in
theorem spec_weBase.calls (a0 : Int) (r : Bool) (w : World) (h : spec_weBase.f a0 = some r) :
    Calls Try.prog 34 #[.int .i64 a0] w fun e w' => e = .returned (.bool r) ∧ Drawn0 w w' := by
  have H : ((spec_l1In.f a0 2 3).bind fun t101 => (some t101)) = some r := h
  clear h
  replace H := Option.bind_eq_some_iff.mp H
  obtain ⟨t101, A20, H⟩ := H
  replace H : (some t101) = some r := H
  have A2 := Aside0.mk A20
  clear A20
  obtain rfl := Option.some.inj H
  go_enter Try.func34, Try.ntmps34
  go_wp2_with (first | ((with_reducible refine gate_callee (f := 50) rfl ?_); refine goesL_ (some 4) rfl rfl Try.func50 (by kernel_rfl) rfl #[.int .i64 a0, .int .i64 2, .int .i64 3] rfl (by (try simp only [List.map_toArray, List.map_cons, List.map_nil]); first | done | rfl | (simp only [List.length_drop, List.length_take]; rfl)) ?_; (with_reducible refine (spec_l1In.calls a0 2 3 t101 _ A2.out).mono ?_); rintro e w' ⟨rfl, ⟨nd, rfl⟩⟩; refine ⟨_, rfl, ?_⟩))
  go_ret
  exact ⟨by first | rfl | (simp; done) | (simp [*]; done), by repeat (first | exact Drawn0.refl _ | apply Drawn0.step)⟩
end Go.Proofs.Ytadkkcdhgepbkaa.Q
end
section
namespace Go.Proofs.Ytadkkcdhgepbkaa.Q
open Go.RowKit Go.Proofs.YtadkkcdhgepbkaaW.PrintWords Go.Proofs.YtadkkcdhgepbkaaW.PrintLast Go.Proofs.YtadkkcdhgepbkaaW.PrintMore
attribute [local go_sem] max2_int min2_int max_two min_two max_three min_three max_four min_four   -- for this text's walks alone
set_option linter.unusedVariables false
set_option linter.unusedSimpArgs false
mutual
def spec_weRows.j0 : Nat → List (List Int) → Int → Bool → Option (Bool)
  | 0, _, _, _ => none
  | k + 1, x0, x1, x18 => if x18 = true then (some false) else (spec_weRows.l0 k x0 x1 x0 (x0.length : Int) 0)
def spec_weRows.l0 : Nat → List (List Int) → Int → List (List Int) → Int → Int → Option (Bool)
  | 0, _, _, _, _, _ => none
  | k + 1, x0, x1, x19, x20, x21 => if x21 < x20 then (if 0 ≤ x21 then (if x21 < (x19.length : Int) then (if 0 < (x0.length : Int) then (if ((rd_L2 x19 x21).length : Int) = ((rd_L2 x0 0).length : Int) then ((spec_l1All.f k (rd_L2 x19 x21) 0 (wrap64 (x1 - 1))).bind fun t106 => (if t106 = true then (spec_weRows.l0 k x0 x1 x19 x20 (wrap64 (x21 + 1))) else (some false))) else (some false)) else (none)) else (none)) else (none)) else (some true)
end
def spec_weRows.f (k : Nat) (l0 : List (List Int)) (a1 : Int) : Option (Bool) := (spec_boSide.f (l0.length : Int)).bind fun t101 => (if t101 = true then (if 0 < (l0.length : Int) then ((spec_boSide.f ((rd_L2 l0 0).length : Int)).bind fun t103 => (spec_weRows.j0 k l0 a1 (!t103))) else (none)) else (spec_weRows.j0 k l0 a1 true))
set_option maxHeartbeats 8000000 in
set_option maxRecDepth 100000 in
theorem spec_weRows.calls (k : Nat) (A0 : Option Addr) (c0 : Nat) (l0 : List (List Int)) (a1 : Int) (r : Bool) (w : World) (hr0 : Kd.C (Kd.slice 3 (Kd.int .i64)) w A0 l0.length l0) (hc0 : l0.length ≤ c0) (h : spec_weRows.f k l0 a1 = some r) :
    Calls Try.prog 35 #[.slice A0 l0.length c0, .int .i64 a1] w fun e w' => e = .returned (.bool r) ∧ Drawn0 w w' := by
  have HR0 := Aside0.mk hr0
  have HC0 := Aside0.mk hc0
  clear hr0 hc0
  have H : ((spec_boSide.f (l0.length : Int)).bind fun t101 => (if t101 = true then (if 0 < (l0.length : Int) then ((spec_boSide.f ((rd_L2 l0 0).length : Int)).bind fun t103 => (spec_weRows.j0 k l0 a1 (!t103))) else (none)) else (spec_weRows.j0 k l0 a1 true))) = some r := h
  clear h
  have HC3 := Aside0.mk H
  clear H
  go_enter Try.func35, Try.ntmps35
  go_upto_region 1 with (fail)
  go_cut [18] (fun v18 wc => ∃ (kq : Nat) (x18_2 : Bool), v18 = .bool x18_2 ∧ Aside0 (spec_weRows.j0 kq l0 a1 x18_2 = some r) ∧ Aside0 (kq ≤ k) ∧ Drawn0 w wc)
  case first =>
    have H := HC3.out
    clear HC3
    replace H := Option.bind_eq_some_iff.mp H
    obtain ⟨t101, A40, H⟩ := H
    replace H : (if t101 = true then (if 0 < (l0.length : Int) then ((spec_boSide.f ((rd_L2 l0 0).length : Int)).bind fun t103 => (spec_weRows.j0 k l0 a1 (!t103))) else (none)) else (spec_weRows.j0 k l0 a1 true)) = some r := H
    have A4 := Aside0.mk A40
    clear A40
    by_cases c5 : t101 = true
    · subst c5
      have H1 : (if 0 < (l0.length : Int) then ((spec_boSide.f ((rd_L2 l0 0).length : Int)).bind fun t103 => (spec_weRows.j0 k l0 a1 (!t103))) else (none)) = some r := by rw [if_pos rfl] at H; exact H
      clear H
      have H := H1
      clear H1
      by_cases c6 : 0 < (l0.length : Int)
      · rw [if_pos c6] at H
        have c6b0 : decide (0 < (l0.length : Int)) = true := decide_eq_true c6
        have c6b1 : decide (0 < l0.length) = true := decide_eq_true (by omega)
        clear c6
        (first | rw [c6b0] | (simp only [i64_w, i32_w]; rw [c6b0]) | skip)
        replace H := Option.bind_eq_some_iff.mp H
        obtain ⟨t103, A70, H⟩ := H
        replace H : (spec_weRows.j0 k l0 a1 (!t103)) = some r := H
        have A7 := Aside0.mk A70
        clear A70
        have H' := Aside0.mk H
        clear H
        go_wp2_with (first | ((with_reducible refine gate_callee (f := 65) rfl ?_); refine goesL_ (some 9) rfl rfl Try.func65 (by kernel_rfl) rfl #[.int .i64 (l0.length : Int)] rfl (by (try simp only [List.map_toArray, List.map_cons, List.map_nil]); first | done | rfl | (simp only [List.length_drop, List.length_take]; rfl)) ?_; (with_reducible refine (spec_boSide.calls (l0.length : Int) true _ A4.out).mono ?_); rintro e w' ⟨rfl, ⟨nd, rfl⟩⟩; refine ⟨_, rfl, ?_⟩; have p102 : 0 ≤ (0 : Int) := (by omega); have q102 : 0 < (l0.length : Int) := of_decide_eq_true (by first | (with_reducible assumption) | assumption); obtain ⟨ad102, A102_0, c102_0, e102, hx102_0, hl102_0, hi102_0⟩ := at_L2 HR0.out 0 p102 q102; cases e102; have qi102 : (0 < l0.length) = True := eq_true (by omega); (try rw [show ((0 : Int)).toNat = 0 from rfl] at hx102_0); (try rw [Addr.add_zero'] at hx102_0); have HR102_0 := Aside0.mk hi102_0; have HC102_0 := Aside0.mk hl102_0; clear hi102_0 hl102_0; replace p102 := eq_true p102; replace q102 := eq_true q102) | (go_at_call 65; (with_reducible refine (spec_boSide.calls ((rd_L2 l0 0).length : Int) t103 _ A7.out).mono ?_); rintro e w' ⟨rfl, ⟨nd, rfl⟩⟩))
        go_meet
        case rel => exact ⟨_, (!t103), (by first | rfl | (simp; done) | (simp [*]; done)), H', ⟨by first | omega | exact Nat.le_refl _⟩, by repeat (first | exact Drawn0.refl _ | apply Drawn0.step)⟩
      · rw [if_neg c6] at H
        exact absurd H (by simp)
    · replace c5 := Bool.eq_false_iff.mpr c5
      subst c5
      have H1 : (spec_weRows.j0 k l0 a1 true) = some r := by rw [if_neg (show ¬ (false = true) by decide)] at H; exact H
      clear H
      have H := H1
      clear H1
      have H' := Aside0.mk H
      clear H
      go_wp2_with (first | ((with_reducible refine gate_callee (f := 65) rfl ?_); refine goesL_ (some 9) rfl rfl Try.func65 (by kernel_rfl) rfl #[.int .i64 (l0.length : Int)] rfl (by (try simp only [List.map_toArray, List.map_cons, List.map_nil]); first | done | rfl | (simp only [List.length_drop, List.length_take]; rfl)) ?_; (with_reducible refine (spec_boSide.calls (l0.length : Int) false _ A4.out).mono ?_); rintro e w' ⟨rfl, ⟨nd, rfl⟩⟩; refine ⟨_, rfl, ?_⟩))
      go_meet
      case rel => exact ⟨_, (true), (by first | rfl | (simp; done) | (simp [*]; done)), H', ⟨by first | omega | exact Nat.le_refl _⟩, by repeat (first | exact Drawn0.refl _ | apply Drawn0.step)⟩
  case rest =>
    clear HC3
    try clear c1
    try clear p1
    try clear q1
    try clear hx1
    try clear qi1
    try clear p2
    try clear c3
    try clear c5
    try clear c6
    try clear c6b0
    try clear c6b1
    try clear hx102_0
    try clear p102
    try clear q102
    obtain ⟨kq, x18_2, rfl, HA, HJ2, ⟨mc2, rfl⟩⟩ := hcut
    cases kq with
    | zero => exact absurd HA.out (by simp [spec_weRows.j0])
    | succ kj2 =>
      have H := HA.out
      clear HA
      simp only [spec_weRows.j0] at H
      by_cases c8 : x18_2 = true
      · subst c8
        have H1 : (some false) = some r := by rw [if_pos rfl] at H; exact H
        clear H
        have H := H1
        clear H1
        obtain rfl := Option.some.inj H
        go_wp2
        go_ret
        exact ⟨by first | rfl | (simp; done) | (simp [*]; done), by repeat (first | exact Drawn0.refl _ | apply Drawn0.step)⟩
      · replace c8 := Bool.eq_false_iff.mpr c8
        subst c8
        have H1 : (spec_weRows.l0 kj2 l0 a1 l0 (l0.length : Int) 0) = some r := by rw [if_neg (show ¬ (false = true) by decide)] at H; exact H
        clear H
        have H := H1
        clear H1
        have H' := Aside0.mk H
        clear H
        go_wp2
        go_loopg [21] kj2 (fun kq v21 w' => ∃ (x21_2 : Int), v21 = .int .i64 x21_2 ∧ Aside0 (spec_weRows.l0 kq l0 a1 l0 (l0.length : Int) x21_2 = some r) ∧ Aside0 (kq ≤ kj2) ∧ Drawn0 w w')
        case atStart => exact ⟨(0), (by first | rfl | (simp; done) | (simp [*]; done)), H', ⟨Nat.le_refl _⟩, by repeat (first | exact Drawn0.refl _ | apply Drawn0.step)⟩
        case round =>
          clear H'
          try clear c1
          try clear p1
          try clear q1
          try clear hx1
          try clear qi1
          try clear c2
          try clear p2
          try clear c3
          try clear c5
          try clear c6
          try clear c6b0
          try clear c6b1
          try clear c8
          try clear hx102_0
          try clear p1
          try clear p102
          try clear p2
          try clear q1
          try clear q102
          obtain ⟨x21_2, rfl, HA, HK2, ⟨m2, rfl⟩⟩ := hrel
          cases gk with
          | zero => exact absurd HA.out (by simp [spec_weRows.l0])
          | succ k2 =>
            have H := HA.out
            clear HA
            simp only [spec_weRows.l0] at H
            by_cases c9 : x21_2 < (l0.length : Int)
            · rw [if_pos c9] at H
              have c9b0 : decide (x21_2 < (l0.length : Int)) = true := decide_eq_true c9
              clear c9
              by_cases c10 : 0 ≤ x21_2
              · rw [if_pos c10] at H
                have c10b0 : decide (0 ≤ x21_2) = true := decide_eq_true c10
                clear c10
                by_cases c11 : x21_2 < (l0.length : Int)
                · rw [if_pos c11] at H
                  have c11b0 : decide (x21_2 < (l0.length : Int)) = true := decide_eq_true c11
                  clear c11
                  by_cases c12 : 0 < (l0.length : Int)
                  · rw [if_pos c12] at H
                    have c12b0 : decide (0 < (l0.length : Int)) = true := decide_eq_true c12
                    have c12b1 : decide (0 < l0.length) = true := decide_eq_true (by omega)
                    clear c12
                    by_cases c13 : ((rd_L2 l0 x21_2).length : Int) = ((rd_L2 l0 0).length : Int)
                    · rw [if_pos c13] at H
                      have c13b0 : (((rd_L2 l0 x21_2).length : Int) == ((rd_L2 l0 0).length : Int)) = true := beq_iff_eq.mpr c13
                      have c13b1 : (((rd_L2 l0 x21_2).length : Int) != ((rd_L2 l0 0).length : Int)) = false := bne_eq_false_iff_eq.mpr c13
                      have c13b2 : ((rd_L2 l0 x21_2).length == (rd_L2 l0 0).length) = true := by first | simpa using c13 | (simp at c13 ⊢; omega)
                      clear c13
                      replace H := Option.bind_eq_some_iff.mp H
                      obtain ⟨t106, A140, H⟩ := H
                      replace H : (if t106 = true then (spec_weRows.l0 k2 l0 a1 l0 (l0.length : Int) (wrap64 (x21_2 + 1))) else (some false)) = some r := H
                      have A14 := Aside0.mk A140
                      clear A140
                      by_cases c15 : t106 = true
                      · subst c15
                        have H1 : (spec_weRows.l0 k2 l0 a1 l0 (l0.length : Int) (wrap64 (x21_2 + 1))) = some r := by rw [if_pos rfl] at H; exact H
                        clear H
                        have H := H1
                        clear H1
                        have H' := Aside0.mk H
                        clear H
                        have p104 : 0 ≤ (x21_2 : Int) := of_decide_eq_true (by first | (with_reducible assumption) | assumption)
                        have q104 : x21_2 < (l0.length : Int) := of_decide_eq_true (by first | (with_reducible assumption) | assumption)
                        obtain ⟨ad104, A104_0, c104_0, e104, hx104_0, hl104_0, hi104_0⟩ := at_L2 HR0.out x21_2 p104 q104
                        cases e104
                        have HR104_0 := Aside0.mk hi104_0
                        have HC104_0 := Aside0.mk hl104_0
                        clear hi104_0 hl104_0
                        replace p104 := eq_true p104
                        replace q104 := eq_true q104
                        have p105 : 0 ≤ (0 : Int) := (by omega)
                        have q105 : 0 < (l0.length : Int) := of_decide_eq_true (by first | (with_reducible assumption) | assumption)
                        obtain ⟨ad105, A105_0, c105_0, e105, hx105_0, hl105_0, hi105_0⟩ := at_L2 HR0.out 0 p105 q105
                        obtain rfl : ad104 = ad105 := (by injection e105)
                        have qi105 : (0 < l0.length) = True := eq_true (by omega)
                        (try rw [show ((0 : Int)).toNat = 0 from rfl] at hx105_0)
                        (try rw [Addr.add_zero'] at hx105_0)
                        have HR105_0 := Aside0.mk hi105_0
                        have HC105_0 := Aside0.mk hl105_0
                        clear hi105_0 hl105_0
                        replace p105 := eq_true p105
                        replace q105 := eq_true q105
                        go_wp2_with (first | (go_at_call 53; (with_reducible refine (spec_l1All.calls k2 _ _ (rd_L2 l0 x21_2) 0 (wrap64 (a1 - 1)) true _ ?side1 ?side2 A14.out).mono ?_); (case side1 => repeat (first | exact HR104_0.out | (with_reducible refine Kd.C_alloc ?_ _) | (with_reducible refine Kd.C_drewN ?_ _) | (with_reducible refine Kd.C_drew ?_))); (case side2 => exact HC104_0.out); rintro e w' ⟨rfl, ⟨nd, rfl⟩⟩))
                        go_roundg k2
                        case measure => have := HJ2.out; have := HK2.out; omega
                        case rel => exact ⟨(wrap64 (x21_2 + 1)), (by first | rfl | (simp; done) | (simp [*]; done)), H', ⟨by have := HJ2.out; have := HK2.out; omega⟩, by repeat (first | exact Drawn0.refl _ | apply Drawn0.step)⟩
                      · replace c15 := Bool.eq_false_iff.mpr c15
                        subst c15
                        have H1 : (some false) = some r := by rw [if_neg (show ¬ (false = true) by decide)] at H; exact H
                        clear H
                        have H := H1
                        clear H1
                        obtain rfl := Option.some.inj H
                        have p104 : 0 ≤ (x21_2 : Int) := of_decide_eq_true (by first | (with_reducible assumption) | assumption)
                        have q104 : x21_2 < (l0.length : Int) := of_decide_eq_true (by first | (with_reducible assumption) | assumption)
                        obtain ⟨ad104, A104_0, c104_0, e104, hx104_0, hl104_0, hi104_0⟩ := at_L2 HR0.out x21_2 p104 q104
                        cases e104
                        have HR104_0 := Aside0.mk hi104_0
                        have HC104_0 := Aside0.mk hl104_0
                        clear hi104_0 hl104_0
                        replace p104 := eq_true p104
                        replace q104 := eq_true q104
                        have p105 : 0 ≤ (0 : Int) := (by omega)
                        have q105 : 0 < (l0.length : Int) := of_decide_eq_true (by first | (with_reducible assumption) | assumption)
                        obtain ⟨ad105, A105_0, c105_0, e105, hx105_0, hl105_0, hi105_0⟩ := at_L2 HR0.out 0 p105 q105
                        obtain rfl : ad104 = ad105 := (by injection e105)
                        have qi105 : (0 < l0.length) = True := eq_true (by omega)
                        (try rw [show ((0 : Int)).toNat = 0 from rfl] at hx105_0)
                        (try rw [Addr.add_zero'] at hx105_0)
                        have HR105_0 := Aside0.mk hi105_0
                        have HC105_0 := Aside0.mk hl105_0
                        clear hi105_0 hl105_0
                        replace p105 := eq_true p105
                        replace q105 := eq_true q105
                        go_wp2_with (first | (go_at_call 53; (with_reducible refine (spec_l1All.calls k2 _ _ (rd_L2 l0 x21_2) 0 (wrap64 (a1 - 1)) false _ ?side1 ?side2 A14.out).mono ?_); (case side1 => repeat (first | exact HR104_0.out | (with_reducible refine Kd.C_alloc ?_ _) | (with_reducible refine Kd.C_drewN ?_ _) | (with_reducible refine Kd.C_drew ?_))); (case side2 => exact HC104_0.out); rintro e w' ⟨rfl, ⟨nd, rfl⟩⟩))
                        go_ret
                        exact ⟨by first | rfl | (simp; done) | (simp [*]; done), by repeat (first | exact Drawn0.refl _ | apply Drawn0.step)⟩
                    · rw [if_neg c13] at H
                      have c13b0 : (((rd_L2 l0 x21_2).length : Int) == ((rd_L2 l0 0).length : Int)) = false := beq_eq_false_iff_ne.mpr c13
                      have c13b1 : (((rd_L2 l0 x21_2).length : Int) != ((rd_L2 l0 0).length : Int)) = true := bne_iff_ne.mpr c13
                      have c13b2 : ((rd_L2 l0 x21_2).length == (rd_L2 l0 0).length) = false := by first | simpa using c13 | (simp at c13 ⊢; omega)
                      obtain rfl := Option.some.inj H
                      have p104 : 0 ≤ (x21_2 : Int) := of_decide_eq_true (by first | (with_reducible assumption) | assumption)
                      have q104 : x21_2 < (l0.length : Int) := of_decide_eq_true (by first | (with_reducible assumption) | assumption)
                      obtain ⟨ad104, A104_0, c104_0, e104, hx104_0, hl104_0, hi104_0⟩ := at_L2 HR0.out x21_2 p104 q104
                      cases e104
                      have HR104_0 := Aside0.mk hi104_0
                      have HC104_0 := Aside0.mk hl104_0
                      clear hi104_0 hl104_0
                      replace p104 := eq_true p104
                      replace q104 := eq_true q104
                      have p105 : 0 ≤ (0 : Int) := (by omega)
                      have q105 : 0 < (l0.length : Int) := of_decide_eq_true (by first | (with_reducible assumption) | assumption)
                      obtain ⟨ad105, A105_0, c105_0, e105, hx105_0, hl105_0, hi105_0⟩ := at_L2 HR0.out 0 p105 q105
                      obtain rfl : ad104 = ad105 := (by injection e105)
                      have qi105 : (0 < l0.length) = True := eq_true (by omega)
                      (try rw [show ((0 : Int)).toNat = 0 from rfl] at hx105_0)
                      (try rw [Addr.add_zero'] at hx105_0)
                      have HR105_0 := Aside0.mk hi105_0
                      have HC105_0 := Aside0.mk hl105_0
                      clear hi105_0 hl105_0
                      replace p105 := eq_true p105
                      replace q105 := eq_true q105
                      go_wp2
                      go_ret
                      exact ⟨by first | rfl | (simp; done) | (simp [*]; done), by repeat (first | exact Drawn0.refl _ | apply Drawn0.step)⟩
                  · rw [if_neg c12] at H
                    exact absurd H (by simp)
                · rw [if_neg c11] at H
                  exact absurd H (by simp)
              · rw [if_neg c10] at H
                exact absurd H (by simp)
            · rw [if_neg c9] at H
              have c9b0 : decide (x21_2 < (l0.length : Int)) = false := decide_eq_false c9
              clear c9
              obtain rfl := Option.some.inj H
              go_wp2
              go_ret
              exact ⟨by first | rfl | (simp; done) | (simp [*]; done), by repeat (first | exact Drawn0.refl _ | apply Drawn0.step)⟩
end Go.Proofs.Ytadkkcdhgepbkaa.Q
end
section
namespace Go.Proofs.Ytadkkcdhgepbkaa.Q
open Go.RowKit Go.Proofs.YtadkkcdhgepbkaaW.PrintWords Go.Proofs.YtadkkcdhgepbkaaW.PrintLast Go.Proofs.YtadkkcdhgepbkaaW.PrintMore
attribute [local go_sem] max2_int min2_int max_two min_two max_three min_three max_four min_four   -- for this text's walks alone
set_option linter.unusedVariables false
set_option linter.unusedSimpArgs false
def spec_l1Own.f (l0 : List Int) : Option (List Int) := (some (([] : List Int) : List Int)).bind fun y101 => (if y101.length + l0.length < 17592186044416 then (some (y101 ++ l0)) else (none))
set_option maxHeartbeats 8000000 in
set_option maxRecDepth 100000 in
theorem spec_l1Own.calls (A0 : Option Addr) (c0 : Nat) (l0 : List Int) (r : List Int) (w : World) (hr0 : Kd.C (Kd.int .i64) w A0 l0.length l0) (hc0 : l0.length ≤ c0) (h : spec_l1Own.f l0 = some r) :
    Calls Try.prog 69 #[.slice A0 l0.length c0] w fun e w' => ∃ v0_ : Value, e = .returned (v0_) ∧ Kd.R (Kd.int .i64) 3 w' w.heap.size (fun _ => True) v0_ r ∧ Below w.heap.size w w' := by
  have HR0 := Aside0.mk hr0
  have HC0 := Aside0.mk hc0
  clear hr0 hc0
  have HB := Aside0.mk (Below.refl w.heap.size w)
  have H : ((some (([] : List Int) : List Int)).bind fun y101 => (if y101.length + l0.length < 17592186044416 then (some (y101 ++ l0)) else (none))) = some r := h
  clear h
  obtain ⟨y101, hy101⟩ : ∃ y_ : List Int, y_ = (([] : List Int)) := ⟨_, rfl⟩
  replace H : (if y101.length + l0.length < 17592186044416 then (some (y101 ++ l0)) else (none)) = some r := by first | (rw [hy101]; with_reducible exact H) | (have H2_ := (Option.bind_some _ _).symm.trans H; rw [hy101]; with_reducible exact H2_) | (have H2_ := (Option.bind_some _ _).symm.trans H; with_reducible exact H2_) | with_reducible exact H | (rw [hy101]; exact H) | exact H
  have Ny101 := Aside0.mk hy101
  clear hy101
  by_cases c2 : y101.length + l0.length < 17592186044416
  · rw [if_pos c2] at H
    have LMc2 := Aside0.mk c2
    clear c2
    obtain ⟨y104, hy104⟩ : ∃ y_ : List Int, y_ = (y101 ++ l0) := ⟨_, rfl⟩
    replace H : (some y104) = some r := by first | (rw [hy104]; with_reducible exact H) | (have H2_ := (Option.bind_some _ _).symm.trans H; rw [hy104]; with_reducible exact H2_) | (have H2_ := (Option.bind_some _ _).symm.trans H; with_reducible exact H2_) | with_reducible exact H | (rw [hy104]; exact H) | exact H
    have Ny104 := Aside0.mk hy104
    clear hy104
    obtain rfl := Option.some.inj H
    go_enter Try.func69, Try.ntmps69
    go_wp2_with (first | ((with_reducible refine gate_dst (N := 3) rfl ?_); refine Kd.R_lit (Kd.int .i64) _ 3 ?hg (N := 3) ?hd (xs := ([] : List Int)) (inner := []) (ok := fun _ => True) (okp := fun _ => True) ?hr ?hp (fun _ hk => hk) trivial (Below.refl _ _) (Nat.le_refl _) (by simp) ?_; (case hd => rfl); (case hg => rfl); (case hr => first | (go_simp; done) | (go_simp; rfl)); (case hp => exact (Reps.none _ _)); intro v102 w3 ho4 hb hg_ hnew_; clear hg_ hnew_; (first | rw [← Ny101.out] at ho4 | (simp only [Int.reduceToNat] at ho4; rw [← Ny101.out] at ho4)); have n0_ := Aside0.mk (Kd.R_lower ho4 (below_size (by repeat (first | (with_reducible first | exact HB.out | apply below_alloc | apply pw_below_drewN | apply below_drew1) | exact HB.out)))); have n1_ := Aside0.mk (below_step (by repeat (first | (with_reducible first | exact HB.out | apply below_alloc | apply pw_below_drewN | apply below_drew1) | exact HB.out)) hb); clear HB; have HO103 := n0_; have HB := n1_; clear n0_ n1_; clear hb ho4) | ((with_reducible refine gate_builtin (b := .append) (xs := #[.tmp 3, .tmp 4]) rfl ?_); at_builtin; refine Kd.R_append_rows (Kd.int .i64) (w0 := w) w.heap.size rfl (.tmp 3) (.tmp 4) 29 3 (.int .i64 0) 8 rfl Try.underlying29 info3 rfl (by decide) (by omega) v102 y101 l0 _ _ _ (fun _ => True) (fun _ => False) rfl rfl ?aO ?aR (fun _ _ h => h) (fun _ h => h.elim) ?aF ?aB ?aS ?aL ?_; (case aR => repeat (first | exact (Kd.C_below HR0.out HB.out) | (with_reducible refine Kd.C_alloc ?_ _) | (with_reducible refine Kd.C_drewN ?_ _) | (with_reducible refine Kd.C_drew ?_))); (case aB => exact (by repeat (first | (with_reducible first | exact HB.out | apply below_alloc | apply pw_below_drewN | apply below_drew1) | exact HB.out))); (case aF => exact (fun _ _ => trivial)); (case aO => exact (by (with_reducible repeat (first | apply Kd.R_alloc | apply Kd.R_drewN | apply Kd.R_drew)); exact HO103.out)); (case aS => exact (below_size (by repeat (first | (with_reducible first | exact HB.out | apply below_alloc | apply pw_below_drewN | apply below_drew1) | exact HB.out)))); (case aL => have := LMc2.out; omega); intro v105 w5 ho hb hg hat; rw [← Ny104.out] at ho; have n0_ := Aside0.mk (hb); have n1_ := Aside0.mk (ho); clear HB; clear HO103; have HB := n0_; have HO106 := n1_; clear n0_ n1_; clear ho hb hg hat))
    go_ret
    exact ⟨_, by first | rfl | (simp [errW_none, errW_some] <;> rfl) | (simp [*, errW_none, errW_some] <;> rfl), by (with_reducible repeat (first | apply Kd.R_alloc | apply Kd.R_drewN | apply Kd.R_drew)); exact HO106.out, by repeat (first | (with_reducible first | exact HB.out | apply below_alloc | apply pw_below_drewN | apply below_drew1) | exact HB.out)⟩
  · rw [if_neg c2] at H
    exact absurd H (by simp)
end Go.Proofs.Ytadkkcdhgepbkaa.Q
end
section
namespace Go.Proofs.Ytadkkcdhgepbkaa.Q
set_option linter.unusedVariables false
open Go.RowKit Go.Proofs.YtadkkcdhgepbkaaW.PrintWords Go.Proofs.YtadkkcdhgepbkaaW.PrintLast Go.Proofs.YtadkkcdhgepbkaaW.PrintMore
open Go.Proofs.YtadkkcdhgepbkaaL Go.Proofs.Ytadkkcdhgepbkaa.BoardK Go.Proofs.Ytadkkcdhgepbkaa.LeadsK
def spec_weLeads.f (l0 : List (List Int)) (a1 : Int) : Option (List Int) := if areRowsB l0 a1 = true then some (leadsF a1 (l0.getD 0 []).length l0 [] []) else none
set_option maxHeartbeats 16000000 in
set_option maxRecDepth 100000 in
theorem spec_weLeads.calls (A0 : Option Addr) (c0 : Nat) (l0 : List (List Int)) (a1 : Int) (r : List Int) (w : World) (hr0 : Kd.C (Kd.slice 3 (Kd.int .i64)) w A0 l0.length l0) (hc0 : l0.length ≤ c0) (h : spec_weLeads.f l0 a1 = some r) :
    Calls Try.prog 38 #[.slice A0 l0.length c0, .int .i64 a1] w fun e w' => ∃ v0_ : Value, e = .returned (v0_) ∧ Kd.R (Kd.int .i64) 3 w' w.heap.size (fun _ => True) v0_ r ∧ Below w.heap.size w w' := by
  by_cases hs : areRowsB l0 a1 = true
  rotate_left
  · rw [spec_weLeads.f, if_neg hs] at h; cases h
  rw [spec_weLeads.f, if_pos hs] at h
  have h := Option.some.inj h
  obtain ⟨hq, hl6, hn1, hn6, hdig⟩ := areRows_out hs
  obtain ⟨n, hn⟩ : ∃ n, n = (l0.getD 0 []).length := ⟨_, rfl⟩
  rw [← hn] at h hn1 hn6 hdig
  have HQ := Aside0.mk hq
  have HL := Aside0.mk hl6
  have HN := Aside0.mk (And.intro hn1 hn6)
  have HD := Lib.hid hdig
  have HR := Aside0.mk hr0
  have HC := Aside0.mk hc0
  have HF := Aside0.mk h
  have q0 : (a1 == 0) = false := beq_eq_false_iff_ne.mpr (by omega)
  have q0b : (a1 = 0) = False := eq_false (by omega)
  clear hs h hq hl6 hn1 hn6 hdig hr0 hc0 hn
  go_enter Try.func38, Try.ntmps38
  go_wp2
  have ST0 : L0St w (.slice none 0 0) (.slice none 0 0) [] [] w := ⟨Kd.S_nil _ _ _ _ _, Kd.R_nil _ _ _ _ _, Below.refl _ _⟩
  have H0 := Aside0.mk ST0
  clear ST0
  go_loopg [5, 6, 18] l0.length (fun kq v5 v6 v18 w' => ∃ (x : Int) (done : List (List Int)) (out : List Int), v18 = .int .i64 x ∧ Aside0 (∃ i : Nat, x = i ∧ i + kq = l0.length ∧ done.length = i ∧ WFs a1 n done out ∧ leadsF a1 n (l0.drop i) done out = r) ∧ Aside0 (L0St w v5 v6 done out w'))
  case atStart => exact ⟨0, [], [], rfl, ⟨0, rfl, by omega, rfl, ⟨rfl, by simp, by simp⟩, by rw [List.drop_zero]; exact HF.out⟩, H0⟩
  case round =>
    clear H0
    obtain ⟨x, done, out, rfl, HI, HS⟩ := hrel
    by_cases c3 : x < (l0.length : Int)
    · have c4b0 : decide (0 ≤ x) = true := decide_eq_true (by obtain ⟨i, h, _⟩ := HI.out; omega)
      have c3b0 : decide (x < (l0.length : Int)) = true := decide_eq_true c3
      cases gk with
      | zero => exact absurd HI.out (by rintro ⟨i, h, h', _⟩; omega)
      | succ k1 =>
        clear c3
        obtain ⟨row, hrow⟩ : ∃ row, row = rd_L2 l0 x := ⟨_, rfl⟩
        have HX : Aside0 (∃ i : Nat, x = i ∧ i + k1 + 1 = l0.length ∧ done.length = i ∧ WFs a1 n done out ∧ Dig a1 n row ∧ leadsF a1 n (l0.drop (i + 1)) (done ++ [red a1 n done out row]) (out ++ [leadOf (red a1 n done out row) 0]) = r) := ⟨by
          obtain ⟨i, h, h', hd, hw, h3⟩ := HI.out
          have hg : row = l0[i]'(by omega) := by rw [hrow, h]; unfold rd_L2; rw [Int.toNat_natCast]; exact gD_lt _ _ (by omega)
          refine ⟨i, h, by omega, hd, hw, by rw [hg]; exact HD.out _ (List.getElem_mem _), ?_⟩
          rw [List.drop_eq_getElem_cons (by omega), leadsF] at h3
          rw [hg]
          exact h3⟩
        clear HI
        have p103 : 0 ≤ x := of_decide_eq_true (by first | (with_reducible assumption) | assumption)
        have q103 : x < (l0.length : Int) := of_decide_eq_true (by first | (with_reducible assumption) | assumption)
        have HR1 := Aside0.mk (Kd.C_below HR.out HS.out.B)
        obtain ⟨ad103, A103, c103, e103, hx103, hl103, hi103⟩ := at_L2 HR1.out x p103 q103
        cases e103
        rw [← hrow] at hx103 hl103 hi103
        clear hrow
        have HI3 := Aside0.mk hi103
        have HC3 := Aside0.mk hl103
        clear hi103 hl103
        replace p103 := eq_true p103
        replace q103 := eq_true q103
        have hrl : row.length = n := by obtain ⟨i, _, _, _, _, hd, _⟩ := HX.out; exact hd.len
        have HRL := Aside0.mk hrl
        clear hrl
        have CC0 : ∀ W : World, (∃ q, W = wr.drewN q) → Calls Try.prog 69 #[.slice A103 row.length c103] W fun e w' => ∃ (vn : Value), e = .returned vn ∧ LSt w u5 u6 vn done out row w' := by
          rintro W ⟨q, rfl⟩
          have := spec_l1Own.calls A103 c103 row row (wr.drewN q) (Kd.C_drewN HI3.out q) HC3.out (by rw [spec_l1Own.f, Option.bind_some, if_pos (by have := HRL.out; have := HN.out; simp; omega)]; rfl)
          exact this.mono (by rintro e w' ⟨v0, rfl, h3, h4⟩; exact ⟨v0, rfl, (HS.out.drewN q).fresh h3 h4⟩)
        have CC := Lib.hid CC0
        clear CC0
        obtain ⟨Ad, cd, hvd⟩ := Kd.S_slice HS.out.d
        obtain ⟨Ao, co, hvo⟩ := Kd.R_slice HS.out.o
        subst hvd
        subst hvo
        go_wp2_with (first | (go_at_call 69; (refine (CC.out _ (by first | exact ⟨0, rfl⟩ | exact ⟨_, rfl⟩)).mono ?_); rintro e wn ⟨vn, rfl, hst⟩; obtain ⟨gn, cn, evn, _, _, _, _⟩ := Kd.R_form hst.n (by have := HRL.out; have := HN.out; omega); rw [HRL.out] at evn; subst evn; have HT := Aside0.mk hst; clear hst))
        obtain ⟨now, hnow⟩ : ∃ now, now = red a1 n done out row := ⟨_, rfl⟩
        rw [← hnow] at HX
        have HW := Aside0.mk (show out.length = done.length ∧ (∀ o ∈ done, Dig a1 n o) ∧ (∀ e ∈ out, e = -1 ∨ (0 ≤ e ∧ e < n)) from by obtain ⟨i, _, _, _, hw, _⟩ := HX.out; exact ⟨hw.len, hw.dig, hw.lead⟩)
        have H1 := Aside0.mk (show Dig a1 n row ∧ red a1 n done out row = now from by obtain ⟨i, _, _, _, _, hd, _⟩ := HX.out; exact ⟨hd, hnow.symm⟩)
        clear hnow CC HS hx103 p103 q103 c4b0 c3b0
        go_loopg [26] out.length (fun kq v26 w' => ∃ (y : Int) (xs : List Int), v26 = .int .i64 y ∧ Aside0 (∃ k : Nat, y = k ∧ k + kq = out.length ∧ Dig a1 n xs ∧ red a1 n (done.drop k) (out.drop k) xs = now) ∧ Aside0 (LSt w (.slice Ad done.length cd) (.slice Ao out.length co) (.slice (some ⟨gn, 0, none⟩) n cn) done out xs w'))
        case atStart => exact ⟨0, row, rfl, ⟨0, rfl, by omega, H1.out.1, by rw [List.drop_zero, List.drop_zero]; exact H1.out.2⟩, HT⟩
        case round =>
          clear HT
          obtain ⟨y, xs, rfl, HY, HS2⟩ := hrel
          have HDO := Aside0.mk (show (done.length : Int) = (out.length : Int) from by have := HW.out.1; omega)
          by_cases c5 : y < (out.length : Int)
          · have c6b0 : decide (0 ≤ y) = true := decide_eq_true (by obtain ⟨i, h, _⟩ := HY.out; omega)
            have c5b0 : decide (y < (done.length : Int)) = true := decide_eq_true (by have := HDO.out; omega)
            cases gk with
            | zero => exact absurd HY.out (by rintro ⟨i, h, h', _⟩; omega)
            | succ k2 =>
              have y0 : 0 ≤ y := of_decide_eq_true c6b0
              obtain ⟨go, co2, evo, _, _, _, _⟩ := Kd.R_form HS2.out.o (by omega)
              cases evo
              obtain ⟨gd, cd2, evd, _, _, _, _⟩ := Kd.S_form HS2.out.d (by have := HW.out.1; omega)
              cases evd
              obtain ⟨hx1, _⟩ := Kd.R_celln (0 : Int) HS2.out.o y y0 c5
              obtain ⟨e, he⟩ : ∃ e, e = rdOf 0 out y := ⟨_, rfl⟩
              rw [← he] at hx1
              obtain ⟨o, ho⟩ : ∃ o, o = done.getD y.toNat [] := ⟨_, rfl⟩
              have hod : y.toNat < done.length := by have := HW.out.1; omega
              have HY2 := Aside0.mk (show ∃ k : Nat, y = k ∧ k + k2 + 1 = out.length ∧ Dig a1 n xs ∧ red a1 n (done.drop (k + 1)) (out.drop (k + 1)) (if e = -1 then xs else elimS a1 (Int.tmod (xs.getD e.toNat 0 * o.getD e.toNat 0) a1) o n 0 xs) = now from by
                obtain ⟨k, h1, h2, h3, h4⟩ := HY.out
                refine ⟨k, h1, by omega, h3, ?_⟩
                have e1 : y.toNat = k := by omega
                rw [List.drop_eq_getElem_cons (show k < done.length by omega), List.drop_eq_getElem_cons (show k < out.length by omega), red] at h4
                rw [he, ho]
                unfold rdOf
                rw [e1, gD_lt _ _ (show k < out.length by omega), gD_lt _ _ (show k < done.length by omega)]
                exact h4)
              have HO := Aside0.mk (show Dig a1 n o from by rw [ho, gD_lt _ _ hod]; exact HW.out.2.1 _ (List.getElem_mem _))
              have HE := Aside0.mk (show e = -1 ∨ (0 ≤ e ∧ e < n) from by rw [he]; unfold rdOf; rw [gD_lt _ _ (show y.toNat < out.length by omega)]; exact HW.out.2.2 _ (List.getElem_mem _))
              have HXS := Aside0.mk (show Dig a1 n xs from by obtain ⟨k, _, _, h3, _⟩ := HY.out; exact h3)
              have EW := Aside0.mk (show ∃ k : Nat, wrap64 (y + 1) = ((k + 1 : Nat) : Int) ∧ y = k from by
                obtain ⟨k, h1, h2, _⟩ := HY.out
                have := HL.out
                obtain ⟨i, _, h6, h7, _⟩ := HX.out
                have := HW.out.1
                exact ⟨k, by rw [w64 (by omega) (by omega)]; omega, h1⟩)
              have p1 := eq_true y0
              have q1 := eq_true c5
              have q1b : (y < (done.length : Int)) = True := eq_true (by have := HW.out.1; omega)
              obtain ⟨_, ce, hcl, hM, hcc, _, _, _⟩ := Kd.S_elem HS2.out.d [] y (of_eq_true p1) (of_eq_true q1b)
              rw [← ho] at hM
              obtain ⟨vi, rfl, hRi⟩ := hM
              obtain ⟨gi, ci, evi, _, _, _, _⟩ := Kd.R_form hRi (by have := HO.out.len; have := HN.out; omega)
              rw [HO.out.len] at evi
              subst evi
              have hx3 := hcc 0 _ rfl
              (try simp only [show (Kd.slice 3 (Kd.int .i64)).sz = 1 from rfl, Nat.mul_one, Nat.add_zero] at hx3)
              have HRI := Aside0.mk hRi
              have HX3 := Aside0.mk hx3
              clear hcl hcc hRi
              clear HY he c5 y0
              by_cases e1 : e = -1
              · have b1 : decide (e < 0) = true := decide_eq_true (by omega)
                have HN2 := Aside0.mk (show ∃ k : Nat, wrap64 (y + 1) = k ∧ k + k2 = out.length ∧ Dig a1 n xs ∧ red a1 n (done.drop k) (out.drop k) xs = now from by
                  obtain ⟨k, h1, h2, h3, h4⟩ := HY2.out
                  rw [if_pos e1] at h4
                  obtain ⟨k', h5, h6⟩ := EW.out
                  have : k' = k := by omega
                  subst this
                  exact ⟨k' + 1, h5, by omega, h3, h4⟩)
                clear HY2 EW e1 ho hod
                go_wp2
                go_roundg k2
                case measure => omega
                case rel => exact ⟨wrap64 (y + 1), xs, (by first | rfl | (simp; done) | (simp [*]; done)), HN2, ⟨by repeat (first | exact HS2.out | refine LSt.drewN ?_ _ | refine LSt.drew ?_)⟩⟩
              · have he2 : 0 ≤ e ∧ e < n := HE.out.resolve_left e1
                have b1 : decide (e < 0) = false := decide_eq_false (by omega)
                obtain ⟨hx2, _⟩ := Kd.R_celln (0 : Int) HS2.out.n e he2.1 he2.2
                obtain ⟨v, hv⟩ : ∃ v, v = rdOf 0 xs e := ⟨_, rfl⟩
                rw [← hv] at hx2
                have hv2 : v = xs.getD e.toNat 0 := hv
                have p2 := eq_true he2.1
                have q2 := eq_true he2.2
                have HY3 := Aside0.mk (show ∃ k : Nat, y = k ∧ k + k2 + 1 = out.length ∧ red a1 n (done.drop (k + 1)) (out.drop (k + 1)) (elimS a1 (Int.tmod (v * o.getD e.toNat 0) a1) o n 0 xs) = now from by
                  obtain ⟨k, h1, h2, h3, h4⟩ := HY2.out
                  rw [if_neg e1] at h4
                  rw [hv2]
                  exact ⟨k, h1, h2, h4⟩)
                clear HY2
                obtain ⟨hx4, _⟩ := Kd.R_celln (0 : Int) HRI.out e he2.1 he2.2
                obtain ⟨oe, hoe⟩ : ∃ oe, oe = rdOf 0 o e := ⟨_, rfl⟩
                rw [← hoe] at hx4
                have hoe2 : oe = o.getD e.toNat 0 := hoe
                obtain ⟨bq, hbq⟩ : ∃ bq, bq = Int.tmod (v * oe) a1 := ⟨_, rfl⟩
                have hvd := HXS.out.dig e.toNat
                have hod2 := HO.out.dig e.toNat
                rw [← hv2] at hvd
                rw [← hoe2] at hod2
                have hq3 := HQ.out
                have hmul := mul_in hq3 (a := v) (b := oe) (by omega) (by omega)
                have hw1 : IntKind.i64.wrap (v * oe) = v * oe := by rw [wrap_i64']; exact w64 (by omega) (by omega)
                have hw2 : Int.tmod (v * oe) a1 = bq := hbq.symm
                have HBQ := Aside0.mk (show 0 ≤ bq ∧ bq < a1 from by rw [hbq]; exact mod_in hq3 hmul.1)
                rw [← hoe2, ← hbq] at HY3
                have HOD := Aside0.mk ho
                clear e1 hv hv2 he2 hoe hoe2 hbq hvd hod2 hq3 hmul ho
                obtain ⟨fin, hfin⟩ : ∃ fin, fin = elimS a1 bq o n 0 xs := ⟨_, rfl⟩
                rw [← hfin] at HY3
                have HFN := Aside0.mk hfin.symm
                clear hfin
                go_wp2
                go_still (show Try.prog.follows .mixedOrders = true from by kernel_rfl)
                go_wp2
                have HLX := Aside0.mk (And.intro HS2.out HXS.out)
                clear HS2 hx1 hx2 hx3 hx4 p1 q1 q1b p2 q2 HXS b1 hw1 hw2
                go_loopg [55] n (fun kq v55 w' => ∃ (z : Int) (ys : List Int), v55 = .int .i64 z ∧ Aside0 (∃ c : Nat, z = c ∧ c + kq = n ∧ Dig a1 n ys ∧ elimS a1 bq o (n - c) c ys = fin) ∧ Aside0 (LSt w (.slice (some ⟨gd, 0, none⟩) done.length cd) (.slice (some ⟨go, 0, none⟩) out.length co) (.slice (some ⟨gn, 0, none⟩) n cn) done out ys w') ∧ Aside0 (w'.cell? ⟨gd, y.toNat, none⟩ = some (.slice (some ⟨gi, 0, none⟩) n ci)))
                case atStart => exact ⟨0, xs, rfl, ⟨0, rfl, by omega, HLX.out.2, by rw [Nat.sub_zero]; exact HFN.out⟩, ⟨by repeat (first | exact HLX.out.1 | refine LSt.drewN ?_ _ | refine LSt.drew ?_)⟩, ⟨HX3.out⟩⟩
                case round =>
                  clear HLX
                  obtain ⟨z, ys, rfl, HZ, HS3, HC5⟩ := hrel
                  by_cases c7 : z < (n : Int)
                  · have c8b0 : decide (0 ≤ z) = true := decide_eq_true (by obtain ⟨i, h, _⟩ := HZ.out; omega)
                    have c7b0 : decide (z < (n : Int)) = true := decide_eq_true c7
                    cases gk with
                    | zero => exact absurd HZ.out (by rintro ⟨i, h, h', _⟩; omega)
                    | succ k3 =>
                      have z0 : 0 ≤ z := of_decide_eq_true c8b0
                      obtain ⟨hx5, hf5⟩ := Kd.R_celln (0 : Int) HS3.out.n z z0 c7
                      have hyd : y < (done.length : Int) := by obtain ⟨k, h1, h2, _⟩ := HY3.out; have := HW.out.1; omega
                      have hy0 : 0 ≤ y := by obtain ⟨k, h1, h2, _⟩ := HY3.out; omega
                      obtain ⟨_, ce, hcl, hM, hcc, _, _, _⟩ := Kd.S_elem HS3.out.d [] y hy0 hyd
                      rw [← HOD.out] at hM
                      obtain ⟨vi, rfl, hRi⟩ := hM
                      obtain ⟨gi2, ci2, evi, _, _, _, _⟩ := Kd.R_form hRi (by have := HO.out.len; have := HN.out; omega)
                      rw [HO.out.len] at evi
                      subst evi
                      have hx6 := hcc 0 _ rfl
                      (try simp only [show (Kd.slice 3 (Kd.int .i64)).sz = 1 from rfl, Nat.mul_one, Nat.add_zero] at hx6)
                      have hxe := Option.some.inj (hx6.symm.trans HC5.out)
                      injection hxe with hxa hxb hxc
                      injection hxa with hxa
                      injection hxa with hxa
                      subst hxa
                      subst hxc
                      have hgdn : gd ≠ gn := fun e => ((Kd.S_R HS3.out.d).1 gd rfl).2 (by rw [e]; rfl)
                      have HGN := Aside0.mk hgdn
                      clear hxb hgdn
                      obtain ⟨hx7, _⟩ := Kd.R_celln (0 : Int) hRi z z0 c7
                      obtain ⟨yz, hyz⟩ : ∃ yz, yz = rdOf 0 ys z := ⟨_, rfl⟩
                      rw [← hyz] at hx5
                      have hyz2 : yz = ys.getD z.toNat 0 := hyz
                      obtain ⟨oz, hoz⟩ : ∃ oz, oz = rdOf 0 o z := ⟨_, rfl⟩
                      rw [← hoz] at hx7
                      have hoz2 : oz = o.getD z.toNat 0 := hoz
                      have hYS : Dig a1 n ys := by obtain ⟨c, _, _, h3, _⟩ := HZ.out; exact h3
                      have hvd := hYS.dig z.toNat
                      have hod2 := HO.out.dig z.toNat
                      rw [← hyz2] at hvd
                      rw [← hoz2] at hod2
                      have hq3 := HQ.out
                      have hb3 := HBQ.out
                      have hmul := mul_in hq3 (a := a1 - bq) (b := oz) (by omega) (by omega)
                      obtain ⟨E, hE⟩ : ∃ E, E = Int.tmod (yz + (a1 - bq) * oz) a1 := ⟨_, rfl⟩
                      have hw1 : IntKind.i64.wrap (a1 - bq) = a1 - bq := by rw [wrap_i64']; exact w64 (by omega) (by omega)
                      have hw2 : IntKind.i64.wrap ((a1 - bq) * oz) = (a1 - bq) * oz := by rw [wrap_i64']; exact w64 (by omega) (by omega)
                      have hw3 : IntKind.i64.wrap (yz + (a1 - bq) * oz) = yz + (a1 - bq) * oz := by rw [wrap_i64']; exact w64 (by omega) (by omega)
                      have hw4 : Int.tmod (yz + (a1 - bq) * oz) a1 = E := hE.symm
                      have HZ2 := Aside0.mk (show ∃ c : Nat, wrap64 (z + 1) = c ∧ c + k3 = n ∧ Dig a1 n (ys.set z.toNat E) ∧ elimS a1 bq o (n - c) c (ys.set z.toNat E) = fin from by
                        obtain ⟨c, h1, h2, h3, h4⟩ := HZ.out
                        have e1 : z.toNat = c := by omega
                        have hn6 := HN.out
                        have hs : ys.set z.toNat E = ys.set c (Int.tmod (ys.getD c 0 + (a1 - bq) * o.getD c 0) a1) := by rw [hE, hyz2, hoz2, e1]
                        rw [hs]
                        rw [show n - c = (n - (c + 1)) + 1 by omega, elimS] at h4
                        exact ⟨c + 1, by rw [w64 (by omega) (by omega)]; omega, by omega, Dig.step hq3 hb3 HO.out h3 (by omega), h4⟩)
                      have p5 := eq_true z0
                      have q5 := eq_true c7
                      have p6 := eq_true hy0
                      have q6 := eq_true hyd
                      have q6b : (y.toNat < done.length) = True := eq_true (by omega)
                      clear HZ c7 z0 hy0 hyd hcl hcc hRi hyz hyz2 hoz hoz2 hYS hvd hod2 hq3 hb3 hmul hE
                      go_wp2
                      go_still_tail 18, (show Try.prog.follows .mixedOrders = true from by kernel_rfl)
                      go_wp2
                      go_roundg k3
                      case measure => omega
                      case rel => exact ⟨wrap64 (z + 1), ys.set z.toNat E, (by first | rfl | (simp; done) | (simp [*]; done)), HZ2, ⟨LSt.drew (LSt.put HS3.out z.toNat E)⟩, ⟨(World.cell?_setCell_other _ _ _ _ (by intro e; simp only [Addr.mk.injEq] at e; exact HGN.out e.1.symm)).trans HC5.out⟩⟩
                  · have c7b0 : decide (z < (n : Int)) = false := decide_eq_false c7
                    have HN3 := Aside0.mk (show ∃ k : Nat, wrap64 (y + 1) = k ∧ k + k2 = out.length ∧ Dig a1 n ys ∧ red a1 n (done.drop k) (out.drop k) ys = now from by
                      obtain ⟨c, h1, h2, h3, h4⟩ := HZ.out
                      rw [show n - c = 0 by omega, elimS] at h4
                      obtain ⟨k, h5, h6, h7⟩ := HY3.out
                      obtain ⟨k', h8, h9⟩ := EW.out
                      have : k' = k := by omega
                      subst this
                      rw [← h4] at h7
                      exact ⟨k' + 1, h8, by omega, h3, h7⟩)
                    clear HZ c7 HY3 EW
                    go_wp2
                    go_roundg k2
                    case measure => omega
                    case rel => exact ⟨wrap64 (y + 1), ys, (by first | rfl | (simp; done) | (simp [*]; done)), HN3, ⟨by repeat (first | exact HS3.out | refine LSt.drewN ?_ _ | refine LSt.drew ?_)⟩⟩
          · have c5b0 : decide (y < (done.length : Int)) = false := decide_eq_false (by have := HDO.out; omega)
            have HX4 := Aside0.mk (show Dig a1 n xs ∧ xs = now from by
              obtain ⟨k, h1, h2, h3, h4⟩ := HY.out
              have := HW.out.1
              rw [List.drop_eq_nil_of_le (by omega), red] at h4
              · exact ⟨h3, h4⟩
              · intro _ _ _ _ h _; cases h)
            obtain ⟨ld, hld⟩ : ∃ ld, ld = leadOf now 0 := ⟨_, rfl⟩
            have HLD := Aside0.mk hld.symm
            have hnl : now.length = n := by rw [← HX4.out.2]; exact HX4.out.1.len
            have HNL := Aside0.mk hnl
            have HND := Aside0.mk (show Dig a1 n now from by rw [← HX4.out.2]; exact HX4.out.1)
            have HS4 := Aside0.mk (show LSt w (.slice Ad done.length cd) (.slice Ao out.length co) (.slice (some ⟨gn, 0, none⟩) n cn) done out now wr from by have := HS2.out; rw [HX4.out.2] at this; exact this)
            have HK := Aside0.mk (show ∃ i : Nat, wrap64 (x + 1) = i ∧ i + k1 = l0.length ∧ done.length + 1 = i ∧ WFs a1 n (done ++ [now]) (out ++ [ld]) ∧ leadsF a1 n (l0.drop i) (done ++ [now]) (out ++ [ld]) = r from by
              obtain ⟨i, h1, h2, h3, h4, h5, h6⟩ := HX.out
              have := HL.out
              rw [← hld] at h6
              have hw := h4.snoc (x := now) (by rw [← HX4.out.2]; exact HX4.out.1)
              rw [← hld] at hw
              exact ⟨i + 1, by rw [w64 (by omega) (by omega)]; omega, by omega, by omega, hw, h6⟩)
            have HDL := Aside0.mk (show done.length ≤ 6 ∧ out.length ≤ 6 from by obtain ⟨i, h1, h2, h3, _⟩ := HX.out; have := HL.out; have := HW.out.1; omega)
            have hwn : IntKind.i64.wrap ((n : Int) - 1) = (n : Int) - 1 := by rw [wrap_i64']; exact w64 (by have := HN.out; omega) (by have := HN.out; omega)
            clear HY c5 hld hnl HS2 HX HX4 HW H1
            go_wp2
            go_loopg [14, 15] n (fun kq v14 v15 w' => ∃ (z g : Int), v15 = .int .i64 z ∧ v14 = .int .i64 g ∧ Aside0 (∃ c : Nat, z = (c : Int) - 1 ∧ kq = c ∧ c ≤ n ∧ g = leadOf (now.drop c) c) ∧ Aside0 (LSt w (.slice Ad done.length cd) (.slice Ao out.length co) (.slice (some ⟨gn, 0, none⟩) n cn) done out now w'))
            case atStart => exact ⟨(n : Int) - 1, -1, (by first | rfl | (simp; done) | (simp [*]; done)), (by first | rfl | (simp; done) | (simp [*]; done)), ⟨n, rfl, rfl, Nat.le_refl _, by rw [List.drop_eq_nil_of_le (by have := HNL.out; omega)]; rfl⟩, ⟨by repeat (first | exact HS4.out | refine LSt.drewN ?_ _ | refine LSt.drew ?_)⟩⟩
            case round =>
              clear HS4 hwn
              obtain ⟨z, g, rfl, rfl, HZ, HS5⟩ := hrel
              by_cases c9 : 0 ≤ z
              · have c9b0 : decide (0 ≤ z) = true := decide_eq_true c9
                have c9p := eq_true c9
                cases gk with
                | zero => exact absurd HZ.out (by rintro ⟨c, h1, h2, h3⟩; omega)
                | succ k3 =>
                  have hzn : z < (n : Int) := by obtain ⟨c, h1, h2, h3, _⟩ := HZ.out; omega
                  obtain ⟨hx5, _⟩ := Kd.R_celln (0 : Int) HS5.out.n z c9 hzn
                  obtain ⟨vz, hvz⟩ : ∃ vz, vz = rdOf 0 now z := ⟨_, rfl⟩
                  rw [← hvz] at hx5
                  have hvz2 : vz = now.getD z.toNat 0 := hvz
                  have hvd := HND.out.dig z.toNat
                  rw [← hvz2] at hvd
                  have hzp := eq_true hzn
                  have hwz : wrap64 (z - 1) = z - 1 := w64 (by have := HN.out; omega) (by have := HN.out; omega)
                  have HWZ := Aside0.mk hwz
                  have HNX := Aside0.mk (show ∃ c : Nat, z - 1 = (c : Int) - 1 ∧ k3 = c ∧ c ≤ n ∧ (if vz = 0 then g else z) = leadOf (now.drop c) c from by
                    obtain ⟨c, h1, h2, h3, h4⟩ := HZ.out
                    have hl := HNL.out
                    subst h2
                    have ez : z = (k3 : Int) := by omega
                    subst ez
                    refine ⟨k3, rfl, rfl, by omega, ?_⟩
                    rw [List.drop_eq_getElem_cons (show k3 < now.length by omega), leadOf, hvz2, Int.toNat_natCast, gD_lt _ _ (show k3 < now.length by omega), h4]
                    rfl)
                  by_cases v0 : vz = 0
                  · have b5 : decide (0 < vz) = false := decide_eq_false (by omega)
                    have HNX2 := Aside0.mk (show ∃ c : Nat, z - 1 = (c : Int) - 1 ∧ k3 = c ∧ c ≤ n ∧ g = leadOf (now.drop c) c from by have := HNX.out; rw [if_pos v0] at this; exact this)
                    clear HNX HZ c9 hzn hvz hvz2 hvd hwz v0
                    go_wp2
                    go_roundg k3
                    case measure => omega
                    case rel => exact ⟨z - 1, g, (by first | rfl | rw [HWZ.out]), (by first | rfl | (simp; done) | (simp [*]; done)), HNX2, ⟨by repeat (first | exact HS5.out | refine LSt.drewN ?_ _ | refine LSt.drew ?_)⟩⟩
                  · have b5 : decide (0 < vz) = true := decide_eq_true (by omega)
                    have HNX2 := Aside0.mk (show ∃ c : Nat, z - 1 = (c : Int) - 1 ∧ k3 = c ∧ c ≤ n ∧ z = leadOf (now.drop c) c from by have := HNX.out; rw [if_neg v0] at this; exact this)
                    clear HNX HZ c9 hzn hvz hvz2 hvd hwz v0
                    go_wp2
                    go_roundg k3
                    case measure => omega
                    case rel => exact ⟨z - 1, z, (by first | rfl | rw [HWZ.out]), (by first | rfl | (simp; done) | (simp [*]; done)), HNX2, ⟨by repeat (first | exact HS5.out | refine LSt.drewN ?_ _ | refine LSt.drew ?_)⟩⟩
              · have c9b0 : decide (0 ≤ z) = false := decide_eq_false c9
                have c9p := eq_false c9
                have hgl : ld = g := by
                  obtain ⟨c, h1, h2, h3, h4⟩ := HZ.out
                  have e : c = 0 := by omega
                  subst e
                  rw [List.drop_zero] at h4
                  exact (h4.trans HLD.out).symm
                subst hgl
                clear HZ c9
                go_wp2_with (first
                  | ((with_reducible refine gate_builtin (b := .append) (xs := #[.tmp 91, .tmp 93]) rfl ?_); at_builtin; refine Kd.S_append (Kd.slice 3 (Kd.int .i64)) (w0 := w) w.heap.size rfl (.tmp 91) (.tmp 93) 24 29 (.slice none 0 0) 24 rfl Try.underlying24 info29 rfl (by decide) (by omega) (.slice Ad done.length cd) done now [.slice (some ⟨gn, 0, none⟩) n cn] (fun k => some k ≠ (Value.slice Ao out.length co).ownBlock) (fun k => some k = (Value.slice (some ⟨gn, 0, none⟩) n cn).ownBlock) rfl rfl ?aP HS5.out.okp ?aF ?aO ?aB ?aS ?aL ?_; (case aP => exact Kd.M_row (Kd.R_tight rfl HS5.out.n)); (case aF => exact HS5.out.frsh); (case aO => exact (Kd.S_mono HS5.out.d (fun k hk => ⟨hk.1, hk.2⟩))); (case aB => exact HS5.out.B); (case aS => exact HS5.out.B.size); (case aL => have := HDL.out; omega); intro vd1 wa hs hb hg hat; have HS6 := Aside0.mk (HS5.out.append hs hb hg); clear hs hb hg hat)
                  | ((with_reducible refine gate_builtin (b := .append) (xs := #[.tmp 95, .tmp 97]) rfl ?_); at_builtin; refine Kd.R_append (Kd.int .i64) (w0 := w) w.heap.size rfl (.tmp 95) (.tmp 97) 29 3 (.int .i64 0) 8 rfl Try.underlying29 info3 rfl (by decide) (by omega) (.slice Ao out.length co) out ld [.int .i64 ld] (fun _ => True) (fun _ => False) rfl rfl ?aP (fun _ hk => hk.elim) (fun _ _ => trivial) ?aO ?aB ?aS ?aL ?_; (case aP => exact rfl); (case aO => exact HS6.out.o); (case aB => exact HS6.out.B); (case aS => exact HS6.out.B.size); (case aL => have := HDL.out; omega); intro vo1 wb hr hb hg hat; have HS7 := Aside0.mk (HS6.out.lead hr hb hg hat); clear hr hb hg hat))
                go_roundg k1
                case measure => omega
                case rel =>
                  obtain ⟨i, h1, h2, h3, h4, h5⟩ := HK.out
                  exact ⟨wrap64 (x + 1), done ++ [now], out ++ [ld], (by first | rfl | (simp; done) | (simp [*]; done)), ⟨i, h1, h2, by rw [List.length_append]; exact h3, h4, h5⟩, HS7⟩
    · have c3b0 : decide (x < (l0.length : Int)) = false := decide_eq_false c3
      have HE := Aside0.mk (show out = r from by
        obtain ⟨i, h1, h2, h3, h4, h5⟩ := HI.out
        rw [List.drop_eq_nil_of_le (by omega), leadsF] at h5
        exact h5)
      clear c3 HI
      go_wp2
      go_ret
      exact ⟨_, rfl, by rw [← HE.out]; exact HS.out.o, HS.out.B⟩
end Go.Proofs.Ytadkkcdhgepbkaa.Q
end
