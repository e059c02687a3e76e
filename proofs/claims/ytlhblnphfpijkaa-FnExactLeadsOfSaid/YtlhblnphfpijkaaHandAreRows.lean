/- What areRows answers: 2 or 3, one to six rows, as long as the first one, of numbers below. No conditions. -/
import Derived.Test.YtlhblnphfpijkaaCellA
import Derived.Test.YtlhblnphfpijkaaQimplisQ
import Derived.Outline
import Derived.Lib.Hide
namespace Go.Proofs.Ytlhblnphfpijkaa.Q
open Go.RowKit Go.Proofs.YtlhblnphfpijkaaW.PrintWords Go.Proofs.YtlhblnphfpijkaaW.PrintLast Go.Proofs.YtlhblnphfpijkaaW.PrintMore
open Go.Proofs.YtlhblnphfpijkaaL Go.Proofs.Ytlhblnphfpijkaa.BoardK
set_option linter.unusedVariables false

/-- Is n a digit? -/
def digIn (q : Int) (n : Int) : Bool := decide (0 ≤ n ∧ n ≤ q - 1)
set_option maxHeartbeats 1000000 in
theorem areRows1 (m c : Int) (B : Nat) (w : World) (hc : w.cell? ⟨B, 0, none⟩ = some (.int .i64 c)) (h1 : 2 ≤ c) (h6 : c ≤ 3) :
    Calls Try.prog 104 #[.int .i64 m, .pointer (some ⟨B, 0, none⟩)] w fun e w' => e = .returned (.bool (!digIn c m)) ∧ Drawn0 w w' := by
  have key : ∀ x : Int, x = c - 1 → Aside0 (impl_within.f m 0 x = some (digIn c m)) := fun x hx => ⟨by rw [hx]; exact within_f m 0 _⟩
  obtain rfl | rfl : c = 2 ∨ c = 3 := by omega
  all_goals
    have K := key _ rfl
    clear key
    generalize digIn _ m = rr at K ⊢
    simp only [Int.reduceSub] at K
    go_enter Try.func104, Try.ntmps104
    go_wp2_with (first | (go_at_call 67; (refine (impl_within.calls m 0 _ rr _ K.out).mono ?_); rintro e w' ⟨rfl, ⟨nd, rfl⟩⟩))
    go_ret
    exact ⟨rfl, by repeat (first | exact Drawn0.refl _ | apply Drawn0.step)⟩
/-- The first row that is none, from place i on, or -1. -/
def idxD (c : Int) : List Int → Int → Int
  | [], _ => -1
  | x :: t, i => if digIn c x = true then idxD c t (i + 1) else i
theorem idxD_neg (c : Int) : ∀ (l : List Int) (i : Int), 0 ≤ i → decide (0 ≤ idxD c l i) = !l.all (digIn c)
  | [], _, _ => rfl
  | x :: t, i, h => by
    rw [idxD, List.all_cons]
    by_cases hx : digIn c x = true
    · rw [if_pos hx, idxD_neg c t (i + 1) (by omega), hx, Bool.true_and]
    · rw [if_neg hx]; simp [hx, h]
set_option maxHeartbeats 1000000 in
theorem areRowsIndex (A0 : Option Addr) (c0 : Nat) (l0 : List Int) (c : Int) (B : Nat) (w : World) (hr0 : Kd.C (Kd.int .i64) w A0 l0.length l0) (hc0 : l0.length ≤ c0) (hlen : l0.length ≤ 6)
    (hc : w.cell? ⟨B, 0, none⟩ = some (.int .i64 c)) (h1 : 2 ≤ c) (h6 : c ≤ 3) :
    Calls Try.prog 108 #[.slice A0 l0.length c0, .func (.func 104) #[] #[.pointer (some ⟨B, 0, none⟩)]] w fun e w' => e = .returned (.int .i64 (idxD c l0 0)) ∧ Drawn0 w w' := by
  have HR0 := Aside0.mk hr0
  have HC0 := Aside0.mk hc0
  have HL := Aside0.mk hlen
  have HC := Aside0.mk hc
  have H1 := Aside0.mk h1
  have H6 := Aside0.mk h6
  clear hr0 hc0 hlen hc h1 h6
  obtain ⟨r, hr⟩ : ∃ r, r = idxD c l0 0 := ⟨_, rfl⟩
  rw [← hr]
  have HR := Aside0.mk hr
  clear hr
  go_enter Try.func108, Try.ntmps108
  go_wp2
  go_loopg [8] l0.length (fun kq v8 w' => ∃ (x8_1 : Int), v8 = .int .i64 x8_1 ∧ Aside0 (∃ i : Nat, x8_1 = i ∧ i + kq = l0.length ∧ idxD c (l0.drop i) i = r) ∧ Drawn0 w w')
  case atStart => exact ⟨(0), rfl, ⟨0, rfl, by omega, by rw [HR.out]; rfl⟩, by repeat (first | exact Drawn0.refl _ | apply Drawn0.step)⟩
  case round =>
    obtain ⟨x8_1, rfl, HI, ⟨m1, rfl⟩⟩ := hrel
    by_cases c3 : x8_1 < (l0.length : Int)
    · have c4b0 : decide (0 ≤ x8_1) = true := decide_eq_true (by obtain ⟨i, h, _⟩ := HI.out; omega)
      have c3b0 : decide (x8_1 < (l0.length : Int)) = true := decide_eq_true c3
      cases gk with
      | zero => exact absurd HI.out (by rintro ⟨i, h, h', _⟩; omega)
      | succ k1 =>
        clear c3
        have p101 : 0 ≤ (x8_1 : Int) := of_decide_eq_true (by first | (with_reducible assumption) | assumption)
        have q101 : x8_1 < (l0.length : Int) := of_decide_eq_true (by first | (with_reducible assumption) | assumption)
        have HX : Aside0 (∃ i : Nat, x8_1 = i ∧ i + k1 + 1 = l0.length ∧ (if digIn c (rd l0 x8_1) = true then idxD c (l0.drop (i + 1)) (i + 1) else i) = r) := ⟨by
          obtain ⟨i, h, h', h3⟩ := HI.out
          refine ⟨i, h, by omega, ?_⟩
          rw [List.drop_eq_getElem_cons (by omega), idxD] at h3
          rw [h, rd_lt _ _ (by omega)]
          exact h3⟩
        clear HI
        obtain ⟨ad101, e101, hx101_0⟩ := Kd.at_int HR0.out x8_1 p101 q101
        cases e101
        replace p101 := eq_true p101
        replace q101 := eq_true q101
        by_cases cr : digIn c (rd l0 x8_1) = true
        · have HB : Aside0 ((!digIn c (rd l0 x8_1)) = false) := ⟨by rw [cr]; rfl⟩
          have HX2 : Aside0 (∃ i : Nat, wrap64 (x8_1 + 1) = i ∧ i + k1 = l0.length ∧ idxD c (l0.drop i) i = r) := ⟨by
            obtain ⟨i, h, h', h3⟩ := HX.out
            rw [if_pos cr] at h3
            have := HL.out
            refine ⟨i + 1, by rw [w64 (by omega) (by omega)]; omega, by omega, h3⟩⟩
          clear HX cr
          have CC : ∀ W : World, (∃ q, W = w.drewN q) → Calls Try.prog 104 #[.int .i64 (rd l0 x8_1), .pointer (some ⟨B, 0, none⟩)] W fun e w' => e = .returned (.bool false) ∧ Drawn0 W w' := by
            rintro W ⟨q, rfl⟩
            have := areRows1 (rd l0 x8_1) c B (w.drewN q) HC.out H1.out H6.out
            rw [HB.out] at this
            exact this
          have CX := Lib.hid CC
          clear CC
          go_wp2_with (first | (go_at_call 104; (refine (CX.out _ ⟨_, rfl⟩).mono ?_); rintro e w' ⟨rfl, ⟨nd, rfl⟩⟩))
          go_roundg k1
          case measure => omega
          case rel => exact ⟨(wrap64 (x8_1 + 1)), (by first | rfl | (simp; done) | (simp [*]; done)), HX2, by repeat (first | exact Drawn0.refl _ | apply Drawn0.step)⟩
        · have HB : Aside0 ((!digIn c (rd l0 x8_1)) = true) := ⟨by simp [cr]⟩
          have HX2 : Aside0 (x8_1 = r) := ⟨by
            obtain ⟨i, h, h', h3⟩ := HX.out
            rw [if_neg cr] at h3
            omega⟩
          clear HX cr
          have CC : ∀ W : World, (∃ q, W = w.drewN q) → Calls Try.prog 104 #[.int .i64 (rd l0 x8_1), .pointer (some ⟨B, 0, none⟩)] W fun e w' => e = .returned (.bool true) ∧ Drawn0 W w' := by
            rintro W ⟨q, rfl⟩
            have := areRows1 (rd l0 x8_1) c B (w.drewN q) HC.out H1.out H6.out
            rw [HB.out] at this
            exact this
          have CX := Lib.hid CC
          clear CC
          go_wp2_with (first | (go_at_call 104; (refine (CX.out _ ⟨_, rfl⟩).mono ?_); rintro e w' ⟨rfl, ⟨nd, rfl⟩⟩))
          go_ret
          exact ⟨by rw [HX2.out]; rfl, by repeat (first | exact Drawn0.refl _ | apply Drawn0.step)⟩
    · have c3b0 : decide (x8_1 < (l0.length : Int)) = false := decide_eq_false c3
      have HX2 : Aside0 (-1 = r) := ⟨by
        obtain ⟨i, h, h', h3⟩ := HI.out
        rw [List.drop_eq_nil_of_le (by omega), idxD] at h3
        exact h3⟩
      clear c3 HI
      go_wp2
      go_ret
      exact ⟨by rw [HX2.out]; rfl, by repeat (first | exact Drawn0.refl _ | apply Drawn0.step)⟩
theorem areRowsContains (A0 : Option Addr) (c0 : Nat) (l0 : List Int) (c : Int) (B : Nat) (w : World) (hr0 : Kd.C (Kd.int .i64) w A0 l0.length l0) (hc0 : l0.length ≤ c0) (hlen : l0.length ≤ 6)
    (hc : w.cell? ⟨B, 0, none⟩ = some (.int .i64 c)) (h1 : 2 ≤ c) (h6 : c ≤ 3) :
    Calls Try.prog 103 #[.slice A0 l0.length c0, .func (.func 104) #[] #[.pointer (some ⟨B, 0, none⟩)]] w fun e w' => e = .returned (.bool (!l0.all (digIn c))) ∧ Drawn0 w w' := by
  have C := areRowsIndex A0 c0 l0 c B w hr0 hc0 hlen hc h1 h6
  have N := Aside0.mk (idxD_neg c l0 0 (Int.le_refl _))
  have CX := Lib.hid C
  clear C hr0 hc0 hlen hc h1 h6
  rw [← N.out]
  clear N
  go_enter Try.func103, Try.ntmps103
  go_wp2_with (first | (go_at_call 108; (refine CX.out.mono ?_); rintro e w' ⟨rfl, ⟨nd, rfl⟩⟩))
  go_ret
  exact ⟨by first | rfl | (simp; done), by repeat (first | exact Drawn0.refl _ | apply Drawn0.step)⟩
/-- Is a row one of so many digits? -/
def rowOk (q : Int) (n : Nat) (row : List Int) : Bool := decide (1 ≤ (row.length : Int) ∧ (row.length : Int) ≤ 6) && (decide ((row.length : Int) = (n : Int)) && row.all (digIn q))
def areRowsB (rows : List (List Int)) (q : Int) : Bool := decide (2 ≤ q ∧ q ≤ 3) && (decide (1 ≤ (rows.length : Int) ∧ (rows.length : Int) ≤ 6) && rows.all (rowOk q (rows.getD 0 []).length))
def impl_areRows.f (l0 : List (List Int)) (a1 : Int) : Option (Bool) := some (areRowsB l0 a1)
theorem isQ_f (a : Int) : impl_isQ.f a = some (decide (2 ≤ a ∧ a ≤ 3)) := by unfold impl_isQ.f; rw [within_f]; rfl
set_option maxHeartbeats 4000000 in
set_option maxRecDepth 100000 in
theorem impl_areRows.calls (A0 : Option Addr) (c0 : Nat) (l0 : List (List Int)) (a1 : Int) (r : Bool) (w : World) (hr0 : Kd.C (Kd.slice 3 (Kd.int .i64)) w A0 l0.length l0) (hc0 : l0.length ≤ c0) (h : impl_areRows.f l0 a1 = some r) :
    Calls Try.prog 76 #[.slice A0 l0.length c0, .int .i64 a1] w fun e w' => e = .returned (.bool r) ∧ Below w.heap.size w w' := by
  have hB := Option.some.inj h
  clear h
  unfold areRowsB at hB
  have s1 := Aside0.mk (isQ_f a1)
  have s2 := Aside0.mk (isSide_f (l0.length : Int))
  have HR := Aside0.mk hr0
  have HC := Aside0.mk hc0
  clear hr0 hc0
  by_cases h1 : 2 ≤ a1 ∧ a1 ≤ 3
  rotate_left
  · rw [decide_eq_false h1] at s1 hB
    rw [Bool.false_and] at hB
    subst hB
    clear h1 s2
    go_enter Try.func76, Try.ntmps76
    go_wp2_with (first
      | ((with_reducible refine gate_dst (N := 3) rfl ?_); refine box_event ?hg (N := 3) ?hd (cs := #[.int .i64 a1]) (t := 3) ?hr ?_; (case hd => rfl); (case hg => rfl); (case hr => first | (go_simp; done) | (go_simp; rfl)); intro gq hg w1 hbox hb; have G1 := Aside0.mk hg; have K1 := Aside0.mk hbox; have B1 := Aside0.mk hb; clear hg hbox hb; have z1 : w1.cell? ⟨gq, 0, none⟩ = some (.int .i64 a1) := (blk_cell K1.out 0).trans rfl)
      | (go_at_call 66; (with_reducible refine (impl_isQ.calls a1 false _ s1.out).mono ?_); rintro e w' ⟨rfl, ⟨nd, rfl⟩⟩))
    go_ret
    exact ⟨by first | rfl | (simp; done), by repeat (first | exact B1.out | apply below_alloc | apply pw_below_drewN | apply below_drew1)⟩
  rw [decide_eq_true h1] at s1 hB
  rw [Bool.true_and] at hB
  by_cases h2 : 1 ≤ (l0.length : Int) ∧ (l0.length : Int) ≤ 6
  rotate_left
  · rw [decide_eq_false h2] at s2 hB
    rw [Bool.false_and] at hB
    subst hB
    clear h1 h2
    go_enter Try.func76, Try.ntmps76
    go_wp2_with (first
      | ((with_reducible refine gate_dst (N := 3) rfl ?_); refine box_event ?hg (N := 3) ?hd (cs := #[.int .i64 a1]) (t := 3) ?hr ?_; (case hd => rfl); (case hg => rfl); (case hr => first | (go_simp; done) | (go_simp; rfl)); intro gq hg w1 hbox hb; have G1 := Aside0.mk hg; have K1 := Aside0.mk hbox; have B1 := Aside0.mk hb; clear hg hbox hb; have z1 : w1.cell? ⟨gq, 0, none⟩ = some (.int .i64 a1) := (blk_cell K1.out 0).trans rfl)
      | (go_at_call 66; (with_reducible refine (impl_isQ.calls a1 true _ s1.out).mono ?_); rintro e w' ⟨rfl, ⟨nd, rfl⟩⟩)
      | (go_at_call 101; (with_reducible refine (impl_isSide.calls (l0.length : Int) false _ s2.out).mono ?_); rintro e w' ⟨rfl, ⟨nd, rfl⟩⟩))
    go_ret
    exact ⟨by first | rfl | (simp; done), by repeat (first | exact B1.out | apply below_alloc | apply pw_below_drewN | apply below_drew1)⟩
  rw [decide_eq_true h2] at s2 hB
  rw [Bool.true_and] at hB
  obtain ⟨n, hn⟩ : ∃ n, n = (l0.getD 0 []).length := ⟨_, rfl⟩
  rw [← hn] at hB
  have HB := Aside0.mk hB
  have HQ := Aside0.mk h1
  have HL := Aside0.mk h2
  have HN := Aside0.mk (show (rd_L1 l0 0).length = n from hn.symm)
  clear hB h1 h2 hn
  go_enter Try.func76, Try.ntmps76
  go_wp2_with (first
    | ((with_reducible refine gate_dst (N := 3) rfl ?_); refine box_event ?hg (N := 3) ?hd (cs := #[.int .i64 a1]) (t := 3) ?hr ?_; (case hd => rfl); (case hg => rfl); (case hr => first | (go_simp; done) | (go_simp; rfl)); intro gq hg w1 hbox hb; have G1 := Aside0.mk hg; have K1 := Aside0.mk hbox; have B1 := Aside0.mk hb; clear hg hbox hb; have z1 : w1.cell? ⟨gq, 0, none⟩ = some (.int .i64 a1) := (blk_cell K1.out 0).trans rfl)
    | (go_at_call 66; (with_reducible refine (impl_isQ.calls a1 true _ s1.out).mono ?_); rintro e w' ⟨rfl, ⟨nd, rfl⟩⟩)
    | (go_at_call 101; (with_reducible refine (impl_isSide.calls (l0.length : Int) true _ s2.out).mono ?_); rintro e w' ⟨rfl, ⟨nd, rfl⟩⟩))
  have HR1 := Aside0.mk (Kd.C_below HR.out B1.out)
  go_loopg [18] l0.length (fun kq v18 w' => ∃ (x : Int), v18 = .int .i64 x ∧ Aside0 (∃ i : Nat, x = i ∧ i + kq = l0.length ∧ (l0.drop i).all (rowOk a1 n) = r) ∧ Drawn0 w1 w')
  case atStart => exact ⟨0, rfl, ⟨0, rfl, by omega, by rw [List.drop_zero]; exact HB.out⟩, by repeat (first | exact Drawn0.refl _ | apply Drawn0.step)⟩
  case round =>
    clear z1
    obtain ⟨x, rfl, HI, ⟨m1, rfl⟩⟩ := hrel
    by_cases c3 : x < (l0.length : Int)
    · have c4b0 : decide (0 ≤ x) = true := decide_eq_true (by obtain ⟨i, h, _⟩ := HI.out; omega)
      have c3b0 : decide (x < (l0.length : Int)) = true := decide_eq_true c3
      cases gk with
      | zero => exact absurd HI.out (by rintro ⟨i, h, h', _⟩; omega)
      | succ k1 =>
        clear c3
        have HX : Aside0 (∃ i : Nat, x = i ∧ i + k1 + 1 = l0.length ∧ (rowOk a1 n (rd_L1 l0 x) && (l0.drop (i + 1)).all (rowOk a1 n)) = r) := ⟨by
          obtain ⟨i, h, h', h3⟩ := HI.out
          refine ⟨i, h, by omega, ?_⟩
          rw [List.drop_eq_getElem_cons (by omega), List.all_cons] at h3
          rw [h, show rd_L1 l0 (i : Int) = l0[i] by unfold rd_L1; rw [Int.toNat_natCast]; exact gD_lt _ _ (by omega)]
          exact h3⟩
        clear HI
        have p103 : 0 ≤ x := of_decide_eq_true (by first | (with_reducible assumption) | assumption)
        have q103 : x < (l0.length : Int) := of_decide_eq_true (by first | (with_reducible assumption) | assumption)
        have p104 : (0 : Int) < (l0.length : Int) := by have := HL.out; omega
        obtain ⟨ad103, A103, c103, e103, hx103, hl103, hi103⟩ := at_L1 HR1.out x p103 q103
        cases e103
        obtain ⟨ad104, A104, c104, e104, hx104, hl104, hi104⟩ := at_L1 HR1.out 0 (by omega) p104
        obtain rfl : ad103 = ad104 := by injection e104
        (try simp only [show ((0 : Int)).toNat = 0 from rfl] at hx104)
        (try simp only [Addr.add_zero'] at hx104)
        rw [HN.out] at hx104
        have HI3 := Aside0.mk hi103
        have HC3 := Aside0.mk hl103
        clear hi103 hl103 hi104 hl104 e104
        replace p103 := eq_true p103
        replace q103 := eq_true q103
        have p104b : (0 < l0.length) = True := eq_true (by omega)
        replace p104 := eq_true p104
        obtain ⟨row, hrow⟩ : ∃ row, row = rd_L1 l0 x := ⟨_, rfl⟩
        rw [← hrow] at hx103 HI3 HC3 HX
        have s3 := Aside0.mk (isSide_f (row.length : Int))
        clear hrow
        by_cases b1 : 1 ≤ (row.length : Int) ∧ (row.length : Int) ≤ 6
        rotate_left
        · rw [decide_eq_false b1] at s3
          have HF : Aside0 (false = r) := ⟨by obtain ⟨i, _, _, h3⟩ := HX.out; rw [← h3, rowOk, decide_eq_false b1]; rfl⟩
          clear b1 HX
          go_wp2_with (first | (go_at_call 101; (with_reducible refine (impl_isSide.calls (row.length : Int) false _ s3.out).mono ?_); rintro e w' ⟨rfl, ⟨nd, rfl⟩⟩))
          go_ret
          exact ⟨by rw [← HF.out]; rfl, by repeat (first | exact B1.out | apply below_alloc | apply pw_below_drewN | apply below_drew1)⟩
        rw [decide_eq_true b1] at s3
        by_cases b2 : (row.length : Int) = (n : Int)
        rotate_left
        · have b2b : ((row.length : Int) != (n : Int)) = true := bne_iff_ne.mpr b2
          have HF : Aside0 (false = r) := ⟨by obtain ⟨i, _, _, h3⟩ := HX.out; rw [← h3, rowOk, decide_eq_false b2, Bool.false_and, Bool.and_false]; rfl⟩
          clear b1 b2 HX
          go_wp2_with (first | (go_at_call 101; (with_reducible refine (impl_isSide.calls (row.length : Int) true _ s3.out).mono ?_); rintro e w' ⟨rfl, ⟨nd, rfl⟩⟩))
          go_ret
          exact ⟨by rw [← HF.out]; rfl, by repeat (first | exact B1.out | apply below_alloc | apply pw_below_drewN | apply below_drew1)⟩
        have b2b : ((row.length : Int) != (n : Int)) = false := bne_eq_false_iff_eq.mpr b2
        have b2c : (row.length != n) = false := bne_eq_false_iff_eq.mpr (by omega)
        have HX3 : Aside0 (∃ i : Nat, x = i ∧ i + k1 + 1 = l0.length ∧ (row.all (digIn a1) && (l0.drop (i + 1)).all (rowOk a1 n)) = r) := ⟨by
          obtain ⟨i, h, h', h3⟩ := HX.out
          rw [rowOk, decide_eq_true b1, decide_eq_true b2, Bool.true_and, Bool.true_and] at h3
          exact ⟨i, h, h', h3⟩⟩
        have b6 := Aside0.mk (show row.length ≤ 6 by omega)
        obtain ⟨rr, hrr⟩ : ∃ rr, rr = row.all (digIn a1) := ⟨_, rfl⟩
        have CF0 : ∀ W : World, (∃ q, W = w1.drewN q) → Calls Try.prog 103 #[.slice A103 row.length c103, .func (.func 104) #[] #[.pointer (some ⟨gq, 0, none⟩)]] W fun e w' => e = .returned (.bool (!rr)) ∧ Drawn0 W w' := by
          rintro W ⟨q, rfl⟩
          have := areRowsContains A103 c103 row a1 gq (w1.drewN q) (Kd.C_drewN HI3.out q) HC3.out b6.out ((blk_cell K1.out 0).trans rfl) HQ.out.1 HQ.out.2
          rw [← hrr] at this
          exact this
        have CF := Lib.hid CF0
        rw [← hrr] at HX3
        clear b1 b2 HX hrr CF0
        cases rr with
        | false =>
          have HF : Aside0 (false = r) := ⟨by obtain ⟨i, _, _, h3⟩ := HX3.out; rw [← h3]; rfl⟩
          go_wp2_with (first | (go_at_call 101; (with_reducible refine (impl_isSide.calls (row.length : Int) true _ s3.out).mono ?_); rintro e w' ⟨rfl, ⟨nd, rfl⟩⟩) | (go_at_call 103; (refine (CF.out _ ⟨_, rfl⟩).mono ?_); rintro e w' ⟨rfl, ⟨nd, rfl⟩⟩))
          go_ret
          exact ⟨by rw [← HF.out]; rfl, by repeat (first | exact B1.out | apply below_alloc | apply pw_below_drewN | apply below_drew1)⟩
        | true =>
          have HX2 : Aside0 (∃ i : Nat, wrap64 (x + 1) = i ∧ i + k1 = l0.length ∧ (l0.drop i).all (rowOk a1 n) = r) := ⟨by
            obtain ⟨i, h, h', h3⟩ := HX3.out
            rw [Bool.true_and] at h3
            have := HL.out
            exact ⟨i + 1, by rw [w64 (by omega) (by omega)]; omega, by omega, h3⟩⟩
          clear HX3
          go_wp2_with (first | (go_at_call 101; (with_reducible refine (impl_isSide.calls (row.length : Int) true _ s3.out).mono ?_); rintro e w' ⟨rfl, ⟨nd, rfl⟩⟩) | (go_at_call 103; (refine (CF.out _ ⟨_, rfl⟩).mono ?_); rintro e w' ⟨rfl, ⟨nd, rfl⟩⟩))
          go_roundg k1
          case measure => omega
          case rel => exact ⟨(wrap64 (x + 1)), (by first | rfl | (simp; done) | (simp [*]; done)), HX2, by repeat (first | exact Drawn0.refl _ | apply Drawn0.step)⟩
    · have c3b0 : decide (x < (l0.length : Int)) = false := decide_eq_false c3
      have HF : Aside0 (true = r) := ⟨by
        obtain ⟨i, h, h', h3⟩ := HI.out
        rw [List.drop_eq_nil_of_le (by omega)] at h3
        exact h3⟩
      clear c3 HI
      go_wp2
      go_ret
      exact ⟨by rw [← HF.out]; rfl, by repeat (first | exact B1.out | apply below_alloc | apply pw_below_drewN | apply below_drew1)⟩
end Go.Proofs.Ytlhblnphfpijkaa.Q
