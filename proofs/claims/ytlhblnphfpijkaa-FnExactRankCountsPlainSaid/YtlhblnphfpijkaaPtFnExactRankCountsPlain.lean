/- The law's last texts put together: what the program and the reference answer, and the pure statement. No conditions. -/
import Derived.Test.YtlhblnphfpijkaaLaw
import Derived.Test.YtlhblnphfpijkaaQlawsszIntSS
import Derived.Test.YtlhblnphfpijkaaQlawstoIntSS
import Derived.Test.YtlhblnphfpijkaaQlawseqIntSS
import Derived.Test.YtlhblnphfpijkaaQ0
import Derived.Test.YtlhblnphfpijkaaQspecl1All
import Derived.Test.YtlhblnphfpijkaaQspecboSide
import Derived.Test.YtlhblnphfpijkaaCellA
import Derived.Test.YtlhblnphfpijkaaQspecweBase
import Derived.Test.YtlhblnphfpijkaaAreOut
import Derived.Outline
import Derived.Lib.Hide
import Derived.Test.YtlhblnphfpijkaaQimplrooks
import Derived.Test.YtlhblnphfpijkaaQimplrank
import Derived.Test.YtlhblnphfpijkaaQspecweRank
import Derived.Test.YtlhblnphfpijkaaQimplAreLengths
import Derived.Test.YtlhblnphfpijkaaQspecfeGood
import Derived.Test.YtlhblnphfpijkaaQimplmatrices
import Derived.Test.YtlhblnphfpijkaaQimplmatrix
import Derived.Test.YtlhblnphfpijkaaQspecweMatrix
import Derived.Test.YtlhblnphfpijkaaQspecweCells
import Derived.Test.YtlhblnphfpijkaaQspecwePower
import Derived.Test.YtlhblnphfpijkaaQlawsFnExactRankCountsPlain
section
namespace Go.Proofs.Ytlhblnphfpijkaa.RowsK
set_option linter.unusedVariables false
open Go.RowKit Go.Proofs.Ytlhblnphfpijkaa.Q Go.Proofs.YtlhblnphfpijkaaW.PrintWords Go.Proofs.YtlhblnphfpijkaaW.PrintLast Go.Proofs.YtlhblnphfpijkaaW.PrintMore
open Go.Proofs.YtlhblnphfpijkaaL Go.Proofs.Ytlhblnphfpijkaa.LawK

theorem evEq {α : Type} {g : Nat → Option α} {a b : α} (h : Ev g a) (e : a = b) : Ev g b := e ▸ h
theorem rdL {xs : List (List Int)} {i : Nat} (h : i < xs.length) : rd_L1 xs (i : Int) = xs[i] := by unfold rd_L1; rw [Int.toNat_natCast]; exact gD_lt _ _ h
/-- What is left of a bound behind a list and all its rows; -1 behind the bound. -/
def szL : List (List Int) → Int → Int
  | [], n => n
  | x :: t, n => if (x.length : Int) ≤ n then szL t (n - (x.length : Int)) else -1
def szR (l : List (List Int)) (n : Int) : Int := if (l.length : Int) ≤ n then szL l (n - (l.length : Int)) else -1
theorem szIntS_f (l : List Int) (hl : l.length ≤ maxLen) (n : Int) (h0 : 0 ≤ n) (h1 : n ≤ 1048576) : laws_szIntS.f l n = some (if (l.length : Int) ≤ n then n - (l.length : Int) else -1) := by
  unfold maxLen at hl
  unfold laws_szIntS.f
  rw [w64 (by omega) (by omega)]
  by_cases h : (l.length : Int) ≤ n
  · rw [if_neg (by omega), if_pos h]
  · rw [if_pos (by omega), if_neg h]
theorem szL_le : ∀ (l : List (List Int)) (n : Int), 0 ≤ n → -1 ≤ szL l n ∧ szL l n ≤ n
  | [], n, h => ⟨by rw [szL]; omega, Int.le_refl _⟩
  | x :: t, n, h => by
    rw [szL]
    by_cases c : (x.length : Int) ≤ n
    · rw [if_pos c]
      have := szL_le t (n - (x.length : Int)) (by omega)
      omega
    · rw [if_neg c]; omega
theorem szIntSS_l0 {l : List (List Int)} (hx : ∀ x ∈ l, x.length ≤ maxLen) (hl : l.length ≤ 1048576) : ∀ (d i : Nat) (n : Int), i + d = l.length → 0 ≤ n → n ≤ 1048576 → Ev (fun k => laws_szIntSS.l0 k l n i) (szL (l.drop i) n)
  | 0, i, n, hi, h0, h1 => by
    refine Ev.step (f := fun _ => some n) (fun k => ?_) (evEq (Ev.now _) (by rw [List.drop_eq_nil_of_le (by omega)]; rfl))
    rw [laws_szIntSS.l0, if_neg (by omega)]
  | d + 1, i, n, hi, h0, h1 => by
    have w1 : wrap64 ((i : Int) + 1) = ((i + 1 : Nat) : Int) := by rw [w64 (by omega) (by omega)]; rfl
    have hi2 : i < l.length := by omega
    rw [List.drop_eq_getElem_cons hi2, szL]
    by_cases c : (l[i].length : Int) ≤ n
    · rw [if_pos c]
      refine Ev.step (fun k => ?_) (szIntSS_l0 hx hl d (i + 1) (n - (l[i].length : Int)) (by omega) (by omega) (by omega))
      rw [laws_szIntSS.l0, if_pos (by omega), if_pos (by omega), rdL hi2, szIntS_f _ (hx _ (List.getElem_mem hi2)) n h0 h1, Option.bind_some, if_pos c, if_neg (by omega), w1]
    · rw [if_neg c]
      refine Ev.step (f := fun _ => some (-1)) (fun k => ?_) (Ev.now _)
      rw [laws_szIntSS.l0, if_pos (by omega), if_pos (by omega), rdL hi2, szIntS_f _ (hx _ (List.getElem_mem hi2)) n h0 h1, Option.bind_some, if_neg c, if_pos (by omega)]
theorem szIntSS {l : List (List Int)} (hl : l.length ≤ maxLen) (hx : ∀ x ∈ l, x.length ≤ maxLen) {n : Int} (h0 : 0 ≤ n) (h1 : n ≤ 1048576) : Ev (fun k => laws_szIntSS.f k l n) (szR l n) := by
  unfold maxLen at hl
  unfold laws_szIntSS.f szR
  rw [w64 (by omega) (by omega)]
  by_cases c : (l.length : Int) ≤ n
  · rw [if_pos c]
    refine Ev.congr (fun k => if_neg (by omega)) ?_
    have := szIntSS_l0 hx (by omega) l.length 0 (n - (l.length : Int)) (by omega) (by omega) (by omega)
    rw [List.drop_zero] at this
    exact this
  · rw [if_neg c]
    exact Ev.congr (fun k => if_pos (by omega)) (Ev.now _)
theorem szL_len : ∀ (l : List (List Int)) (n : Int), 0 ≤ n → 0 ≤ szL l n → ∀ x ∈ l, (x.length : Int) ≤ n
  | x :: t, n, h0, h, y, hy => by
    rw [szL] at h
    by_cases c : (x.length : Int) ≤ n
    · rw [if_pos c] at h
      rcases List.mem_cons.1 hy with rfl | hy
      · exact c
      · have := szL_len t _ (by omega) h y hy
        omega
    · rw [if_neg c] at h; omega
theorem szR_len {l : List (List Int)} {n : Int} (h0 : 0 ≤ n) (h : 0 ≤ szR l n) : (l.length : Int) ≤ n ∧ ∀ x ∈ l, (x.length : Int) ≤ n := by
  unfold szR at h
  by_cases c : (l.length : Int) ≤ n
  · rw [if_pos c] at h
    exact ⟨c, fun x hx => by have := szL_len l _ (by omega) h x hx; omega⟩
  · rw [if_neg c] at h; omega
theorem toIntSS_l0 {l : List (List Int)} (hl : l.length ≤ 1048576) (hx : ∀ x ∈ l, x.length ≤ 1048576) : ∀ (d i : Nat) (x : List (List Int)), i + d = l.length → x.length = l.length → x.take i = l.take i → Ev (fun k => laws_toIntSS.l0 k l x i) l
  | 0, i, x, hi, hxl, ht => by
    refine Ev.step (f := fun _ => some l) (fun k => ?_) (Ev.now _)
    rw [laws_toIntSS.l0, if_neg (by omega)]
    rw [List.take_of_length_le (by omega), List.take_of_length_le (by omega)] at ht
    rw [ht]
  | d + 1, i, x, hi, hxl, ht => by
    have h1 : wrap64 ((i : Int) + 1) = ((i + 1 : Nat) : Int) := by rw [w64 (by omega) (by omega)]; rfl
    have hi2 : i < l.length := by omega
    refine Ev.step (f := fun k => (laws_toIntS.f k l[i]).bind fun t => laws_toIntSS.l0 k l (x.set i t) ((i + 1 : Nat) : Int)) (fun k => ?_) ?_
    · rw [laws_toIntSS.l0, if_pos (by omega), if_pos (by omega), rdL hi2, h1, Int.toNat_natCast]
      congr 1
      funext t
      rw [if_pos (by omega)]
    · refine Ev.bind (toIntS (hx _ (List.getElem_mem hi2))) ?_
      refine toIntSS_l0 hl hx d (i + 1) (x.set i l[i]) (by omega) (by simpa using hxl) ?_
      rw [List.take_succ_eq_append_getElem (by simp; omega), List.take_succ_eq_append_getElem (by omega), List.take_set_of_le (by omega), ht]
      simp
theorem toIntSS {l : List (List Int)} (hl : l.length ≤ 1048576) (hx : ∀ x ∈ l, x.length ≤ 1048576) : Ev (fun k => laws_toIntSS.f k l) l := by
  refine Ev.congr (fun k => ?_) (toIntSS_l0 hl hx l.length 0 (List.replicate l.length []) (by omega) (by simp) (by simp))
  unfold laws_toIntSS.f
  rw [if_pos (by omega), Int.toNat_natCast, if_pos (by omega)]; rfl
theorem eqIntSS_l0 {a b : List (List Int)} (hl : a.length ≤ 4611686018427387904) (hx : ∀ x ∈ a, x.length ≤ 4611686018427387904) (h : a.length = b.length) : ∀ (d i : Nat), i + d = a.length → a.take i = b.take i → Ev (fun k => laws_eqIntSS.l0 k a b i) (decide (a = b))
  | 0, i, hi, ht => by
    refine Ev.step (f := fun _ => some (decide (a = b))) (fun k => ?_) (Ev.now _)
    rw [laws_eqIntSS.l0, if_neg (by omega)]
    rw [List.take_of_length_le (by omega), List.take_of_length_le (by omega)] at ht
    simp [ht]
  | d + 1, i, hi, ht => by
    have h1 : wrap64 ((i : Int) + 1) = ((i + 1 : Nat) : Int) := by rw [w64 (by omega) (by omega)]; rfl
    have hi2 : i < a.length := by omega
    refine Ev.step (f := fun k => (laws_eqIntS.f k a[i] (b[i]'(by omega))).bind fun t => if t = true then laws_eqIntSS.l0 k a b ((i + 1 : Nat) : Int) else some false) (fun k => ?_) ?_
    · rw [laws_eqIntSS.l0, if_pos (by omega), if_pos (by omega), if_pos (by omega), h1, rdL hi2, rdL (by omega)]
    · refine Ev.bind (eqIntS (by have := hx _ (List.getElem_mem hi2); omega)) ?_
      by_cases e : a[i] = b[i]'(by omega)
      · refine Ev.congr (fun k => if_pos (decide_eq_true e)) (eqIntSS_l0 hl hx h d (i + 1) (by omega) ?_)
        rw [List.take_succ_eq_append_getElem (by omega), List.take_succ_eq_append_getElem (by omega), ht, e]
      · have : a ≠ b := fun hab => e (by simp [hab])
        rw [decide_eq_false this]
        exact Ev.congr (fun k => if_neg (by simpa using e)) (Ev.now _)
theorem eqIntSS {a b : List (List Int)} (hl : a.length ≤ 4611686018427387904) (hx : ∀ x ∈ a, x.length ≤ 4611686018427387904) : Ev (fun k => laws_eqIntSS.f k a b) (decide (a = b)) := by
  unfold laws_eqIntSS.f
  by_cases h : a.length = b.length
  · refine Ev.congr (fun k => if_pos (by omega)) (eqIntSS_l0 hl hx h a.length 0 (by omega) (by simp))
  · have : a ≠ b := fun hab => h (by simp [hab])
    rw [decide_eq_false this]
    exact Ev.congr (fun k => if_neg (by omega)) (Ev.now _)
end Go.Proofs.Ytlhblnphfpijkaa.RowsK
end
section
namespace Go.Proofs.Ytlhblnphfpijkaa.Q
open Go.RowKit Go.Proofs.YtlhblnphfpijkaaW.PrintWords Go.Proofs.YtlhblnphfpijkaaW.PrintLast Go.Proofs.YtlhblnphfpijkaaW.PrintMore
attribute [local go_sem] max2_int min2_int max_two min_two max_three min_three max_four min_four   -- for this text's walks alone
set_option linter.unusedVariables false
set_option linter.unusedSimpArgs false

/-! ### spec_weRows: function 63 -/
mutual
def spec_weRows.j0 : Nat → List (List Int) → Int → Bool → Option (Bool)
  | 0, _, _, _ => none
  | k + 1, x0, x1, x18 => if x18 = true then (some false) else (spec_weRows.l0 k x0 x1 x0 (x0.length : Int) 0)
def spec_weRows.l0 : Nat → List (List Int) → Int → List (List Int) → Int → Int → Option (Bool)
  | 0, _, _, _, _, _ => none
  | k + 1, x0, x1, x19, x20, x21 => if x21 < x20 then (if 0 ≤ x21 then (if x21 < (x19.length : Int) then (if 0 < (x0.length : Int) then (if ((rd_L1 x19 x21).length : Int) = ((rd_L1 x0 0).length : Int) then ((spec_l1All.f k (rd_L1 x19 x21) 0 (wrap64 (x1 - 1))).bind fun t106 => (if t106 = true then (spec_weRows.l0 k x0 x1 x19 x20 (wrap64 (x21 + 1))) else (some false))) else (some false)) else (none)) else (none)) else (none)) else (some true)
end
def spec_weRows.f (k : Nat) (l0 : List (List Int)) (a1 : Int) : Option (Bool) := (spec_boSide.f (l0.length : Int)).bind fun t101 => (if t101 = true then (if 0 < (l0.length : Int) then ((spec_boSide.f ((rd_L1 l0 0).length : Int)).bind fun t103 => (spec_weRows.j0 k l0 a1 (!t103))) else (none)) else (spec_weRows.j0 k l0 a1 true))
theorem spec_weRows.mono_l : ∀ k, (∀ y0 y1 y2, LeO (spec_weRows.j0 k y0 y1 y2) (spec_weRows.j0 (k + 1) y0 y1 y2)) ∧ (∀ y0 y1 y2 y3 y4, LeO (spec_weRows.l0 k y0 y1 y2 y3 y4) (spec_weRows.l0 (k + 1) y0 y1 y2 y3 y4))
  | 0 => ⟨fun _ _ _ r h => by simp [spec_weRows.j0] at h, fun _ _ _ _ _ r h => by simp [spec_weRows.l0] at h⟩
  | k + 1 => by
    obtain ⟨ih0, ih1⟩ := spec_weRows.mono_l k
    refine ⟨?_, ?_⟩
    · intro y0 y1 y2
      unfold spec_weRows.j0
      repeat' first
      | (with_reducible exact ih0 _ _ _)
      | (with_reducible exact ih1 _ _ _ _ _)
      | (with_reducible exact spec_l1All.mono _ _ _ _)
      | (with_reducible exact LeO.refl _)
      | (with_reducible exact LeO.none _)
      | (with_reducible refine LeO.ite ?_ ?_)
      | (with_reducible refine LeO.bind ?_ (fun _ => ?_))
      | exact ih0 _ _ _
      | exact ih1 _ _ _ _ _
      | exact spec_l1All.mono _ _ _ _
      | exact LeO.none _
      | refine LeO.ite ?_ ?_
      | refine LeO.bind ?_ (fun _ => ?_)
    · intro y0 y1 y2 y3 y4
      unfold spec_weRows.l0
      repeat' first
      | (with_reducible exact ih0 _ _ _)
      | (with_reducible exact ih1 _ _ _ _ _)
      | (with_reducible exact spec_l1All.mono _ _ _ _)
      | (with_reducible exact LeO.refl _)
      | (with_reducible exact LeO.none _)
      | (with_reducible refine LeO.ite ?_ ?_)
      | (with_reducible refine LeO.bind ?_ (fun _ => ?_))
      | exact ih0 _ _ _
      | exact ih1 _ _ _ _ _
      | exact spec_l1All.mono _ _ _ _
      | exact LeO.none _
      | refine LeO.ite ?_ ?_
      | refine LeO.bind ?_ (fun _ => ?_)
theorem spec_weRows.mono : ∀ a0 a1 k, LeO (spec_weRows.f k a0 a1) (spec_weRows.f (k + 1) a0 a1) := by
  intro a0 a1 k
  obtain ⟨ih0, ih1⟩ := spec_weRows.mono_l k
  unfold spec_weRows.f
  repeat' first
      | (with_reducible exact ih0 _ _ _)
      | (with_reducible exact ih1 _ _ _ _ _)
      | (with_reducible exact spec_l1All.mono _ _ _ _)
      | (with_reducible exact LeO.refl _)
      | (with_reducible exact LeO.none _)
      | (with_reducible refine LeO.ite ?_ ?_)
      | (with_reducible refine LeO.bind ?_ (fun _ => ?_))
      | exact ih0 _ _ _
      | exact ih1 _ _ _ _ _
      | exact spec_l1All.mono _ _ _ _
      | exact LeO.none _
      | refine LeO.ite ?_ ?_
      | refine LeO.bind ?_ (fun _ => ?_)
set_option maxHeartbeats 8000000 in
set_option maxRecDepth 100000 in
theorem spec_weRows.calls (k : Nat) (A0 : Option Addr) (c0 : Nat) (l0 : List (List Int)) (a1 : Int) (r : Bool) (w : World) (hr0 : Kd.C (Kd.slice 3 (Kd.int .i64)) w A0 l0.length l0) (hc0 : l0.length ≤ c0) (h : spec_weRows.f k l0 a1 = some r) :
    Calls Try.prog 63 #[.slice A0 l0.length c0, .int .i64 a1] w fun e w' => e = .returned (.bool r) ∧ Drawn0 w w' := by
  have HR0 := Aside0.mk hr0
  have HC0 := Aside0.mk hc0
  clear hr0 hc0
  have H : ((spec_boSide.f (l0.length : Int)).bind fun t101 => (if t101 = true then (if 0 < (l0.length : Int) then ((spec_boSide.f ((rd_L1 l0 0).length : Int)).bind fun t103 => (spec_weRows.j0 k l0 a1 (!t103))) else (none)) else (spec_weRows.j0 k l0 a1 true))) = some r := h
  clear h
  have HC3 := Aside0.mk H
  clear H
  go_enter Try.func63, Try.ntmps63
  go_upto_region 1 with (fail)
  go_cut [18] (fun v18 wc => ∃ (kq : Nat) (x18_2 : Bool), v18 = .bool x18_2 ∧ Aside0 (spec_weRows.j0 kq l0 a1 x18_2 = some r) ∧ Aside0 (kq ≤ k) ∧ Drawn0 w wc)
  case first =>
    have H := HC3.out
    clear HC3
    replace H := Option.bind_eq_some_iff.mp H
    obtain ⟨t101, A40, H⟩ := H
    replace H : (if t101 = true then (if 0 < (l0.length : Int) then ((spec_boSide.f ((rd_L1 l0 0).length : Int)).bind fun t103 => (spec_weRows.j0 k l0 a1 (!t103))) else (none)) else (spec_weRows.j0 k l0 a1 true)) = some r := H
    have A4 := Aside0.mk A40
    clear A40
    by_cases c5 : t101 = true
    · subst c5
      have H1 : (if 0 < (l0.length : Int) then ((spec_boSide.f ((rd_L1 l0 0).length : Int)).bind fun t103 => (spec_weRows.j0 k l0 a1 (!t103))) else (none)) = some r := by rw [if_pos rfl] at H; exact H
      clear H
      have H := H1
      clear H1
      by_cases c6 : 0 < (l0.length : Int)
      · rw [if_pos c6] at H
        have c6b0 : decide (0 < (l0.length : Int)) = true := decide_eq_true c6
        have c6b1 : decide (0 < l0.length) = true := decide_eq_true (by omega)
        clear c6
        (first | rw [c6b0] | (simp only [i64_w, i32_w]; rw [c6b0]) | skip)
        replace H := Option.bind_eq_some_iff.mp H
        obtain ⟨t103, A70, H⟩ := H
        replace H : (spec_weRows.j0 k l0 a1 (!t103)) = some r := H
        have A7 := Aside0.mk A70
        clear A70
        have H' := Aside0.mk H
        clear H
        go_wp2_with (first | ((with_reducible refine gate_callee (f := 100) rfl ?_); refine goesL_ (some 9) rfl rfl Try.func100 (by kernel_rfl) rfl #[.int .i64 (l0.length : Int)] rfl (by (try simp only [List.map_toArray, List.map_cons, List.map_nil]); first | done | rfl | (simp only [List.length_drop, List.length_take]; rfl)) ?_; (with_reducible refine (spec_boSide.calls (l0.length : Int) true _ A4.out).mono ?_); rintro e w' ⟨rfl, ⟨nd, rfl⟩⟩; refine ⟨_, rfl, ?_⟩; have p102 : 0 ≤ (0 : Int) := (by omega); have q102 : 0 < (l0.length : Int) := of_decide_eq_true (by first | (with_reducible assumption) | assumption); obtain ⟨ad102, A102_0, c102_0, e102, hx102_0, hl102_0, hi102_0⟩ := at_L1 HR0.out 0 p102 q102; cases e102; have qi102 : (0 < l0.length) = True := eq_true (by omega); (try rw [show ((0 : Int)).toNat = 0 from rfl] at hx102_0); (try rw [Addr.add_zero'] at hx102_0); have HR102_0 := Aside0.mk hi102_0; have HC102_0 := Aside0.mk hl102_0; clear hi102_0 hl102_0; replace p102 := eq_true p102; replace q102 := eq_true q102) | (go_at_call 100; (with_reducible refine (spec_boSide.calls ((rd_L1 l0 0).length : Int) t103 _ A7.out).mono ?_); rintro e w' ⟨rfl, ⟨nd, rfl⟩⟩))
        go_meet
        case rel => exact ⟨_, (!t103), (by first | rfl | (simp; done) | (simp [*]; done)), H', ⟨by first | omega | exact Nat.le_refl _⟩, by repeat (first | exact Drawn0.refl _ | apply Drawn0.step)⟩
      · rw [if_neg c6] at H
        exact absurd H (by simp)
    · replace c5 := Bool.eq_false_iff.mpr c5
      subst c5
      have H1 : (spec_weRows.j0 k l0 a1 true) = some r := by rw [if_neg (show ¬ (false = true) by decide)] at H; exact H
      clear H
      have H := H1
      clear H1
      have H' := Aside0.mk H
      clear H
      go_wp2_with (first | ((with_reducible refine gate_callee (f := 100) rfl ?_); refine goesL_ (some 9) rfl rfl Try.func100 (by kernel_rfl) rfl #[.int .i64 (l0.length : Int)] rfl (by (try simp only [List.map_toArray, List.map_cons, List.map_nil]); first | done | rfl | (simp only [List.length_drop, List.length_take]; rfl)) ?_; (with_reducible refine (spec_boSide.calls (l0.length : Int) false _ A4.out).mono ?_); rintro e w' ⟨rfl, ⟨nd, rfl⟩⟩; refine ⟨_, rfl, ?_⟩))
      go_meet
      case rel => exact ⟨_, (true), (by first | rfl | (simp; done) | (simp [*]; done)), H', ⟨by first | omega | exact Nat.le_refl _⟩, by repeat (first | exact Drawn0.refl _ | apply Drawn0.step)⟩
  case rest =>
    clear HC3
    try clear c1
    try clear p1
    try clear q1
    try clear hx1
    try clear qi1
    try clear p2
    try clear c5
    try clear c6
    try clear c6b0
    try clear c6b1
    try clear hx102_0
    try clear p102
    try clear q102
    obtain ⟨kq, x18_2, rfl, HA, HJ2, ⟨mc2, rfl⟩⟩ := hcut
    cases kq with
    | zero => exact absurd HA.out (by simp [spec_weRows.j0])
    | succ kj2 =>
      have H := HA.out
      clear HA
      simp only [spec_weRows.j0] at H
      by_cases c8 : x18_2 = true
      · subst c8
        have H1 : (some false) = some r := by rw [if_pos rfl] at H; exact H
        clear H
        have H := H1
        clear H1
        obtain rfl := Option.some.inj H
        go_wp2
        go_ret
        exact ⟨by first | rfl | (simp; done) | (simp [*]; done), by repeat (first | exact Drawn0.refl _ | apply Drawn0.step)⟩
      · replace c8 := Bool.eq_false_iff.mpr c8
        subst c8
        have H1 : (spec_weRows.l0 kj2 l0 a1 l0 (l0.length : Int) 0) = some r := by rw [if_neg (show ¬ (false = true) by decide)] at H; exact H
        clear H
        have H := H1
        clear H1
        have H' := Aside0.mk H
        clear H
        go_wp2
        go_loopg [21] kj2 (fun kq v21 w' => ∃ (x21_2 : Int), v21 = .int .i64 x21_2 ∧ Aside0 (spec_weRows.l0 kq l0 a1 l0 (l0.length : Int) x21_2 = some r) ∧ Aside0 (kq ≤ kj2) ∧ Drawn0 w w')
        case atStart => exact ⟨(0), (by first | rfl | (simp; done) | (simp [*]; done)), H', ⟨Nat.le_refl _⟩, by repeat (first | exact Drawn0.refl _ | apply Drawn0.step)⟩
        case round =>
          clear H'
          try clear c1
          try clear p1
          try clear q1
          try clear hx1
          try clear qi1
          try clear c2
          try clear p2
          try clear c5
          try clear c6
          try clear c6b0
          try clear c6b1
          try clear c8
          try clear hx102_0
          try clear p1
          try clear p102
          try clear p2
          try clear q1
          try clear q102
          obtain ⟨x21_2, rfl, HA, HK2, ⟨m2, rfl⟩⟩ := hrel
          cases gk with
          | zero => exact absurd HA.out (by simp [spec_weRows.l0])
          | succ k2 =>
            have H := HA.out
            clear HA
            simp only [spec_weRows.l0] at H
            by_cases c9 : x21_2 < (l0.length : Int)
            · rw [if_pos c9] at H
              have c9b0 : decide (x21_2 < (l0.length : Int)) = true := decide_eq_true c9
              clear c9
              by_cases c10 : 0 ≤ x21_2
              · rw [if_pos c10] at H
                have c10b0 : decide (0 ≤ x21_2) = true := decide_eq_true c10
                clear c10
                by_cases c11 : x21_2 < (l0.length : Int)
                · rw [if_pos c11] at H
                  have c11b0 : decide (x21_2 < (l0.length : Int)) = true := decide_eq_true c11
                  clear c11
                  by_cases c12 : 0 < (l0.length : Int)
                  · rw [if_pos c12] at H
                    have c12b0 : decide (0 < (l0.length : Int)) = true := decide_eq_true c12
                    have c12b1 : decide (0 < l0.length) = true := decide_eq_true (by omega)
                    clear c12
                    by_cases c13 : ((rd_L1 l0 x21_2).length : Int) = ((rd_L1 l0 0).length : Int)
                    · rw [if_pos c13] at H
                      have c13b0 : (((rd_L1 l0 x21_2).length : Int) == ((rd_L1 l0 0).length : Int)) = true := beq_iff_eq.mpr c13
                      have c13b1 : (((rd_L1 l0 x21_2).length : Int) != ((rd_L1 l0 0).length : Int)) = false := bne_eq_false_iff_eq.mpr c13
                      have c13b2 : ((rd_L1 l0 x21_2).length == (rd_L1 l0 0).length) = true := by first | simpa using c13 | (simp at c13 ⊢; omega)
                      clear c13
                      replace H := Option.bind_eq_some_iff.mp H
                      obtain ⟨t106, A140, H⟩ := H
                      replace H : (if t106 = true then (spec_weRows.l0 k2 l0 a1 l0 (l0.length : Int) (wrap64 (x21_2 + 1))) else (some false)) = some r := H
                      have A14 := Aside0.mk A140
                      clear A140
                      by_cases c15 : t106 = true
                      · subst c15
                        have H1 : (spec_weRows.l0 k2 l0 a1 l0 (l0.length : Int) (wrap64 (x21_2 + 1))) = some r := by rw [if_pos rfl] at H; exact H
                        clear H
                        have H := H1
                        clear H1
                        have H' := Aside0.mk H
                        clear H
                        have p104 : 0 ≤ (x21_2 : Int) := of_decide_eq_true (by first | (with_reducible assumption) | assumption)
                        have q104 : x21_2 < (l0.length : Int) := of_decide_eq_true (by first | (with_reducible assumption) | assumption)
                        obtain ⟨ad104, A104_0, c104_0, e104, hx104_0, hl104_0, hi104_0⟩ := at_L1 HR0.out x21_2 p104 q104
                        cases e104
                        have HR104_0 := Aside0.mk hi104_0
                        have HC104_0 := Aside0.mk hl104_0
                        clear hi104_0 hl104_0
                        replace p104 := eq_true p104
                        replace q104 := eq_true q104
                        have p105 : 0 ≤ (0 : Int) := (by omega)
                        have q105 : 0 < (l0.length : Int) := of_decide_eq_true (by first | (with_reducible assumption) | assumption)
                        obtain ⟨ad105, A105_0, c105_0, e105, hx105_0, hl105_0, hi105_0⟩ := at_L1 HR0.out 0 p105 q105
                        obtain rfl : ad104 = ad105 := (by injection e105)
                        have qi105 : (0 < l0.length) = True := eq_true (by omega)
                        (try rw [show ((0 : Int)).toNat = 0 from rfl] at hx105_0)
                        (try rw [Addr.add_zero'] at hx105_0)
                        have HR105_0 := Aside0.mk hi105_0
                        have HC105_0 := Aside0.mk hl105_0
                        clear hi105_0 hl105_0
                        replace p105 := eq_true p105
                        replace q105 := eq_true q105
                        go_wp2_with (first | (go_at_call 64; (with_reducible refine (spec_l1All.calls k2 _ _ (rd_L1 l0 x21_2) 0 (wrap64 (a1 - 1)) true _ ?side1 ?side2 A14.out).mono ?_); (case side1 => repeat (first | exact HR104_0.out | (with_reducible refine Kd.C_alloc ?_ _) | (with_reducible refine Kd.C_drewN ?_ _) | (with_reducible refine Kd.C_drew ?_))); (case side2 => exact HC104_0.out); rintro e w' ⟨rfl, ⟨nd, rfl⟩⟩))
                        go_roundg k2
                        case measure => have := HJ2.out; have := HK2.out; omega
                        case rel => exact ⟨(wrap64 (x21_2 + 1)), (by first | rfl | (simp; done) | (simp [*]; done)), H', ⟨by have := HJ2.out; have := HK2.out; omega⟩, by repeat (first | exact Drawn0.refl _ | apply Drawn0.step)⟩
                      · replace c15 := Bool.eq_false_iff.mpr c15
                        subst c15
                        have H1 : (some false) = some r := by rw [if_neg (show ¬ (false = true) by decide)] at H; exact H
                        clear H
                        have H := H1
                        clear H1
                        obtain rfl := Option.some.inj H
                        have p104 : 0 ≤ (x21_2 : Int) := of_decide_eq_true (by first | (with_reducible assumption) | assumption)
                        have q104 : x21_2 < (l0.length : Int) := of_decide_eq_true (by first | (with_reducible assumption) | assumption)
                        obtain ⟨ad104, A104_0, c104_0, e104, hx104_0, hl104_0, hi104_0⟩ := at_L1 HR0.out x21_2 p104 q104
                        cases e104
                        have HR104_0 := Aside0.mk hi104_0
                        have HC104_0 := Aside0.mk hl104_0
                        clear hi104_0 hl104_0
                        replace p104 := eq_true p104
                        replace q104 := eq_true q104
                        have p105 : 0 ≤ (0 : Int) := (by omega)
                        have q105 : 0 < (l0.length : Int) := of_decide_eq_true (by first | (with_reducible assumption) | assumption)
                        obtain ⟨ad105, A105_0, c105_0, e105, hx105_0, hl105_0, hi105_0⟩ := at_L1 HR0.out 0 p105 q105
                        obtain rfl : ad104 = ad105 := (by injection e105)
                        have qi105 : (0 < l0.length) = True := eq_true (by omega)
                        (try rw [show ((0 : Int)).toNat = 0 from rfl] at hx105_0)
                        (try rw [Addr.add_zero'] at hx105_0)
                        have HR105_0 := Aside0.mk hi105_0
                        have HC105_0 := Aside0.mk hl105_0
                        clear hi105_0 hl105_0
                        replace p105 := eq_true p105
                        replace q105 := eq_true q105
                        go_wp2_with (first | (go_at_call 64; (with_reducible refine (spec_l1All.calls k2 _ _ (rd_L1 l0 x21_2) 0 (wrap64 (a1 - 1)) false _ ?side1 ?side2 A14.out).mono ?_); (case side1 => repeat (first | exact HR104_0.out | (with_reducible refine Kd.C_alloc ?_ _) | (with_reducible refine Kd.C_drewN ?_ _) | (with_reducible refine Kd.C_drew ?_))); (case side2 => exact HC104_0.out); rintro e w' ⟨rfl, ⟨nd, rfl⟩⟩))
                        go_ret
                        exact ⟨by first | rfl | (simp; done) | (simp [*]; done), by repeat (first | exact Drawn0.refl _ | apply Drawn0.step)⟩
                    · rw [if_neg c13] at H
                      have c13b0 : (((rd_L1 l0 x21_2).length : Int) == ((rd_L1 l0 0).length : Int)) = false := beq_eq_false_iff_ne.mpr c13
                      have c13b1 : (((rd_L1 l0 x21_2).length : Int) != ((rd_L1 l0 0).length : Int)) = true := bne_iff_ne.mpr c13
                      have c13b2 : ((rd_L1 l0 x21_2).length == (rd_L1 l0 0).length) = false := by first | simpa using c13 | (simp at c13 ⊢; omega)
                      obtain rfl := Option.some.inj H
                      have p104 : 0 ≤ (x21_2 : Int) := of_decide_eq_true (by first | (with_reducible assumption) | assumption)
                      have q104 : x21_2 < (l0.length : Int) := of_decide_eq_true (by first | (with_reducible assumption) | assumption)
                      obtain ⟨ad104, A104_0, c104_0, e104, hx104_0, hl104_0, hi104_0⟩ := at_L1 HR0.out x21_2 p104 q104
                      cases e104
                      have HR104_0 := Aside0.mk hi104_0
                      have HC104_0 := Aside0.mk hl104_0
                      clear hi104_0 hl104_0
                      replace p104 := eq_true p104
                      replace q104 := eq_true q104
                      have p105 : 0 ≤ (0 : Int) := (by omega)
                      have q105 : 0 < (l0.length : Int) := of_decide_eq_true (by first | (with_reducible assumption) | assumption)
                      obtain ⟨ad105, A105_0, c105_0, e105, hx105_0, hl105_0, hi105_0⟩ := at_L1 HR0.out 0 p105 q105
                      obtain rfl : ad104 = ad105 := (by injection e105)
                      have qi105 : (0 < l0.length) = True := eq_true (by omega)
                      (try rw [show ((0 : Int)).toNat = 0 from rfl] at hx105_0)
                      (try rw [Addr.add_zero'] at hx105_0)
                      have HR105_0 := Aside0.mk hi105_0
                      have HC105_0 := Aside0.mk hl105_0
                      clear hi105_0 hl105_0
                      replace p105 := eq_true p105
                      replace q105 := eq_true q105
                      go_wp2
                      go_ret
                      exact ⟨by first | rfl | (simp; done) | (simp [*]; done), by repeat (first | exact Drawn0.refl _ | apply Drawn0.step)⟩
                  · rw [if_neg c12] at H
                    exact absurd H (by simp)
                · rw [if_neg c11] at H
                  exact absurd H (by simp)
              · rw [if_neg c10] at H
                exact absurd H (by simp)
            · rw [if_neg c9] at H
              have c9b0 : decide (x21_2 < (l0.length : Int)) = false := decide_eq_false c9
              clear c9
              obtain rfl := Option.some.inj H
              go_wp2
              go_ret
              exact ⟨by first | rfl | (simp; done) | (simp [*]; done), by repeat (first | exact Drawn0.refl _ | apply Drawn0.step)⟩

end Go.Proofs.Ytlhblnphfpijkaa.Q
end
section
namespace Go.Proofs.Ytlhblnphfpijkaa.RankK
set_option linter.unusedVariables false
open Go.RowKit Go.Proofs.Ytlhblnphfpijkaa.Q Go.Proofs.YtlhblnphfpijkaaW.PrintWords Go.Proofs.YtlhblnphfpijkaaW.PrintLast Go.Proofs.YtlhblnphfpijkaaW.PrintMore
open Go.Proofs.YtlhblnphfpijkaaL Go.Proofs.Ytlhblnphfpijkaa.LawK Go.Proofs.Ytlhblnphfpijkaa.BoardK Go.Proofs.Ytlhblnphfpijkaa.RowsK Go.Proofs.Ytlhblnphfpijkaa.LeadsK
/-- Rows for a rank, as the reference asks, from one on. -/
def sameB (n : Nat) (q : Int) (rows : List (List Int)) : Bool := rows.all (fun x => decide (x.length = n) && x.all (inR 0 (q - 1)))
theorem weRows_l0 {rows : List (List Int)} {q : Int} (hq : 2 ≤ q ∧ q ≤ 3) (h1 : 0 < rows.length) (h6 : rows.length ≤ 6) (hx : ∀ x ∈ rows, x.length ≤ 1048576) : ∀ (d i : Nat), i + d = rows.length →
    Ev (fun k => spec_weRows.l0 k rows q rows (rows.length : Int) i) (sameB (rows[0]'h1).length q (rows.drop i))
  | 0, i, hi => by
    refine Ev.step (f := fun _ => some true) (fun k => ?_) (evEq (Ev.now _) (by rw [List.drop_eq_nil_of_le (by omega)]; rfl))
    rw [spec_weRows.l0, if_neg (by omega)]
  | d + 1, i, hi => by
    have w1 : wrap64 ((i : Int) + 1) = ((i + 1 : Nat) : Int) := by rw [w64 (by omega) (by omega)]; rfl
    have w2 : wrap64 (q - 1) = q - 1 := w64 (by omega) (by omega)
    have hi2 : i < rows.length := by omega
    have ih := weRows_l0 hq h1 h6 hx d (i + 1) (by omega)
    have e0 : rd_L1 rows 0 = rows[0]'h1 := rdL (i := 0) h1
    rw [List.drop_eq_getElem_cons hi2]
    unfold sameB at ih ⊢
    rw [List.all_cons]
    by_cases c1 : rows[i].length = (rows[0]'h1).length
    · rw [decide_eq_true c1, Bool.true_and]
      refine Ev.step (f := fun k => (spec_l1All.f k rows[i] 0 (q - 1)).bind fun t => if t = true then spec_weRows.l0 k rows q rows (rows.length : Int) ((i + 1 : Nat) : Int) else some false) (fun k => ?_) ?_
      · rw [spec_weRows.l0, if_pos (by omega), if_pos (by omega), if_pos (by omega), if_pos (by omega), rdL hi2, e0, if_pos (by omega), w1, w2]
      · refine Ev.bind (l1All _ _ (by have := hx _ (List.getElem_mem hi2); omega)) ?_
        by_cases c : rows[i].all (inR 0 (q - 1)) = true
        · rw [c, Bool.true_and]
          exact Ev.congr (fun k => if_pos rfl) ih
        · rw [show rows[i].all (inR 0 (q - 1)) = false by simpa using c, Bool.false_and]
          exact Ev.congr (fun k => if_neg (by simp)) (Ev.now _)
    · rw [decide_eq_false c1, Bool.false_and, Bool.false_and]
      refine Ev.step (f := fun _ => some false) (fun k => ?_) (Ev.now _)
      rw [spec_weRows.l0, if_pos (by omega), if_pos (by omega), if_pos (by omega), if_pos (by omega), rdL hi2, e0, if_neg (by omega)]
theorem weRows {rows : List (List Int)} {q : Int} (hq : 2 ≤ q ∧ q ≤ 3) (hx : ∀ x ∈ rows, x.length ≤ 1048576) : Ev (fun k => spec_weRows.f k rows q) (inR 1 6 (rows.length : Int) && (inR 1 6 ((rows.getD 0 []).length : Int) && sameB (rows.getD 0 []).length q rows)) := by
  unfold spec_weRows.f
  have no : Ev (fun k => spec_weRows.j0 k rows q true) false := Ev.step (f := fun _ => some false) (fun k => by rw [spec_weRows.j0, if_pos rfl]) (Ev.now _)
  refine Ev.congr (fun k => by rw [boSide_f, Option.bind_some]) ?_
  by_cases h : inR 1 6 (rows.length : Int) = true
  · have h2 : 1 ≤ (rows.length : Int) ∧ (rows.length : Int) ≤ 6 := of_decide_eq_true h
    have h1 : 0 < rows.length := by omega
    have e0 : rd_L1 rows 0 = rows[0]'h1 := rdL (i := 0) h1
    have e1 : rows.getD 0 [] = rows[0]'h1 := gD_lt _ _ h1
    rw [h, Bool.true_and, e1]
    refine Ev.congr (fun k => by rw [if_pos rfl, if_pos (by omega), e0, boSide_f, Option.bind_some]) ?_
    by_cases c : inR 1 6 ((rows[0]'h1).length : Int) = true
    · rw [c, Bool.true_and]
      have := weRows_l0 hq h1 (by omega) hx rows.length 0 (by omega)
      rw [List.drop_zero] at this
      refine Ev.step (fun k => ?_) this
      rw [spec_weRows.j0, if_neg (by simp)]; rfl
    · rw [show inR 1 6 ((rows[0]'h1).length : Int) = false by simpa using c, Bool.false_and]
      exact no
  · rw [show inR 1 6 (rows.length : Int) = false by simpa using h, Bool.false_and]
    exact Ev.congr (fun k => if_neg (by simp)) no
/-- The program's question is the reference's. -/
theorem areRows_eq (rows : List (List Int)) (q : Int) : areRowsB rows q = (inR 2 3 q && (inR 1 6 (rows.length : Int) && (inR 1 6 ((rows.getD 0 []).length : Int) && sameB (rows.getD 0 []).length q rows))) := by
  unfold areRowsB
  show (inR 2 3 q && (inR 1 6 (rows.length : Int) && rows.all (rowOk q (rows.getD 0 []).length))) = _
  cases h2 : inR 1 6 (rows.length : Int)
  · simp
  · have h3 : 1 ≤ (rows.length : Int) ∧ (rows.length : Int) ≤ 6 := of_decide_eq_true h2
    have h0 : rows.getD 0 [] ∈ rows := by rw [gD_lt _ _ (by omega)]; exact List.getElem_mem _
    congr 2
    rw [Bool.eq_iff_iff, Bool.and_eq_true, List.all_eq_true]
    unfold sameB
    rw [List.all_eq_true]
    constructor
    · intro h
      have key : ∀ x ∈ rows, inR 1 6 (x.length : Int) = true ∧ x.length = (rows.getD 0 []).length ∧ x.all (inR 0 (q - 1)) = true := by
        intro x hx
        have := h x hx
        unfold rowOk at this
        rw [Bool.and_eq_true, Bool.and_eq_true, decide_eq_true_eq, decide_eq_true_eq] at this
        exact ⟨decide_eq_true this.1, by omega, this.2.2⟩
      exact ⟨(key _ h0).1, fun x hx => by rw [Bool.and_eq_true, decide_eq_true_eq]; exact (key x hx).2⟩
    · rintro ⟨h1, h4⟩ x hx
      have := h4 x hx
      rw [Bool.and_eq_true, decide_eq_true_eq] at this
      have h5 : 1 ≤ ((rows.getD 0 []).length : Int) ∧ ((rows.getD 0 []).length : Int) ≤ 6 := of_decide_eq_true h1
      unfold rowOk
      rw [Bool.and_eq_true, Bool.and_eq_true, decide_eq_true_eq, decide_eq_true_eq]
      exact ⟨by omega, by omega, this.2⟩
theorem withinR (a b c : Int) : impl_within.f a b c = some (inR b c a) := by
  unfold impl_within.f inR
  by_cases h : b ≤ a
  · rw [if_pos h]; simp [h]
  · rw [if_neg h]; congr 1; exact (decide_eq_false (by omega)).symm
/-- What the reference asks ahead of a rank or leads. -/
theorem asks {α : Type} {rows : List (List Int)} {q : Int} (hx : ∀ x ∈ rows, x.length ≤ 1048576) {yes : Nat → Option α} {no r : α} (hy : areRowsB rows q = true → Ev yes r) (hn : areRowsB rows q = false → no = r) :
    Ev (fun k => (spec_weBase.f q).bind fun t => if t = true then ((spec_weRows.f k rows q).bind fun t2 => if t2 = true then yes k else some no) else some no) r := by
  refine Ev.congr (fun k => by rw [spec_weBase.f, l1In_f, Option.bind_some, Option.bind_some]) ?_
  by_cases hq : inR 2 3 q = true
  · refine Ev.congr (fun k => if_pos hq) (Ev.bind (weRows (of_decide_eq_true hq) hx) ?_)
    have e := areRows_eq rows q
    rw [hq, Bool.true_and] at e
    rw [← e]
    by_cases h : areRowsB rows q = true
    · exact Ev.congr (fun k => if_pos h) (hy h)
    · refine Ev.congr (fun k => if_neg h) ?_
      rw [hn (by simpa using h)]; exact Ev.now _
  · refine Ev.congr (fun k => if_neg hq) ?_
    have h : areRowsB rows q = false := by rw [areRows_eq, show inR 2 3 q = false by simpa using hq, Bool.false_and]
    rw [hn h]; exact Ev.now _
theorem leadsF_in {q : Int} (hq : 2 ≤ q ∧ q ≤ 3) {n : Nat} : ∀ (rows : List (List Int)) (done : List (List Int)) (out : List Int), (∀ r ∈ rows, Dig q n r) → WFs q n done out → (leadsF q n rows done out).length = out.length + rows.length ∧ ∀ e ∈ leadsF q n rows done out, e = -1 ∨ (0 ≤ e ∧ e < n)
  | [], done, out, _, h => ⟨rfl, h.lead⟩
  | row :: t, done, out, hd, h => by
    rw [leadsF]
    have := leadsF_in hq t _ _ (fun r hr => hd r (List.mem_cons_of_mem _ hr)) (h.snoc (Dig.red hq done out row h.dig (hd row List.mem_cons_self)))
    rw [this.1]
    exact ⟨by simp; omega, this.2⟩
/-- The leads of rows. -/
def leadsOf (rows : List (List Int)) (q : Int) : List Int := leadsF q (rows.getD 0 []).length rows [] []
theorem leadsOf_in {rows : List (List Int)} {q : Int} (h : areRowsB rows q = true) : (leadsOf rows q).length = rows.length ∧ ∀ e ∈ leadsOf rows q, e = -1 ∨ 0 ≤ e := by
  obtain ⟨h1, h2, h3, h4, h5⟩ := areRows_out h
  have := leadsF_in h1 rows [] [] h5 ⟨rfl, by simp, by simp⟩
  exact ⟨by have h6 := this.1; rw [List.length_nil, Nat.zero_add] at h6; exact h6, fun e he => by have := this.2 e he; omega⟩
end Go.Proofs.Ytlhblnphfpijkaa.RankK
end
section

end
section
namespace Go.Proofs.Ytlhblnphfpijkaa.Walk
set_option linter.unusedVariables false
open Go.RowKit Go.Proofs.YtlhblnphfpijkaaW.PrintWords Go.Proofs.YtlhblnphfpijkaaW.PrintLast Go.Proofs.YtlhblnphfpijkaaW.PrintMore
open Go.Proofs.YtlhblnphfpijkaaL Go.Proofs.Ytlhblnphfpijkaa.LawK Go.Proofs.Ytlhblnphfpijkaa.BoardK

theorem mem_iota {m : Int} {n : Nat} {x : Int} (h1 : m ≤ x) (h2 : x < m + n) : x ∈ iota m n := by
  have hi : (x - m).toNat < (iota m n).length := by rw [iota_length]; omega
  have := iota_get n m (x - m).toNat hi
  rw [show x = (iota m n)[(x - m).toNat] by rw [this]; omega]
  exact List.getElem_mem hi
/-- One column's ways, given the ways of the rows behind. -/
def colWays (l : List Int) (r t : Nat) (pre : List Int) (next : Nat → List Int → List (List Int)) (c : Int) : List (List Int) :=
  if c < 0 then next t (pre ++ [c])
  else if cell l r c.toNat && !t.testBit c.toNat then next (t ||| 2 ^ c.toNat) (pre ++ [c]) else []
/-- All ways on from a row: d rows are left, r is the row, t the taken columns, pre what stands. -/
def waysFrom (l : List Int) (C : Nat) : Nat → Nat → Nat → List Int → List (List Int)
  | 0, _, _, pre => [pre]
  | d + 1, r, t, pre => (iota (-1) (C + 1)).flatMap (colWays l r t pre (waysFrom l C d (r + 1)))

theorem iota_cut : ∀ (j n : Nat) (m : Int), j < n → iota m n = iota m j ++ (m + j) :: iota (m + j + 1) (n - j - 1)
  | 0, n + 1, m, _ => by rw [iota, iota]; simp
  | j + 1, n + 1, m, h => by
    rw [iota, iota, iota_cut j n (m + 1) (by omega), List.cons_append]
    have e1 : m + 1 + (j : Int) = m + ((j + 1 : Nat) : Int) := by omega
    rw [e1, show n + 1 - (j + 1) - 1 = n - j - 1 by omega]
/-- The ways by their columns: those before, one's own, those behind. -/
theorem ways_cut (l : List Int) (C d r t : Nat) (pre : List Int) (j : Nat) (hj : j < C + 1) {x : Int} (hx : x = -1 + j) :
    waysFrom l C (d + 1) r t pre = (iota (-1) j).flatMap (colWays l r t pre (waysFrom l C d (r + 1))) ++ (colWays l r t pre (waysFrom l C d (r + 1)) x ++ (iota (x + 1) (C + 1 - j - 1)).flatMap (colWays l r t pre (waysFrom l C d (r + 1)))) := by
  rw [waysFrom, iota_cut j (C + 1) (-1) hj, List.flatMap_append, List.flatMap_cons, hx]

theorem ways_len (l : List Int) (C : Nat) : ∀ (d r t : Nat) (pre : List Int), (waysFrom l C d r t pre).length ≤ (C + 1) ^ d
  | 0, r, t, pre => by simp [waysFrom]
  | d + 1, r, t, pre => by
    have hc : ∀ c, (colWays l r t pre (waysFrom l C d (r + 1)) c).length ≤ (C + 1) ^ d := by
      intro c
      unfold colWays
      split
      · exact ways_len l C d (r + 1) _ _
      · split
        · exact ways_len l C d (r + 1) _ _
        · exact Nat.zero_le _
    have hf : ∀ (n : Nat) (m : Int), ((iota m n).flatMap (colWays l r t pre (waysFrom l C d (r + 1)))).length ≤ n * (C + 1) ^ d := by
      intro n
      induction n with
      | zero => intro m; simp [iota]
      | succ n ih =>
        intro m
        rw [iota, List.flatMap_cons, List.length_append, Nat.succ_mul]
        have h1 := hc m
        have h2 := ih (m + 1)
        omega
    rw [waysFrom, Nat.pow_succ, Nat.mul_comm]
    exact hf (C + 1) (-1)

structure Blks where (b d a p g r : Nat)
/-- Six blocks, each another one. -/
structure Blks.Apart (k : Blks) : Prop where
  bd : k.b ≠ k.d
  ba : k.b ≠ k.a
  bp : k.b ≠ k.p
  bg : k.b ≠ k.g
  br : k.b ≠ k.r
  da : k.d ≠ k.a
  dp : k.d ≠ k.p
  dg : k.d ≠ k.g
  dr : k.d ≠ k.r
  ap : k.a ≠ k.p
  ag : k.a ≠ k.g
  ar : k.a ≠ k.r
  pg : k.p ≠ k.g
  pr : k.p ≠ k.r
  gr : k.g ≠ k.r
def Blks.has (k : Blks) (i : Nat) : Prop := i = k.b ∨ i = k.d ∨ i = k.a ∨ i = k.p ∨ i = k.g ∨ i = k.r
/-- Nothing but blocks of S and new ones has turned. -/
structure Still (S : Nat → Prop) (w w' : World) : Prop where
  kept : Kept w w' S
  os : w'.os = w.os
  tape : w'.tape = w.tape
  output : w'.output = w.output
theorem Still.refl (S : Nat → Prop) (w : World) : Still S w w := ⟨Kept.refl _ _, rfl, rfl, rfl⟩
theorem Still.of_below {S : Nat → Prop} {w w' : World} (h : Below w.heap.size w w') : Still S w w' := ⟨Kept.of_below h S, h.os, h.tape, h.output⟩
theorem Still.set {S : Nat → Prop} (w : World) {a : Addr} (h : S a.block) (v : Value) : Still S w (w.setCell a v) := ⟨Kept.setCell (Kept.refl _ _) (.inl h) v, rfl, rfl, rfl⟩
theorem Still.drewN {S : Nat → Prop} (w : World) (n : Nat) : Still S w (w.drewN n) := ⟨Kept.drewN (Kept.refl _ _) n, rfl, rfl, rfl⟩
theorem Still.trans {S : Nat → Prop} {a b c : World} (h : Still S a b) (k : Still S b c) : Still S a c := ⟨h.kept.then_ k.kept (fun _ hk => .inl hk), k.os.trans h.os, k.tape.trans h.tape, k.output.trans h.output⟩
theorem Still.below {S : Nat → Prop} {w0 w w' : World} (h : Below w0.heap.size w0 w) (k : Still S w w') (hS : ∀ i, S i → w0.heap.size ≤ i) : Below w0.heap.size w0 w' :=
  ⟨k.os.trans h.os, k.tape.trans h.tape, k.output.trans h.output, Nat.le_trans h.size k.kept.1, fun i hi => (k.kept.2 i (Nat.lt_of_lt_of_le hi h.size) (fun hs => by have := hS i hs; omega)).trans (h.block i hi)⟩

/-- What the world holds while a walk goes on: the walk's own blocks, and the caller's Inv of the placements told so far. -/
structure WSt (k : Blks) (Inv : List (List Int) → World → Prop) (RI CI : Int) (n cp : Nat) (l : List Int) (A0 : Option Addr) (c0 : Nat) (F : Value) (vis : List (List Int)) (ps : List Int) (w : World) : Prop where
  cB : w.heap[k.b]? = some (.cells #[.int .i64 RI, .int .i64 CI, .slice A0 l.length c0] 79 (0, 0))
  cD : w.heap[k.d]? = some (.cells #[F] 45 (0, 0))
  cA : Kd.R (Kd.int .i64) 3 w 0 (fun i => i = k.a) (.slice (some ⟨k.a, 0, none⟩) n cp) ps
  cP : w.heap[k.p]? = some (.cells #[.slice (some ⟨k.a, 0, none⟩) n cp] 22 (0, 0))
  cG : w.heap[k.g]? = some (.cells #[.bool true] 4 (0, 0))
  cR : w.heap[k.r]? = some (.cells #[.func (.func 122) #[] #[.pointer (some ⟨k.b, 0, none⟩), .pointer (some ⟨k.d, 0, none⟩), .pointer (some ⟨k.p, 0, none⟩), .pointer (some ⟨k.g, 0, none⟩), .pointer (some ⟨k.r, 0, none⟩)]] 86 (0, 0))
  inv : Inv vis w
section
variable {k : Blks} {Inv : List (List Int) → World → Prop} {RI CI : Int} {n cp : Nat} {l : List Int} {A0 : Option Addr} {c0 : Nat} {F : Value} {vis : List (List Int)} {ps : List Int} {w w' : World}
/-- Another call, which turned nothing that was. -/
theorem WSt.below (hI : ∀ vis w w', Inv vis w → Still k.has w w' → Inv vis w') (h : WSt k Inv RI CI n cp l A0 c0 F vis ps w) (hb : Below w.heap.size w w') : WSt k Inv RI CI n cp l A0 c0 F vis ps w' :=
  ⟨blk_below h.cB hb, blk_below h.cD hb, Kd.R_below h.cA hb, blk_below h.cP hb, blk_below h.cG hb, blk_below h.cR hb, hI _ _ _ h.inv (Still.of_below hb)⟩
theorem WSt.drewN (hI : ∀ vis w w', Inv vis w → Still k.has w w' → Inv vis w') (h : WSt k Inv RI CI n cp l A0 c0 F vis ps w) (m : Nat) : WSt k Inv RI CI n cp l A0 c0 F vis ps (w.drewN m) :=
  h.below hI (pw_below_drewN (Below.refl _ _) m)
theorem WSt.setA (hI : ∀ vis w w', Inv vis w → Still k.has w w' → Inv vis w') (hk : k.Apart) (h : WSt k Inv RI CI n cp l A0 c0 F vis ps w) (i c : Int) : WSt k Inv RI CI n cp l A0 c0 F vis (ps.set i.toNat c) (w.setCell ⟨k.a, i.toNat, none⟩ (.int .i64 c)) :=
  ⟨blk_far h.cB hk.ba _, blk_far h.cD hk.da _, Kd.R_putn h.cA i c, blk_far h.cP hk.ap.symm _, blk_far h.cG hk.ag.symm _, blk_far h.cR hk.ar.symm _, hI _ _ _ h.inv (Still.set w (.inr (.inr (.inl rfl))) _)⟩
theorem WSt.setG (hI : ∀ vis w w', Inv vis w → Still k.has w w' → Inv vis w') (hk : k.Apart) (h : WSt k Inv RI CI n cp l A0 c0 F vis ps w) : WSt k Inv RI CI n cp l A0 c0 F vis ps (w.setCell ⟨k.g, 0, none⟩ (.bool true)) :=
  ⟨blk_far h.cB hk.bg _, blk_far h.cD hk.dg _, Kd.R_far h.cA (fun i hi => by rw [hi]; exact hk.ag) _, blk_far h.cP hk.pg _, blk_put h.cG 0 _ rfl, blk_far h.cR hk.gr.symm _, hI _ _ _ h.inv (Still.set w (.inr (.inr (.inr (.inr (.inl rfl))))) _)⟩
end

end Go.Proofs.Ytlhblnphfpijkaa.Walk
end
section
namespace Go.Proofs.Ytlhblnphfpijkaa.Walk
set_option linter.unusedVariables false
open Go.RowKit Go.Proofs.YtlhblnphfpijkaaW.PrintWords Go.Proofs.YtlhblnphfpijkaaW.PrintLast Go.Proofs.YtlhblnphfpijkaaW.PrintMore
open Go.Proofs.YtlhblnphfpijkaaL Go.Proofs.Ytlhblnphfpijkaa.LawK Go.Proofs.Ytlhblnphfpijkaa.BoardK Go.Proofs.Ytlhblnphfpijkaa.Q

/-- How many numbers are not -1. -/
def rooksN (l : List Int) : Nat := l.countP (fun x => x != -1)
theorem rooks_l0 {l : List Int} (hl : l.length ≤ 1048576) : ∀ (d i n : Nat), i + d = l.length → n ≤ i → Ev (fun k => impl_rooks.l0 k n l (l.length : Int) i) ((n + rooksN (l.drop i) : Nat) : Int)
  | 0, i, n, hi, hn => by
    refine Ev.step (f := fun _ => some ((n + rooksN (l.drop i) : Nat) : Int)) (fun k => ?_) (Ev.now _)
    rw [impl_rooks.l0, if_neg (by omega), List.drop_eq_nil_of_le (by omega)]; rfl
  | d + 1, i, n, hi, hn => by
    have h1 : wrap64 ((i : Int) + 1) = ((i + 1 : Nat) : Int) := by rw [w64 (by omega) (by omega)]; rfl
    have h2 : wrap64 ((n : Int) + 1) = ((n + 1 : Nat) : Int) := by rw [w64 (by omega) (by omega)]; rfl
    have hi2 : i < l.length := by omega
    rw [List.drop_eq_getElem_cons hi2, rooksN, List.countP_cons]
    by_cases hx : l[i] = -1
    · have ih := rooks_l0 hl d (i + 1) n (by omega) (by omega)
      rw [rooksN] at ih
      rw [if_neg (by simp [hx]), Nat.add_zero]
      refine Ev.step (fun k => ?_) ih
      rw [impl_rooks.l0, if_pos (by omega), if_pos (by omega), if_pos (by omega), rd_lt _ _ hi2, if_pos hx, h1]
    · have ih := rooks_l0 hl d (i + 1) (n + 1) (by omega) (by omega)
      rw [rooksN] at ih
      rw [if_pos (by simpa using hx)]
      rw [show n + (List.countP (fun x => x != -1) (List.drop (i + 1) l) + 1) = n + 1 + List.countP (fun x => x != -1) (List.drop (i + 1) l) by omega]
      refine Ev.step (fun k => ?_) ih
      rw [impl_rooks.l0, if_pos (by omega), if_pos (by omega), if_pos (by omega), rd_lt _ _ hi2, if_neg hx, h1, h2]
theorem rooks_f {l : List Int} (hl : l.length ≤ 1048576) : ∃ k, impl_rooks.f k l = some (rooksN l : Int) := by
  have h := rooks_l0 hl l.length 0 0 (by omega) (by omega)
  rw [List.drop_zero, Nat.zero_add] at h
  exact h.rounds

end Go.Proofs.Ytlhblnphfpijkaa.Walk
end
section
namespace Go.Proofs.Ytlhblnphfpijkaa.RankK
set_option linter.unusedVariables false
open Go.RowKit Go.Proofs.Ytlhblnphfpijkaa.Q Go.Proofs.YtlhblnphfpijkaaW.PrintWords Go.Proofs.YtlhblnphfpijkaaW.PrintLast Go.Proofs.YtlhblnphfpijkaaW.PrintMore
open Go.Proofs.YtlhblnphfpijkaaL Go.Proofs.Ytlhblnphfpijkaa.LawK Go.Proofs.Ytlhblnphfpijkaa.BoardK Go.Proofs.Ytlhblnphfpijkaa.RowsK Go.Proofs.Ytlhblnphfpijkaa.LeadsK Go.Proofs.Ytlhblnphfpijkaa.Walk
theorem impl_rank {rows : List (List Int)} {q : Int} (h : areRowsB rows q = true) : Ev (fun k => impl_rank.f k rows q) (rooksN (leadsOf rows q) : Int) := by
  unfold impl_rank.f
  obtain ⟨h1, h2⟩ := leadsOf_in h
  have h6 := (areRows_out h).2.1
  refine Ev.congr (fun k => by rw [impl_leads.f, if_pos h, Option.bind_some]) ?_
  have hr := rooks_l0 (l := leadsOf rows q) (by omega) (leadsOf rows q).length 0 0 (by omega) (by omega)
  rw [List.drop_zero, Nat.zero_add] at hr
  exact Ev.bind (a := (rooksN (leadsOf rows q) : Int)) hr (Ev.now _)
theorem spec_l0 {l : List Int} (hl : l.length ≤ 1048576) (hin : ∀ e ∈ l, e = -1 ∨ 0 ≤ e) : ∀ (d i n : Nat), i + d = l.length → n ≤ i → Ev (fun k => spec_weRank.l0 k n l (l.length : Int) i) ((n + rooksN (l.drop i) : Nat) : Int)
  | 0, i, n, hi, hn => by
    refine Ev.step (f := fun _ => some ((n + rooksN (l.drop i) : Nat) : Int)) (fun k => ?_) (Ev.now _)
    rw [spec_weRank.l0, if_neg (by omega), List.drop_eq_nil_of_le (by omega)]; rfl
  | d + 1, i, n, hi, hn => by
    have w1 := Aside0.mk (show wrap64 ((i : Int) + 1) = ((i + 1 : Nat) : Int) by rw [w64 (by omega) (by omega)]; rfl)
    have w2 := Aside0.mk (show wrap64 ((n : Int) + 1) = ((n + 1 : Nat) : Int) by rw [w64 (by omega) (by omega)]; rfl)
    have hi2 : i < l.length := by omega
    have hx := hin _ (List.getElem_mem hi2)
    rw [List.drop_eq_getElem_cons hi2, rooksN, List.countP_cons]
    by_cases h : l[i] = -1
    · have ih := spec_l0 hl hin d (i + 1) n (by omega) (by omega)
      rw [rooksN] at ih
      rw [if_neg (by simp [h]), Nat.add_zero]
      refine Ev.step (fun k => ?_) ih
      rw [spec_weRank.l0, if_pos (by omega), if_pos (by omega), if_pos (by omega), rd_lt _ _ hi2, if_neg (by omega), w1.out]
    · have ih := spec_l0 hl hin d (i + 1) (n + 1) (by omega) (by omega)
      rw [rooksN] at ih
      rw [if_pos (by simpa using h), show n + (List.countP (fun x => x != -1) (List.drop (i + 1) l) + 1) = n + 1 + List.countP (fun x => x != -1) (List.drop (i + 1) l) by omega]
      refine Ev.step (fun k => ?_) ih
      rw [spec_weRank.l0, if_pos (by omega), if_pos (by omega), if_pos (by omega), rd_lt _ _ hi2, if_pos (by omega), w1.out, w2.out]
theorem spec_rank {rows : List (List Int)} {q : Int} (h : areRowsB rows q = true) : Ev (fun k => spec_weRank.f k rows q) (rooksN (leadsOf rows q) : Int) := by
  unfold spec_weRank.f
  obtain ⟨h1, h2⟩ := leadsOf_in h
  have h6 := (areRows_out h).2.1
  refine Ev.congr (fun k => by rw [spec_weLeads.f, if_pos h, Option.bind_some]) ?_
  have hr := spec_l0 (l := leadsOf rows q) (by omega) h2 (leadsOf rows q).length 0 0 (by omega) (by omega)
  rw [List.drop_zero, Nat.zero_add] at hr
  exact hr
theorem rank_le {rows : List (List Int)} {q : Int} (h : areRowsB rows q = true) : rooksN (leadsOf rows q) ≤ rows.length := by
  have := List.countP_le_length (p := fun x => x != -1) (l := leadsOf rows q)
  rw [(leadsOf_in h).1] at this
  exact this
end Go.Proofs.Ytlhblnphfpijkaa.RankK
end
section
namespace Go.Proofs.Ytlhblnphfpijkaa.Q
open Go.RowKit Go.Proofs.YtlhblnphfpijkaaW.PrintWords Go.Proofs.YtlhblnphfpijkaaW.PrintLast Go.Proofs.YtlhblnphfpijkaaW.PrintMore
attribute [local go_sem] max2_int min2_int max_two min_two max_three min_three max_four min_four   -- for this text's walks alone
set_option linter.unusedVariables false
set_option linter.unusedSimpArgs false

/-! ### impl_newBoard: function 121 -/
def impl_newBoard.f (a0 : Int) (a1 : Int) : Option (Int × Int × List Int) := if 0 ≤ a0 then (if (a0 : Int).toNat ≤ 35184372088832 then (some (a0, a1, (List.replicate (a0 : Int).toNat 0))) else (none)) else (none)
set_option maxHeartbeats 8000000 in
set_option maxRecDepth 100000 in
theorem impl_newBoard.calls (a0 : Int) (a1 : Int) (r1 : Int) (r2 : Int) (r3 : List Int) (w : World) (h : impl_newBoard.f a0 a1 = some (r1, r2, r3)) :
    Calls Try.prog 121 #[.int .i64 a0, .int .i64 a1] w fun e w' => ∃ v2_ : Value, e = .returned (.agg #[.int .i64 r1, .int .i64 r2, v2_]) ∧ Kd.R (Kd.int .i64) 3 w' w.heap.size (fun _ => True) v2_ r3 ∧ Below w.heap.size w w' := by
  have hu79 := Try.underlying79
  have HB := Aside0.mk (Below.refl w.heap.size w)
  have H : (if 0 ≤ a0 then (if (a0 : Int).toNat ≤ 35184372088832 then (some (a0, a1, (List.replicate (a0 : Int).toNat 0))) else (none)) else (none)) = some (r1, r2, r3) := h
  clear h
  by_cases c3 : 0 ≤ a0
  · rw [if_pos c3] at H
    have c3b0 := eq_true c3
    have c3b1 : decide (0 ≤ a0) = true := decide_eq_true c3
    clear c3
    by_cases c4 : (a0 : Int).toNat ≤ 35184372088832
    · rw [if_pos c4] at H
      have c4b0 := eq_true c4
      have c4b1 : decide ((a0 : Int).toNat ≤ 35184372088832) = true := decide_eq_true c4
      clear c4
      obtain ⟨y102, hy102⟩ : ∃ y_ : List Int, y_ = (List.replicate (a0 : Int).toNat 0) := ⟨_, rfl⟩
      replace H : (some (a0, a1, y102)) = some (r1, r2, r3) := by first | (rw [hy102]; with_reducible exact H) | (have H2_ := (Option.bind_some _ _).symm.trans H; rw [hy102]; with_reducible exact H2_) | (have H2_ := (Option.bind_some _ _).symm.trans H; with_reducible exact H2_) | with_reducible exact H | (rw [hy102]; exact H) | exact H
      have Ny102 := Aside0.mk hy102
      clear hy102
      simp only [Option.some.injEq, Prod.mk.injEq] at H
      obtain ⟨rfl, rfl, rfl⟩ := H
      go_enter Try.func121, Try.ntmps121
      go_wp2_with (first | ((with_reducible refine gate_dst (N := 4) rfl ?_); refine box_event ?hg (N := 4) ?hd (cs := #[.int .i64 0, .int .i64 0, .slice none 0 0]) (t := 79) ?hr ?_; (case hd => rfl); (case hg => rfl); (case hr => first | (go_simp; done) | (go_simp; rfl)); intro gb101 hg w5 hbox hb; have n0_ := Aside0.mk (below_step (by repeat (first | (with_reducible first | exact HB.out | apply below_alloc | apply pw_below_drewN | apply below_drew1) | exact HB.out)) hb); have n1_ := Aside0.mk (hbox); have n2_ := Aside0.mk ((by rw [hg]; exact (below_size (by repeat (first | (with_reducible first | exact HB.out | apply below_alloc | apply pw_below_drewN | apply below_drew1) | exact HB.out))) : w.heap.size ≤ gb101)); have n3_ := Aside0.mk ((by rw [hg]; exact (below_size (by repeat (first | (with_reducible first | exact HB.out | apply below_alloc | apply pw_below_drewN | apply below_drew1) | exact HB.out))) : w.heap.size ≤ gb101)); clear HB; have HB := n0_; have BK101 := n1_; have GW101 := n2_; have GE101 := n3_; clear n0_ n1_ n2_ n3_; clear hb hbox hg) | ((with_reducible refine gate_dst (N := 8) rfl ?_); refine Kd.R_make (Kd.int .i64) _ 3 rfl (N := 8) rfl 22 _ _ rfl a0 rfl rfl Try.underlying22 (.int .i64 0) 8 info3 rfl (by decide) (by omega) 0 (ok := fun _ => True) (okp := fun _ => True) rfl (fun _ hk => hk) trivial (of_decide_eq_true (by first | (with_reducible assumption) | assumption)) (Nat.le_trans (Nat.mul_le_mul_right _ (of_decide_eq_true (by first | (with_reducible assumption) | assumption) : a0.toNat ≤ 35184372088832)) (by omega)) (Below.refl _ _) (Nat.le_refl _) ?_; intro v103 w6 ho7 hb hg_ hnew_; clear hg_ hnew_; (first | rw [← Ny102.out] at ho7 | (simp only [Int.reduceToNat] at ho7; rw [← Ny102.out] at ho7)); have n0_ := Aside0.mk (Kd.R_lower ho7 (below_size (by repeat (first | (with_reducible first | exact HB.out | apply below_alloc | apply pw_below_drewN | apply below_drew1 | refine below_set ?_ GE101.out) | exact HB.out)))); have n1_ := Aside0.mk (blk_below (g := gb101) (o := .cells #[.int .i64 0, .int .i64 0, .slice none 0 0] 79 (0, 0)) (by (with_reducible repeat (first | refine blk_drewN ?_ _ | refine blk_drew ?_ | refine blk_alloc ?_ _)); exact BK101.out) hb); have n2_ := Aside0.mk (below_step (by repeat (first | (with_reducible first | exact HB.out | apply below_alloc | apply pw_below_drewN | apply below_drew1 | refine below_set ?_ GE101.out) | exact HB.out)) hb); clear BK101; clear HB; have HO104 := n0_; have BK101 := n1_; have HB := n2_; clear n0_ n1_ n2_; clear hb ho7; obtain ⟨Ao8, co8, eo8⟩ := Kd.R_slice HO104.out; subst eo8; have hcz9_0 : w6.cell? ⟨gb101, 0, none⟩ = some (.int .i64 0) := (blk_cell BK101.out 0).trans rfl; have hcz9_1 : w6.cell? ⟨gb101, 1, none⟩ = some (.int .i64 0) := (blk_cell BK101.out 1).trans rfl; have hcz9_2 : w6.cell? ⟨gb101, 2, none⟩ = some (.slice none 0 0) := (blk_cell BK101.out 2).trans rfl; have hfz9_0 := blk_frozen BK101.out 0; have hfz9_1 := blk_frozen BK101.out 1; have hfz9_2 := blk_frozen BK101.out 2))
      refine bodyPost_ret (results_cell_row rfl _ _ gb101 79 #[.int .i64 a0, .int .i64 a1, .slice Ao8 y102.length co8] (0, 0) _ rfl (by (with_reducible repeat (first | refine blk_drewN ?_ _ | refine blk_drew ?_ | refine blk_alloc ?_ _)); refine blk_put (cs := #[.int .i64 a0, .int .i64 a1, .slice none 0 0]) ?_ 2 _ rfl; (with_reducible repeat (first | refine blk_drewN ?_ _ | refine blk_drew ?_ | refine blk_alloc ?_ _)); refine blk_put (cs := #[.int .i64 a0, .int .i64 0, .slice none 0 0]) ?_ 1 _ rfl; (with_reducible repeat (first | refine blk_drewN ?_ _ | refine blk_drew ?_ | refine blk_alloc ?_ _)); refine blk_put (cs := #[.int .i64 0, .int .i64 0, .slice none 0 0]) ?_ 0 _ rfl; (with_reducible repeat (first | refine blk_drewN ?_ _ | refine blk_drew ?_ | refine blk_alloc ?_ _)); exact BK101.out) Try.underlying79 rfl (by kernel_rfl)) rfl ?_
      exact ⟨_, by first | rfl | (simp [errW_none, errW_some] <;> rfl) | (simp [*, errW_none, errW_some] <;> rfl), by (with_reducible repeat (first | apply Kd.R_alloc | apply Kd.R_drewN | apply Kd.R_drew)); exact Kd.R_mono (Kd.R_far (p := ⟨gb101, 2, none⟩) (Kd.R_far (p := ⟨gb101, 1, none⟩) (Kd.R_far (p := ⟨gb101, 0, none⟩) (Kd.R_types HO104.out BK101.out (by decide)) (fun _ hk => hk.2) (.int .i64 a0)) (fun _ hk => hk.2) (.int .i64 a1)) (fun _ hk => hk.2) (.slice Ao8 y102.length co8)) (fun _ hk => trivial), by repeat (first | (with_reducible first | exact HB.out | apply below_alloc | apply pw_below_drewN | apply below_drew1 | refine below_set ?_ GE101.out) | exact HB.out)⟩
    · rw [if_neg c4] at H
      exact absurd H (by simp)
  · rw [if_neg c3] at H
    exact absurd H (by simp)

end Go.Proofs.Ytlhblnphfpijkaa.Q
end
section
namespace Go.Proofs.Ytlhblnphfpijkaa.Q
open Go.RowKit Go.Proofs.YtlhblnphfpijkaaW.PrintWords Go.Proofs.YtlhblnphfpijkaaW.PrintLast Go.Proofs.YtlhblnphfpijkaaW.PrintMore
attribute [local go_sem] max2_int min2_int max_two min_two max_three min_three max_four min_four   -- for this text's walks alone
set_option linter.unusedVariables false
set_option linter.unusedSimpArgs false

/-! ### impl_boardOf: function 111 -/
def impl_boardOf.l0 : Nat → List Int → Int → Int → Int → Int → List Int → Option (Int × Int × List Int)
  | 0, _, _, _, _, _, _ => none
  | k + 1, x11, x12, x13, x108000, x108001, x108002 => if x13 < x12 then (if 0 ≤ x13 then (if x13 < (x11.length : Int) then (if 0 ≤ (rd x11 x13) then (if x13 < (x108002.length : Int) then (impl_boardOf.l0 k x11 x12 (wrap64 (x13 + 1)) x108000 x108001 (x108002.set (x13 : Int).toNat (wrap64 ((shl .i64 1 (rd x11 x13)) - 1)))) else (none)) else (none)) else (none)) else (none)) else (some (x108000, x108001, x108002))
def impl_boardOf.f (k : Nat) (l0 : List Int) : Option (Int × Int × List Int) := (impl_newBoard.f (l0.length : Int) (l0.length : Int)).bind fun bt102 => (impl_boardOf.l0 k l0 (l0.length : Int) 0 bt102.1 bt102.2.1 bt102.2.2)
theorem impl_boardOf.mono_l : ∀ k, (∀ y0 y1 y2 y3 y4 y5, LeO (impl_boardOf.l0 k y0 y1 y2 y3 y4 y5) (impl_boardOf.l0 (k + 1) y0 y1 y2 y3 y4 y5))
  | 0 => fun _ _ _ _ _ _ r h => by simp [impl_boardOf.l0] at h
  | k + 1 => by
    have ih0 := impl_boardOf.mono_l k
    · intro y0 y1 y2 y3 y4 y5
      unfold impl_boardOf.l0
      repeat' first
      | (with_reducible exact ih0 _ _ _ _ _ _)
      | (with_reducible exact LeO.refl _)
      | (with_reducible exact LeO.none _)
      | (with_reducible refine LeO.ite ?_ ?_)
      | (with_reducible refine LeO.bind ?_ (fun _ => ?_))
      | exact ih0 _ _ _ _ _ _
      | exact LeO.none _
      | refine LeO.ite ?_ ?_
      | refine LeO.bind ?_ (fun _ => ?_)
theorem impl_boardOf.mono : ∀ a0 k, LeO (impl_boardOf.f k a0) (impl_boardOf.f (k + 1) a0) := by
  intro a0 k
  have ih0 := impl_boardOf.mono_l k
  unfold impl_boardOf.f
  repeat' first
      | (with_reducible exact ih0 _ _ _ _ _ _)
      | (with_reducible exact LeO.refl _)
      | (with_reducible exact LeO.none _)
      | (with_reducible refine LeO.ite ?_ ?_)
      | (with_reducible refine LeO.bind ?_ (fun _ => ?_))
      | exact ih0 _ _ _ _ _ _
      | exact LeO.none _
      | refine LeO.ite ?_ ?_
      | refine LeO.bind ?_ (fun _ => ?_)
def impl_boardOf.T5 : Bool × List (List Nat × List Nat) := (true, [([], []), ([0], [0]), ([], []), ([], []), ([3], [3]), ([4], [4]), ([1, 2, 0, 1, 2, 3, 4, 5], [1, 2]), ([6, 5, 0, 1, 2, 3, 4, 5], [5, 6])])
def impl_boardOf.B5 : List Nat := [0, 1, 0, 0, 8, 24, 63, 127]
theorem impl_boardOf.tab5 : rtab .any (opsOf Try.f111 5) = impl_boardOf.T5 := by kernel_rfl
theorem impl_boardOf.bits5 : waitsOk impl_boardOf.T5.2 impl_boardOf.B5 = true := by kernel_rfl
set_option maxHeartbeats 8000000 in
set_option maxRecDepth 100000 in
theorem impl_boardOf.calls (k : Nat) (A0 : Option Addr) (c0 : Nat) (l0 : List Int) (r1 : Int) (r2 : Int) (r3 : List Int) (w : World) (hr0 : Kd.C (Kd.int .i64) w A0 l0.length l0) (hc0 : l0.length ≤ c0) (h : impl_boardOf.f k l0 = some (r1, r2, r3)) :
    Calls Try.prog 111 #[.slice A0 l0.length c0] w fun e w' => ∃ v2_ : Value, e = .returned (.agg #[.int .i64 r1, .int .i64 r2, v2_]) ∧ Kd.R (Kd.int .i64) 3 w' w.heap.size (fun _ => True) v2_ r3 ∧ Below w.heap.size w w' := by
  have hu79 := Try.underlying79
  have HR0 := Aside0.mk hr0
  have HC0 := Aside0.mk hc0
  clear hr0 hc0
  have HB := Aside0.mk (Below.refl w.heap.size w)
  have H : ((impl_newBoard.f (l0.length : Int) (l0.length : Int)).bind fun bt102 => (impl_boardOf.l0 k l0 (l0.length : Int) 0 bt102.1 bt102.2.1 bt102.2.2)) = some (r1, r2, r3) := h
  clear h
  replace H := Option.bind_eq_some_iff.mp H
  obtain ⟨⟨t102, t103, t104⟩, A20, H⟩ := H
  replace H : (impl_boardOf.l0 k l0 (l0.length : Int) 0 t102 t103 t104) = some (r1, r2, r3) := H
  have A2 := Aside0.mk A20
  clear A20
  have H' := Aside0.mk H
  clear H
  go_enter Try.func111, Try.ntmps111
  go_wp2_with (first | ((with_reducible refine gate_dst (N := 2) rfl ?_); refine box_event ?hg (N := 2) ?hd (cs := #[.int .i64 0, .int .i64 0, .slice none 0 0]) (t := 79) ?hr ?_; (case hd => rfl); (case hg => rfl); (case hr => first | (go_simp; done) | (go_simp; rfl)); intro gb101 hg w3 hbox hb; have n0_ := Aside0.mk (below_step (by repeat (first | (with_reducible first | exact HB.out | apply below_alloc | apply pw_below_drewN | apply below_drew1) | exact HB.out)) hb); have n1_ := Aside0.mk (hbox); have n2_ := Aside0.mk ((by rw [hg]; exact (below_size (by repeat (first | (with_reducible first | exact HB.out | apply below_alloc | apply pw_below_drewN | apply below_drew1) | exact HB.out))) : w.heap.size ≤ gb101)); have n3_ := Aside0.mk ((by rw [hg]; exact (below_size (by repeat (first | (with_reducible first | exact HB.out | apply below_alloc | apply pw_below_drewN | apply below_drew1) | exact HB.out))) : w.heap.size ≤ gb101)); clear HB; have HB := n0_; have BK101 := n1_; have GW101 := n2_; have GE101 := n3_; clear n0_ n1_ n2_ n3_; clear hb hbox hg) | ((with_reducible refine gate_callee (f := 121) rfl ?_); refine goesL_ (some 10) rfl rfl Try.func121 (by kernel_rfl) rfl #[.int .i64 (l0.length : Int), .int .i64 (l0.length : Int)] rfl (by (try simp only [List.map_toArray, List.map_cons, List.map_nil]); first | done | rfl | (simp only [List.length_drop, List.length_take]; rfl)) ?_; (with_reducible refine (impl_newBoard.calls (l0.length : Int) (l0.length : Int) t102 t103 t104 _ A2.out).mono ?_); rintro e w4 ⟨v105, rfl, ho0, hb⟩; refine ⟨_, rfl, ?_⟩; have n0_ := Aside0.mk (Kd.R_lower ho0 (below_size (by repeat (first | (with_reducible first | exact HB.out | apply below_alloc | apply pw_below_drewN | apply below_drew1 | refine below_set ?_ GE101.out) | exact HB.out)))); have n1_ := Aside0.mk (blk_below (g := gb101) (o := .cells #[.int .i64 0, .int .i64 0, .slice none 0 0] 79 (0, 0)) (by (with_reducible repeat (first | refine blk_drewN ?_ _ | refine blk_drew ?_ | refine blk_alloc ?_ _)); exact BK101.out) hb); have n2_ := Aside0.mk (below_step (by repeat (first | (with_reducible first | exact HB.out | apply below_alloc | apply pw_below_drewN | apply below_drew1 | refine below_set ?_ GE101.out) | exact HB.out)) hb); clear BK101; clear HB; have HO106 := n0_; have BK101 := n1_; have HB := n2_; clear n0_ n1_ n2_; (try clear hb); (try clear hb2); (try clear hk); (try clear hi); (try clear ho0)) | ((with_reducible refine gate_dst (N := 3) rfl ?_); refine box_event ?hg (N := 3) ?hd (cs := #[.int .i64 0, .int .i64 0, .slice none 0 0]) (t := 79) ?hr ?_; (case hd => rfl); (case hg => rfl); (case hr => first | (go_simp; done) | (go_simp; rfl)); intro gb107 hg w5 hbox hb; have n0_ := Aside0.mk (Kd.R_below (by (with_reducible repeat (first | apply Kd.R_alloc | apply Kd.R_drewN | apply Kd.R_drew)); exact HO106.out) hb); have n1_ := Aside0.mk (blk_below (g := gb101) (o := .cells #[.int .i64 0, .int .i64 0, .slice none 0 0] 79 (0, 0)) (by (with_reducible repeat (first | refine blk_drewN ?_ _ | refine blk_drew ?_ | refine blk_alloc ?_ _)); exact BK101.out) hb); have n2_ := Aside0.mk (below_step (by repeat (first | (with_reducible first | exact HB.out | apply below_alloc | apply pw_below_drewN | apply below_drew1 | refine below_set ?_ GE101.out) | exact HB.out)) hb); have n3_ := Aside0.mk (hbox); have n4_ := Aside0.mk ((by rw [hg]; exact (below_size (by repeat (first | (with_reducible first | exact HB.out | apply below_alloc | apply pw_below_drewN | apply below_drew1 | refine below_set ?_ GE101.out) | exact HB.out))) : w.heap.size ≤ gb107)); have n5_ := Aside0.mk ((by rw [hg]; exact (below_size (by repeat (first | (with_reducible first | exact HB.out | apply below_alloc | apply pw_below_drewN | apply below_drew1 | refine below_set ?_ GE101.out) | exact HB.out))) : w.heap.size ≤ gb107)); have n6_ := Aside0.mk ((by rw [hg]; exact Nat.ne_of_lt (blk_lt (g := gb101) (o := .cells #[.int .i64 0, .int .i64 0, .slice none 0 0] 79 (0, 0)) (by (with_reducible repeat (first | refine blk_drewN ?_ _ | refine blk_drew ?_ | refine blk_alloc ?_ _)); exact BK101.out)) : gb101 ≠ gb107)); have n7_ := Aside0.mk ((by rw [hg]; exact Nat.ne_of_gt (blk_lt (g := gb101) (o := .cells #[.int .i64 0, .int .i64 0, .slice none 0 0] 79 (0, 0)) (by (with_reducible repeat (first | refine blk_drewN ?_ _ | refine blk_drew ?_ | refine blk_alloc ?_ _)); exact BK101.out)) : gb107 ≠ gb101)); clear HO106; clear BK101; clear HB; have HO106 := n0_; have BK101 := n1_; have HB := n2_; have BK107 := n3_; have GW107 := n4_; have GE107 := n5_; have NB101_107 := n6_; have NB107_101 := n7_; clear n0_ n1_ n2_ n3_ n4_ n5_ n6_ n7_; clear hb hbox hg; have hnb6 := NB107_101.out; have hnc6 := NB101_107.out; have hcz7_0 : w5.cell? ⟨gb107, 0, none⟩ = some (.int .i64 0) := (blk_cell BK107.out 0).trans rfl; have hcz7_1 : w5.cell? ⟨gb107, 1, none⟩ = some (.int .i64 0) := (blk_cell BK107.out 1).trans rfl; have hcz7_2 : w5.cell? ⟨gb107, 2, none⟩ = some (.slice none 0 0) := (blk_cell BK107.out 2).trans rfl; have hfz7_0 := blk_frozen BK107.out 0; have hfz7_1 := blk_frozen BK107.out 1; have hfz7_2 := blk_frozen BK107.out 2; obtain ⟨Ao8, co8, eo8⟩ := Kd.R_slice HO106.out; subst eo8))
  go_loopg [13] k (fun kq v13 w' => ∃ (x13_1 : Int) (x108002_1 : List Int) (u108002 : Value), v13 = .int .i64 x13_1 ∧ Aside0 (impl_boardOf.l0 kq l0 (l0.length : Int) x13_1 t102 t103 x108002_1 = some (r1, r2, r3)) ∧ Aside0 (kq ≤ k) ∧ Aside0 (Kd.R (Kd.int .i64) 3 w' w.heap.size (fun _ => True) u108002 x108002_1) ∧ Aside0 (w'.heap[gb101]? = some (.cells #[.int .i64 0, .int .i64 0, (.slice none 0 0)] 79 (0, 0))) ∧ Aside0 (w'.heap[gb107]? = some (.cells #[.int .i64 t102, .int .i64 t103, u108002] 79 (0, 0))) ∧ Aside0 (Below w.heap.size w w'))
  case atStart => exact ⟨(0), (t104), (.slice Ao8 t104.length co8), (by first | rfl | (simp; done) | (simp [*]; done)), H', ⟨Nat.le_refl _⟩, ⟨by (with_reducible repeat (first | apply Kd.R_alloc | apply Kd.R_drewN | apply Kd.R_drew)); exact Kd.R_mono (Kd.R_far (p := ⟨gb107, 2, none⟩) (Kd.R_far (p := ⟨gb107, 1, none⟩) (Kd.R_far (p := ⟨gb107, 0, none⟩) (Kd.R_types HO106.out BK107.out (by decide)) (fun _ hk => hk.2) (.int .i64 t102)) (fun _ hk => hk.2) (.int .i64 t103)) (fun _ hk => hk.2) (.slice Ao8 t104.length co8)) (fun _ hk => trivial)⟩, ⟨by (with_reducible repeat (first | refine blk_drewN ?_ _ | refine blk_drew ?_ | refine blk_alloc ?_ _)); refine blk_far ?_ NB101_107.out _; (with_reducible repeat (first | refine blk_drewN ?_ _ | refine blk_drew ?_ | refine blk_alloc ?_ _)); refine blk_far ?_ NB101_107.out _; (with_reducible repeat (first | refine blk_drewN ?_ _ | refine blk_drew ?_ | refine blk_alloc ?_ _)); refine blk_far ?_ NB101_107.out _; (with_reducible repeat (first | refine blk_drewN ?_ _ | refine blk_drew ?_ | refine blk_alloc ?_ _)); exact BK101.out⟩, ⟨by (with_reducible repeat (first | refine blk_drewN ?_ _ | refine blk_drew ?_ | refine blk_alloc ?_ _)); refine blk_put (cs := #[.int .i64 t102, .int .i64 t103, .slice none 0 0]) ?_ 2 _ rfl; (with_reducible repeat (first | refine blk_drewN ?_ _ | refine blk_drew ?_ | refine blk_alloc ?_ _)); refine blk_put (cs := #[.int .i64 t102, .int .i64 0, .slice none 0 0]) ?_ 1 _ rfl; (with_reducible repeat (first | refine blk_drewN ?_ _ | refine blk_drew ?_ | refine blk_alloc ?_ _)); refine blk_put (cs := #[.int .i64 0, .int .i64 0, .slice none 0 0]) ?_ 0 _ rfl; (with_reducible repeat (first | refine blk_drewN ?_ _ | refine blk_drew ?_ | refine blk_alloc ?_ _)); exact BK107.out⟩, ⟨by repeat (first | (with_reducible first | exact HB.out | apply below_alloc | apply pw_below_drewN | apply below_drew1 | refine below_set ?_ GE101.out | refine below_set ?_ GE107.out) | exact HB.out)⟩⟩
  case round =>
    clear H'
    try clear c1
    try clear p2
    try clear c6
    try clear hcz7_0
    try clear hcz7_1
    try clear hcz7_2
    try clear hfz7_0
    try clear hfz7_1
    try clear hfz7_2
    obtain ⟨x13_1, x108002_1, u108002, rfl, HA, HK1, HO_108002, BK101, BK107, HB⟩ := hrel
    cases gk with
    | zero => exact absurd HA.out (by simp [impl_boardOf.l0])
    | succ k1 =>
      have H := HA.out
      clear HA
      simp only [impl_boardOf.l0] at H
      by_cases c9 : x13_1 < (l0.length : Int)
      · rw [if_pos c9] at H
        have c9b0 : decide (x13_1 < (l0.length : Int)) = true := decide_eq_true c9
        clear c9
        by_cases c10 : 0 ≤ x13_1
        · rw [if_pos c10] at H
          have c10b0 : decide (0 ≤ x13_1) = true := decide_eq_true c10
          clear c10
          by_cases c11 : x13_1 < (l0.length : Int)
          · rw [if_pos c11] at H
            have c11b0 : decide (x13_1 < (l0.length : Int)) = true := decide_eq_true c11
            clear c11
            by_cases c12 : 0 ≤ (rd l0 x13_1)
            · rw [if_pos c12] at H
              have c12b0 := eq_true c12
              have c12b1 : decide (0 ≤ (rd l0 x13_1)) = true := decide_eq_true c12
              clear c12
              obtain ⟨ji13, hji13⟩ : ∃ j_ : Int, (shl .i64 1 (rd l0 x13_1)) = j_ := ⟨_, rfl⟩
              replace H : (if x13_1 < (x108002_1.length : Int) then (impl_boardOf.l0 k1 l0 (l0.length : Int) (wrap64 (x13_1 + 1)) t102 t103 (x108002_1.set (x13_1 : Int).toNat (wrap64 ((ji13) - 1)))) else (none)) = some (r1, r2, r3) := by first | (rw [hji13] at H; exact H) | (simp only [hji13] at H ⊢; exact H)
              have hji13_ : (IntKind.i64.wrap (1 * 2 ^ min (rd l0 x13_1).toNat 64)) = ji13 := hji13
              have hji13z : (rd l0 x13_1) ≤ 64 → (IntKind.i64.wrap (1 * 2 ^ (rd l0 x13_1).toNat)) = ji13 := shl_small hji13
              have hji13u : (IntKind.i64.wrap (2 ^ min (rd l0 x13_1).toNat 64)) = ji13 := by have h_ := hji13_; rw [Int.one_mul] at h_; exact h_
              have hji13v : (rd l0 x13_1) ≤ 64 → (IntKind.i64.wrap (2 ^ (rd l0 x13_1).toNat)) = ji13 := fun hle_ => by have h_ := hji13z hle_; rw [Int.one_mul] at h_; exact h_
              have hji13y : (wrap64 (1 * 2 ^ min (rd l0 x13_1).toNat 64)) = ji13 := (i64_w _).symm.trans hji13_
              have hji13x : (rd l0 x13_1) ≤ 64 → (wrap64 (1 * 2 ^ (rd l0 x13_1).toNat)) = ji13 := fun h_ => (i64_w _).symm.trans (hji13z h_)
              by_cases c14 : x13_1 < (x108002_1.length : Int)
              · rw [if_pos c14] at H
                have c14b0 : decide (x13_1 < (x108002_1.length : Int)) = true := decide_eq_true c14
                clear c14
                obtain ⟨y109, hy109⟩ : ∃ y_ : List Int, y_ = (x108002_1.set (x13_1 : Int).toNat (wrap64 ((ji13) - 1))) := ⟨_, rfl⟩
                replace H : (impl_boardOf.l0 k1 l0 (l0.length : Int) (wrap64 (x13_1 + 1)) t102 t103 y109) = some (r1, r2, r3) := by first | (rw [hy109]; with_reducible exact H) | (have H2_ := (Option.bind_some _ _).symm.trans H; rw [hy109]; with_reducible exact H2_) | (have H2_ := (Option.bind_some _ _).symm.trans H; with_reducible exact H2_) | with_reducible exact H | (rw [hy109]; exact H) | exact H
                have Ny109 := Aside0.mk hy109
                clear hy109
                have H' := Aside0.mk H
                clear H
                have p108 : 0 ≤ (x13_1 : Int) := of_decide_eq_true (by first | (with_reducible assumption) | assumption)
                have q108 : x13_1 < (l0.length : Int) := of_decide_eq_true (by first | (with_reducible assumption) | assumption)
                obtain ⟨ad108, e108, hx108_0⟩ := Kd.at_int HR0.out x13_1 p108 q108
                cases e108
                replace hx108_0 := (HB.out.cell (World.block_lt_of_cell? w _ hx108_0)).trans hx108_0
                replace p108 := eq_true p108
                replace q108 := eq_true q108
                try go_wp2
                have n0_ := Aside0.mk (Kd.R_drew HO_108002.out)
                have n1_ := Aside0.mk (blk_drew BK101.out)
                have n2_ := Aside0.mk (blk_drew BK107.out)
                have n3_ := Aside0.mk (below_drew1 HB.out)
                clear HO_108002
                clear BK101
                clear BK107
                clear HB
                have HO_108002 := n0_
                have BK101 := n1_
                have BK107 := n2_
                have HB := n3_
                clear n0_ n1_ n2_ n3_
                have p15 : 0 ≤ (x13_1 : Int) := of_decide_eq_true (by first | (with_reducible assumption) | assumption)
                have q15 : (x13_1 : Int) < ((x108002_1.length : Int) : Int) := of_decide_eq_true (by first | (with_reducible assumption) | assumption)
                obtain ⟨go15, co15, eo15, gb15, gl15, cl15, HG15⟩ := Kd.R_form HO_108002.out (by omega)
                (first | cases eo15 | (injection eo15 with ea_ en_ ec_; (first | subst ea_ | (injection ea_ with ea_; subst ea_)); subst ec_; clear en_))
                have GB15 := Aside0.mk gb15
                have GG15 := Aside0.mk HG15
                clear gb15 gl15 HG15
                obtain ⟨hx15_0, hf15_0⟩ := Kd.R_celln 0 HO_108002.out (x13_1 : Int) p15 q15
                replace p15 := eq_true p15
                replace q15 := eq_true q15
                have HP17 := Kd.R_putn HO_108002.out (x13_1 : Int) (wrap64 ((ji13) - 1))
                rw [← Ny109.out] at HP17
                have HQ17 := Aside0.mk HP17
                clear HP17
                refine start_ (n := 8) (S := fun w' => w'.cell? ⟨gb107, 0, none⟩ = some (.int .i64 t102) ∧ w'.cell? ⟨gb107, 1, none⟩ = some (.int .i64 t103) ∧ w'.cell? ⟨gb107, 2, none⟩ = some (.slice (some ⟨go15, 0, none⟩) x108002_1.length co15)) (ds := [7]) #[false, false, false, false, false, false, false, false] (by kernel_rfl) rfl rfl ⟨(blk_cell BK107.out 0).trans rfl, (blk_cell BK107.out 1).trans rfl, (blk_cell BK107.out 2).trans rfl⟩ (fun hHeld => ?_); refine with_tabW impl_boardOf.tab5 impl_boardOf.bits5 (fun HT_ HW_ => ?_)
                generalize wr.drew = w16 at HO_108002 BK101 BK107 HB GG15 HQ17 hf15_0 hx15_0 hHeld ⊢
                refine pure_ (i := 0) (N := some 18) (v := ?_) (a' := ?_) #[true, false, false, false, false, false, false, false] rfl rfl (any_of HT_.out (by kernel_rfl)) (fun _ _ _ h => h) (Or.inl ⟨by rfl, ?_⟩) ?_ ?_
                rotate_left
                · intro w'
                  go_simp
                  with_reducible rfl
                rotate_left
                · simp only [Act.put, List.setIfInBounds_toArray, List.set_cons_zero, List.set_cons_succ, i64_w, i32_w]
                  rfl
                refine pure_ (i := 2) (N := some 20) (v := ?_) (a' := ?_) #[true, false, true, false, false, false, false, false] rfl rfl (any_of HT_.out (by kernel_rfl)) (fun _ _ _ h => h) (Or.inl ⟨by rfl, ?_⟩) ?_ ?_
                rotate_left
                · intro w'
                  go_simp
                  with_reducible rfl
                rotate_left
                · simp only [Act.put, List.setIfInBounds_toArray, List.set_cons_zero, List.set_cons_succ, i64_w, i32_w]
                  rfl
                refine pure_ (i := 3) (N := some 21) (v := ?_) (a' := ?_) #[true, false, true, true, false, false, false, false] rfl rfl (any_of HT_.out (by kernel_rfl)) (fun _ _ _ h => h) (Or.inl ⟨by rfl, ?_⟩) ?_ ?_
                rotate_left
                · intro w'
                  go_simp
                  with_reducible rfl
                rotate_left
                · simp only [Act.put, List.setIfInBounds_toArray, List.set_cons_zero, List.set_cons_succ, i64_w, i32_w]
                  rfl
                refine pure_ (i := 4) (N := some 22) (v := ?_) (a' := ?_) #[true, false, true, true, true, false, false, false] rfl rfl (any_of HT_.out (by kernel_rfl)) (fun _ _ _ h => h) (Or.inl ⟨by rfl, ?_⟩) ?_ ?_
                rotate_left
                · intro w'
                  go_simp
                  with_reducible rfl
                rotate_left
                · simp only [Act.put, List.setIfInBounds_toArray, List.set_cons_zero, List.set_cons_succ, i64_w, i32_w]
                  rfl
                refine pure_ (i := 5) (N := some 23) (v := ?_) (a' := ?_) #[true, false, true, true, true, true, false, false] rfl rfl (any_of HT_.out (by kernel_rfl)) (fun _ _ _ h => h) (Or.inl ⟨by rfl, ?_⟩) ?_ ?_
                rotate_left
                · intro w'
                  go_simp
                  with_reducible rfl
                rotate_left
                · simp only [Act.put, List.setIfInBounds_toArray, List.set_cons_zero, List.set_cons_succ, i64_w, i32_w]
                  rfl
                refine take_ (i := 1) (N := some 19) (v := ?_) (a' := ?_) #[true, true, true, true, true, true, false, false] rfl rfl (take_ofW HT_.out HW_.out (by kernel_rfl)) (fun _ _ _ h => h) (Or.inl ⟨by rfl, ?_⟩) hHeld ?_ ?_
                rotate_left
                · rintro w' ⟨s0, s1, s2⟩
                  go_simp
                  with_reducible rfl
                rotate_left
                · simp only [Act.put, List.setIfInBounds_toArray, List.set_cons_zero, List.set_cons_succ, i64_w, i32_w]
                  rfl
                refine pure_ (i := 6) (N := some 24) (v := ?_) (a' := ?_) #[true, true, true, true, true, true, true, false] rfl rfl (any_of HT_.out (by kernel_rfl)) (fun _ _ _ h => h) (Or.inl ⟨by rfl, ?_⟩) ?_ ?_
                rotate_left
                · intro w'
                  go_simp
                  with_reducible rfl
                rotate_left
                · simp only [Act.put, List.setIfInBounds_toArray, List.set_cons_zero, List.set_cons_succ, i64_w, i32_w]
                  rfl
                refine last_ (i := 7) (N := none) #[true, true, true, true, true, true, true, true] rfl rfl (one_of HT_.out (by kernel_rfl)) (by decide) (fun K hK => ?_)
                refine skip_ (w1 := ?_) (by rfl) rfl ?_ ?_
                rotate_left
                · go_simp
                  rfl
                refine hK.out _ _ ?_
                clear hK K
                refine done_ (done_of HT_.out (by kernel_rfl)) ?_
                try go_wp2
                go_roundg k1
                case measure => have := HK1.out; omega
                case rel => exact ⟨(wrap64 (x13_1 + 1)), (y109), (.slice (some ⟨go15, 0, none⟩) x108002_1.length co15), (by first | rfl | (simp; done) | (simp [*]; done)), H', ⟨by have := HK1.out; omega⟩, ⟨by (with_reducible repeat (first | apply Kd.R_alloc | apply Kd.R_drewN | apply Kd.R_drew)); exact HQ17.out⟩, ⟨by (with_reducible repeat (first | refine blk_drewN ?_ _ | refine blk_drew ?_ | refine blk_alloc ?_ _)); refine blk_far ?_ (by have h_ := Kd.R_ne HO_108002.out BK101.out (by decide); intro e_; exact h_ (by rw [e_]; rfl)) _; (with_reducible repeat (first | refine blk_drewN ?_ _ | refine blk_drew ?_ | refine blk_alloc ?_ _)); exact BK101.out⟩, ⟨by (with_reducible repeat (first | refine blk_drewN ?_ _ | refine blk_drew ?_ | refine blk_alloc ?_ _)); refine blk_far ?_ (by have h_ := Kd.R_ne HO_108002.out BK107.out (by decide); intro e_; exact h_ (by rw [e_]; rfl)) _; (with_reducible repeat (first | refine blk_drewN ?_ _ | refine blk_drew ?_ | refine blk_alloc ?_ _)); exact BK107.out⟩, ⟨by repeat (first | (with_reducible first | exact HB.out | apply below_alloc | apply pw_below_drewN | apply below_drew1 | refine below_set ?_ GB15.out | refine below_set ?_ GE101.out | refine below_set ?_ GE107.out) | exact HB.out)⟩⟩
              · rw [if_neg c14] at H
                exact absurd H (by simp)
            · rw [if_neg c12] at H
              exact absurd H (by simp)
          · rw [if_neg c11] at H
            exact absurd H (by simp)
        · rw [if_neg c10] at H
          exact absurd H (by simp)
      · rw [if_neg c9] at H
        have c9b0 : decide (x13_1 < (l0.length : Int)) = false := decide_eq_false c9
        clear c9
        simp only [Option.some.injEq, Prod.mk.injEq] at H
        obtain ⟨rfl, rfl, rfl⟩ := H
        have hnb18 := NB107_101.out
        have hnc18 := NB101_107.out
        have hcz19_0 : wr.cell? ⟨gb107, 0, none⟩ = some (.int .i64 t102) := (blk_cell BK107.out 0).trans rfl
        have hcz19_1 : wr.cell? ⟨gb107, 1, none⟩ = some (.int .i64 t103) := (blk_cell BK107.out 1).trans rfl
        have hcz19_2 : wr.cell? ⟨gb107, 2, none⟩ = some (u108002) := (blk_cell BK107.out 2).trans rfl
        have hfz19_0 := blk_frozen BK107.out 0
        have hfz19_1 := blk_frozen BK107.out 1
        have hfz19_2 := blk_frozen BK107.out 2
        have hcz20_0 : wr.cell? ⟨gb101, 0, none⟩ = some (.int .i64 0) := (blk_cell BK101.out 0).trans rfl
        have hcz20_1 : wr.cell? ⟨gb101, 1, none⟩ = some (.int .i64 0) := (blk_cell BK101.out 1).trans rfl
        have hcz20_2 : wr.cell? ⟨gb101, 2, none⟩ = some (.slice none 0 0) := (blk_cell BK101.out 2).trans rfl
        have hfz20_0 := blk_frozen BK101.out 0
        have hfz20_1 := blk_frozen BK101.out 1
        have hfz20_2 := blk_frozen BK101.out 2
        obtain ⟨Ao21, co21, eo21⟩ := Kd.R_slice HO_108002.out
        subst eo21
        go_wp2
        refine bodyPost_ret (results_cell_row rfl _ _ gb101 79 #[.int .i64 t102, .int .i64 t103, .slice Ao21 x108002_1.length co21] (0, 0) _ rfl (by (with_reducible repeat (first | refine blk_drewN ?_ _ | refine blk_drew ?_ | refine blk_alloc ?_ _)); refine blk_put (cs := #[.int .i64 t102, .int .i64 t103, .slice none 0 0]) ?_ 2 _ rfl; (with_reducible repeat (first | refine blk_drewN ?_ _ | refine blk_drew ?_ | refine blk_alloc ?_ _)); refine blk_put (cs := #[.int .i64 t102, .int .i64 0, .slice none 0 0]) ?_ 1 _ rfl; (with_reducible repeat (first | refine blk_drewN ?_ _ | refine blk_drew ?_ | refine blk_alloc ?_ _)); refine blk_put (cs := #[.int .i64 0, .int .i64 0, .slice none 0 0]) ?_ 0 _ rfl; (with_reducible repeat (first | refine blk_drewN ?_ _ | refine blk_drew ?_ | refine blk_alloc ?_ _)); exact BK101.out) Try.underlying79 rfl (by kernel_rfl)) rfl ?_
        exact ⟨_, by first | rfl | (simp [errW_none, errW_some] <;> rfl) | (simp [*, errW_none, errW_some] <;> rfl), by (with_reducible repeat (first | apply Kd.R_alloc | apply Kd.R_drewN | apply Kd.R_drew)); exact Kd.R_mono (Kd.R_far (p := ⟨gb101, 2, none⟩) (Kd.R_far (p := ⟨gb101, 1, none⟩) (Kd.R_far (p := ⟨gb101, 0, none⟩) (Kd.R_types HO_108002.out BK101.out (by decide)) (fun _ hk => hk.2) (.int .i64 t102)) (fun _ hk => hk.2) (.int .i64 t103)) (fun _ hk => hk.2) (.slice Ao21 x108002_1.length co21)) (fun _ hk => trivial), by repeat (first | (with_reducible first | exact HB.out | apply below_alloc | apply pw_below_drewN | apply below_drew1 | refine below_set ?_ GE101.out | refine below_set ?_ GE107.out) | exact HB.out)⟩

end Go.Proofs.Ytlhblnphfpijkaa.Q
end
section
namespace Go.Proofs.Ytlhblnphfpijkaa.LensK
set_option linter.unusedVariables false
open Go.RowKit Go.Proofs.Ytlhblnphfpijkaa.Q Go.Proofs.YtlhblnphfpijkaaW.PrintWords Go.Proofs.YtlhblnphfpijkaaW.PrintLast Go.Proofs.YtlhblnphfpijkaaW.PrintMore
open Go.Proofs.YtlhblnphfpijkaaL Go.Proofs.Ytlhblnphfpijkaa.LawK Go.Proofs.Ytlhblnphfpijkaa.BoardK
theorem evEq {α : Type} {g : Nat → Option α} {a b : α} (h : Ev g a) (e : a = b) : Ev g b := e ▸ h

/-- Do numbers rise from place i - 1 on? -/
def riseFrom (l : List Int) (i : Nat) : Bool := decide (∀ j, j < l.length - 1 → i ≤ j + 1 → l.getD j 0 ≤ l.getD (j + 1) 0)
/-- .. up to place i? -/
def riseTo (l : List Int) (i : Nat) : Bool := decide (∀ j, j < i → l.getD j 0 ≤ l.getD (j + 1) 0)
theorem spec_rise {l : List Int} (hl : l.length ≤ 6) : ∀ (d i : Nat), i + d = l.length → 1 ≤ i → Ev (fun k => spec_feGood.l0 k l i) (riseFrom l i)
  | 0, i, hi, h1 => by
    refine Ev.step (f := fun _ => some true) (fun k => ?_) (evEq (Ev.now _) (Eq.symm (decide_eq_true (fun j hj h => by omega))))
    rw [spec_feGood.l0, if_neg (by omega)]
  | d + 1, i, hi, h1 => by
    have e1 : wrap64 ((i : Int) + 1) = ((i + 1 : Nat) : Int) := by rw [w64 (by omega) (by omega)]; rfl
    have e2 : wrap64 ((i : Int) - 1) = ((i - 1 : Nat) : Int) := by rw [w64 (by omega) (by omega)]; omega
    have hstep : ∀ k, spec_feGood.l0 (k + 1) l i = if l.getD i 0 < l.getD (i - 1) 0 then some false else spec_feGood.l0 k l ((i + 1 : Nat) : Int) := by
      intro k
      rw [spec_feGood.l0, if_pos (by omega), if_pos (by omega), e2, if_pos (by omega), if_pos (by omega), e1, rd_nat, rd_nat]
    by_cases hc : l.getD i 0 < l.getD (i - 1) 0
    · refine Ev.step (f := fun _ => some false) (fun k => by rw [hstep, if_pos hc]) (evEq (Ev.now _) (Eq.symm (decide_eq_false (fun h => ?_))))
      have := h (i - 1) (by omega) (by omega)
      rw [show i - 1 + 1 = i by omega] at this
      omega
    · refine Ev.step (fun k => by rw [hstep, if_neg hc]) (evEq (spec_rise hl d (i + 1) (by omega) (by omega)) ?_)
      apply decide_eq_decide.2
      constructor
      · intro h j hj hij
        by_cases e : j + 1 = i
        · subst e; simp only [Nat.add_sub_cancel] at hc; omega
        · exact h j hj (by omega)
      · intro h j hj hij
        exact h j hj (by omega)
theorem less_f (a b : Int) : cmp_Less_int.f a b = some (decide (a < b)) := by
  unfold cmp_Less_int.f cmp_isNaN_int.f
  rw [Option.bind_some, if_neg (by simp)]
theorem impl_rise {l : List Int} (hl : l.length ≤ 6) : ∀ (i : Nat), i < l.length → Ev (fun k => slices_IsSorted_int_int.l0 k l i) (riseTo l i)
  | 0, hi => by
    refine Ev.step (f := fun _ => some true) (fun k => ?_) (evEq (Ev.now _) (Eq.symm (decide_eq_true (fun j hj => by omega))))
    rw [slices_IsSorted_int_int.l0, if_neg (by omega)]
  | i + 1, hi => by
    have e2 : wrap64 (((i + 1 : Nat) : Int) - 1) = ((i : Nat) : Int) := by rw [w64 (by omega) (by omega)]; omega
    have hstep : ∀ k, slices_IsSorted_int_int.l0 (k + 1) l ((i + 1 : Nat) : Int) = if l.getD (i + 1) 0 < l.getD i 0 then some false else slices_IsSorted_int_int.l0 k l (i : Int) := by
      intro k
      rw [slices_IsSorted_int_int.l0, if_pos (by omega), if_pos (by omega), if_pos (by omega), e2, if_pos (by omega), if_pos (by omega), less_f, Option.bind_some, rd_nat, rd_nat]
      by_cases hc : l.getD (i + 1) 0 < l.getD i 0
      · rw [if_pos (decide_eq_true hc), if_pos hc]
      · rw [if_neg (by simpa using hc), if_neg hc]
    by_cases hc : l.getD (i + 1) 0 < l.getD i 0
    · refine Ev.step (f := fun _ => some false) (fun k => by rw [hstep, if_pos hc]) (evEq (Ev.now _) (Eq.symm (decide_eq_false (fun h => ?_))))
      have := h i (by omega)
      omega
    · refine Ev.step (fun k => by rw [hstep, if_neg hc]) (evEq (impl_rise hl i (by omega)) ?_)
      apply decide_eq_decide.2
      constructor
      · intro h j hj
        by_cases e : j = i
        · subst e; omega
        · exact h j (by omega)
      · intro h j hj
        exact h j (by omega)
/-- Are numbers lengths? -/
def lenB (l : List Int) : Bool := inR 1 6 l.length && l.all (inR 0 l.length) && riseFrom l 1
theorem spec_good {l : List Int} (hl : l.length ≤ 1048576) : Ev (fun k => spec_feGood.f k l) (lenB l) := by
  unfold spec_feGood.f lenB
  by_cases h1 : inR 1 6 l.length = true
  · have h6 : 1 ≤ l.length ∧ l.length ≤ 6 := by unfold inR at h1; simp only [decide_eq_true_eq] at h1; omega
    refine Ev.congr (fun k => by rw [boSide_f, Option.bind_some, if_pos h1]) ?_
    refine Ev.bind (l1All 0 l.length (by omega)) ?_
    rw [h1, Bool.true_and]
    by_cases h2 : l.all (inR 0 l.length) = true
    · rw [h2, Bool.true_and]
      refine Ev.step (fun k => by rw [spec_feGood.j0, if_neg (by simp)]) ?_
      exact spec_rise h6.2 (l.length - 1) 1 (by omega) (by omega)
    · have h2f : l.all (inR 0 l.length) = false := by simpa using h2
      rw [h2f, Bool.false_and]
      refine Ev.step (fun k => by rw [spec_feGood.j0, if_pos (by simp)]) (Ev.now _)
  · have h1f : inR 1 6 l.length = false := by simpa using h1
    rw [h1f, Bool.false_and, Bool.false_and]
    refine Ev.step (fun k => by rw [boSide_f, Option.bind_some, if_neg h1, spec_feGood.j0, if_pos rfl]) (Ev.now _)
theorem rise_le {l : List Int} (h : riseFrom l 1 = true) : ∀ d i, i + d < l.length → l.getD i 0 ≤ l.getD (i + d) 0
  | 0, i, _ => Int.le_refl _
  | d + 1, i, hi => by
    have h1 := rise_le h d i (by omega)
    have h2 := of_decide_eq_true h (i + d) (by omega) (by omega)
    rw [show i + (d + 1) = i + d + 1 by omega]
    omega
theorem impl_good {l : List Int} (hl : l.length ≤ 1048576) : Ev (fun k => impl_AreLengths.f k l) (lenB l) := by
  unfold impl_AreLengths.f lenB
  by_cases h1 : inR 1 6 l.length = true
  · have h6 : 1 ≤ l.length ∧ l.length ≤ 6 := by unfold inR at h1; simp only [decide_eq_true_eq] at h1; omega
    have e0 : wrap64 ((l.length : Int) - 1) = ((l.length - 1 : Nat) : Int) := by rw [w64 (by omega) (by omega)]; omega
    refine Ev.congr (fun k => by rw [isSide_f, Option.bind_some, if_pos (show decide (1 ≤ (l.length : Int) ∧ (l.length : Int) ≤ 6) = true from h1)]) ?_
    rw [h1, Bool.true_and]
    have er : riseTo l (l.length - 1) = riseFrom l 1 := decide_eq_decide.2 ⟨fun h j hj _ => h j hj, fun h j hj => h j hj (by omega)⟩
    refine Ev.bind (a := riseFrom l 1) (by unfold slices_IsSorted_int_int.f; rw [e0, ← er]; exact impl_rise h6.2 (l.length - 1) (by omega)) ?_
    by_cases h2 : riseFrom l 1 = true
    · rw [h2, Bool.and_true]
      refine Ev.congr (fun k => by rw [if_pos rfl, if_pos (by omega), within_f, Option.bind_some, e0]) ?_
      have hall : l.all (inR 0 l.length) = (inR 0 l.length (l.getD 0 0) && inR 0 l.length (l.getD (l.length - 1) 0)) := by
        rw [Bool.eq_iff_iff, Bool.and_eq_true, List.all_eq_true]
        constructor
        · intro h
          rw [gD_lt _ _ (by omega), gD_lt _ _ (by omega)]
          exact ⟨h _ (List.getElem_mem _), h _ (List.getElem_mem _)⟩
        · rintro ⟨ha, hb⟩ x hx
          obtain ⟨i, hi, e⟩ := List.mem_iff_getElem.1 hx
          have q1 := rise_le h2 i 0 (by omega)
          have q2 := rise_le h2 (l.length - 1 - i) i (by omega)
          rw [show i + (l.length - 1 - i) = l.length - 1 by omega] at q2
          rw [Nat.zero_add, gD_lt l 0 hi, e] at q1
          rw [gD_lt l 0 hi, e] at q2
          unfold inR at ha hb ⊢
          simp only [decide_eq_true_eq] at ha hb ⊢
          omega
      rw [hall]
      have r0 : rd l 0 = l.getD 0 0 := rd_nat l 0
      by_cases h3 : inR 0 l.length (l.getD 0 0) = true
      · rw [h3, Bool.true_and]
        refine Ev.congr (fun k => by rw [r0, if_pos (show decide (0 ≤ l.getD 0 0 ∧ l.getD 0 0 ≤ (l.length : Int)) = true from h3), if_pos (by omega), if_pos (by omega), within_f, Option.bind_some, rd_nat]; rfl) (Ev.now _)
      · have h3f : inR 0 l.length (l.getD 0 0) = false := by simpa using h3
        rw [h3f, Bool.false_and]
        exact Ev.congr (fun k => by rw [r0, if_neg (show ¬ decide (0 ≤ l.getD 0 0 ∧ l.getD 0 0 ≤ (l.length : Int)) = true from h3)]) (Ev.now _)
    · have h2f : riseFrom l 1 = false := by simpa using h2
      rw [h2f, Bool.and_false]
      exact Ev.congr (fun k => by rw [if_neg (by simp)]) (Ev.now _)
  · have h1f : inR 1 6 l.length = false := by simpa using h1
    rw [h1f, Bool.false_and, Bool.false_and]
    exact Ev.congr (fun k => by rw [isSide_f, Option.bind_some, if_neg (show ¬ decide (1 ≤ (l.length : Int) ∧ (l.length : Int) ≤ 6) = true from h1)]) (Ev.now _)
/-- The rows of the board of lengths. -/
def rowsOf (l : List Int) : List Int := l.map fun m => 2 ^ m.toNat - 1
theorem len_of {l : List Int} (h : lenB l = true) : 1 ≤ l.length ∧ l.length ≤ 6 ∧ ∀ i (hi : i < l.length), 0 ≤ l[i] ∧ l[i] ≤ l.length := by
  unfold lenB at h
  simp only [Bool.and_eq_true, List.all_eq_true] at h
  obtain ⟨⟨h1, h2⟩, h3⟩ := h
  unfold inR at h1 h2
  simp only [decide_eq_true_eq] at h1 h2
  exact ⟨by omega, by omega, fun i hi => h2 _ (List.getElem_mem hi)⟩
def board0 (l : List Int) (i : Nat) : List Int := (rowsOf l).take i ++ List.replicate (l.length - i) 0
theorem board0_length (l : List Int) (i : Nat) (hi : i ≤ l.length) : (board0 l i).length = l.length := by simp [board0, rowsOf]; omega
theorem board0_set (l : List Int) (i : Nat) (hi : i < l.length) : (board0 l i).set i (2 ^ l[i].toNat - 1) = board0 l (i + 1) := by
  unfold board0
  have hr : (rowsOf l).length = l.length := by simp [rowsOf]
  have ht : ((rowsOf l).take i).length = i := by rw [List.length_take, hr]; omega
  have e1 : List.replicate (l.length - i) (0 : Int) = 0 :: List.replicate (l.length - (i + 1)) 0 := by rw [show l.length - i = (l.length - (i + 1)) + 1 by omega]; rfl
  rw [e1, List.set_append_right (h := by omega), ht, Nat.sub_self, List.set_cons_zero, List.take_add_one, List.append_assoc]
  congr 1
  simp [rowsOf, hi]
theorem mask_f {m : Int} (h0 : 0 ≤ m) (h6 : m ≤ 6) : wrap64 (shl .i64 1 m - 1) = 2 ^ m.toNat - 1 := by
  obtain ⟨n, rfl⟩ : ∃ n : Nat, m = n := ⟨m.toNat, by omega⟩
  have h4 : 2 ^ n ≤ 2 ^ 6 := Nat.pow_le_pow_right (by decide) (by omega)
  have h5 : 0 < 2 ^ n := Nat.two_pow_pos n
  rw [shl_one n (by omega), w64 (by omega) (by omega), Int.toNat_natCast]; simp
theorem impl_board {l : List Int} (h : lenB l = true) : Ev (fun k => impl_boardOf.f k l) ((l.length : Int), (l.length : Int), rowsOf l) := by
  obtain ⟨h1, h2, h3⟩ := len_of h
  have key : ∀ d i, i + d = l.length → Ev (fun k => impl_boardOf.l0 k l (l.length : Int) i (l.length : Int) (l.length : Int) (board0 l i)) ((l.length : Int), (l.length : Int), rowsOf l) := by
    intro d
    induction d with
    | zero =>
      intro i hi
      refine Ev.step (f := fun _ => some ((l.length : Int), (l.length : Int), board0 l i)) (fun k => ?_) (evEq (Ev.now _) (by rw [show i = l.length by omega]; unfold board0; rw [List.take_of_length_le (by simp [rowsOf])]; simp))
      rw [impl_boardOf.l0, if_neg (by omega)]
    | succ d ih =>
      intro i hi
      have hi2 : i < l.length := by omega
      have e1 : wrap64 ((i : Int) + 1) = ((i + 1 : Nat) : Int) := by rw [w64 (by omega) (by omega)]; rfl
      have := h3 i hi2
      refine Ev.step (fun k => ?_) (ih (i + 1) (by omega))
      rw [impl_boardOf.l0, if_pos (by omega), if_pos (by omega), if_pos (by omega), rd_lt _ _ hi2, if_pos this.1, if_pos (by rw [board0_length _ _ (by omega)]; omega), e1, mask_f this.1 (by omega), Int.toNat_natCast, board0_set _ _ hi2]
  unfold impl_boardOf.f impl_newBoard.f
  refine Ev.congr (fun k => ?_) (key l.length 0 (by omega))
  rw [if_pos (by omega), if_pos (by omega), Option.bind_some, Int.toNat_natCast]
  simp [board0]
theorem rows_in {l : List Int} (h : lenB l = true) : (rowsOf l).length = l.length ∧ ∀ i (hi : i < (rowsOf l).length), 0 ≤ (rowsOf l)[i] ∧ (rowsOf l)[i] < 64 := by
  obtain ⟨h1, h2, h3⟩ := len_of h
  refine ⟨by simp [rowsOf], fun i hi => ?_⟩
  have hi2 : i < l.length := by simpa [rowsOf] using hi
  have h4 := h3 i hi2
  have e : (rowsOf l)[i] = 2 ^ l[i].toNat - 1 := by simp [rowsOf]
  have h5 : 2 ^ l[i].toNat ≤ 2 ^ 6 := Nat.pow_le_pow_right (by decide) (by omega)
  have h6 : 0 < 2 ^ l[i].toNat := Nat.two_pow_pos _
  have h7 : ((2 ^ l[i].toNat : Nat) : Int) = 2 ^ l[i].toNat := by simp
  rw [e]
  omega

end Go.Proofs.Ytlhblnphfpijkaa.LensK
end
section
namespace Go.Proofs.Ytlhblnphfpijkaa.MatK
set_option linter.unusedVariables false
open Go.RowKit Go.Proofs.Ytlhblnphfpijkaa.Q Go.Proofs.YtlhblnphfpijkaaW.PrintWords Go.Proofs.YtlhblnphfpijkaaW.PrintLast Go.Proofs.YtlhblnphfpijkaaW.PrintMore
open Go.Proofs.YtlhblnphfpijkaaL Go.Proofs.Ytlhblnphfpijkaa.LawK Go.Proofs.Ytlhblnphfpijkaa.BoardK Go.Proofs.Ytlhblnphfpijkaa.RowsK
theorem evEq {α : Type} {g : Nat → Option α} {a b : α} (h : Ev g a) (e : a = b) : Ev g b := e ▸ h
theorem withinR (a b c : Int) : impl_within.f a b c = some (inR b c a) := by
  unfold impl_within.f inR
  by_cases h : b ≤ a
  · rw [if_pos h]; simp [h]
  · rw [if_neg h]; congr 1; exact (decide_eq_false (by omega)).symm
def sm : List Int → Int
  | [] => 0
  | x :: t => x + sm t
theorem sm_bd : ∀ (l : List Int), (∀ x ∈ l, 0 ≤ x ∧ x ≤ 6) → 0 ≤ sm l ∧ sm l ≤ 6 * l.length
  | [], _ => by simp [sm]
  | x :: t, h => by
    have h1 := sm_bd t (fun y hy => h y (List.mem_cons_of_mem _ hy))
    have h2 := h x List.mem_cons_self
    simp only [sm, List.length_cons]
    omega
theorem sum_l0 {l : List Int} (h6 : l.length ≤ 6) (hx : ∀ x ∈ l, 0 ≤ x ∧ x ≤ 6) : ∀ (d i : Nat) (a : Int), i + d = l.length → 0 ≤ a ∧ a ≤ 6 * i → Ev (fun k => impl_sum.l0 k a l (l.length : Int) i) (a + sm (l.drop i))
  | 0, i, a, hi, ha => by
    rw [List.drop_eq_nil_of_le (by omega), sm, Int.add_zero]
    exact Ev.step (f := fun _ => some a) (fun k => by rw [impl_sum.l0, if_neg (by omega)]) (Ev.now _)
  | d + 1, i, a, hi, ha => by
    have hi2 : i < l.length := by omega
    have hb := hx l[i] (List.getElem_mem hi2)
    have w1 : wrap64 ((i : Int) + 1) = ((i + 1 : Nat) : Int) := by rw [w64 (by omega) (by omega)]; rfl
    have w2 : wrap64 (a + l[i]) = a + l[i] := w64 (by omega) (by omega)
    have ih := sum_l0 h6 hx d (i + 1) (a + l[i]) (by omega) (by omega)
    rw [List.drop_eq_getElem_cons hi2, sm]
    exact Ev.step (fun k => by rw [impl_sum.l0, if_pos (by omega), if_pos (by omega), if_pos (by omega), rd_lt _ _ hi2, w2, w1]) (evEq ih (by omega))
theorem cells_l0 {l : List Int} (h6 : l.length ≤ 6) (hx : ∀ x ∈ l, 0 ≤ x ∧ x ≤ 6) : ∀ (d i : Nat) (a : Int), i + d = l.length → 0 ≤ a ∧ a ≤ 6 * i → Ev (fun k => spec_weCells.l0 k a l (l.length : Int) i) (a + sm (l.drop i))
  | 0, i, a, hi, ha => by
    rw [List.drop_eq_nil_of_le (by omega), sm, Int.add_zero]
    exact Ev.step (f := fun _ => some a) (fun k => by rw [spec_weCells.l0, if_neg (by omega)]) (Ev.now _)
  | d + 1, i, a, hi, ha => by
    have hi2 : i < l.length := by omega
    have hb := hx l[i] (List.getElem_mem hi2)
    have w1 : wrap64 ((i : Int) + 1) = ((i + 1 : Nat) : Int) := by rw [w64 (by omega) (by omega)]; rfl
    have w2 : wrap64 (a + l[i]) = a + l[i] := w64 (by omega) (by omega)
    have ih := cells_l0 h6 hx d (i + 1) (a + l[i]) (by omega) (by omega)
    rw [List.drop_eq_getElem_cons hi2, sm]
    exact Ev.step (fun k => by rw [spec_weCells.l0, if_pos (by omega), if_pos (by omega), if_pos (by omega), rd_lt _ _ hi2, w2, w1]) (evEq ih (by omega))
theorem sum_f {l : List Int} (h6 : l.length ≤ 6) (hx : ∀ x ∈ l, 0 ≤ x ∧ x ≤ 6) : Ev (fun k => impl_sum.f k l) (sm l) := by
  have := sum_l0 h6 hx l.length 0 0 (by omega) (by omega)
  rw [List.drop_zero, Int.zero_add] at this
  exact this
theorem cells_f {l : List Int} (h6 : l.length ≤ 6) (hx : ∀ x ∈ l, 0 ≤ x ∧ x ≤ 6) : Ev (fun k => spec_weCells.f k l) (sm l) := by
  have := cells_l0 h6 hx l.length 0 0 (by omega) (by omega)
  rw [List.drop_zero, Int.zero_add] at this
  exact this
/-! powers -/
def pw (q : Int) : Nat → Int
  | 0 => 1
  | n + 1 => pw q n * q
theorem pw_bd0 : ∀ n, n < 37 → (1 ≤ pw 2 n ∧ pw 2 n ≤ 1000000000000000000) ∧ (1 ≤ pw 3 n ∧ pw 3 n ≤ 1000000000000000000) := by decide +kernel
theorem pw_bd {q : Int} (hq : 2 ≤ q ∧ q ≤ 3) {n : Nat} (hn : n ≤ 36) : 1 ≤ pw q n ∧ pw q n ≤ 1000000000000000000 := by
  obtain rfl | rfl : q = 2 ∨ q = 3 := by omega
  · exact (pw_bd0 n (by omega)).1
  · exact (pw_bd0 n (by omega)).2
theorem pw_up {q : Int} (hq : 2 ≤ q ∧ q ≤ 3) (n : Nat) : ∀ e, n + e ≤ 36 → pw q n ≤ pw q (n + e)
  | 0, _ => Int.le_refl _
  | e + 1, h => by
    have h1 := pw_up hq n e (by omega)
    have h2 := pw_bd hq (n := n + e) (by omega)
    rw [← Nat.add_assoc, pw]
    obtain rfl | rfl : q = 2 ∨ q = 3 := by omega
    · omega
    · omega
theorem power_l0 {q : Int} (hq : 2 ≤ q ∧ q ≤ 3) : ∀ (d j : Nat), j + d ≤ 36 → Ev (fun k => spec_wePower.l0 k q (d : Int) (pw q j)) (pw q (j + d))
  | 0, j, h => Ev.step (f := fun _ => some (pw q j)) (fun k => by rw [spec_wePower.l0, if_neg (by simp)]) (Ev.now _)
  | d + 1, j, h => by
    have hb := pw_bd hq (n := j + 1) (by omega)
    have w1 : wrap64 (((d + 1 : Nat) : Int) - 1) = (d : Int) := by rw [w64 (by omega) (by omega)]; omega
    have w2 : wrap64 (pw q j * q) = pw q (j + 1) := w64 (by have := hb.1; rw [pw] at this; omega) (by have := hb.2; rw [pw] at this; omega)
    have ih := power_l0 hq d (j + 1) (by omega)
    exact Ev.step (fun k => by rw [spec_wePower.l0, if_pos (by omega), w1, w2]) (evEq ih (by congr 1; omega))
theorem power_f {q : Int} (hq : 2 ≤ q ∧ q ≤ 3) {S : Nat} (h : S ≤ 36) : Ev (fun k => spec_wePower.f k q (S : Int)) (pw q S) := by
  have := power_l0 hq S 0 (by omega)
  rw [Nat.zero_add] at this
  exact this
theorem mats_l0 {q : Int} (hq : 2 ≤ q ∧ q ≤ 3) {S : Nat} (hS : S ≤ 36) : ∀ (d j : Nat), j + d = S → pw q j ≤ 6561 → Ev (fun k => impl_matrices.l0 k q (pw q j) (S : Int) (j : Int)) (if pw q S ≤ 6561 then (pw q S, true) else (0, false))
  | 0, j, h, hj => by
    obtain rfl : j = S := by omega
    rw [if_pos hj]
    exact Ev.step (f := fun _ => some (pw q j, true)) (fun k => by rw [impl_matrices.l0, if_neg (by omega)]) (Ev.now _)
  | d + 1, j, h, hj => by
    have hb := pw_bd hq (n := j + 1) (by omega)
    have w1 : wrap64 ((j : Int) + 1) = ((j + 1 : Nat) : Int) := by rw [w64 (by omega) (by omega)]; rfl
    have w2 : wrap64 (pw q j * q) = pw q (j + 1) := w64 (by have := hb.1; rw [pw] at this; omega) (by have := hb.2; rw [pw] at this; omega)
    by_cases c : pw q (j + 1) > 6561
    · have := pw_up hq (j + 1) d (by omega)
      rw [show j + 1 + d = S by omega] at this
      rw [if_neg (by omega)]
      exact Ev.step (f := fun _ => some (0, false)) (fun k => by rw [impl_matrices.l0, if_pos (by omega), w2, if_pos c]) (Ev.now _)
    · have ih := mats_l0 hq hS d (j + 1) (by omega) (by omega)
      exact Ev.step (fun k => by rw [impl_matrices.l0, if_pos (by omega), w2, if_neg c, w1]) ih
/-! digits -/
def setD (q : Int) : Nat → Int → List Int → Nat → List Int × Int
  | 0, n, row, _ => (row, n)
  | j + 1, n, row, c => setD q j (Int.tdiv n q) (row.set c (Int.tmod n q)) (c + 1)
def matR (q : Int) (n : Nat) : List Int → Int → List (List Int)
  | [], _ => []
  | m :: t, num => (setD q m.toNat num (List.replicate n 0) 0).1 :: matR q n t (setD q m.toNat num (List.replicate n 0) 0).2
theorem setD_length (q : Int) : ∀ (d : Nat) (num : Int) (row : List Int) (c : Nat), (setD q d num row c).1.length = row.length
  | 0, _, _, _ => rfl
  | d + 1, num, row, c => by rw [setD, setD_length q d, List.length_set]
theorem td {q num : Int} (hq : 2 ≤ q ∧ q ≤ 3) (h : 0 ≤ num ∧ num ≤ 10000) : 0 ≤ Int.tdiv num q ∧ Int.tdiv num q ≤ 10000 := by
  rw [Int.tdiv_eq_ediv_of_nonneg h.1]
  obtain rfl | rfl : q = 2 ∨ q = 3 := by omega
  · omega
  · omega
theorem setD_num {q : Int} (hq : 2 ≤ q ∧ q ≤ 3) : ∀ (d : Nat) (num : Int) (row : List Int) (c : Nat), 0 ≤ num ∧ num ≤ 10000 → 0 ≤ (setD q d num row c).2 ∧ (setD q d num row c).2 ≤ 10000
  | 0, _, _, _, h => h
  | d + 1, num, row, c, h => by rw [setD]; exact setD_num hq d _ _ _ (td hq h)
theorem matR_length (q : Int) (n : Nat) : ∀ (t : List Int) (num : Int), (matR q n t num).length = t.length
  | [], _ => rfl
  | m :: t, num => by rw [matR, List.length_cons, List.length_cons, matR_length q n t]
theorem matR_row (q : Int) (n : Nat) : ∀ (t : List Int) (num : Int), ∀ x ∈ matR q n t num, x.length = n
  | [], _ => by intro x hx; simp [matR] at hx
  | m :: t, num => by
    intro x hx
    rw [matR, List.mem_cons] at hx
    rcases hx with rfl | hx
    · rw [setD_length, List.length_replicate]
    · exact matR_row q n t _ x hx
section
variable {l : List Int} {q : Int} (h6 : l.length ≤ 6) (hq : 2 ≤ q ∧ q ≤ 3) (hx : ∀ i (hi : i < l.length), 0 ≤ l[i] ∧ l[i] ≤ l.length)
include h6 hq
theorem imat_l1 {X : List (List Int)} (i : Nat) (hi : i < l.length) (acc : List (List Int)) (ha : acc.length ≤ 6) : ∀ (d c : Nat) (num : Int) (row : List Int), 0 ≤ num ∧ num ≤ 10000 → c + d ≤ row.length → row.length ≤ 6 →
    Ev (fun k => impl_matrix.l0 k l q (setD q d num row c).2 (acc ++ [(setD q d num row c).1]) l (l.length : Int) ((i + 1 : Nat) : Int)) X → Ev (fun k => impl_matrix.l1 k l q num acc row l (l.length : Int) i ((c + d : Nat) : Int) c) X
  | 0, c, num, row, hn, hc, h6r, hX => by
    have w1 : wrap64 ((i : Int) + 1) = ((i + 1 : Nat) : Int) := by rw [w64 (by omega) (by omega)]; rfl
    rw [setD] at hX
    exact Ev.step (fun k => by rw [impl_matrix.l1, if_neg (by simp), if_pos (by omega), w1]) hX
  | d + 1, c, num, row, hn, hc, h6r, hX => by
    have w1 : wrap64 ((c : Int) + 1) = ((c + 1 : Nat) : Int) := by rw [w64 (by omega) (by omega)]; rfl
    have hd := td hq hn
    have w2 : wrap64 (Int.tdiv num q) = Int.tdiv num q := w64 (by omega) (by omega)
    rw [setD] at hX
    have ih := imat_l1 i hi acc ha d (c + 1) (Int.tdiv num q) (row.set c (Int.tmod num q)) hd (by rw [List.length_set]; omega) (by rw [List.length_set]; exact h6r) hX
    rw [show c + 1 + d = c + (d + 1) by omega] at ih
    exact Ev.step (fun k => by rw [impl_matrix.l1, if_pos (by omega), if_neg (by omega), if_pos (by omega), if_pos (by omega), w2, w1, Int.toNat_natCast]) ih
theorem smat_l2 {X : List (List Int)} (i : Nat) (hi : i < l.length) : ∀ (d c : Nat) (num : Int) (rows : List (List Int)) (hr : i < rows.length), 0 ≤ num ∧ num ≤ 10000 → c + d ≤ rows[i].length → rows[i].length ≤ 6 →
    Ev (fun k => spec_weMatrix.l1 k q (setD q d num rows[i] c).2 (rows.set i (setD q d num rows[i] c).1) l (l.length : Int) ((i + 1 : Nat) : Int)) X → Ev (fun k => spec_weMatrix.l2 k q num rows i ((c + d : Nat) : Int) c l (l.length : Int) i) X
  | 0, c, num, rows, hr, hn, hc, h6r, hX => by
    have w1 : wrap64 ((i : Int) + 1) = ((i + 1 : Nat) : Int) := by rw [w64 (by omega) (by omega)]; rfl
    rw [setD, List.set_getElem_self] at hX
    exact Ev.step (fun k => by rw [spec_weMatrix.l2, if_neg (by simp), w1]) hX
  | d + 1, c, num, rows, hr, hn, hc, h6r, hX => by
    have w1 : wrap64 ((c : Int) + 1) = ((c + 1 : Nat) : Int) := by rw [w64 (by omega) (by omega)]; rfl
    have hd := td hq hn
    have w2 : wrap64 (Int.tdiv num q) = Int.tdiv num q := w64 (by omega) (by omega)
    rw [setD] at hX
    have e1 : (rows.set i (rows[i].set c (Int.tmod num q)))[i]'(by rw [List.length_set]; exact hr) = rows[i].set c (Int.tmod num q) := List.getElem_set_self _
    have ih := smat_l2 i hi d (c + 1) (Int.tdiv num q) (rows.set i (rows[i].set c (Int.tmod num q))) (by rw [List.length_set]; exact hr) hd (by rw [e1, List.length_set]; omega) (by rw [e1, List.length_set]; exact h6r) (by rw [e1, List.set_set]; exact hX)
    rw [show c + 1 + d = c + (d + 1) by omega] at ih
    exact Ev.step (fun k => by rw [spec_weMatrix.l2, if_pos (by omega), if_pos (by omega), if_pos (by omega), if_neg (by omega), if_pos (by omega), rdL hr, if_pos (by omega), w2, w1, Int.toNat_natCast, Int.toNat_natCast]) ih
include hx
theorem imat_l0 : ∀ (d i : Nat) (num : Int) (acc : List (List Int)), i + d = l.length → 0 ≤ num ∧ num ≤ 10000 → acc.length = i → Ev (fun k => impl_matrix.l0 k l q num acc l (l.length : Int) i) (acc ++ matR q l.length (l.drop i) num)
  | 0, i, num, acc, hi, hn, ha => by
    rw [List.drop_eq_nil_of_le (by omega), matR, List.append_nil]
    exact Ev.step (f := fun _ => some acc) (fun k => by rw [impl_matrix.l0, if_neg (by omega)]) (Ev.now _)
  | d + 1, i, num, acc, hi, hn, ha => by
    have hi2 : i < l.length := by omega
    obtain ⟨m, hm⟩ := Int.eq_ofNat_of_zero_le (hx i hi2).1
    have hm2 := (hx i hi2).2
    rw [List.drop_eq_getElem_cons hi2, matR]
    have ih := imat_l0 d (i + 1) (setD q m num (List.replicate l.length 0) 0).2 (acc ++ [(setD q m num (List.replicate l.length 0) 0).1]) (by omega) (setD_num hq _ _ _ _ hn) (by rw [List.length_append, ha]; rfl)
    have := imat_l1 h6 hq i hi2 acc (by omega) m 0 num (List.replicate l.length 0) hn (by rw [List.length_replicate]; omega) (by rw [List.length_replicate]; exact h6) ih
    rw [Nat.zero_add, ← hm] at this
    refine Ev.step (fun k => by rw [impl_matrix.l0, if_pos (by omega), if_pos (by omega), if_pos (by omega), if_pos (by omega), if_pos (by omega), rd_lt _ _ hi2, Int.toNat_natCast]; rfl) (evEq this ?_)
    rw [hm, List.append_assoc]
    rfl
theorem smat_l1 : ∀ (d i : Nat) (num : Int) (acc : List (List Int)), i + d = l.length → 0 ≤ num ∧ num ≤ 10000 → acc.length = i → Ev (fun k => spec_weMatrix.l1 k q num (acc ++ List.replicate d (List.replicate l.length 0)) l (l.length : Int) i) (acc ++ matR q l.length (l.drop i) num)
  | 0, i, num, acc, hi, hn, ha => by
    rw [List.drop_eq_nil_of_le (by omega), matR]
    exact Ev.step (f := fun _ => some (acc ++ [])) (fun k => by rw [spec_weMatrix.l1, if_neg (by omega)]; rfl) (Ev.now _)
  | d + 1, i, num, acc, hi, hn, ha => by
    have hi2 : i < l.length := by omega
    obtain ⟨m, hm⟩ := Int.eq_ofNat_of_zero_le (hx i hi2).1
    have hm2 := (hx i hi2).2
    rw [List.drop_eq_getElem_cons hi2, matR]
    have hr : i < (acc ++ List.replicate (d + 1) (List.replicate l.length (0 : Int))).length := by rw [List.length_append, List.length_replicate]; omega
    have e1 : (acc ++ List.replicate (d + 1) (List.replicate l.length (0 : Int)))[i] = List.replicate l.length 0 := by rw [List.getElem_append_right (by omega)]; exact List.getElem_replicate _
    have e2 : ∀ y, (acc ++ List.replicate (d + 1) (List.replicate l.length (0 : Int))).set i y = (acc ++ [y]) ++ List.replicate d (List.replicate l.length 0) := by
      intro y
      rw [List.set_append_right _ _ (by omega), ha, Nat.sub_self, List.replicate_succ, List.set_cons_zero, List.append_assoc]
      rfl
    have ih := smat_l1 d (i + 1) (setD q m num (List.replicate l.length 0) 0).2 (acc ++ [(setD q m num (List.replicate l.length 0) 0).1]) (by omega) (setD_num hq _ _ _ _ hn) (by rw [List.length_append, ha]; rfl)
    have := smat_l2 h6 hq (l := l) i hi2 m 0 num _ hr hn (by rw [e1, List.length_replicate]; omega) (by rw [e1, List.length_replicate]; exact h6) (by rw [e1, e2]; exact ih)
    rw [Nat.zero_add, ← hm] at this
    refine Ev.step (fun k => by rw [spec_weMatrix.l1, if_pos (by omega), if_pos (by omega), if_pos (by omega), rd_lt _ _ hi2]; rfl) (evEq this ?_)
    rw [hm, List.append_assoc]
    rfl
theorem smat_l0 {num : Int} (hn : 0 ≤ num ∧ num ≤ 10000) : ∀ (d j : Nat), j + d = l.length → Ev (fun k => spec_weMatrix.l0 k l q num (List.replicate j (List.replicate l.length 0)) (l.length : Int) j) (matR q l.length l num)
  | 0, j, h => by
    have := smat_l1 h6 hq hx l.length 0 num [] (by omega) hn rfl
    rw [List.nil_append, List.nil_append, List.drop_zero] at this
    obtain rfl : j = l.length := by omega
    exact Ev.step (fun k => by rw [spec_weMatrix.l0, if_neg (by omega)]; rfl) this
  | d + 1, j, h => by
    have w1 : wrap64 ((j : Int) + 1) = ((j + 1 : Nat) : Int) := by rw [w64 (by omega) (by omega)]; rfl
    have ih := smat_l0 hn d (j + 1) (by omega)
    rw [List.replicate_succ'] at ih
    exact Ev.step (fun k => by rw [spec_weMatrix.l0, if_pos (by omega), if_pos (by omega), if_pos (by omega), if_pos (by rw [List.length_replicate]; omega), Int.toNat_natCast, w1]) ih
theorem imat_f {num : Int} (hn : 0 ≤ num ∧ num ≤ 10000) : Ev (fun k => impl_matrix.f k l q num) (matR q l.length l num) := by
  have := imat_l0 h6 hq hx l.length 0 num [] (by omega) hn rfl
  rw [List.nil_append, List.drop_zero] at this
  exact this
theorem smat_f {num : Int} (hn : 0 ≤ num ∧ num ≤ 10000) : Ev (fun k => spec_weMatrix.f k l q num) (matR q l.length l num) := smat_l0 h6 hq hx hn l.length 0 (by omega)
end
end Go.Proofs.Ytlhblnphfpijkaa.MatK
end
section
namespace Go.Proofs.Ytlhblnphfpijkaa.Pure
set_option linter.unusedVariables false
set_option linter.unusedSectionVars false
open Go.RowKit Go.Proofs.Ytlhblnphfpijkaa.Q Go.Proofs.YtlhblnphfpijkaaW.PrintWords Go.Proofs.YtlhblnphfpijkaaW.PrintLast Go.Proofs.YtlhblnphfpijkaaW.PrintMore
open Go.Proofs.YtlhblnphfpijkaaL Go.Proofs.Ytlhblnphfpijkaa.LawK Go.Proofs.Ytlhblnphfpijkaa.BoardK Go.Proofs.Ytlhblnphfpijkaa.RowsK Go.Proofs.Ytlhblnphfpijkaa.LeadsK Go.Proofs.Ytlhblnphfpijkaa.RankK Go.Proofs.Ytlhblnphfpijkaa.Walk
namespace RCP
open Go.Proofs.Ytlhblnphfpijkaa.MatK (sm sm_bd sum_f cells_f pw pw_bd power_f mats_l0 matR matR_length matR_row setD imat_f smat_f td)
theorem setD_dig {q : Int} (hq : 2 ≤ q ∧ q ≤ 3) : ∀ (d : Nat) (num : Int) (row : List Int) (c : Nat), 0 ≤ num ∧ num ≤ 10000 → (∀ x ∈ row, 0 ≤ x ∧ x ≤ q - 1) → ∀ x ∈ (setD q d num row c).1, 0 ≤ x ∧ x ≤ q - 1
  | 0, _, _, _, _, h => h
  | d + 1, num, row, c, hn, h => by
    rw [setD]
    refine setD_dig hq d _ _ _ (td hq hn) (fun x hx => ?_)
    rcases List.mem_or_eq_of_mem_set hx with hx | rfl
    · exact h x hx
    · have := mod_in hq (a := num) hn.1
      omega
theorem matR_dig {q : Int} (hq : 2 ≤ q ∧ q ≤ 3) (n : Nat) : ∀ (t : List Int) (num : Int), 0 ≤ num ∧ num ≤ 10000 → ∀ row ∈ matR q n t num, ∀ x ∈ row, 0 ≤ x ∧ x ≤ q - 1
  | [], _, _ => by intro row hr; simp [matR] at hr
  | m :: t, num, hn => by
    intro row hr
    rw [matR, List.mem_cons] at hr
    rcases hr with rfl | hr
    · exact setD_dig hq _ _ _ _ hn (fun x hx => by rw [(List.mem_replicate.1 hx).2]; omega)
    · exact matR_dig hq n t _ (MatK.setD_num hq _ _ _ _ hn) row hr
theorem matR_rows {q : Int} (hq : 2 ≤ q ∧ q ≤ 3) {l : List Int} (h1 : 1 ≤ l.length) (h6 : l.length ≤ 6) {num : Int} (hn : 0 ≤ num ∧ num ≤ 10000) : areRowsB (matR q l.length l num) q = true := by
  have e0 := matR_length q l.length l num
  have h0 : (matR q l.length l num).getD 0 [] ∈ matR q l.length l num := by rw [gD_lt _ _ (by omega)]; exact List.getElem_mem _
  have e1 := matR_row q l.length l num _ h0
  unfold areRowsB
  rw [decide_eq_true hq, Bool.true_and, e0, decide_eq_true (show 1 ≤ (l.length : Int) ∧ (l.length : Int) ≤ 6 by omega), Bool.true_and, List.all_eq_true]
  intro x hx
  unfold rowOk
  have e2 := matR_row q l.length l num x hx
  rw [e1, e2, decide_eq_true (show 1 ≤ (l.length : Int) ∧ (l.length : Int) ≤ 6 by omega), decide_eq_true rfl, Bool.true_and, Bool.true_and, List.all_eq_true]
  exact fun y hy => decide_eq_true (matR_dig hq l.length l num hn x hx y hy)
def rk (q : Int) (l : List Int) (i : Int) : Nat := rooksN (leadsOf (matR q l.length l i) q)
/-- Counts of so many matrices' ranks. -/
def cnts (q : Int) (l : List Int) : Nat → Nat → List Int → List Int
  | 0, _, o => o
  | d + 1, i, o => cnts q l d (i + 1) (o.set (rk q l i) (wrap64 (o.getD (rk q l i) 0 + 1)))
theorem cnts_len (q : Int) (l : List Int) : ∀ d i o, (cnts q l d i o).length = o.length
  | 0, i, o => rfl
  | d + 1, i, o => by rw [cnts, cnts_len, List.length_set]
section
variable {l : List Int} {q : Int} (hq : 2 ≤ q ∧ q ≤ 3) (h1 : 1 ≤ l.length) (h6 : l.length ≤ 6) (hx : ∀ i (hi : i < l.length), 0 ≤ l[i] ∧ l[i] ≤ l.length) (hx6 : ∀ x ∈ l, 0 ≤ x ∧ x ≤ 6) {N : Nat} (hN : N ≤ 6561)
include hq h1 h6 hx hx6 hN
theorem rk_lt {i : Nat} (hi : i ≤ N) : rk q l i ≤ l.length := by
  have := rank_le (matR_rows hq h1 h6 (num := (i : Int)) (by omega))
  rw [matR_length] at this
  exact this
theorem impl_c : ∀ (d i : Nat) (o : List Int), i + d = N → o.length = l.length + 1 → Ev (fun k => impl_RankCountsPlain.l0 k l q o (N : Int) i) (cnts q l d i o, true)
  | 0, i, o, hi, ho => Ev.step (f := fun _ => some (o, true)) (fun k => by rw [impl_RankCountsPlain.l0, if_neg (by omega)]) (Ev.now _)
  | d + 1, i, o, hi, ho => by
    have w1 := Aside0.mk (show wrap64 ((i : Int) + 1) = ((i + 1 : Nat) : Int) by rw [w64 (by omega) (by omega)]; rfl)
    have hr := rk_lt hq h1 h6 hx hx6 hN (i := i) (by omega)
    rw [cnts]
    refine Ev.step (fun k => by rw [impl_RankCountsPlain.l0, if_pos (by omega)]) ?_
    refine Ev.bind (imat_f h6 hq hx (num := (i : Int)) (by omega)) ?_
    refine Ev.bind (impl_rank (matR_rows hq h1 h6 (num := (i : Int)) (by omega))) ?_
    have hrr : rooksN (leadsOf (matR q l.length l i) q) = rk q l i := rfl
    rw [hrr]
    refine Ev.congr (fun k => by rw [if_pos (by omega), if_pos (by omega), Int.toNat_natCast, rd_nat, w1.out]) ?_
    exact impl_c d (i + 1) _ (by omega) (by rw [List.length_set]; exact ho)
theorem spec_c {S : Nat} (hS : sm l = S) (hS6 : S ≤ 36) (hp : pw q S = N) : ∀ (d i : Nat) (o : List Int), i + d = N → o.length = l.length + 1 → Ev (fun k => spec_RankCountsPlain.l0 k l q o i) (cnts q l d i o, true)
  | d, i, o, hi, ho => by
    have cf := cells_f h6 hx6
    rw [hS] at cf
    have pf := power_f hq hS6
    rw [hp] at pf
    cases d with
    | zero =>
      refine Ev.step (fun k => by rw [spec_RankCountsPlain.l0]) (Ev.bind cf (Ev.bind pf ?_))
      exact Ev.congr (fun k => by rw [if_neg (by omega)]; rfl) (Ev.now _)
    | succ d =>
      have w1 := Aside0.mk (show wrap64 ((i : Int) + 1) = ((i + 1 : Nat) : Int) by rw [w64 (by omega) (by omega)]; rfl)
      have hr := rk_lt hq h1 h6 hx hx6 hN (i := i) (by omega)
      rw [cnts]
      refine Ev.step (fun k => by rw [spec_RankCountsPlain.l0]) (Ev.bind cf (Ev.bind pf ?_))
      refine Ev.congr (fun k => by rw [if_pos (by omega)]) ?_
      refine Ev.bind (smat_f h6 hq hx (num := (i : Int)) (by omega)) ?_
      refine Ev.bind (spec_rank (matR_rows hq h1 h6 (num := (i : Int)) (by omega))) ?_
      have hrr : rooksN (leadsOf (matR q l.length l i) q) = rk q l i := rfl
      rw [hrr]
      refine Ev.congr (fun k => by rw [if_pos (by omega), if_pos (by omega), Int.toNat_natCast, rd_nat, w1.out]) ?_
      exact spec_c hS hS6 hp d (i + 1) _ (by omega) (by rw [List.length_set]; exact ho)
end
def ans (l : List Int) (q : Int) : List Int × Bool := if LensK.lenB l = true then (if inR 2 3 q = true then (if pw q (sm l).toNat ≤ 6561 then (cnts q l (pw q (sm l).toNat).toNat 0 (List.replicate (l.length + 1) 0), true) else ([], false)) else ([], false)) else ([], false)
theorem ans_len (l : List Int) (q : Int) (hl : l.length ≤ 1048576) : (ans l q).1.length ≤ 2000000 := by
  unfold ans
  repeat' split
  all_goals first | (exact Nat.zero_le _) | (simp only []; rw [cnts_len, List.length_replicate]; omega)
theorem impl_a {l : List Int} (q : Int) (hl : l.length ≤ 1048576) : Ev (fun k => impl_RankCountsPlain.f k l q) (ans l q) := by
  unfold impl_RankCountsPlain.f ans
  have stop : ∀ n : Nat, impl_RankCountsPlain.j0 (n + 1) l q true = some ([], false) := fun n => by rw [impl_RankCountsPlain.j0, if_pos rfl]
  refine Ev.bind (LensK.impl_good hl) ?_
  by_cases h : LensK.lenB l = true
  · rw [if_pos h]
    refine Ev.congr (fun k => by rw [if_pos h, impl_isQ.f, withinR, Option.bind_some, Option.bind_some]) ?_
    by_cases h2 : inR 2 3 q = true
    · rw [if_pos h2, h2]
      have hq : 2 ≤ q ∧ q ≤ 3 := of_decide_eq_true h2
      obtain ⟨h1, h6, hx⟩ := LensK.len_of h
      have hx6 : ∀ x ∈ l, 0 ≤ x ∧ x ≤ 6 := fun x hm => by obtain ⟨i, hi, rfl⟩ := List.mem_iff_getElem.1 hm; have := hx i hi; omega
      have hs := sm_bd l hx6
      have hp := pw_bd hq (n := (sm l).toNat) (by omega)
      have e1 := Aside0.mk (show wrap64 ((l.length : Int) + 1) = ((l.length + 1 : Nat) : Int) by rw [w64 (by omega) (by omega)]; rfl)
      refine Ev.step (fun k => by rw [impl_RankCountsPlain.j0, if_neg (by simp)]) ?_
      have hm : Ev (fun k => impl_matrices.f k l q) (if pw q (sm l).toNat ≤ 6561 then (pw q (sm l).toNat, true) else (0, false)) := by
        unfold impl_matrices.f
        have := mats_l0 hq (S := (sm l).toNat) (by omega) (sm l).toNat 0 (by omega) (by rw [show pw q 0 = 1 from rfl]; omega)
        rw [Int.toNat_of_nonneg hs.1] at this
        exact Ev.bind (sum_f h6 hx6) this
      refine Ev.bind hm ?_
      by_cases c : pw q (sm l).toNat ≤ 6561
      · rw [if_pos c, if_pos c]
        obtain ⟨N, hN⟩ : ∃ N : Nat, pw q (sm l).toNat = N := ⟨(pw q (sm l).toNat).toNat, by omega⟩
        refine Ev.congr (fun k => by rw [if_pos rfl, e1.out, if_pos (by omega), Int.toNat_natCast, if_pos (by omega)]) ?_
        rw [hN, Int.toNat_natCast]
        exact impl_c hq h1 h6 hx hx6 (N := N) (by omega) N 0 _ (by omega) (by rw [List.length_replicate])
      · rw [if_neg c, if_neg c]
        exact Ev.congr (fun k => by rw [if_neg (by simp)]) (Ev.now _)
    · rw [if_neg h2, show inR 2 3 q = false by simpa using h2]
      exact Ev.step (fun n => by rw [show (!false) = true from rfl, stop]) (Ev.now _)
  · rw [if_neg h]
    exact Ev.congr (fun k => by rw [if_neg h]) (Ev.step (fun n => by rw [stop]) (Ev.now _))
theorem spec_a {l : List Int} (q : Int) (hl : l.length ≤ 1048576) : Ev (fun k => spec_RankCountsPlain.f k l q) (ans l q) := by
  unfold spec_RankCountsPlain.f ans
  have hw : Ev (fun k => spec_weFew.f k l q) (LensK.lenB l && (inR 2 3 q && decide (pw q (sm l).toNat ≤ 6561))) := by
    unfold spec_weFew.f
    refine Ev.bind (LensK.spec_good hl) ?_
    by_cases h : LensK.lenB l = true
    · rw [h, Bool.true_and]
      refine Ev.congr (fun k => by rw [if_pos rfl, spec_weBase.f, l1In_f, Option.bind_some, Option.bind_some]) ?_
      by_cases hq : inR 2 3 q = true
      · rw [hq, Bool.true_and]
        have hq2 : 2 ≤ q ∧ q ≤ 3 := of_decide_eq_true hq
        obtain ⟨h1, h6, hx⟩ := LensK.len_of h
        have hx6 : ∀ x ∈ l, 0 ≤ x ∧ x ≤ 6 := fun x hm => by obtain ⟨i, hi, rfl⟩ := List.mem_iff_getElem.1 hm; have := hx i hi; omega
        have hs := sm_bd l hx6
        refine Ev.congr (fun k => if_pos rfl) (Ev.bind (cells_f h6 hx6) ?_)
        have := power_f hq2 (S := (sm l).toNat) (by omega)
        rw [Int.toNat_of_nonneg hs.1] at this
        exact Ev.bind this (Ev.now _)
      · rw [show inR 2 3 q = false by simpa using hq, Bool.false_and]
        exact Ev.congr (fun k => if_neg (by simp)) (Ev.now _)
    · rw [show LensK.lenB l = false by simpa using h, Bool.false_and]
      exact Ev.congr (fun k => if_neg (by simp)) (Ev.now _)
  refine Ev.bind hw ?_
  by_cases h : LensK.lenB l = true
  · rw [h, if_pos rfl, Bool.true_and]
    by_cases h2 : inR 2 3 q = true
    · rw [h2, if_pos rfl, Bool.true_and]
      have hq : 2 ≤ q ∧ q ≤ 3 := of_decide_eq_true h2
      obtain ⟨h1, h6, hx⟩ := LensK.len_of h
      have hx6 : ∀ x ∈ l, 0 ≤ x ∧ x ≤ 6 := fun x hm => by obtain ⟨i, hi, rfl⟩ := List.mem_iff_getElem.1 hm; have := hx i hi; omega
      have hs := sm_bd l hx6
      have hp := pw_bd hq (n := (sm l).toNat) (by omega)
      have e1 := Aside0.mk (show wrap64 ((l.length : Int) + 1) = ((l.length + 1 : Nat) : Int) by rw [w64 (by omega) (by omega)]; rfl)
      by_cases c : pw q (sm l).toNat ≤ 6561
      · rw [if_pos c]
        obtain ⟨N, hN⟩ : ∃ N : Nat, pw q (sm l).toNat = N := ⟨(pw q (sm l).toNat).toNat, by omega⟩
        refine Ev.congr (fun k => by rw [if_pos (decide_eq_true c), e1.out, if_pos (by omega), Int.toNat_natCast, if_pos (by omega)]) ?_
        have := spec_c hq h1 h6 hx hx6 (N := N) (by omega) (S := (sm l).toNat) (by omega) (by omega) hN N 0 (List.replicate (l.length + 1) 0) (by omega) (by rw [List.length_replicate])
        rw [hN, Int.toNat_natCast]
        exact this
      · rw [if_neg c]
        exact Ev.congr (fun k => if_neg (by simpa using c)) (Ev.now _)
    · rw [show inR 2 3 q = false by simpa using h2, Bool.false_and, if_neg (by simp)]
      exact Ev.congr (fun k => if_neg (by simp)) (Ev.now _)
  · rw [show LensK.lenB l = false by simpa using h, Bool.false_and, if_neg (by simp)]
    exact Ev.congr (fun k => if_neg (by simp)) (Ev.now _)
end RCP
open RCP
theorem FnExactRankCountsPlain : laws_FnExactRankCountsPlain.Pure := by
  intro l a1 _ _ _ _
  unfold laws_FnExactRankCountsPlain.f
  refine ends ?_
  by_cases hlb : l.length ≤ 1048576
  · have hn := ans_len l a1 hlb
    have tl := toIntS hlb
    refine Ev.congr (fun k => by rw [if_neg (by omega)]) ?_
    refine Ev.bind tl (Ev.bind (spec_a a1 hlb) (Ev.bind tl (Ev.bind (impl_a a1 hlb) ?_)))
    refine Ev.bind (eqIntS (by (try simp only []); omega)) ?_
    refine Ev.congr (fun k => by rw [if_pos (by simp)]) ?_
    refine Ev.step (fun k => by rw [laws_FnExactRankCountsPlain.j0, if_neg (by simp)]) ?_
    refine Ev.bind tl (Ev.bind (eqIntS (by omega)) ?_)
    refine Ev.congr (fun k => by rw [if_pos (by simp)]) ?_
    refine Ev.bind (markIntS l (by omega) (by omega)) ?_
    refine Ev.congr (fun k => by rw [if_neg (by (try simp only []); omega)]) ?_
    refine Ev.bind (eqIntS (by (try simp only []); omega)) ?_
    refine Ev.congr (fun k => by rw [if_pos (by simp)]) ?_
    refine Ev.step (fun k => by rw [laws_FnExactRankCountsPlain.j1, if_neg (by simp)]) ?_
    refine Ev.bind (markIntS _ (by omega) (by (try simp only []); omega)) ?_
    refine Ev.bind (heldIntS _ (by omega) (by (try simp only []); omega)) ?_
    refine Ev.congr (fun k => by rw [if_neg (by omega), if_pos rfl]) ?_
    refine Ev.bind tl (Ev.bind (impl_a a1 hlb) ?_)
    refine Ev.bind (eqIntS (by (try simp only []); omega)) ?_
    refine Ev.congr (fun k => by rw [if_pos (by simp)]) ?_
    refine Ev.step (fun k => by rw [laws_FnExactRankCountsPlain.j2, if_neg (by simp)]) ?_
    refine Ev.bind (heldIntS _ (by omega) (by (try simp only []); omega)) ?_
    exact Ev.congr (fun k => by rw [if_neg (by omega), if_pos rfl]) (Ev.now _)
  · exact Ev.congr (fun k => by rw [if_pos (by omega)]) (Ev.now _)
end Go.Proofs.Ytlhblnphfpijkaa.Pure
end
