/- Texts of this claim put together (11): words, what the functions compute, and plain facts. No conditions. -/
import Derived.Test.YtgnmcfoenmfhcaaSFnExactLongerWay8
import Derived.Test.YtgnmcfoenmfhcaaSFnExactLongerWay4
import Derived.Test.YtgnmcfoenmfhcaaSFnExactLongerWay7
import Derived.Test.YtgnmcfoenmfhcaaSFnExactLongerWay5
import Derived.Test.YtgnmcfoenmfhcaaSFnExactLongerWay9
import Derived.Test.YtgnmcfoenmfhcaaSFnExactLongerWay6
import Derived.Test.YtgnmcfoenmfhcaaSFnExactLongerWay10
section
namespace Go.Proofs.Ytgnmcfoenmfhcaa.MostK
set_option linter.unusedVariables false
open Go.RowKit Go.Proofs.Ytgnmcfoenmfhcaa.Q Go.Proofs.YtgnmcfoenmfhcaaW.PrintWords Go.Proofs.YtgnmcfoenmfhcaaW.PrintLast Go.Proofs.YtgnmcfoenmfhcaaW.PrintMore
open Go.Proofs.YtgnmcfoenmfhcaaL Go.Proofs.Ytgnmcfoenmfhcaa.LawK Go.Proofs.Ytgnmcfoenmfhcaa.BoardK Go.Proofs.Ytgnmcfoenmfhcaa.LinesK Go.Proofs.Ytgnmcfoenmfhcaa.Walk Go.Proofs.Ytgnmcfoenmfhcaa.NumK
theorem nums_fold (m : Nat) : ∀ (vis : List (List Int)) (out : List Int) (f : Nat → Nat), out.length = m → (∀ n, n < m → out[n]? = some ((f n : Nat) : Int)) → (∀ p ∈ vis, rooksN p < m) → (∀ n, f n + vis.length ≤ 4611686018427387904) →
    (vis.foldl (fun o p => o.set ((rooksN p : Nat) : Int).toNat (IntKind.i64.wrap (rdOf 0 o ((rooksN p : Nat) : Int) + 1))) out).length = m ∧ ∀ n, n < m → (vis.foldl (fun o p => o.set ((rooksN p : Nat) : Int).toNat (IntKind.i64.wrap (rdOf 0 o ((rooksN p : Nat) : Int) + 1))) out)[n]? = some ((f n + vis.countP (fun p => rooksN p == n) : Nat) : Int)
  | [], out, f, h1, h2, _, _ => ⟨h1, fun n hn => by rw [List.foldl_nil, h2 n hn]; simp⟩
  | p :: t, out, f, h1, h2, h3, h4 => by
    have hp := h3 p (by simp)
    have e : rdOf 0 out ((rooksN p : Nat) : Int) = ((f (rooksN p) : Nat) : Int) := by
      unfold rdOf
      rw [Int.toNat_natCast, List.getD_eq_getElem?_getD, h2 _ hp]
      rfl
    have h5 := h4 (rooksN p)
    rw [List.length_cons] at h5
    have ew : IntKind.i64.wrap (((f (rooksN p) : Nat) : Int) + 1) = ((f (rooksN p) + 1 : Nat) : Int) := by rw [wrap_i64', w64 (by omega) (by omega)]; rfl
    rw [List.foldl_cons, e, ew, Int.toNat_natCast]
    obtain ⟨g1, g2⟩ := nums_fold m t (out.set (rooksN p) ((f (rooksN p) + 1 : Nat) : Int)) (fun n => f n + if rooksN p = n then 1 else 0) (by rw [List.length_set]; exact h1) (fun n hn => by
      rw [List.getElem?_set]
      by_cases c : rooksN p = n
      · subst c
        rw [if_pos rfl, if_pos (by omega), if_pos rfl]
      · rw [if_neg c, if_neg c, h2 n hn]; rfl) (fun q hq => h3 q (by simp [hq])) (fun n => by
      have := h4 n
      rw [List.length_cons] at this
      split <;> omega)
    refine ⟨g1, fun n hn => ?_⟩
    rw [g2 n hn, List.countP_cons]
    congr 2
    by_cases c : rooksN p = n
    · rw [if_pos c, if_pos (by simpa using c)]; omega
    · rw [if_neg c, if_neg (by simpa using c)]; omega
theorem nums_get {m : Nat} {vis : List (List Int)} (h3 : ∀ p ∈ vis, rooksN p < m) (h4 : vis.length ≤ 4611686018427387904) : (numsF m vis).length = m ∧ ∀ n, n < m → (numsF m vis)[n]? = some ((vis.countP (fun p => rooksN p == n) : Nat) : Int) := by
  have h := nums_fold m vis (List.replicate m 0) (fun _ => 0) (by simp) (fun n hn => by rw [List.getElem?_replicate, if_pos hn]; rfl) h3 (fun n => by omega)
  simp only [Nat.zero_add] at h
  exact h
theorem trimmed {j : Nat} : ∀ (d : Nat) (xs : List Int), xs.length = j + 1 + d → xs.length ≤ 1048576 → (∀ (h : j < xs.length), xs[j] ≠ 0) → (∀ n (h : n < xs.length), j < n → xs[n] = 0) → Ev (fun k => impl_trimmed.l0 k xs) (xs.take (j + 1))
  | 0, xs, hl, h6, h1, h2 => by
    have w1 := Aside0.mk (show wrap64 ((xs.length : Int) - 1) = ((j : Nat) : Int) from by rw [w64 (by omega) (by omega)]; omega)
    refine Ev.step (f := fun _ => some xs) (fun k => ?_) (evEq (Ev.now _) (by rw [List.take_of_length_le (by omega)]))
    rw [impl_trimmed.l0, if_pos (by omega), w1.out, if_pos (by omega), if_pos (by omega), rd_lt _ _ (show j < xs.length by omega), if_neg (h1 (by omega))]
  | d + 1, xs, hl, h6, h1, h2 => by
    have w1 := Aside0.mk (show wrap64 ((xs.length : Int) - 1) = ((j + 1 + d : Nat) : Int) from by rw [w64 (by omega) (by omega)]; omega)
    have hlen : (xs.take (j + 1 + d)).length = j + 1 + d := by rw [List.length_take]; omega
    have ih := trimmed d (xs.take (j + 1 + d)) hlen (by omega) (fun h => by rw [List.getElem_take]; exact h1 (by omega)) (fun n h hj => by rw [List.getElem_take]; exact h2 n (by omega) hj)
    rw [List.take_take, Nat.min_eq_left (by omega)] at ih
    refine Ev.step (fun k => ?_) ih
    rw [impl_trimmed.l0, if_pos (by omega), w1.out, if_pos (by omega), if_pos (by omega), rd_lt _ _ (show j + 1 + d < xs.length by omega), if_pos (h2 _ _ (by omega)), if_pos (by omega), Int.toNat_natCast]
theorem most {l : List Int} {R C : Nat} (hb : isBoardB R C l = true) : Ev (fun k => impl_Board_most.f k R C l) ((mostN l C R 0 0 : Nat) : Int) := by
  obtain ⟨R', C', e1, e2, hlR, h1R, hR, h1C, hC, hbits⟩ := board_of hb
  have e1 : R' = R := by omega
  have e2 : C' = C := by omega
  subst e1 e2
  obtain ⟨M, hM⟩ : ∃ M, M = mostN l C' R' 0 0 := ⟨_, rfl⟩
  have hmr := mostN_le l C' R' 0 0
  have hmc := most_cols hlR hR hC hbits
  obtain ⟨m, hm⟩ : ∃ m, m = (min (R' : Int) (C' : Int) + 1).toNat := ⟨_, rfl⟩
  obtain ⟨vis, hvis⟩ : ∃ vis, vis = waysFrom l C' R' 0 0 [] := ⟨_, rfl⟩
  have hlt : ∀ p ∈ vis, rooksN p < m := fun p hp => by
    rw [hvis] at hp
    have := ways_le hlR hR hC hbits p hp
    omega
  have hvl : vis.length ≤ 4611686018427387904 := by
    have h1 := ways_len l C' R' 0 0 []
    rw [← hvis] at h1
    have h2 : (C' + 1) ^ R' ≤ 7 ^ 6 := Nat.le_trans (Nat.pow_le_pow_left (by omega) _) (Nat.pow_le_pow_right (by decide) hR)
    have h3 : (7 : Nat) ^ 6 = 117649 := by decide
    omega
  obtain ⟨hnl, hng⟩ := nums_get hlt hvl
  obtain ⟨hup, q, hq, hqe⟩ := ways_most l C' R' 0 0 []
  rw [← hvis] at hup hq
  have h0 : rooksN [] = 0 := rfl
  unfold impl_Board_most.f
  refine Ev.congr (fun k => by rw [impl_Board_numbers.f, if_pos hb, Option.bind_some, Int.toNat_natCast, hlR, ← hm, ← hvis]) ?_
  have hMm : M < m := by omega
  have htr := trimmed (j := M) (m - (M + 1)) (numsF m vis) (by omega) (by omega) (fun h => by
    have h2 := hng M hMm
    rw [List.getElem?_eq_getElem h] at h2
    rw [Option.some.inj h2]
    have : 0 < vis.countP (fun p => rooksN p == M) := List.countP_pos_iff.2 ⟨q, hq, by simp; omega⟩
    omega) (fun n h hj => by
    have h2 := hng n (by omega)
    rw [List.getElem?_eq_getElem h] at h2
    rw [Option.some.inj h2]
    have : vis.countP (fun p => rooksN p == n) = 0 := by
      rw [List.countP_eq_zero]
      intro p hp
      have := hup p hp
      simp
      omega
    omega)
  refine Ev.bind (show Ev (fun k => impl_trimmed.f k (numsF m vis)) _ from htr) ?_
  refine evEq (Ev.now (wrap64 ((((numsF m vis).take (M + 1)).length : Int) - 1))) ?_
  rw [List.length_take, hnl, Nat.min_eq_left (by omega), w64 (by omega) (by omega), ← hM]
  omega
end Go.Proofs.Ytgnmcfoenmfhcaa.MostK
end
section
namespace Go.Proofs.Ytgnmcfoenmfhcaa.Q
open Go.RowKit Go.Proofs.YtgnmcfoenmfhcaaW.PrintWords Go.Proofs.YtgnmcfoenmfhcaaW.PrintLast Go.Proofs.YtgnmcfoenmfhcaaW.PrintMore
attribute [local go_sem] max2_int min2_int max_two min_two max_three min_three max_four min_four   -- for this text's walks alone
set_option linter.unusedVariables false
set_option linter.unusedSimpArgs false
end Go.Proofs.Ytgnmcfoenmfhcaa.Q
end
section
namespace Go.Proofs.Ytgnmcfoenmfhcaa.PlaceK
set_option linter.unusedVariables false
open Go.RowKit Go.Proofs.Ytgnmcfoenmfhcaa.Q Go.Proofs.YtgnmcfoenmfhcaaW.PrintWords Go.Proofs.YtgnmcfoenmfhcaaW.PrintLast Go.Proofs.YtgnmcfoenmfhcaaW.PrintMore
open Go.Proofs.YtgnmcfoenmfhcaaL Go.Proofs.Ytgnmcfoenmfhcaa.LawK Go.Proofs.Ytgnmcfoenmfhcaa.BoardK Go.Proofs.Ytgnmcfoenmfhcaa.PermK
theorem evEq {α : Type} {g : Nat → Option α} {a b : α} (h : Ev g a) (e : a = b) : Ev g b := e ▸ h
theorem withinR (a b c : Int) : impl_within.f a b c = some (inR b c a) := by
  unfold impl_within.f inR
  by_cases h : b ≤ a
  · rw [if_pos h]; simp [h]
  · rw [if_neg h]; congr 1; exact (decide_eq_false (by omega)).symm
theorem place_f {R C : Nat} (l : List Int) (hR : R ≤ 6) (hC : C ≤ 6) (r c : Int) : impl_Board_place.f R C l r c = some (inR 0 ((R : Int) - 1) r && inR 0 ((C : Int) - 1) c) := by
  unfold impl_Board_place.f
  rw [withinR, Option.bind_some, w64 (by omega) (by omega), w64 (by omega) (by omega), withinR]
  cases inR 0 ((R : Int) - 1) r <;> rfl
def placeI (l : List Int) (C : Nat) : List Int → Nat → List Int → Bool
  | [], _, _ => true
  | x :: t, i, pre => (decide (x = -1) || (inR 0 ((C : Int) - 1) x && (cell l i x.toNat && !decide (x ∈ pre)))) && placeI l C t (i + 1) (pre ++ [x])
def placeB (l : List Int) (C : Nat) (p : List Int) : Bool := decide (p.length = l.length) && placeI l C p 0 []
theorem isPlacement_l0 {l p : List Int} {R C : Nat} (hlR : l.length = R) (hR : R ≤ 6) (hC : C ≤ 6) (hb : ∀ i (hi : i < l.length), 0 ≤ l[i] ∧ l[i] < 64) (hp : p.length = R) : ∀ (d i : Nat), i + d = p.length →
    Ev (fun k => impl_Board_isPlacement.l0 k p p (p.length : Int) i R C l) (placeI l C (p.drop i) i (p.take i))
  | 0, i, hi => by
    refine Ev.step (f := fun _ => some true) (fun k => ?_) (evEq (Ev.now _) (by rw [List.drop_eq_nil_of_le (by omega)]; rfl))
    rw [impl_Board_isPlacement.l0, if_neg (by omega)]
  | d + 1, i, hi => by
    have w1 : wrap64 ((i : Int) + 1) = ((i + 1 : Nat) : Int) := by rw [w64 (by omega) (by omega)]; rfl
    have hi2 : i < p.length := by omega
    have ih := isPlacement_l0 hlR hR hC hb hp d (i + 1) (by omega)
    rw [List.drop_eq_getElem_cons hi2, placeI]
    rw [List.take_add_one, List.getElem?_eq_getElem hi2, Option.toList_some] at ih
    by_cases c1 : p[i] = -1
    · rw [decide_eq_true c1, Bool.true_or, Bool.true_and]
      refine Ev.step (fun k => ?_) ih
      rw [impl_Board_isPlacement.l0, if_pos (by omega), if_pos (by omega), if_pos (by omega), rd_lt _ _ hi2, if_pos c1, w1]
    · rw [decide_eq_false c1, Bool.false_or]
      by_cases c2 : inR 0 ((C : Int) - 1) p[i] = true
      · have c2' : 0 ≤ p[i] ∧ p[i] ≤ (C : Int) - 1 := of_decide_eq_true c2
        obtain ⟨y, hy⟩ : ∃ y : Nat, p[i] = y := ⟨p[i].toNat, by omega⟩
        have c3 : inR 0 ((R : Int) - 1) (i : Int) = true := decide_eq_true (by omega)
        rw [c2, Bool.true_and]
        refine Ev.step (f := fun k => if cell l i y = true then (if (i : Int) ≤ (p.length : Int) then (slices_Contains_int_int.f k (p.take i) p[i]).bind fun t => if t = true then some false else impl_Board_isPlacement.l0 k p p (p.length : Int) ((i + 1 : Nat) : Int) R C l else none) else some false) (fun k => ?_) ?_
        · rw [impl_Board_isPlacement.l0, if_pos (by omega), if_pos (by omega), if_pos (by omega), rd_lt _ _ hi2, if_neg c1, place_f l hR hC, Option.bind_some, if_pos (by rw [c3, c2]; rfl), hy, has_f (R : Int) (C : Int) (show i < l.length by omega) (hb i (by omega)).1 (hb i (by omega)).2 (by omega), Option.bind_some, Int.toNat_natCast, w1]
        · rw [hy, Int.toNat_natCast]
          rw [hy] at ih
          by_cases c4 : cell l i y = true
          · refine Ev.congr (fun k => by rw [if_pos c4, if_pos (by omega)]) ?_
            rw [c4, Bool.true_and]
            refine Ev.bind (contains _ (by rw [List.length_take]; omega)) ?_
            by_cases c5 : (y : Int) ∈ p.take i
            · rw [decide_eq_true c5]
              exact Ev.congr (fun k => if_pos rfl) (Ev.now _)
            · rw [decide_eq_false c5, Bool.not_false, Bool.true_and]
              exact Ev.congr (fun k => if_neg (by simp)) ih
          · rw [show cell l i y = false by simpa using c4, Bool.false_and, Bool.false_and]
            exact Ev.congr (fun k => if_neg (by simp)) (Ev.now _)
      · rw [show inR 0 ((C : Int) - 1) p[i] = false by simpa using c2, Bool.false_and, Bool.false_and]
        refine Ev.step (f := fun _ => some false) (fun k => ?_) (Ev.now _)
        rw [impl_Board_isPlacement.l0, if_pos (by omega), if_pos (by omega), if_pos (by omega), rd_lt _ _ hi2, if_neg c1, place_f l hR hC, Option.bind_some, if_neg (by rw [show inR 0 ((C : Int) - 1) p[i] = false by simpa using c2, Bool.and_false]; simp)]
theorem isPlacement {l : List Int} {R C : Nat} (hlR : l.length = R) (hR : R ≤ 6) (hC : C ≤ 6) (hb : ∀ i (hi : i < l.length), 0 ≤ l[i] ∧ l[i] < 64) (p : List Int) : Ev (fun k => impl_Board_isPlacement.f k R C l p) (placeB l C p) := by
  unfold impl_Board_isPlacement.f placeB
  by_cases h : p.length = R
  · refine Ev.congr (fun k => if_pos (by omega)) ?_
    rw [decide_eq_true (by omega), Bool.true_and]
    have := isPlacement_l0 hlR hR hC hb h p.length 0 (by omega)
    rw [List.drop_zero, List.take_zero] at this
    exact this
  · rw [decide_eq_false (by omega), Bool.false_and]
    exact Ev.congr (fun k => if_neg (by omega)) (Ev.now _)
def placeS (l : List Int) : List Int → Nat → List Int → Bool
  | [], _, _ => true
  | x :: t, i, pre => (decide (x < 0) || (cell l i x.toNat && !decide (x ∈ pre))) && placeS l t (i + 1) (pre ++ [x])
theorem placeS_placeI (l : List Int) (C : Nat) : ∀ (t : List Int) (i : Nat) (pre : List Int), (t.all (inR (-1) ((C : Int) - 1)) && placeS l t i pre) = placeI l C t i pre
  | [], _, _ => rfl
  | x :: t, i, pre => by
    have ih := placeS_placeI l C t (i + 1) (pre ++ [x])
    rw [List.all_cons, placeS, placeI, ← ih]
    by_cases h1 : x = -1
    · rw [decide_eq_true h1, decide_eq_true (show x < 0 by omega)]
      by_cases h2 : (C : Int) - 1 < -1
      · omega
      · rw [show inR (-1) ((C : Int) - 1) x = true from decide_eq_true (by omega)]; simp
    · rw [decide_eq_false h1, Bool.false_or]
      by_cases h2 : 0 ≤ x ∧ x ≤ (C : Int) - 1
      · rw [show inR 0 ((C : Int) - 1) x = true from decide_eq_true h2, show inR (-1) ((C : Int) - 1) x = true from decide_eq_true (by omega), decide_eq_false (show ¬ x < 0 by omega), Bool.false_or, Bool.true_and, Bool.true_and]
        cases t.all (inR (-1) ((C : Int) - 1)) <;> cases (cell l i x.toNat && !decide (x ∈ pre)) <;> rfl
      · rw [show inR 0 ((C : Int) - 1) x = false from decide_eq_false h2, show inR (-1) ((C : Int) - 1) x = false from decide_eq_false (by omega)]; rfl
theorem lcGood_l0 {l p : List Int} {R C : Nat} (hlR : l.length = R) (hR : R ≤ 6) (hb : ∀ i (hi : i < l.length), 0 ≤ l[i] ∧ l[i] < 64) (hp : p.length = R) (hall : ∀ x ∈ p, x ≤ 64) : ∀ (d i : Nat), i + d = p.length →
    Ev (fun k => spec_lcGood.l0 k p p (p.length : Int) i R C l) (placeS l (p.drop i) i (p.take i))
  | 0, i, hi => by
    refine Ev.step (f := fun _ => some true) (fun k => ?_) (evEq (Ev.now _) (by rw [List.drop_eq_nil_of_le (by omega)]; rfl))
    rw [spec_lcGood.l0, if_neg (by omega)]
  | d + 1, i, hi => by
    have w1 : wrap64 ((i : Int) + 1) = ((i + 1 : Nat) : Int) := by rw [w64 (by omega) (by omega)]; rfl
    have hi2 : i < p.length := by omega
    have ih := lcGood_l0 (C := C) hlR hR hb hp hall d (i + 1) (by omega)
    have hx := hall p[i] (List.getElem_mem hi2)
    rw [List.drop_eq_getElem_cons hi2, placeS]
    rw [List.take_add_one, List.getElem?_eq_getElem hi2, Option.toList_some] at ih
    by_cases c1 : p[i] < 0
    · rw [decide_eq_true c1, Bool.true_or, Bool.true_and]
      refine Ev.step (fun k => ?_) ih
      rw [spec_lcGood.l0, if_pos (by omega), if_pos (by omega), if_pos (by omega), rd_lt _ _ hi2, if_neg (by omega), w1]
    · rw [decide_eq_false c1, Bool.false_or]
      obtain ⟨y, hy⟩ : ∃ y : Nat, p[i] = y := ⟨p[i].toNat, by omega⟩
      refine Ev.step (f := fun k => if cell l i y = true then (if (i : Int) ≤ (p.length : Int) then (spec_l1Has.f k (p.take i) p[i]).bind fun t => if t = true then some false else spec_lcGood.l0 k p p (p.length : Int) ((i + 1 : Nat) : Int) R C l else none) else some false) (fun k => ?_) ?_
      · rw [spec_lcGood.l0, if_pos (by omega), if_pos (by omega), if_pos (by omega), rd_lt _ _ hi2, if_pos (by omega), hy, boHas_f (R : Int) (C : Int) (show i < l.length by omega) (hb i (by omega)).1 (hb i (by omega)).2 (by omega), Option.bind_some, Int.toNat_natCast, w1]
      · rw [hy, Int.toNat_natCast]
        rw [hy] at ih
        by_cases c4 : cell l i y = true
        · refine Ev.congr (fun k => by rw [if_pos c4, if_pos (by omega)]) ?_
          rw [c4, Bool.true_and]
          refine Ev.bind (l1Has _ (by rw [List.length_take]; omega)) ?_
          by_cases c5 : (y : Int) ∈ p.take i
          · rw [decide_eq_true c5]
            exact Ev.congr (fun k => if_pos rfl) (Ev.now _)
          · rw [decide_eq_false c5, Bool.not_false, Bool.true_and]
            exact Ev.congr (fun k => if_neg (by simp)) ih
        · rw [show cell l i y = false by simpa using c4, Bool.false_and, Bool.false_and]
          exact Ev.congr (fun k => if_neg (by simp)) (Ev.now _)
theorem lcGood {l : List Int} {R C : Nat} (hlR : l.length = R) (hR : R ≤ 6) (hC : C ≤ 6) (hb : ∀ i (hi : i < l.length), 0 ≤ l[i] ∧ l[i] < 64) (p : List Int) : Ev (fun k => spec_lcGood.f k R C l p) (placeB l C p) := by
  unfold spec_lcGood.f placeB
  by_cases h : p.length = R
  · refine Ev.congr (fun k => if_pos (by omega)) ?_
    rw [decide_eq_true (by omega), Bool.true_and, w64 (by omega) (by omega)]
    refine Ev.bind (l1All _ _ (by omega)) ?_
    rw [← placeS_placeI]
    by_cases c : p.all (inR (-1) ((C : Int) - 1)) = true
    · rw [c, Bool.true_and]
      have := lcGood_l0 (C := C) hlR hR hb h (fun x hx => by have := List.all_eq_true.1 c x hx; have := of_decide_eq_true this; omega) p.length 0 (by omega)
      rw [List.drop_zero, List.take_zero] at this
      exact Ev.step (fun k => by rw [spec_lcGood.j0, if_neg (by simp)]; rfl) this
    · rw [show p.all (inR (-1) ((C : Int) - 1)) = false by simpa using c, Bool.false_and]
      exact Ev.step (f := fun _ => some false) (fun k => by rw [spec_lcGood.j0, if_pos (by rfl)]) (Ev.now _)
  · rw [decide_eq_false (by omega), Bool.false_and]
    refine Ev.congr (fun k => if_neg (by omega)) ?_
    exact Ev.step (f := fun _ => some false) (fun k => by rw [spec_lcGood.j0, if_pos rfl]) (Ev.now _)
def rk (l : List Int) : Nat := l.countP (fun x => x != -1)
theorem rooks_l0 {l : List Int} (hl : l.length ≤ 1048576) : ∀ (d i n : Nat), i + d = l.length → n ≤ i → Ev (fun k => impl_rooks.l0 k n l (l.length : Int) i) ((n + rk (l.drop i) : Nat) : Int)
  | 0, i, n, hi, hn => by
    refine Ev.step (f := fun _ => some (n : Int)) (fun k => ?_) (evEq (Ev.now _) (by rw [List.drop_eq_nil_of_le (by omega)]; rfl))
    rw [impl_rooks.l0, if_neg (by omega)]
  | d + 1, i, n, hi, hn => by
    have h1 : wrap64 ((i : Int) + 1) = ((i + 1 : Nat) : Int) := by rw [w64 (by omega) (by omega)]; rfl
    have h2 : wrap64 ((n : Int) + 1) = ((n + 1 : Nat) : Int) := by rw [w64 (by omega) (by omega)]; rfl
    have hi2 : i < l.length := by omega
    rw [List.drop_eq_getElem_cons hi2, rk, List.countP_cons]
    by_cases hx : l[i] = -1
    · have ih := rooks_l0 hl d (i + 1) n (by omega) (by omega)
      rw [rk] at ih
      rw [if_neg (by simp [hx]), Nat.add_zero]
      refine Ev.step (fun k => ?_) ih
      rw [impl_rooks.l0, if_pos (by omega), if_pos (by omega), if_pos (by omega), rd_lt _ _ hi2, if_pos hx, h1]
    · have ih := rooks_l0 hl d (i + 1) (n + 1) (by omega) (by omega)
      rw [rk] at ih
      rw [if_pos (by simpa using hx)]
      rw [show n + (List.countP (fun x => x != -1) (List.drop (i + 1) l) + 1) = n + 1 + List.countP (fun x => x != -1) (List.drop (i + 1) l) by omega]
      refine Ev.step (fun k => ?_) ih
      rw [impl_rooks.l0, if_pos (by omega), if_pos (by omega), if_pos (by omega), rd_lt _ _ hi2, if_neg hx, h1, h2]
theorem rooks {l : List Int} (hl : l.length ≤ 1048576) : Ev (fun k => impl_rooks.f k l) (rk l : Int) := by
  have h := rooks_l0 hl l.length 0 0 (by omega) (by omega)
  rw [List.drop_zero, Nat.zero_add] at h
  exact h
theorem placeI_ge {l : List Int} {C : Nat} : ∀ (t : List Int) (i : Nat) (pre : List Int), placeI l C t i pre = true → ∀ x ∈ t, -1 ≤ x ∧ x < C
  | x :: t, i, pre, h, y, hy => by
    rw [placeI, Bool.and_eq_true, Bool.or_eq_true] at h
    rcases List.mem_cons.1 hy with rfl | hy
    · rcases h.1 with h1 | h1
      · have := of_decide_eq_true h1; omega
      · rw [Bool.and_eq_true] at h1
        have := of_decide_eq_true h1.1; omega
    · exact placeI_ge t _ _ h.2 y hy
theorem placeB_ge {l : List Int} {C : Nat} {p : List Int} (h : placeB l C p = true) : p.length = l.length ∧ ∀ x ∈ p, -1 ≤ x ∧ x < C := by
  unfold placeB at h
  rw [Bool.and_eq_true, decide_eq_true_eq] at h
  exact ⟨h.1, placeI_ge p 0 [] h.2⟩
end Go.Proofs.Ytgnmcfoenmfhcaa.PlaceK
end
section
namespace Go.Proofs.Ytgnmcfoenmfhcaa.LongK
set_option linter.unusedVariables false
set_option linter.unusedSectionVars false
open Go.RowKit Go.Proofs.Ytgnmcfoenmfhcaa.Q Go.Proofs.YtgnmcfoenmfhcaaW.PrintWords Go.Proofs.YtgnmcfoenmfhcaaW.PrintLast Go.Proofs.YtgnmcfoenmfhcaaW.PrintMore
open Go.Proofs.YtgnmcfoenmfhcaaL Go.Proofs.Ytgnmcfoenmfhcaa.LawK Go.Proofs.Ytgnmcfoenmfhcaa.BoardK Go.Proofs.Ytgnmcfoenmfhcaa.Koenig Go.Proofs.Ytgnmcfoenmfhcaa.MostK
open Go.Proofs.Ytgnmcfoenmfhcaa.PlaceK (placeB placeI rk placeB_ge evEq)
def pF (p : List Int) : Nat → Option Nat := fun r => if 0 ≤ p.getD r (-1) then some (p.getD r (-1)).toNat else none
theorem pF_some {p : List Int} {r c : Nat} : pF p r = some c ↔ r < p.length ∧ p.getD r (-1) = (c : Int) := by
  unfold pF
  by_cases h : r < p.length
  · constructor
    · intro e
      split at e
      · injection e with e; exact ⟨h, by omega⟩
      · cases e
    · rintro ⟨_, e⟩
      rw [e, if_pos (by omega), Int.toNat_natCast]
  · rw [gD_ge _ _ (by omega), if_neg (by decide)]
    exact ⟨fun e => (by cases e), fun e => absurd e.1 h⟩
theorem placeI_at {l : List Int} {C : Nat} : ∀ (t : List Int) (i : Nat) (pre : List Int), placeI l C t i pre = true → ∀ j (h : j < t.length), t[j] = -1 ∨ (0 ≤ t[j] ∧ t[j] < C ∧ cell l (i + j) t[j].toNat = true ∧ ¬ t[j] ∈ pre ∧ ∀ m (hm : m < j), t[m] ≠ t[j])
  | [], i, pre, _, j, h => by cases h
  | x :: t, i, pre, hp, j, h => by
    rw [placeI, Bool.and_eq_true] at hp
    obtain ⟨h1, h2⟩ := hp
    cases j with
    | zero =>
      rw [Bool.or_eq_true] at h1
      rcases h1 with h1 | h1
      · left; simpa using h1
      · right
        rw [Bool.and_eq_true, Bool.and_eq_true] at h1
        obtain ⟨a, b, c⟩ := h1
        have a' : 0 ≤ x ∧ x ≤ (C : Int) - 1 := of_decide_eq_true a
        refine ⟨a'.1, by show x < (C : Int); omega, b, by simpa using c, fun m hm => by omega⟩
    | succ j =>
      have ih := placeI_at t (i + 1) (pre ++ [x]) h2 j (by simpa using h)
      rcases ih with ih | ⟨a, b, c, d, e⟩
      · left; exact ih
      · right
        refine ⟨a, b, by rw [show i + (j + 1) = i + 1 + j by omega]; exact c, fun hm => d (by rw [List.mem_append]; exact .inl hm), fun m hm => ?_⟩
        cases m with
        | zero => exact fun e2 => d (by rw [List.mem_append]; exact .inr (by rw [List.mem_singleton]; exact e2.symm))
        | succ m => exact e m (by omega)
theorem place_match {l p : List Int} {R C : Nat} (hlR : l.length = R) (hR : R ≤ 6) (hC : C ≤ 6) (h : placeB l C p = true) : Match (cell l) (pF p) := by
  unfold placeB at h
  rw [Bool.and_eq_true, decide_eq_true_eq] at h
  have hat := placeI_at p 0 [] h.2
  constructor
  · intro r c e
    obtain ⟨h1, h2⟩ := pF_some.1 e
    rw [gD_lt _ _ h1] at h2
    rcases hat r h1 with g | ⟨a, b, g, _, _⟩
    · omega
    · rw [h2, Nat.zero_add, Int.toNat_natCast] at g
      exact ⟨by omega, by omega, g⟩
  · intro r r' c e e'
    obtain ⟨h1, h2⟩ := pF_some.1 e
    obtain ⟨h1', h2'⟩ := pF_some.1 e'
    rw [gD_lt _ _ h1] at h2
    rw [gD_lt _ _ h1'] at h2'
    rcases Nat.lt_trichotomy r r' with hlt | heq | hlt
    · rcases hat r' h1' with g | ⟨_, _, _, _, g⟩
      · omega
      · exact absurd (by omega) (g r hlt)
    · exact heq
    · rcases hat r h1 with g | ⟨_, _, _, _, g⟩
      · omega
      · exact absurd (by omega) (g r' hlt)
def Freed (l p : List Int) (m : Nat) (r : Nat) : Prop := ∃ f, Match (cell l) f ∧ size f = size (pF p) ∧ f r = none ∧ r < l.length ∧ (∀ q c, f q = some c → ∃ q', pF p q' = some c) ∧ ∀ q c, m.testBit c = false → (f q = some c ↔ pF p q = some c)
theorem freed_more {l p : List Int} {m c r : Nat} (h : Freed l p m r) : Freed l p (m ||| 2 ^ c) r := by
  obtain ⟨f, h1, h2, h3, h4, h5, h6⟩ := h
  refine ⟨f, h1, h2, h3, h4, h5, fun q x hx => h6 q x ?_⟩
  rw [Nat.testBit_or, Bool.or_eq_false_iff] at hx
  exact hx.1
theorem freed_next {l p : List Int} {m c r r' : Nat} (hl : l.length ≤ 6) (hp : Match (cell l) (pF p)) (h : Freed l p m r) (hc : cell l r c = true) (hc6 : c < 6) (hm : m.testBit c = false) (hr' : pF p r' = some c) (hrl : r' < l.length) : Freed l p (m ||| 2 ^ c) r' := by
  obtain ⟨f, h1, h2, h3, h4, h5, h6⟩ := h
  have hf' : f r' = some c := (h6 r' c hm).2 hr'
  have hne : r ≠ r' := fun e => by rw [e, hf'] at h3; cases h3
  have hs1 : size (fun q => if q = r' then none else f q) + 1 = size f := by
    rw [← size_put (f := fun q => if q = r' then none else f q) (r := r') (c := c) (by omega) (by simp)]
    refine size_congr fun x _ => ?_
    by_cases hx : x = r'
    · subst hx; simp [hf']
    · simp [hx]
  refine ⟨fun q => if q = r then some c else (if q = r' then none else f q), ⟨fun q x e => ?_, fun q q' x e e' => ?_⟩, ?_, ?_, hrl, fun q x e => ?_, fun q x hx => ?_⟩
  · try simp only [] at e
    split at e
    · rename_i hq; injection e with e; subst hq e; exact ⟨by omega, hc6, hc⟩
    · split at e
      · cases e
      · exact h1.edge q x e
  · try simp only [] at e e'
    split at e
    · rename_i hq
      injection e with e
      split at e'
      · rename_i hq'; omega
      · split at e'
        · cases e'
        · rename_i hq1 hq2
          exact absurd (h1.inj q' r' c (by rw [e', e]) hf') hq2
    · split at e
      · cases e
      · rename_i hq1 hq2
        split at e'
        · injection e' with e'
          exact absurd (h1.inj q r' c (by rw [e, e']) hf') hq2
        · split at e'
          · cases e'
          · exact h1.inj q q' x e e'
  · rw [size_put (f := fun q => if q = r' then none else f q) (by omega) (by simp [hne, h3]), hs1, h2]
  · try simp only []
    rw [if_neg (fun e => hne e.symm), if_pos trivial]
  · try simp only [] at e
    split at e
    · injection e with e; subst e; exact ⟨r', hr'⟩
    · split at e
      · cases e
      · exact h5 q x e
  · rw [Nat.testBit_or, Bool.or_eq_false_iff, Nat.testBit_two_pow, decide_eq_false_iff_not] at hx
    have h7 := h6 q x hx.1
    try simp only []
    split
    · rename_i hq
      subst hq
      rw [h3] at h7
      constructor
      · intro e; injection e with e; exact absurd e hx.2
      · intro e; exact absurd (h7.2 e) (by simp)
    · split
      · rename_i hq
        subst hq
        constructor
        · intro e; cases e
        · intro e
          rw [hr'] at e
          injection e with e
          exact absurd e hx.2
      · exact h7
theorem freed_grow {l p : List Int} {m c r : Nat} (hl : l.length ≤ 6) (h : Freed l p m r) (hc : cell l r c = true) (hc6 : c < 6) (hr' : ∀ q, pF p q ≠ some c) : ∃ f, Match (cell l) f ∧ size (pF p) < size f := by
  obtain ⟨f, h1, h2, h3, h4, h5, h6⟩ := h
  have hno : ∀ q, f q ≠ some c := fun q e => by obtain ⟨q', e'⟩ := h5 q c e; exact hr' q' e'
  refine ⟨fun q => if q = r then some c else f q, ⟨fun q x e => ?_, fun q q' x e e' => ?_⟩, by rw [size_put (by omega) h3]; omega⟩
  · try simp only [] at e
    split at e
    · rename_i hq; injection e with e; subst hq e; exact ⟨by omega, hc6, hc⟩
    · exact h1.edge q x e
  · try simp only [] at e e'
    split at e
    · rename_i hq
      injection e with e
      split at e'
      · rename_i hq'; omega
      · exact absurd (by rw [e', e]) (hno q')
    · split at e'
      · injection e' with e'; exact absurd (by rw [e, e']) (hno q)
      · exact h1.inj q q' x e e'
def rowOf (c : Int) : List Int → Nat → Int
  | [], _ => -1
  | x :: t, i => if c = x then (i : Int) else rowOf c t (i + 1)
theorem rowOf_at (c : Int) : ∀ (t : List Int) (i : Nat), (rowOf c t i = -1 ∧ ¬ c ∈ t) ∨ ∃ j, ∃ h : j < t.length, rowOf c t i = ((i + j : Nat) : Int) ∧ t[j] = c
  | [], i => .inl ⟨rfl, by simp⟩
  | x :: t, i => by
    rw [rowOf]
    by_cases h : c = x
    · rw [if_pos h]; exact .inr ⟨0, by simp, by simp, h.symm⟩
    · rw [if_neg h]
      rcases rowOf_at c t (i + 1) with ⟨h1, h2⟩ | ⟨j, hj, h1, h2⟩
      · exact .inl ⟨h1, by simp [h, h2]⟩
      · exact .inr ⟨j + 1, by simpa using hj, by rw [h1]; congr 1; omega, by simpa using h2⟩
theorem index_l0 {l : List Int} (x : Int) (hl : l.length ≤ 1048576) : ∀ (d i : Nat), i + d = l.length → Ev (fun k => slices_Index_int_int.l0 k l x (l.length : Int) i) (rowOf x (l.drop i) i)
  | 0, i, hi => by
    refine Ev.step (f := fun _ => some (-1)) (fun k => ?_) (evEq (Ev.now _) (by rw [List.drop_eq_nil_of_le (by omega)]; rfl))
    rw [slices_Index_int_int.l0, if_neg (by omega)]
  | d + 1, i, hi => by
    have w1 := Aside0.mk (show wrap64 ((i : Int) + 1) = ((i + 1 : Nat) : Int) from by rw [w64 (by omega) (by omega)]; rfl)
    have hi2 : i < l.length := by omega
    rw [List.drop_eq_getElem_cons hi2, rowOf]
    by_cases e : x = l[i]
    · rw [if_pos e]
      refine Ev.step (f := fun _ => some (i : Int)) (fun k => ?_) (Ev.now _)
      rw [slices_Index_int_int.l0, if_pos (by omega), if_pos (by omega), if_pos (by omega), rd_lt _ _ hi2, if_pos e]
    · rw [if_neg e]
      refine Ev.step (fun k => ?_) (index_l0 x hl d (i + 1) (by omega))
      rw [slices_Index_int_int.l0, if_pos (by omega), if_pos (by omega), if_pos (by omega), rd_lt _ _ hi2, if_neg e, w1.out]
theorem index {l : List Int} (x : Int) (hl : l.length ≤ 1048576) : Ev (fun k => slices_Index_int_int.f k l x) (rowOf x l 0) := by
  have h := index_l0 x hl l.length 0 (by omega)
  rw [List.drop_zero] at h
  exact h
theorem lcRowOf_l0 {l : List Int} (x : Int) (hl : l.length ≤ 1048576) : ∀ (d i : Nat), i + d = l.length → Ev (fun k => spec_lcRowOf.l0 k x l (l.length : Int) i) (rowOf x (l.drop i) i)
  | 0, i, hi => by
    refine Ev.step (f := fun _ => some (-1)) (fun k => ?_) (evEq (Ev.now _) (by rw [List.drop_eq_nil_of_le (by omega)]; rfl))
    rw [spec_lcRowOf.l0, if_neg (by omega)]
  | d + 1, i, hi => by
    have w1 := Aside0.mk (show wrap64 ((i : Int) + 1) = ((i + 1 : Nat) : Int) from by rw [w64 (by omega) (by omega)]; rfl)
    have hi2 : i < l.length := by omega
    rw [List.drop_eq_getElem_cons hi2, rowOf]
    by_cases e : x = l[i]
    · rw [if_pos e]
      refine Ev.step (f := fun _ => some (i : Int)) (fun k => ?_) (Ev.now _)
      rw [spec_lcRowOf.l0, if_pos (by omega), if_pos (by omega), if_pos (by omega), rd_lt _ _ hi2, if_pos e.symm]
    · rw [if_neg e]
      refine Ev.step (fun k => ?_) (lcRowOf_l0 x hl d (i + 1) (by omega))
      rw [spec_lcRowOf.l0, if_pos (by omega), if_pos (by omega), if_pos (by omega), rd_lt _ _ hi2, if_neg (fun h => e h.symm), w1.out]
theorem lcRowOf {l : List Int} (x : Int) (hl : l.length ≤ 1048576) : Ev (fun k => spec_lcRowOf.f k l x) (rowOf x l 0) := by
  have h := lcRowOf_l0 x hl l.length 0 (by omega)
  rw [List.drop_zero] at h
  exact h
def left (m : Nat) : Nat := cnt (fun c => !m.testBit c)
theorem left_less {m c : Nat} (hc : c < 6) (h : m.testBit c = false) : left (m ||| 2 ^ c) + 1 = left m := by
  unfold left
  rw [← cnt_add (p := fun x => !(m ||| 2 ^ c).testBit x) hc (by simp)]
  refine cnt_congr fun x _ => ?_
  rw [Nat.testBit_or, Nat.testBit_two_pow]
  by_cases e : c = x
  · subst e; simp [h]
  · simp [e, show ¬ x = c from fun h => e h.symm]
structure Inv (l p : List Int) (Q : List S97) (m : Nat) : Prop where
  len : Q.length + left m ≤ 12
  way : ∀ x ∈ Q, x.f1.length + 2 * left m ≤ 13
  row : ∀ x ∈ Q, ∃ r : Nat, x.f0 = r ∧ r < l.length ∧ Freed l p m r
  m64 : m < 64
def Good (l p : List Int) (a : List Int × Bool) : Prop := (a.2 = true → ∃ f, Match (cell l) f ∧ size (pF p) < size f) ∧ a.1.length ≤ 1000 ∧ (a.2 = false → a.1 = [])
theorem l1Own_f {l : List Int} (h : l.length ≤ 1000) : spec_l1Own.f l = some l := by
  unfold spec_l1Own.f
  rw [Option.bind_some, if_pos (by simp; omega)]
  rfl
theorem clone_f {l : List Int} (h : l.length ≤ 1000) : slices_Clone_int_int.f l = some l := by
  unfold slices_Clone_int_int.f
  rw [if_pos (by omega)]
section
variable {l p : List Int} {R C : Nat} (hlR : l.length = R) (hR : R ≤ 6) (hC : C ≤ 6) (hb : ∀ i (hi : i < l.length), 0 ≤ l[i] ∧ l[i] < 64) (hp : Match (cell l) (pF p)) (hpl : p.length = l.length)
include hlR hR hC hb hp hpl
theorem search_l2 (i : Nat) (hi12 : i ≤ 12) (ihl : ∀ Q m, Inv l p Q m → i + 1 ≤ Q.length → ∃ a, Ev (fun k => impl_LongerWay.l1 k p Q (m : Nat) ((i + 1 : Nat) : Int) R C l) a ∧ Ev (fun k => spec_LongerWay.l1 k p (Q.map S97.f0) (Q.map S97.f1) (m : Nat) ((i + 1 : Nat) : Int) R C l) a ∧ Good l p a) (s : S97) :
    ∀ (e c : Nat) (Q : List S97) (m : Nat), c + e = C → Inv l p Q m → Q[i]? = some s → ∃ a, Ev (fun k => impl_LongerWay.l2 k p Q (m : Nat) (i : Nat) C (c : Nat) R C l s.f0 s.f1) a ∧ Ev (fun k => spec_LongerWay.l2 k p (Q.map S97.f0) (Q.map S97.f1) (m : Nat) (i : Nat) (c : Nat) R C l) a ∧ Good l p a
  | 0, c, Q, m, hc, hinv, hs => by
    have hiQ : i < Q.length := (List.getElem?_eq_some_iff.1 hs).1
    have w1 := Aside0.mk (show wrap64 ((i : Int) + 1) = ((i + 1 : Nat) : Int) from by rw [w64 (by omega) (by omega)]; rfl)
    obtain ⟨a, h1, h2, h3⟩ := ihl Q m hinv (by omega)
    refine ⟨a, Ev.step (fun k => ?_) h1, Ev.step (fun k => ?_) h2, h3⟩
    · rw [impl_LongerWay.l2, if_neg (by omega), w1.out]
    · rw [spec_LongerWay.l2, if_neg (by omega), w1.out]
  | e + 1, c, Q, m, hc, hinv, hs => by
    have hiQ : i < Q.length := (List.getElem?_eq_some_iff.1 hs).1
    have hsQ : Q[i] = s := (List.getElem?_eq_some_iff.1 hs).2
    have w1 := Aside0.mk (show wrap64 ((c : Int) + 1) = ((c + 1 : Nat) : Int) from by rw [w64 (by omega) (by omega)]; rfl)
    obtain ⟨r, hr, hrl, hfr⟩ := hinv.row s (by rw [← hsQ]; exact List.getElem_mem hiQ)
    have hway := hinv.way s (by rw [← hsQ]; exact List.getElem_mem hiQ)
    have hm64 := hinv.m64
    have hrd : rd (Q.map S97.f0) (i : Int) = (r : Int) := by rw [rd_lt _ _ (by rw [List.length_map]; exact hiQ), List.getElem_map, hsQ, hr]
    have hrd2 : rd_L2 (Q.map S97.f1) (i : Int) = s.f1 := by unfold rd_L2; rw [Int.toNat_natCast, gD_lt _ _ (by rw [List.length_map]; exact hiQ), List.getElem_map, hsQ]
    have hbit : Go.bits .and .i64 (shr .i64 (m : Int) (c : Int)) 1 = if m.testBit c then 1 else 0 := bit_and m c (by omega) (by omega)
    have hbit2 : Int.tmod (shr .i64 (m : Int) (c : Int)) 2 = if m.testBit c then 1 else 0 := bit_mod m c (by omega)
    -- the two tests
    have hI : ∀ {a : List Int × Bool}, Ev (fun k => impl_LongerWay.j4 k p Q (m : Nat) (i : Nat) (c : Nat) C (c : Nat) (!(cell l r c && !m.testBit c)) R C l s.f0 s.f1) a → Ev (fun k => impl_LongerWay.l2 k p Q (m : Nat) (i : Nat) C (c : Nat) R C l s.f0 s.f1) a := by
      intro a h
      refine Ev.step (fun k => ?_) h
      rw [impl_LongerWay.l2, if_pos (by omega), hr, has_f (R : Int) (C : Int) hrl (hb r hrl).1 (hb r hrl).2 (by omega), Option.bind_some]
      by_cases g : cell l r c = true
      · rw [if_pos g, if_pos (by omega), hbit, g]
        cases m.testBit c <;> rfl
      · rw [if_neg g, show cell l r c = false by simpa using g]
        rfl
    have hS : ∀ {a : List Int × Bool}, Ev (fun k => spec_LongerWay.j4 k p (Q.map S97.f0) (Q.map S97.f1) (m : Nat) (i : Nat) (c : Nat) (!(cell l r c && !m.testBit c)) R C l) a → Ev (fun k => spec_LongerWay.l2 k p (Q.map S97.f0) (Q.map S97.f1) (m : Nat) (i : Nat) (c : Nat) R C l) a := by
      intro a h
      refine Ev.step (fun k => ?_) h
      rw [spec_LongerWay.l2, if_pos (by omega), if_pos (by omega), if_pos (by rw [List.length_map]; omega), hrd, boHas_f (R : Int) (C : Int) hrl (hb r hrl).1 (hb r hrl).2 (by omega), Option.bind_some]
      by_cases g : cell l r c = true
      · rw [if_pos g, if_pos (by omega), hbit2, g]
        cases m.testBit c <;> rfl
      · rw [if_neg g, show cell l r c = false by simpa using g]
        rfl
    by_cases hnew : (cell l r c && !m.testBit c) = true
    rotate_left
    · obtain ⟨a, h1, h2, h3⟩ := search_l2 i hi12 ihl s e (c + 1) Q m (by omega) hinv hs
      have hf : (!(cell l r c && !m.testBit c)) = true := by rw [Bool.eq_false_iff.mpr hnew]; rfl
      refine ⟨a, hI (Ev.step (fun k => ?_) h1), hS (Ev.step (fun k => ?_) h2), h3⟩
      · rw [impl_LongerWay.j4, hf, if_pos rfl, w1.out]
      · rw [spec_LongerWay.j4, hf, if_pos rfl, w1.out]
    · have hf : (!(cell l r c && !m.testBit c)) = false := by rw [hnew]; rfl
      rw [Bool.and_eq_true] at hnew
      have hmc : m.testBit c = false := by simpa using hnew.2
      have hor := Aside0.mk (show Go.bits .or .i64 (m : Int) (shl .i64 1 (c : Int)) = ((m ||| 2 ^ c : Nat) : Int) from by
        rw [shl_one c (by omega), or_nat _ _ (by omega) (by have : 2 ^ c < 2 ^ 6 := Nat.pow_lt_pow_right (by decide) (by omega); omega)])
      have hl6 : l.length ≤ 6 := by omega
      have hQl := hinv.len
      have hI2 : ∀ {a : List Int × Bool}, Ev (fun k => if rowOf (c : Int) p 0 < 0 then some (s.f1 ++ [(c : Int)], true) else impl_LongerWay.l2 k p (Q ++ [(⟨rowOf (c : Int) p 0, s.f1 ++ [(c : Int)] ++ [rowOf (c : Int) p 0]⟩ : S97)]) ((m ||| 2 ^ c : Nat) : Int) (i : Nat) C ((c + 1 : Nat) : Int) R C l s.f0 s.f1) a → Ev (fun k => impl_LongerWay.l2 k p Q (m : Nat) (i : Nat) C (c : Nat) R C l s.f0 s.f1) a := by
        intro a h
        refine hI (Ev.step (f := fun k => (slices_Index_int_int.f k p (c : Int)).bind fun t125 => if t125 < 0 then some (s.f1 ++ [(c : Int)], true) else impl_LongerWay.l2 k p (Q ++ [(⟨t125, s.f1 ++ [(c : Int)] ++ [t125]⟩ : S97)]) ((m ||| 2 ^ c : Nat) : Int) (i : Nat) C ((c + 1 : Nat) : Int) R C l s.f0 s.f1) (fun k => ?_) ?_)
        · rw [impl_LongerWay.j4, hf, if_neg (by simp), if_pos (by omega), clone_f (by omega), Option.bind_some, if_pos (by omega), Option.bind_some, hor.out, w1.out]
          congr 1
          funext t
          rw [if_pos (show (s.f1 ++ [(c : Int)]).length < 17592186044416 by rw [List.length_append, List.length_singleton]; omega), if_pos (show Q.length < 4398046511104 by omega)]
        · exact Ev.bind (index (c : Int) (by omega)) h
      have hS2 : ∀ {a : List Int × Bool}, Ev (fun k => if rowOf (c : Int) p 0 < 0 then some (s.f1 ++ [(c : Int)], true) else spec_LongerWay.l2 k p (Q.map S97.f0 ++ [rowOf (c : Int) p 0]) (Q.map S97.f1 ++ [s.f1 ++ [(c : Int)] ++ [rowOf (c : Int) p 0]]) ((m ||| 2 ^ c : Nat) : Int) (i : Nat) ((c + 1 : Nat) : Int) R C l) a → Ev (fun k => spec_LongerWay.l2 k p (Q.map S97.f0) (Q.map S97.f1) (m : Nat) (i : Nat) (c : Nat) R C l) a := by
        intro a h
        refine hS (Ev.step (f := fun k => (spec_lcRowOf.f k p (c : Int)).bind fun t123 => if t123 < 0 then some (s.f1 ++ [(c : Int)], true) else spec_LongerWay.l2 k p (Q.map S97.f0 ++ [t123]) (Q.map S97.f1 ++ [s.f1 ++ [(c : Int)] ++ [t123]]) ((m ||| 2 ^ c : Nat) : Int) (i : Nat) ((c + 1 : Nat) : Int) R C l) (fun k => ?_) ?_)
        · rw [spec_LongerWay.j4, hf, if_neg (by simp), if_pos (by omega), if_pos (by omega), if_pos (by rw [List.length_map]; omega), hrd2, l1Own_f (by omega), Option.bind_some, if_pos (by omega), Option.bind_some, hor.out, w1.out]
          congr 1
          funext t
          rw [if_pos (show (Q.map S97.f0).length < 17592186044416 by rw [List.length_map]; omega), if_pos (show (s.f1 ++ [(c : Int)]).length < 17592186044416 by rw [List.length_append, List.length_singleton]; omega), if_pos (show (Q.map S97.f1).length < 5864062014805 by rw [List.length_map]; omega)]
        · exact Ev.bind (lcRowOf (c : Int) (by omega)) h
      rcases rowOf_at (c : Int) p 0 with ⟨g1, g2⟩ | ⟨j, hj, g1, g2⟩
      · refine ⟨(s.f1 ++ [(c : Int)], true), hI2 ?_, hS2 ?_, fun _ => freed_grow hl6 hfr hnew.1 (by omega) (fun q e => g2 ?_), by rw [List.length_append, List.length_singleton]; omega, fun h => (by cases h)⟩
        · exact Ev.congr (fun k => by rw [g1, if_pos (by omega)]) (Ev.now _)
        · exact Ev.congr (fun k => by rw [g1, if_pos (by omega)]) (Ev.now _)
        · obtain ⟨h1, h2⟩ := pF_some.1 e
          rw [gD_lt _ _ h1] at h2
          rw [← h2]
          exact List.getElem_mem h1
      · rw [Nat.zero_add] at g1
        have hll := left_less (m := m) (show c < 6 by omega) hmc
        have hpj : pF p j = some c := pF_some.2 ⟨hj, by rw [gD_lt _ _ hj]; exact g2⟩
        have hor6 : m ||| 2 ^ c < 64 := Nat.or_lt_two_pow (n := 6) hm64 (Nat.pow_lt_pow_right (by decide) (by omega))
        obtain ⟨a, h1, h2, h3⟩ := search_l2 i hi12 ihl s e (c + 1) (Q ++ [(⟨(j : Int), s.f1 ++ [(c : Int)] ++ [(j : Int)]⟩ : S97)]) (m ||| 2 ^ c) (by omega)
          ⟨by rw [List.length_append, List.length_singleton]; omega,
           fun x hx => by
            rcases List.mem_append.1 hx with hx | hx
            · have := hinv.way x hx; omega
            · rw [List.mem_singleton.1 hx]
              show (s.f1 ++ [(c : Int)] ++ [(j : Int)]).length + 2 * left (m ||| 2 ^ c) ≤ 13
              rw [List.length_append, List.length_append, List.length_singleton, List.length_singleton]
              omega,
           fun x hx => by
            rcases List.mem_append.1 hx with hx | hx
            · obtain ⟨q, q1, q2, q3⟩ := hinv.row x hx
              exact ⟨q, q1, q2, freed_more q3⟩
            · rw [List.mem_singleton.1 hx]
              exact ⟨j, rfl, by omega, freed_next hl6 hp hfr hnew.1 (by omega) hmc hpj (by omega)⟩,
           hor6⟩
          (by rw [List.getElem?_append_left hiQ]; exact hs)
        refine ⟨a, hI2 ?_, hS2 ?_, h3⟩
        · exact Ev.congr (fun k => by rw [g1, if_neg (by omega)]) h1
        · rw [List.map_append, List.map_append] at h2
          exact Ev.congr (fun k => by rw [g1, if_neg (by omega)]; rfl) h2
theorem search_l1 : ∀ (d i : Nat), i + d = 13 → ∀ Q m, Inv l p Q m → i ≤ Q.length → ∃ a, Ev (fun k => impl_LongerWay.l1 k p Q (m : Nat) (i : Nat) R C l) a ∧ Ev (fun k => spec_LongerWay.l1 k p (Q.map S97.f0) (Q.map S97.f1) (m : Nat) (i : Nat) R C l) a ∧ Good l p a
  | 0, i, hi, Q, m, hinv, hle => by have := hinv.len; omega
  | d + 1, i, hi, Q, m, hinv, hle => by
    by_cases hlt : i < Q.length
    · have hQl := hinv.len
      obtain ⟨a, h1, h2, h3⟩ := search_l2 hlR hR hC hb hp hpl i (by omega) (fun Q m hinv hle => search_l1 d (i + 1) (by omega) Q m hinv hle) Q[i] C 0 Q m (by omega) hinv (List.getElem?_eq_getElem hlt)
      have hrd : rd_T97 Q (i : Int) = Q[i] := by unfold rd_T97; rw [Int.toNat_natCast, gD_lt _ _ hlt]
      refine ⟨a, Ev.step (fun k => ?_) h1, Ev.step (fun k => ?_) h2, h3⟩
      · rw [impl_LongerWay.l1, if_pos (by omega), if_pos (by omega), hrd]; rfl
      · rw [spec_LongerWay.l1, if_pos (by rw [List.length_map]; omega)]; rfl
    · refine ⟨([], false), Ev.step (f := fun _ => some ([], false)) (fun k => ?_) (Ev.now _), Ev.step (f := fun _ => some ([], false)) (fun k => ?_) (Ev.now _), ⟨fun h => (by cases h), by simp, fun _ => rfl⟩⟩
      · rw [impl_LongerWay.l1, if_neg (by omega)]
      · rw [spec_LongerWay.l1, if_neg (by rw [List.length_map]; omega)]
def qF : List Int → Nat → List S97
  | [], _ => []
  | x :: t, i => if x = -1 then (⟨(i : Int), [(i : Int)]⟩ : S97) :: qF t (i + 1) else qF t (i + 1)
omit hlR hR hC hb hp hpl in
theorem qF_len : ∀ (t : List Int) (i : Nat), (qF t i).length ≤ t.length
  | [], i => Nat.le_refl _
  | x :: t, i => by
    have := qF_len t (i + 1)
    rw [qF]
    split <;> simp <;> omega
omit hlR hR hC hb hp hpl in
theorem qF_mem : ∀ (t : List Int) (i : Nat), ∀ x ∈ qF t i, ∃ j, ∃ h : j < t.length, t[j] = -1 ∧ x = (⟨((i + j : Nat) : Int), [((i + j : Nat) : Int)]⟩ : S97)
  | [], i, x, hx => by cases hx
  | y :: t, i, x, hx => by
    have ih := qF_mem t (i + 1)
    rw [qF] at hx
    have next : x ∈ qF t (i + 1) → ∃ j, ∃ h : j < (y :: t).length, (y :: t)[j] = -1 ∧ x = (⟨((i + j : Nat) : Int), [((i + j : Nat) : Int)]⟩ : S97) := by
      intro hx
      obtain ⟨j, hj, h1, h2⟩ := ih x hx
      refine ⟨j + 1, by simpa using hj, by simpa using h1, ?_⟩
      rw [h2, show i + 1 + j = i + (j + 1) by omega]
    by_cases h : y = -1
    · rw [if_pos h] at hx
      rcases List.mem_cons.1 hx with rfl | hx
      · exact ⟨0, by simp, by simpa using h, rfl⟩
      · exact next hx
    · rw [if_neg h] at hx
      exact next hx
theorem start : Inv l p (qF p 0) 0 := by
  have hq := qF_len p 0
  have h6 : left 0 = 6 := by decide
  refine ⟨by omega, fun x hx => ?_, fun x hx => ?_, by decide⟩
  · obtain ⟨j, hj, h1, rfl⟩ := qF_mem p 0 x hx
    rw [h6]
    show 1 + 2 * 6 ≤ 13
    decide
  · obtain ⟨j, hj, h1, rfl⟩ := qF_mem p 0 x hx
    refine ⟨j, by simp, by omega, pF p, hp, rfl, ?_, by omega, fun q c e => ⟨q, e⟩, fun q c _ => Iff.rfl⟩
    unfold pF
    rw [gD_lt _ _ hj, h1, if_neg (by decide)]
theorem impl_l0 {a : List Int × Bool} : ∀ (d i : Nat) (acc : List S97), i + d = p.length → acc.length ≤ i → Ev (fun k => impl_LongerWay.l1 k p (acc ++ qF (p.drop i) i) ((0 : Nat) : Int) ((0 : Nat) : Int) R C l) a → Ev (fun k => impl_LongerWay.l0 k p acc p (p.length : Int) (i : Nat) R C l) a
  | 0, i, acc, hi, ha, h => by
    rw [List.drop_eq_nil_of_le (by omega), qF, List.append_nil] at h
    refine Ev.step (fun k => ?_) h
    rw [impl_LongerWay.l0, if_neg (by omega)]
    rfl
  | d + 1, i, acc, hi, ha, h => by
    have w1 := Aside0.mk (show wrap64 ((i : Int) + 1) = ((i + 1 : Nat) : Int) from by rw [w64 (by omega) (by omega)]; rfl)
    have hi2 : i < p.length := by omega
    rw [List.drop_eq_getElem_cons hi2, qF] at h
    by_cases e : p[i] = -1
    · rw [if_pos e] at h
      have ih := impl_l0 (a := a) d (i + 1) (acc ++ [(⟨(i : Int), [(i : Int)]⟩ : S97)]) (by omega) (by rw [List.length_append, List.length_singleton]; omega) (by rw [List.append_assoc]; exact h)
      refine Ev.step (fun k => ?_) ih
      rw [impl_LongerWay.l0, if_pos (by omega), if_pos (by omega), if_pos (by omega), rd_lt _ _ hi2, if_pos e, if_pos (by omega), w1.out]
    · rw [if_neg e] at h
      refine Ev.step (fun k => ?_) (impl_l0 (a := a) d (i + 1) acc (by omega) (by omega) h)
      rw [impl_LongerWay.l0, if_pos (by omega), if_pos (by omega), if_pos (by omega), rd_lt _ _ hi2, if_neg e, w1.out]
theorem spec_l0 (hge : ∀ x ∈ p, -1 ≤ x) {a : List Int × Bool} : ∀ (d i : Nat) (acc : List S97), i + d = p.length → acc.length ≤ i → Ev (fun k => spec_LongerWay.l1 k p ((acc ++ qF (p.drop i) i).map S97.f0) ((acc ++ qF (p.drop i) i).map S97.f1) ((0 : Nat) : Int) ((0 : Nat) : Int) R C l) a → Ev (fun k => spec_LongerWay.l0 k p (acc.map S97.f0) (acc.map S97.f1) p (p.length : Int) (i : Nat) R C l) a
  | 0, i, acc, hi, ha, h => by
    rw [List.drop_eq_nil_of_le (by omega), qF, List.append_nil] at h
    refine Ev.step (fun k => ?_) h
    rw [spec_LongerWay.l0, if_neg (by omega)]
    rfl
  | d + 1, i, acc, hi, ha, h => by
    have w1 := Aside0.mk (show wrap64 ((i : Int) + 1) = ((i + 1 : Nat) : Int) from by rw [w64 (by omega) (by omega)]; rfl)
    have hi2 : i < p.length := by omega
    have hg := hge p[i] (List.getElem_mem hi2)
    rw [List.drop_eq_getElem_cons hi2, qF] at h
    by_cases e : p[i] = -1
    · rw [if_pos e] at h
      have ih := spec_l0 hge (a := a) d (i + 1) (acc ++ [(⟨(i : Int), [(i : Int)]⟩ : S97)]) (by omega) (by rw [List.length_append, List.length_singleton]; omega) (by rw [List.append_assoc]; exact h)
      rw [List.map_append, List.map_append] at ih
      refine Ev.step (fun k => ?_) ih
      rw [spec_LongerWay.l0, if_pos (by omega), if_pos (by omega), if_pos (by omega), rd_lt _ _ hi2, if_pos (by omega), if_pos (by rw [List.length_map]; omega), if_pos (by rw [List.length_map]; omega), w1.out]
      rfl
    · rw [if_neg e] at h
      refine Ev.step (fun k => ?_) (spec_l0 hge (a := a) d (i + 1) acc (by omega) (by omega) h)
      rw [spec_LongerWay.l0, if_pos (by omega), if_pos (by omega), if_pos (by omega), rd_lt _ _ hi2, if_neg (by omega), w1.out]
theorem search (hge : ∀ x ∈ p, -1 ≤ x) : ∃ a, Ev (fun k => impl_LongerWay.l0 k p [] p (p.length : Int) 0 R C l) a ∧ Ev (fun k => spec_LongerWay.l0 k p [] [] p (p.length : Int) 0 R C l) a ∧ Good l p a := by
  obtain ⟨a, h1, h2, h3⟩ := search_l1 hlR hR hC hb hp hpl 13 0 (by omega) (qF p 0) 0 (start hlR hR hC hb hp hpl) (by omega)
  exact ⟨a, impl_l0 hlR hR hC hb hp hpl p.length 0 [] (by omega) (by simp) h1, spec_l0 hlR hR hC hb hp hpl hge p.length 0 [] (by omega) (by simp) h2, h3⟩
end
theorem countP_getD (q : Int → Bool) (d : Int) : ∀ (p : List Int), (List.range p.length).countP (fun r => q (p.getD r d)) = p.countP q
  | [] => rfl
  | x :: t => by
    rw [List.length_cons, List.range_succ_eq_map, List.countP_cons, List.countP_map, List.countP_cons]
    have := countP_getD q d t
    show (List.range t.length).countP (fun r => q (t.getD r d)) + _ = _
    rw [this]
    rfl
theorem size_rk {p : List Int} (h6 : p.length ≤ 6) (hge : ∀ x ∈ p, -1 ≤ x) : size (pF p) = rk p := by
  have e : size (pF p) = (List.range 6).countP (fun r => decide (0 ≤ p.getD r (-1))) := by
    unfold size cnt
    congr 1
    funext r
    unfold pF
    by_cases h : 0 ≤ p.getD r (-1)
    · rw [if_pos h, decide_eq_true h]; rfl
    · rw [if_neg h, decide_eq_false h]; rfl
  rw [e, show (6 : Nat) = p.length + (6 - p.length) by omega, List.range_add, List.countP_append, countP_getD (fun x => decide (0 ≤ x)) (-1) p]
  have z : List.countP (fun r => decide (0 ≤ p.getD r (-1))) (List.map (fun x => p.length + x) (List.range (6 - p.length))) = 0 := by
    rw [List.countP_eq_zero]
    intro r hr
    obtain ⟨y, _, rfl⟩ := List.mem_map.1 hr
    rw [gD_ge _ _ (by omega)]
    decide
  rw [z, Nat.add_zero]
  unfold rk
  refine List.countP_congr fun x hx => ?_
  have := hge x hx
  simp
  omega
theorem both {r c : Int} {l p : List Int} (hl : l.length ≤ 1048576) (hp : p.length ≤ 1048576) : ∃ a, a.1.length ≤ 1000 ∧ Ev (fun k => impl_LongerWay.f k r c l p) a ∧ Ev (fun k => spec_LongerWay.f k r c l p) a := by
  have nope : Ev (fun k => impl_LongerWay.j0 k p true r c l) ([], false) ∧ Ev (fun k => spec_LongerWay.j0 k p true r c l) ([], false) :=
    ⟨Ev.step (f := fun _ => some ([], false)) (fun k => by rw [impl_LongerWay.j0, if_pos rfl]) (Ev.now _), Ev.step (f := fun _ => some ([], false)) (fun k => by rw [spec_LongerWay.j0, if_pos rfl]) (Ev.now _)⟩
  by_cases hb : isBoardB r c l = true
  · have hb0 := hb
    obtain ⟨R, C, rfl, rfl, hlR, h1R, hR, h1C, hC, hbits⟩ := board_of hb
    have hb64 : ∀ i (hi : i < l.length), 0 ≤ l[i] ∧ l[i] < 64 := fun i hi => by have := hbits i hi; have := two_pow_six hC; omega
    by_cases hpl : placeB l C p = true
    · have hge := placeB_ge hpl
      have hM := place_match hlR hR hC hpl
      have hsz := size_rk (p := p) (by omega) (fun x hx => (hge.2 x hx).1)
      obtain ⟨a, h1, h2, h3⟩ := search hlR hR hC hb64 hM hge.1 (fun x hx => (hge.2 x hx).1)
      refine ⟨a, h3.2.1, ?_, ?_⟩
      · unfold impl_LongerWay.f
        refine Ev.congr (fun k => by rw [impl_IsBoard.f, Option.bind_some, if_pos hb]) ?_
        refine Ev.bind (PlaceK.isPlacement hlR hR hC hb64 p) ?_
        refine Ev.congr (fun k => by rw [if_pos hpl]) ?_
        refine Ev.bind (PlaceK.rooks hp) (Ev.bind (most hb0) ?_)
        by_cases hm : rk p = mostN l C R 0 0
        · have hno : a.2 = false := by
            cases e : a.2 with
            | false => rfl
            | true =>
              obtain ⟨f, hf, hs⟩ := h3.1 e
              have := bound hlR hR hC hbits R 0 0 f (by omega) ⟨hf, fun q x _ => ⟨by omega, Nat.zero_testBit x⟩⟩
              omega
          have ha : a = ([], false) := by
            have := h3.2.2 hno
            cases a
            simp_all
          rw [ha]
          refine Ev.congr (fun k => by rw [show ((rk p : Int) == ((mostN l C R 0 0 : Nat) : Int)) = true by rw [hm]; simp]) nope.1
        · refine Ev.congr (fun k => by rw [show ((rk p : Int) == ((mostN l C R 0 0 : Nat) : Int)) = false by rw [beq_eq_false_iff_ne]; omega]) ?_
          exact Ev.step (fun k => by rw [impl_LongerWay.j0, if_neg (by simp)]) h1
      · unfold spec_LongerWay.f
        refine Ev.bind (boGood R C (by omega)) ?_
        refine Ev.congr (fun k => by rw [if_pos hb]) ?_
        refine Ev.bind (PlaceK.lcGood hlR hR hC hb64 p) ?_
        refine Ev.congr (fun k => by rw [hpl]) ?_
        exact Ev.step (fun k => by rw [spec_LongerWay.j0, if_neg (by simp)]) h2
    · have hpf : placeB l C p = false := Bool.eq_false_iff.mpr hpl
      refine ⟨([], false), by simp, ?_, ?_⟩
      · unfold impl_LongerWay.f
        refine Ev.congr (fun k => by rw [impl_IsBoard.f, Option.bind_some, if_pos hb]) ?_
        refine Ev.bind (PlaceK.isPlacement hlR hR hC hb64 p) ?_
        exact Ev.congr (fun k => by rw [if_neg hpl]) nope.1
      · unfold spec_LongerWay.f
        refine Ev.bind (boGood R C (by omega)) ?_
        refine Ev.congr (fun k => by rw [if_pos hb]) ?_
        refine Ev.bind (PlaceK.lcGood hlR hR hC hb64 p) ?_
        exact Ev.congr (fun k => by rw [hpf]; rfl) nope.2
  · refine ⟨([], false), by simp, ?_, ?_⟩
    · unfold impl_LongerWay.f
      exact Ev.congr (fun k => by rw [impl_IsBoard.f, Option.bind_some, if_neg hb]) nope.1
    · unfold spec_LongerWay.f
      refine Ev.bind (boGood r c (by omega)) ?_
      exact Ev.congr (fun k => by rw [if_neg hb]) nope.2
end Go.Proofs.Ytgnmcfoenmfhcaa.LongK
end
section
namespace Go.Proofs.Ytgnmcfoenmfhcaa.Pure
set_option linter.unusedVariables false
open Go.RowKit Go.Proofs.Ytgnmcfoenmfhcaa.Q Go.Proofs.YtgnmcfoenmfhcaaW.PrintWords Go.Proofs.YtgnmcfoenmfhcaaW.PrintLast Go.Proofs.YtgnmcfoenmfhcaaW.PrintMore
open Go.Proofs.YtgnmcfoenmfhcaaL Go.Proofs.Ytgnmcfoenmfhcaa.LawK Go.Proofs.Ytgnmcfoenmfhcaa.BoardK Go.Proofs.Ytgnmcfoenmfhcaa.LongK
theorem FnExactLongerWay : laws_FnExactLongerWay.Pure := by
  intro r c l p _ _ _ hl8 _ hm2 _ _
  unfold laws_FnExactLongerWay.f
  refine ends ?_
  by_cases hp : p.length ≤ 1048576
  · refine Ev.congr (fun k => by rw [if_neg (by omega), szBoard_f r c l hl8, Option.bind_some]) ?_
    by_cases hlb : l.length ≤ 1048576
    · obtain ⟨a, hn, impl_answer, spec_answer⟩ := both (r := r) (c := c) hlb hp
      refine Ev.congr (fun k => by rw [if_pos hlb, if_neg (by omega)]) ?_
      refine Ev.bind (toBoard r c hlb) (Ev.bind (toIntS hp) (Ev.bind spec_answer (Ev.bind (toBoard r c hlb) (Ev.bind (toIntS hp) (Ev.bind impl_answer ?_)))))
      refine Ev.bind (eqIntS (by first | omega | (simp only []; omega))) ?_
      refine Ev.congr (fun k => by rw [if_pos (by simp)]) ?_
      refine Ev.step (fun k => by rw [laws_FnExactLongerWay.j0, if_neg (by simp)]) ?_
      refine Ev.bind (toBoard r c hlb) (Ev.bind (eqBoard r c (by simp; omega)) ?_)
      refine Ev.congr (fun k => by rw [if_pos rfl]) ?_
      refine Ev.bind (toIntS hp) (Ev.bind (eqIntS (by omega)) ?_)
      refine Ev.congr (fun k => by rw [if_pos (by simp)]) ?_
      refine Ev.bind (a := (1 + (l.length : Int), iota 1 l.length)) (show Ev (fun k => laws_markBoard.f k r c l 1) (1 + (l.length : Int), iota 1 l.length) by unfold laws_markBoard.f; exact Ev.bind (markIntS l (by omega) (by omega)) (Ev.now _)) ?_
      refine Ev.bind (markIntS p (by first | omega | (simp only []; omega)) (by first | omega | (simp only []; omega))) ?_
      refine Ev.congr (fun k => by rw [if_neg (by simp; omega)]) ?_
      refine Ev.bind (eqIntS (by first | omega | (simp only []; omega))) ?_
      refine Ev.congr (fun k => by rw [if_pos (by simp)]) ?_
      refine Ev.step (fun k => by rw [laws_FnExactLongerWay.j1, if_neg (by simp)]) ?_
      refine Ev.bind (markIntS _ (by omega) (by first | omega | (simp only []; omega))) ?_
      refine Ev.bind (heldIntS _ (by omega) (by first | omega | (simp only []; omega))) ?_
      refine Ev.congr (fun k => by rw [if_neg (by omega), if_pos rfl]) ?_
      refine Ev.bind (toBoard r c hlb) (Ev.bind (toIntS hp) (Ev.bind impl_answer ?_))
      refine Ev.bind (eqIntS (by first | omega | (simp only []; omega))) ?_
      refine Ev.congr (fun k => by rw [if_pos (by simp)]) ?_
      refine Ev.step (fun k => by rw [laws_FnExactLongerWay.j2, if_neg (by simp)]) ?_
      refine Ev.bind (heldIntS _ (by omega) (by first | omega | (simp only []; omega))) ?_
      exact Ev.congr (fun k => by rw [if_neg (by omega), if_pos rfl]) (Ev.now _)
    · exact Ev.congr (fun k => by rw [if_neg hlb, if_pos (by omega)]) (Ev.now _)
  · exact Ev.congr (fun k => by rw [if_pos (by omega)]) (Ev.now _)
end Go.Proofs.Ytgnmcfoenmfhcaa.Pure
end
