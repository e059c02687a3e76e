/- Rising lists of numbers below six, their masks, and the columns that rows reach, as the program and the reference tell them. No conditions but a valid board. -/
import Derived.Test.YtgnmcfoenmfhcaaBoard
import Derived.Test.YtgnmcfoenmfhcaaHas
import Derived.Test.YtgnmcfoenmfhcaaQimplareSome
import Derived.Test.YtgnmcfoenmfhcaaQspecl1Rising
import Derived.Test.YtgnmcfoenmfhcaaQimplmaskOf
import Derived.Test.YtgnmcfoenmfhcaaQimpllistOf
import Derived.Test.YtgnmcfoenmfhcaaQimplBoardcolumns
import Derived.Test.YtgnmcfoenmfhcaaQspeclcColumns
namespace Go.Proofs.Ytgnmcfoenmfhcaa.LinesK
set_option linter.unusedVariables false
open Go.RowKit Go.Proofs.Ytgnmcfoenmfhcaa.Q Go.Proofs.YtgnmcfoenmfhcaaW.PrintWords Go.Proofs.YtgnmcfoenmfhcaaW.PrintLast Go.Proofs.YtgnmcfoenmfhcaaW.PrintMore
open Go.Proofs.YtgnmcfoenmfhcaaL Go.Proofs.Ytgnmcfoenmfhcaa.LawK Go.Proofs.Ytgnmcfoenmfhcaa.BoardK Go.Proofs.Ytgnmcfoenmfhcaa.PermK

theorem evEq {α : Type} {g : Nat → Option α} {a b : α} (h : Ev g a) (e : a = b) : Ev g b := e ▸ h
theorem within_f (a b c : Int) : impl_within.f a b c = some (inR b c a) := by
  unfold impl_within.f inR
  by_cases h : b ≤ a
  · rw [if_pos h]; simp [h]
  · rw [if_neg h]; congr 1; exact (decide_eq_false (by omega)).symm
/-- The numbers below six whose bits a mask has. -/
def listM (m : Nat) : List Int := (iota 0 6).filter (fun i => m.testBit i.toNat)
/-- Do numbers rise below n, from lo on? -/
def risesB (n : Int) : Int → List Int → Bool
  | _, [] => true
  | lo, x :: t => decide (lo ≤ x ∧ x < n) && risesB n (x + 1) t
theorem areSome_l0 {l : List Int} {n : Int} (h1 : 1 ≤ n) (h6 : n ≤ 6) (hl : l.length ≤ 4611686018427387904) : ∀ (d i : Nat) (lo : Int), i + d = l.length → 0 ≤ lo → (i = 0 → lo = 0) → (∀ j (h : j < l.length), i = j + 1 → lo = l[j] + 1) →
    Ev (fun k => impl_areSome.l0 k l n l (l.length : Int) i) (risesB n lo (l.drop i))
  | 0, i, lo, hi, h0, ha, hb => by
    refine Ev.step (f := fun _ => some true) (fun k => ?_) (evEq (Ev.now _) (by rw [List.drop_eq_nil_of_le (by omega)]; rfl))
    rw [impl_areSome.l0, if_neg (by omega)]
  | d + 1, i, lo, hi, h0, ha, hb => by
    have w1 : wrap64 ((i : Int) + 1) = ((i + 1 : Nat) : Int) := by rw [w64 (by omega) (by omega)]; rfl
    have w2 : wrap64 (n - 1) = n - 1 := w64 (by omega) (by omega)
    have hi2 : i < l.length := by omega
    rw [List.drop_eq_getElem_cons hi2, risesB]
    by_cases c1 : inR 0 (n - 1) l[i] = true
    · have c1' : 0 ≤ l[i] ∧ l[i] ≤ n - 1 := of_decide_eq_true c1
      have ih := areSome_l0 h1 h6 hl d (i + 1) (l[i] + 1) (by omega) (by omega) (by omega) (fun j h e => by have e2 : i = j := (by omega); subst e2; rfl)
      by_cases z : i = 0
      · rw [decide_eq_true (show lo ≤ l[i] ∧ l[i] < n from ⟨by rw [ha z]; omega, by omega⟩), Bool.true_and]
        refine Ev.step (fun k => ?_) ih
        rw [impl_areSome.l0, if_pos (by omega), if_pos (by omega), if_pos (by omega), rd_lt _ _ hi2, w2, within_f, Option.bind_some, if_pos c1, if_neg (by omega), w1]
      · have w3 : wrap64 ((i : Int) - 1) = ((i - 1 : Nat) : Int) := by rw [w64 (by omega) (by omega)]; omega
        have hlo := hb (i - 1) (by omega) (by omega)
        by_cases c2 : l[i] ≤ l[i - 1]
        · rw [decide_eq_false (by omega), Bool.false_and]
          refine Ev.step (f := fun _ => some false) (fun k => ?_) (Ev.now _)
          rw [impl_areSome.l0, if_pos (by omega), if_pos (by omega), if_pos (by omega), rd_lt _ _ hi2, w2, within_f, Option.bind_some, if_pos c1, if_pos (by omega), w3, if_pos (by omega), if_pos (by omega), rd_lt _ (i - 1) (by omega), if_pos c2]
        · rw [decide_eq_true (show lo ≤ l[i] ∧ l[i] < n from ⟨by omega, by omega⟩), Bool.true_and]
          refine Ev.step (fun k => ?_) ih
          rw [impl_areSome.l0, if_pos (by omega), if_pos (by omega), if_pos (by omega), rd_lt _ _ hi2, w2, within_f, Option.bind_some, if_pos c1, if_pos (by omega), w3, if_pos (by omega), if_pos (by omega), rd_lt _ (i - 1) (by omega), if_neg c2, w1]
    · have c1' : ¬ (0 ≤ l[i] ∧ l[i] ≤ n - 1) := fun h => c1 (decide_eq_true h)
      rw [decide_eq_false (by omega), Bool.false_and]
      refine Ev.step (f := fun _ => some false) (fun k => ?_) (Ev.now _)
      rw [impl_areSome.l0, if_pos (by omega), if_pos (by omega), if_pos (by omega), rd_lt _ _ hi2, w2, within_f, Option.bind_some, if_neg c1]
theorem areSome {l : List Int} {n : Int} (h1 : 1 ≤ n) (h6 : n ≤ 6) (hl : l.length ≤ 4611686018427387904) : Ev (fun k => impl_areSome.f k l n) (risesB n 0 l) := by
  have h := areSome_l0 h1 h6 hl l.length 0 0 (by omega) (by omega) (fun _ => rfl) (fun j _ e => by omega)
  rw [List.drop_zero] at h
  exact h
theorem l1Rising_l0 {l : List Int} {n : Int} (h1 : 1 ≤ n) (h6 : n ≤ 6) (hl : l.length ≤ 4611686018427387904) : ∀ (d i : Nat) (lo : Int), i + d = l.length → 0 ≤ lo → (i = 0 → lo = 0) → (∀ j (h : j < l.length), i = j + 1 → lo = l[j] + 1) →
    Ev (fun k => spec_l1Rising.l0 k l 0 (n - 1) l (l.length : Int) i) (risesB n lo (l.drop i))
  | 0, i, lo, hi, h0, ha, hb => by
    refine Ev.step (f := fun _ => some true) (fun k => ?_) (evEq (Ev.now _) (by rw [List.drop_eq_nil_of_le (by omega)]; rfl))
    rw [spec_l1Rising.l0, if_neg (by omega)]
  | d + 1, i, lo, hi, h0, ha, hb => by
    have w1 : wrap64 ((i : Int) + 1) = ((i + 1 : Nat) : Int) := by rw [w64 (by omega) (by omega)]; rfl
    have hi2 : i < l.length := by omega
    rw [List.drop_eq_getElem_cons hi2, risesB]
    by_cases c1 : inR 0 (n - 1) l[i] = true
    · have c1' : 0 ≤ l[i] ∧ l[i] ≤ n - 1 := of_decide_eq_true c1
      have ih := l1Rising_l0 h1 h6 hl d (i + 1) (l[i] + 1) (by omega) (by omega) (by omega) (fun j h e => by have e2 : i = j := (by omega); subst e2; rfl)
      by_cases z : i = 0
      · rw [decide_eq_true (show lo ≤ l[i] ∧ l[i] < n from ⟨by rw [ha z]; omega, by omega⟩), Bool.true_and]
        refine Ev.step (fun k => ?_) ih
        rw [spec_l1Rising.l0, if_pos (by omega), if_pos (by omega), if_pos (by omega), rd_lt _ _ hi2, l1In_f, Option.bind_some, if_pos c1, if_neg (by omega), w1]
      · have w3 : wrap64 ((i : Int) - 1) = ((i - 1 : Nat) : Int) := by rw [w64 (by omega) (by omega)]; omega
        have hlo := hb (i - 1) (by omega) (by omega)
        by_cases c2 : l[i - 1] ≥ l[i]
        · rw [decide_eq_false (by omega), Bool.false_and]
          refine Ev.step (f := fun _ => some false) (fun k => ?_) (Ev.now _)
          rw [spec_l1Rising.l0, if_pos (by omega), if_pos (by omega), if_pos (by omega), rd_lt _ _ hi2, l1In_f, Option.bind_some, if_pos c1, if_pos (by omega), w3, if_pos (by omega), if_pos (by omega), rd_lt _ (i - 1) (by omega), if_pos c2]
        · rw [decide_eq_true (show lo ≤ l[i] ∧ l[i] < n from ⟨by omega, by omega⟩), Bool.true_and]
          refine Ev.step (fun k => ?_) ih
          rw [spec_l1Rising.l0, if_pos (by omega), if_pos (by omega), if_pos (by omega), rd_lt _ _ hi2, l1In_f, Option.bind_some, if_pos c1, if_pos (by omega), w3, if_pos (by omega), if_pos (by omega), rd_lt _ (i - 1) (by omega), if_neg c2, w1]
    · have c1' : ¬ (0 ≤ l[i] ∧ l[i] ≤ n - 1) := fun h => c1 (decide_eq_true h)
      rw [decide_eq_false (by omega), Bool.false_and]
      refine Ev.step (f := fun _ => some false) (fun k => ?_) (Ev.now _)
      rw [spec_l1Rising.l0, if_pos (by omega), if_pos (by omega), if_pos (by omega), rd_lt _ _ hi2, l1In_f, Option.bind_some, if_neg c1]
theorem l1Rising {l : List Int} {n : Int} (h1 : 1 ≤ n) (h6 : n ≤ 6) (hl : l.length ≤ 4611686018427387904) : Ev (fun k => spec_l1Rising.f k l 0 (wrap64 (n - 1))) (risesB n 0 l) := by
  have h := l1Rising_l0 h1 h6 hl l.length 0 0 (by omega) (by omega) (fun _ => rfl) (fun j _ e => by omega)
  rw [List.drop_zero] at h
  rw [w64 (by omega) (by omega)]
  exact h
set_option maxRecDepth 20000 in
theorem listM_cons : ∀ x : Fin 6, ∀ m : Fin 64, (∀ i : Fin 6, m.val.testBit i.val = true → x.val < i.val) → listM (2 ^ x.val ||| m.val) = (x.val : Int) :: listM m.val := by decide +kernel
/-- What rises below six is the list of a mask. -/
theorem rises_mask {n : Int} (h6 : n ≤ 6) : ∀ (l : List Int) (lo : Int), 0 ≤ lo → risesB n lo l = true → ∃ m : Nat, m < 64 ∧ l = listM m ∧ ∀ i, m.testBit i = true → lo ≤ i ∧ (i : Int) < n
  | [], lo, _, _ => ⟨0, by decide, by decide, fun i h => by simp at h⟩
  | x :: t, lo, h0, h => by
    rw [risesB, Bool.and_eq_true, decide_eq_true_eq] at h
    obtain ⟨m, hm, ht, hb⟩ := rises_mask h6 t (x + 1) (by omega) h.2
    obtain ⟨y, rfl⟩ : ∃ y : Nat, x = y := ⟨x.toNat, by omega⟩
    have hy : y < 6 := by omega
    refine ⟨2 ^ y ||| m, ?_, ?_, fun i hi => ?_⟩
    · have : (2 ^ y ||| m) < 2 ^ 6 := Nat.or_lt_two_pow (Nat.pow_lt_pow_right (by decide) hy) hm
      exact this
    · rw [listM_cons ⟨y, hy⟩ ⟨m, hm⟩ (fun i hi => by have := hb i.val hi; simp only []; omega), ← ht]
    · rw [Nat.testBit_or, Bool.or_eq_true] at hi
      rcases hi with hi | hi
      · rw [Nat.testBit_two_pow, decide_eq_true_eq] at hi; omega
      · have := hb i hi; omega
theorem mem_listM {m : Nat} {x : Int} : x ∈ listM m ↔ 0 ≤ x ∧ x < 6 ∧ m.testBit x.toNat = true := by
  unfold listM
  rw [List.mem_filter]
  have : x ∈ iota 0 6 ↔ 0 ≤ x ∧ x < 6 := by
    simp [iota]; omega
  rw [this]
  exact ⟨fun h => ⟨h.1.1, h.1.2, h.2⟩, fun h => ⟨⟨h.1, h.2.1⟩, h.2.2⟩⟩
theorem listM_len : ∀ m : Nat, (listM m).length ≤ 6 := fun m => Nat.le_trans (List.length_filter_le _ _) (by rw [iota_length]; exact Nat.le_refl _)
set_option maxRecDepth 20000 in
theorem maskOf_all : ∀ m : Fin 64, impl_maskOf.f 8 (listM m.val) = some (m.val : Int) := by decide +kernel
theorem maskOf {m : Nat} (hm : m < 64) : Ev (fun k => impl_maskOf.f k (listM m)) (m : Int) := Ev.of (fun k => impl_maskOf.mono _ k) (maskOf_all ⟨m, hm⟩)
set_option maxRecDepth 20000 in
theorem listOf_all : ∀ m : Fin 64, impl_listOf.f 8 (m.val : Int) = some (listM m.val) := by decide +kernel
theorem listOf {m : Nat} (hm : m < 64) : Ev (fun k => impl_listOf.f k (m : Int)) (listM m) := Ev.of (fun k => impl_listOf.mono _ k) (listOf_all ⟨m, hm⟩)
/-- All rows of some numbers, laid over each other. -/
def orFrom (l : List Int) (a : Nat) (rs : List Int) : Nat := rs.foldl (fun a x => a ||| (l.getD x.toNat 0).toNat) a
def orM (l rs : List Int) : Nat := orFrom l 0 rs
theorem orFrom_bit (l : List Int) (c : Nat) : ∀ (rs : List Int) (a : Nat), (orFrom l a rs).testBit c = (a.testBit c || rs.any (fun x => cell l x.toNat c))
  | [], a => by simp [orFrom]
  | x :: t, a => by
    have := orFrom_bit l c t (a ||| (l.getD x.toNat 0).toNat)
    unfold orFrom at *
    rw [List.foldl_cons, this, List.any_cons, Nat.testBit_or, Bool.or_assoc]; rfl
theorem orM_bit (l rs : List Int) (c : Nat) : (orM l rs).testBit c = rs.any (fun x => cell l x.toNat c) := by
  unfold orM; rw [orFrom_bit]; simp
theorem orFrom_lt {l : List Int} {C : Nat} (hb : ∀ i (hi : i < l.length), 0 ≤ l[i] ∧ l[i] < 2 ^ C) : ∀ (rs : List Int) (a : Nat), a < 2 ^ C → orFrom l a rs < 2 ^ C
  | [], a, h => h
  | x :: t, a, h => by
    unfold orFrom
    rw [List.foldl_cons]
    refine orFrom_lt hb t _ (Nat.or_lt_two_pow h ?_)
    by_cases e : x.toNat < l.length
    · rw [gD_lt _ _ e]
      have := hb _ e
      have h2 : l[x.toNat].toNat < (2 ^ C : Nat) := by
        have h3 := this.2
        have h4 : ((l[x.toNat].toNat : Nat) : Int) < ((2 ^ C : Nat) : Int) := by rw [Int.toNat_of_nonneg this.1]; exact_mod_cast h3
        exact_mod_cast h4
      exact h2
    · rw [gD_ge _ _ (by omega)]; exact Nat.two_pow_pos C
theorem columns_l0 {l : List Int} (r c : Int) {C : Nat} (hC : C ≤ 6) (hb : ∀ i (hi : i < l.length), 0 ≤ l[i] ∧ l[i] < 2 ^ C) {rs : List Int} (hrs : ∀ x ∈ rs, 0 ≤ x ∧ x < l.length) (hl : rs.length ≤ 6) : ∀ (d i a : Nat), i + d = rs.length → a < 2 ^ C →
    Ev (fun k => impl_Board_columns.l0 k a rs (rs.length : Int) i r c l) ((orFrom l a (rs.drop i) : Nat) : Int)
  | 0, i, a, hi, ha => by
    refine Ev.step (f := fun _ => some (a : Int)) (fun k => ?_) (evEq (Ev.now _) (by rw [List.drop_eq_nil_of_le (by omega)]; rfl))
    rw [impl_Board_columns.l0, if_neg (by omega)]
  | d + 1, i, a, hi, ha => by
    have w1 : wrap64 ((i : Int) + 1) = ((i + 1 : Nat) : Int) := by rw [w64 (by omega) (by omega)]; rfl
    have hi2 : i < rs.length := by omega
    obtain ⟨h0, h1⟩ := hrs rs[i] (List.getElem_mem hi2)
    obtain ⟨y, hy⟩ : ∃ y : Nat, rs[i] = y := ⟨rs[i].toNat, by omega⟩
    have hy2 : y < l.length := by omega
    have hp : 2 ^ C ≤ 2 ^ 6 := Nat.pow_le_pow_right (by decide) hC
    have ha2 := orFrom_lt hb [(y : Int)] a ha
    have e : orFrom l a [(y : Int)] = a ||| l[y].toNat := by
      show a ||| (l.getD ((y : Int)).toNat 0).toNat = _
      rw [Int.toNat_natCast, gD_lt _ _ hy2]
    rw [e] at ha2
    have ih := columns_l0 r c hC hb hrs hl d (i + 1) (a ||| l[y].toNat) (by omega) ha2
    rw [List.drop_eq_getElem_cons hi2]
    have e2 : orFrom l a (rs[i] :: rs.drop (i + 1)) = orFrom l (a ||| l[y].toNat) (rs.drop (i + 1)) := by unfold orFrom; rw [List.foldl_cons, hy, Int.toNat_natCast, gD_lt _ _ hy2]
    rw [e2]
    refine Ev.step (fun k => ?_) ih
    obtain ⟨z, hz⟩ : ∃ z : Nat, l[y] = z := ⟨l[y].toNat, by have := hb y hy2; omega⟩
    have hz2 : z < 64 := by have h3 := (hb y hy2).2; have h4 := two_pow_six hC; omega
    rw [impl_Board_columns.l0, if_pos (by omega), if_pos (by omega), if_pos (by omega), rd_lt _ _ hi2, if_pos h0, if_pos h1, hy, rd_lt _ _ hy2, hz, or_nat _ _ (by omega) (by omega), w1, Int.toNat_natCast]
theorem columns {l : List Int} (r c : Int) {C m : Nat} (hC : C ≤ 6) (hb : ∀ i (hi : i < l.length), 0 ≤ l[i] ∧ l[i] < 2 ^ C) (hm : m < 64) (hm2 : ∀ i, m.testBit i = true → i < l.length) : Ev (fun k => impl_Board_columns.f k r c l m) ((orM l (listM m) : Nat) : Int) := by
  unfold impl_Board_columns.f
  refine Ev.bind (listOf hm) ?_
  have := columns_l0 r c hC hb (rs := listM m) (fun x hx => by obtain ⟨h1, h2, h3⟩ := mem_listM.1 hx; have := hm2 _ h3; omega) (listM_len m) (listM m).length 0 0 (by omega) (Nat.two_pow_pos C)
  rw [List.drop_zero] at this
  exact this
/-- Is there a cell of the column in one of the rows from i on (rows: some rows; o: all others)? -/
def reachFrom (l rows : List Int) (o : Bool) (c : Nat) (i d : Nat) : Bool := (List.range' i d).any (fun r => (decide ((r : Int) ∈ rows) != o) && cell l r c)
theorem lcColumns_l1 {l : List Int} (R : Nat) (cI : Int) {C : Nat} (hlR : l.length = R) (hR : R ≤ 6) (hb : ∀ i (hi : i < l.length), 0 ≤ l[i] ∧ l[i] < 64) {rows acc : List Int} (o : Bool) (hrl : rows.length ≤ 4611686018427387904) (hal : acc.length < 17592186044416) {X : List Int} (c : Nat) (hc : c ≤ 6) :
    ∀ (d i : Nat) (b : Bool), i + d = R → Ev (fun k => spec_lcColumns.l0 k rows o (if (b || reachFrom l rows o c i d) = true then acc ++ [(c : Int)] else acc) ((c + 1 : Nat) : Int) R cI l) X →
      Ev (fun k => spec_lcColumns.l1 k rows o acc c b i R cI l) X
  | 0, i, b, hi, h => by
    have w1 : wrap64 ((c : Int) + 1) = ((c + 1 : Nat) : Int) := by rw [w64 (by omega) (by omega)]; rfl
    have e : (b || reachFrom l rows o c i 0) = b := by unfold reachFrom; simp
    rw [e] at h
    refine Ev.step (fun k => ?_) h
    rw [spec_lcColumns.l1, if_neg (by omega), w1]
    by_cases hb2 : b = true
    · rw [if_pos hb2, if_pos hb2, if_pos hal]
    · rw [if_neg hb2, if_neg hb2]
  | d + 1, i, b, hi, h => by
    have w1 : wrap64 ((i : Int) + 1) = ((i + 1 : Nat) : Int) := by rw [w64 (by omega) (by omega)]; rfl
    have e : (b || reachFrom l rows o c i (d + 1)) = ((b || ((decide ((i : Int) ∈ rows) != o) && cell l i c)) || reachFrom l rows o c (i + 1) d) := by
      unfold reachFrom
      rw [List.range'_succ, List.any_cons, Bool.or_assoc]
    rw [e] at h
    have ih := lcColumns_l1 R cI (C := C) hlR hR hb o hrl hal c hc d (i + 1) _ (by omega) h
    cases b with
    | true =>
      rw [Bool.true_or] at ih
      refine Ev.step (fun k => ?_) ih
      rw [spec_lcColumns.l1, if_pos (by omega), if_pos rfl, w1]
    | false =>
      rw [Bool.false_or] at ih
      refine Ev.step (f := fun k => (spec_l1Has.f k rows i).bind fun t => if (t != o) = true then (spec_boHas.f R cI l i c).bind fun t2 => spec_lcColumns.l1 k rows o acc c t2 ((i + 1 : Nat) : Int) R cI l else spec_lcColumns.l1 k rows o acc c false ((i + 1 : Nat) : Int) R cI l) (fun k => ?_) ?_
      · rw [spec_lcColumns.l1, if_pos (by omega), if_neg (by simp), w1]
      · refine Ev.bind (l1Has (i : Int) hrl) ?_
        by_cases hh : (decide ((i : Int) ∈ rows) != o) = true
        · rw [hh, Bool.true_and] at ih
          refine Ev.congr (fun k => ?_) ih
          rw [if_pos hh, boHas_f (R : Int) cI (show i < l.length by omega) (hb i (by omega)).1 (hb i (by omega)).2 (by omega), Option.bind_some]
        · have hh2 : (decide ((i : Int) ∈ rows) != o) = false := by simpa using hh
          rw [hh2, Bool.false_and] at ih
          exact Ev.congr (fun k => by rw [if_neg hh]) ih
theorem lcColumns_l0 {l : List Int} (R C : Nat) (hlR : l.length = R) (hR : R ≤ 6) (hC : C ≤ 6) (hb : ∀ i (hi : i < l.length), 0 ≤ l[i] ∧ l[i] < 64) {rows : List Int} (o : Bool) (hrl : rows.length ≤ 4611686018427387904) : ∀ (d c : Nat) (acc : List Int), c + d = C → acc.length ≤ c →
    Ev (fun k => spec_lcColumns.l0 k rows o acc c R C l) (acc ++ (iota c d).filter (fun x => reachFrom l rows o x.toNat 0 R))
  | 0, c, acc, hc, ha => by
    refine Ev.step (f := fun _ => some acc) (fun k => ?_) (evEq (Ev.now _) (by simp [iota]))
    rw [spec_lcColumns.l0, if_neg (by omega)]
  | d + 1, c, acc, hc, ha => by
    have ih := lcColumns_l0 R C hlR hR hC hb o hrl d (c + 1) (if (reachFrom l rows o c 0 R) = true then acc ++ [(c : Int)] else acc) (by omega) (by split <;> (try rw [List.length_append, List.length_singleton]) <;> omega)
    refine Ev.step (f := fun k => spec_lcColumns.l1 k rows o acc c false 0 R C l) (fun k => by rw [spec_lcColumns.l0, if_pos (by omega)]) ?_
    refine lcColumns_l1 R C (C := C) hlR hR hb o hrl (by omega) c (by omega) R 0 false (by omega) ?_
    rw [Bool.false_or]
    refine evEq ih ?_
    rw [iota, List.filter_cons, Int.toNat_natCast]
    by_cases h : reachFrom l rows o c 0 R = true
    · rw [if_pos h, if_pos h, List.append_assoc]; rfl
    · rw [if_neg h, if_neg h]; rfl
/-- The columns with a cell in some rows, or in all others. -/
def colsS (l rows : List Int) (o : Bool) (R C : Nat) : List Int := (iota 0 C).filter (fun x => reachFrom l rows o x.toNat 0 R)
theorem lcColumns {l : List Int} (R C : Nat) (hlR : l.length = R) (hR : R ≤ 6) (hC : C ≤ 6) (hb : ∀ i (hi : i < l.length), 0 ≤ l[i] ∧ l[i] < 64) {rows : List Int} (o : Bool) (hrl : rows.length ≤ 4611686018427387904) : Ev (fun k => spec_lcColumns.f k R C l rows o) (colsS l rows o R C) := by
  unfold spec_lcColumns.f
  exact lcColumns_l0 R C hlR hR hC hb o hrl C 0 [] (by omega) (by simp)
theorem iota_sub {C : Nat} (hC : C ≤ 6) (m : Nat) (hm : m < 2 ^ C) : listM m = (iota 0 C).filter (fun i => m.testBit i.toNat) := by
  have : ∀ C : Fin 7, ∀ m : Fin 64, m.val < 2 ^ C.val → listM m.val = (iota 0 C.val).filter (fun i => m.val.testBit i.toNat) := by decide +kernel
  have hp : 2 ^ C ≤ 2 ^ 6 := Nat.pow_le_pow_right (by decide) hC
  exact this ⟨C, by omega⟩ ⟨m, by omega⟩ hm
/-- The program's columns of some rows are the reference's. -/
theorem colsS_mask {l : List Int} {R C m : Nat} (hlR : l.length = R) (hR : R ≤ 6) (hC : C ≤ 6) (hb : ∀ i (hi : i < l.length), 0 ≤ l[i] ∧ l[i] < 2 ^ C) (hm2 : ∀ i, m.testBit i = true → i < R) : listM (orM l (listM m)) = colsS l (listM m) false R C := by
  have hlt : orM l (listM m) < 2 ^ C := orFrom_lt hb _ 0 (Nat.two_pow_pos C)
  rw [iota_sub hC _ hlt]
  unfold colsS
  congr 1
  funext x
  rw [orM_bit]
  unfold reachFrom
  rw [Bool.eq_iff_iff, List.any_eq_true, List.any_eq_true]
  constructor
  · rintro ⟨y, hy, hc⟩
    obtain ⟨h1, h2, h3⟩ := mem_listM.1 hy
    refine ⟨y.toNat, List.mem_range'_1.2 ⟨by omega, by have := hm2 _ h3; omega⟩, ?_⟩
    rw [show ((y.toNat : Nat) : Int) = y by omega, decide_eq_true hy, hc]; rfl
  · rintro ⟨y, hy, hc⟩
    rw [Bool.and_eq_true] at hc
    have h1 : ((y : Nat) : Int) ∈ listM m := by simpa using hc.1
    exact ⟨(y : Int), h1, by rw [Int.toNat_natCast]; exact hc.2⟩
end Go.Proofs.Ytgnmcfoenmfhcaa.LinesK
