/- Texts of this claim put together (14): words, what the functions compute, and plain facts. No conditions. -/
import Derived.Test.YtgnmcfoenmfhcaaSFnLongerWays13
import Derived.Test.YtgnmcfoenmfhcaaSFnLongerWays8
import Derived.Test.YtgnmcfoenmfhcaaSFnLongerWays7
import Derived.Test.YtgnmcfoenmfhcaaSFnLongerWays4
import Derived.Test.YtgnmcfoenmfhcaaSFnLongerWays10
import Derived.Test.YtgnmcfoenmfhcaaSFnLongerWays11
import Derived.Test.YtgnmcfoenmfhcaaSFnLongerWays5
import Derived.Test.YtgnmcfoenmfhcaaSFnLongerWays12
import Derived.OpenShut
section
namespace Go.Proofs.Ytgnmcfoenmfhcaa.LongK
set_option linter.unusedVariables false
set_option linter.unusedSectionVars false
open Go.RowKit Go.Proofs.Ytgnmcfoenmfhcaa.Q Go.Proofs.YtgnmcfoenmfhcaaW.PrintWords Go.Proofs.YtgnmcfoenmfhcaaW.PrintLast Go.Proofs.YtgnmcfoenmfhcaaW.PrintMore
open Go.Proofs.YtgnmcfoenmfhcaaL Go.Proofs.Ytgnmcfoenmfhcaa.LawK Go.Proofs.Ytgnmcfoenmfhcaa.BoardK Go.Proofs.Ytgnmcfoenmfhcaa.Koenig Go.Proofs.Ytgnmcfoenmfhcaa.MostK
open Go.Proofs.Ytgnmcfoenmfhcaa.PlaceK (placeB placeI rk placeB_ge evEq)
def pF (p : List Int) : Nat → Option Nat := fun r => if 0 ≤ p.getD r (-1) then some (p.getD r (-1)).toNat else none
theorem pF_some {p : List Int} {r c : Nat} : pF p r = some c ↔ r < p.length ∧ p.getD r (-1) = (c : Int) := by
  unfold pF
  by_cases h : r < p.length
  · constructor
    · intro e
      split at e
      · injection e with e; exact ⟨h, by omega⟩
      · cases e
    · rintro ⟨_, e⟩
      rw [e, if_pos (by omega), Int.toNat_natCast]
  · rw [gD_ge _ _ (by omega), if_neg (by decide)]
    exact ⟨fun e => (by cases e), fun e => absurd e.1 h⟩
theorem placeI_at {l : List Int} {C : Nat} : ∀ (t : List Int) (i : Nat) (pre : List Int), placeI l C t i pre = true → ∀ j (h : j < t.length), t[j] = -1 ∨ (0 ≤ t[j] ∧ t[j] < C ∧ cell l (i + j) t[j].toNat = true ∧ ¬ t[j] ∈ pre ∧ ∀ m (hm : m < j), t[m] ≠ t[j])
  | [], i, pre, _, j, h => by cases h
  | x :: t, i, pre, hp, j, h => by
    rw [placeI, Bool.and_eq_true] at hp
    obtain ⟨h1, h2⟩ := hp
    cases j with
    | zero =>
      rw [Bool.or_eq_true] at h1
      rcases h1 with h1 | h1
      · left; simpa using h1
      · right
        rw [Bool.and_eq_true, Bool.and_eq_true] at h1
        obtain ⟨a, b, c⟩ := h1
        have a' : 0 ≤ x ∧ x ≤ (C : Int) - 1 := of_decide_eq_true a
        refine ⟨a'.1, by show x < (C : Int); omega, b, by simpa using c, fun m hm => by omega⟩
    | succ j =>
      have ih := placeI_at t (i + 1) (pre ++ [x]) h2 j (by simpa using h)
      rcases ih with ih | ⟨a, b, c, d, e⟩
      · left; exact ih
      · right
        refine ⟨a, b, by rw [show i + (j + 1) = i + 1 + j by omega]; exact c, fun hm => d (by rw [List.mem_append]; exact .inl hm), fun m hm => ?_⟩
        cases m with
        | zero => exact fun e2 => d (by rw [List.mem_append]; exact .inr (by rw [List.mem_singleton]; exact e2.symm))
        | succ m => exact e m (by omega)
theorem place_match {l p : List Int} {R C : Nat} (hlR : l.length = R) (hR : R ≤ 6) (hC : C ≤ 6) (h : placeB l C p = true) : Match (cell l) (pF p) := by
  unfold placeB at h
  rw [Bool.and_eq_true, decide_eq_true_eq] at h
  have hat := placeI_at p 0 [] h.2
  constructor
  · intro r c e
    obtain ⟨h1, h2⟩ := pF_some.1 e
    rw [gD_lt _ _ h1] at h2
    rcases hat r h1 with g | ⟨a, b, g, _, _⟩
    · omega
    · rw [h2, Nat.zero_add, Int.toNat_natCast] at g
      exact ⟨by omega, by omega, g⟩
  · intro r r' c e e'
    obtain ⟨h1, h2⟩ := pF_some.1 e
    obtain ⟨h1', h2'⟩ := pF_some.1 e'
    rw [gD_lt _ _ h1] at h2
    rw [gD_lt _ _ h1'] at h2'
    rcases Nat.lt_trichotomy r r' with hlt | heq | hlt
    · rcases hat r' h1' with g | ⟨_, _, _, _, g⟩
      · omega
      · exact absurd (by omega) (g r hlt)
    · exact heq
    · rcases hat r h1 with g | ⟨_, _, _, _, g⟩
      · omega
      · exact absurd (by omega) (g r' hlt)
def Freed (l p : List Int) (m : Nat) (r : Nat) : Prop := ∃ f, Match (cell l) f ∧ size f = size (pF p) ∧ f r = none ∧ r < l.length ∧ (∀ q c, f q = some c → ∃ q', pF p q' = some c) ∧ ∀ q c, m.testBit c = false → (f q = some c ↔ pF p q = some c)
theorem freed_more {l p : List Int} {m c r : Nat} (h : Freed l p m r) : Freed l p (m ||| 2 ^ c) r := by
  obtain ⟨f, h1, h2, h3, h4, h5, h6⟩ := h
  refine ⟨f, h1, h2, h3, h4, h5, fun q x hx => h6 q x ?_⟩
  rw [Nat.testBit_or, Bool.or_eq_false_iff] at hx
  exact hx.1
theorem freed_next {l p : List Int} {m c r r' : Nat} (hl : l.length ≤ 6) (hp : Match (cell l) (pF p)) (h : Freed l p m r) (hc : cell l r c = true) (hc6 : c < 6) (hm : m.testBit c = false) (hr' : pF p r' = some c) (hrl : r' < l.length) : Freed l p (m ||| 2 ^ c) r' := by
  obtain ⟨f, h1, h2, h3, h4, h5, h6⟩ := h
  have hf' : f r' = some c := (h6 r' c hm).2 hr'
  have hne : r ≠ r' := fun e => by rw [e, hf'] at h3; cases h3
  have hs1 : size (fun q => if q = r' then none else f q) + 1 = size f := by
    rw [← size_put (f := fun q => if q = r' then none else f q) (r := r') (c := c) (by omega) (by simp)]
    refine size_congr fun x _ => ?_
    by_cases hx : x = r'
    · subst hx; simp [hf']
    · simp [hx]
  refine ⟨fun q => if q = r then some c else (if q = r' then none else f q), ⟨fun q x e => ?_, fun q q' x e e' => ?_⟩, ?_, ?_, hrl, fun q x e => ?_, fun q x hx => ?_⟩
  · try simp only [] at e
    split at e
    · rename_i hq; injection e with e; subst hq e; exact ⟨by omega, hc6, hc⟩
    · split at e
      · cases e
      · exact h1.edge q x e
  · try simp only [] at e e'
    split at e
    · rename_i hq
      injection e with e
      split at e'
      · rename_i hq'; omega
      · split at e'
        · cases e'
        · rename_i hq1 hq2
          exact absurd (h1.inj q' r' c (by rw [e', e]) hf') hq2
    · split at e
      · cases e
      · rename_i hq1 hq2
        split at e'
        · injection e' with e'
          exact absurd (h1.inj q r' c (by rw [e, e']) hf') hq2
        · split at e'
          · cases e'
          · exact h1.inj q q' x e e'
  · rw [size_put (f := fun q => if q = r' then none else f q) (by omega) (by simp [hne, h3]), hs1, h2]
  · try simp only []
    rw [if_neg (fun e => hne e.symm), if_pos trivial]
  · try simp only [] at e
    split at e
    · injection e with e; subst e; exact ⟨r', hr'⟩
    · split at e
      · cases e
      · exact h5 q x e
  · rw [Nat.testBit_or, Bool.or_eq_false_iff, Nat.testBit_two_pow, decide_eq_false_iff_not] at hx
    have h7 := h6 q x hx.1
    try simp only []
    split
    · rename_i hq
      subst hq
      rw [h3] at h7
      constructor
      · intro e; injection e with e; exact absurd e hx.2
      · intro e; exact absurd (h7.2 e) (by simp)
    · split
      · rename_i hq
        subst hq
        constructor
        · intro e; cases e
        · intro e
          rw [hr'] at e
          injection e with e
          exact absurd e hx.2
      · exact h7
theorem freed_grow {l p : List Int} {m c r : Nat} (hl : l.length ≤ 6) (h : Freed l p m r) (hc : cell l r c = true) (hc6 : c < 6) (hr' : ∀ q, pF p q ≠ some c) : ∃ f, Match (cell l) f ∧ size (pF p) < size f := by
  obtain ⟨f, h1, h2, h3, h4, h5, h6⟩ := h
  have hno : ∀ q, f q ≠ some c := fun q e => by obtain ⟨q', e'⟩ := h5 q c e; exact hr' q' e'
  refine ⟨fun q => if q = r then some c else f q, ⟨fun q x e => ?_, fun q q' x e e' => ?_⟩, by rw [size_put (by omega) h3]; omega⟩
  · try simp only [] at e
    split at e
    · rename_i hq; injection e with e; subst hq e; exact ⟨by omega, hc6, hc⟩
    · exact h1.edge q x e
  · try simp only [] at e e'
    split at e
    · rename_i hq
      injection e with e
      split at e'
      · rename_i hq'; omega
      · exact absurd (by rw [e', e]) (hno q')
    · split at e'
      · injection e' with e'; exact absurd (by rw [e, e']) (hno q)
      · exact h1.inj q q' x e e'
def rowOf (c : Int) : List Int → Nat → Int
  | [], _ => -1
  | x :: t, i => if c = x then (i : Int) else rowOf c t (i + 1)
theorem rowOf_at (c : Int) : ∀ (t : List Int) (i : Nat), (rowOf c t i = -1 ∧ ¬ c ∈ t) ∨ ∃ j, ∃ h : j < t.length, rowOf c t i = ((i + j : Nat) : Int) ∧ t[j] = c
  | [], i => .inl ⟨rfl, by simp⟩
  | x :: t, i => by
    rw [rowOf]
    by_cases h : c = x
    · rw [if_pos h]; exact .inr ⟨0, by simp, by simp, h.symm⟩
    · rw [if_neg h]
      rcases rowOf_at c t (i + 1) with ⟨h1, h2⟩ | ⟨j, hj, h1, h2⟩
      · exact .inl ⟨h1, by simp [h, h2]⟩
      · exact .inr ⟨j + 1, by simpa using hj, by rw [h1]; congr 1; omega, by simpa using h2⟩
theorem index_l0 {l : List Int} (x : Int) (hl : l.length ≤ 1048576) : ∀ (d i : Nat), i + d = l.length → Ev (fun k => slices_Index_int_int.l0 k l x (l.length : Int) i) (rowOf x (l.drop i) i)
  | 0, i, hi => by
    refine Ev.step (f := fun _ => some (-1)) (fun k => ?_) (evEq (Ev.now _) (by rw [List.drop_eq_nil_of_le (by omega)]; rfl))
    rw [slices_Index_int_int.l0, if_neg (by omega)]
  | d + 1, i, hi => by
    have w1 := Aside0.mk (show wrap64 ((i : Int) + 1) = ((i + 1 : Nat) : Int) from by rw [w64 (by omega) (by omega)]; rfl)
    have hi2 : i < l.length := by omega
    rw [List.drop_eq_getElem_cons hi2, rowOf]
    by_cases e : x = l[i]
    · rw [if_pos e]
      refine Ev.step (f := fun _ => some (i : Int)) (fun k => ?_) (Ev.now _)
      rw [slices_Index_int_int.l0, if_pos (by omega), if_pos (by omega), if_pos (by omega), rd_lt _ _ hi2, if_pos e]
    · rw [if_neg e]
      refine Ev.step (fun k => ?_) (index_l0 x hl d (i + 1) (by omega))
      rw [slices_Index_int_int.l0, if_pos (by omega), if_pos (by omega), if_pos (by omega), rd_lt _ _ hi2, if_neg e, w1.out]
theorem index {l : List Int} (x : Int) (hl : l.length ≤ 1048576) : Ev (fun k => slices_Index_int_int.f k l x) (rowOf x l 0) := by
  have h := index_l0 x hl l.length 0 (by omega)
  rw [List.drop_zero] at h
  exact h
theorem lcRowOf_l0 {l : List Int} (x : Int) (hl : l.length ≤ 1048576) : ∀ (d i : Nat), i + d = l.length → Ev (fun k => spec_lcRowOf.l0 k x l (l.length : Int) i) (rowOf x (l.drop i) i)
  | 0, i, hi => by
    refine Ev.step (f := fun _ => some (-1)) (fun k => ?_) (evEq (Ev.now _) (by rw [List.drop_eq_nil_of_le (by omega)]; rfl))
    rw [spec_lcRowOf.l0, if_neg (by omega)]
  | d + 1, i, hi => by
    have w1 := Aside0.mk (show wrap64 ((i : Int) + 1) = ((i + 1 : Nat) : Int) from by rw [w64 (by omega) (by omega)]; rfl)
    have hi2 : i < l.length := by omega
    rw [List.drop_eq_getElem_cons hi2, rowOf]
    by_cases e : x = l[i]
    · rw [if_pos e]
      refine Ev.step (f := fun _ => some (i : Int)) (fun k => ?_) (Ev.now _)
      rw [spec_lcRowOf.l0, if_pos (by omega), if_pos (by omega), if_pos (by omega), rd_lt _ _ hi2, if_pos e.symm]
    · rw [if_neg e]
      refine Ev.step (fun k => ?_) (lcRowOf_l0 x hl d (i + 1) (by omega))
      rw [spec_lcRowOf.l0, if_pos (by omega), if_pos (by omega), if_pos (by omega), rd_lt _ _ hi2, if_neg (fun h => e h.symm), w1.out]
theorem lcRowOf {l : List Int} (x : Int) (hl : l.length ≤ 1048576) : Ev (fun k => spec_lcRowOf.f k l x) (rowOf x l 0) := by
  have h := lcRowOf_l0 x hl l.length 0 (by omega)
  rw [List.drop_zero] at h
  exact h
def left (m : Nat) : Nat := cnt (fun c => !m.testBit c)
theorem left_less {m c : Nat} (hc : c < 6) (h : m.testBit c = false) : left (m ||| 2 ^ c) + 1 = left m := by
  unfold left
  rw [← cnt_add (p := fun x => !(m ||| 2 ^ c).testBit x) hc (by simp)]
  refine cnt_congr fun x _ => ?_
  rw [Nat.testBit_or, Nat.testBit_two_pow]
  by_cases e : c = x
  · subst e; simp [h]
  · simp [e, show ¬ x = c from fun h => e h.symm]
structure Inv (l p : List Int) (Q : List S97) (m : Nat) : Prop where
  len : Q.length + left m ≤ 12
  way : ∀ x ∈ Q, x.f1.length + 2 * left m ≤ 13
  row : ∀ x ∈ Q, ∃ r : Nat, x.f0 = r ∧ r < l.length ∧ Freed l p m r
  m64 : m < 64
def Good (l p : List Int) (a : List Int × Bool) : Prop := (a.2 = true → ∃ f, Match (cell l) f ∧ size (pF p) < size f) ∧ a.1.length ≤ 1000 ∧ (a.2 = false → a.1 = [])
theorem l1Own_f {l : List Int} (h : l.length ≤ 1000) : spec_l1Own.f l = some l := by
  unfold spec_l1Own.f
  rw [Option.bind_some, if_pos (by simp; omega)]
  rfl
theorem clone_f {l : List Int} (h : l.length ≤ 1000) : slices_Clone_int_int.f l = some l := by
  unfold slices_Clone_int_int.f
  rw [if_pos (by omega)]
section
variable {l p : List Int} {R C : Nat} (hlR : l.length = R) (hR : R ≤ 6) (hC : C ≤ 6) (hb : ∀ i (hi : i < l.length), 0 ≤ l[i] ∧ l[i] < 64) (hp : Match (cell l) (pF p)) (hpl : p.length = l.length)
include hlR hR hC hb hp hpl
theorem search_l2 (i : Nat) (hi12 : i ≤ 12) (ihl : ∀ Q m, Inv l p Q m → i + 1 ≤ Q.length → ∃ a, Ev (fun k => impl_LongerWay.l1 k p Q (m : Nat) ((i + 1 : Nat) : Int) R C l) a ∧ Ev (fun k => spec_LongerWay.l1 k p (Q.map S97.f0) (Q.map S97.f1) (m : Nat) ((i + 1 : Nat) : Int) R C l) a ∧ Good l p a) (s : S97) :
    ∀ (e c : Nat) (Q : List S97) (m : Nat), c + e = C → Inv l p Q m → Q[i]? = some s → ∃ a, Ev (fun k => impl_LongerWay.l2 k p Q (m : Nat) (i : Nat) C (c : Nat) R C l s.f0 s.f1) a ∧ Ev (fun k => spec_LongerWay.l2 k p (Q.map S97.f0) (Q.map S97.f1) (m : Nat) (i : Nat) (c : Nat) R C l) a ∧ Good l p a
  | 0, c, Q, m, hc, hinv, hs => by
    have hiQ : i < Q.length := (List.getElem?_eq_some_iff.1 hs).1
    have w1 := Aside0.mk (show wrap64 ((i : Int) + 1) = ((i + 1 : Nat) : Int) from by rw [w64 (by omega) (by omega)]; rfl)
    obtain ⟨a, h1, h2, h3⟩ := ihl Q m hinv (by omega)
    refine ⟨a, Ev.step (fun k => ?_) h1, Ev.step (fun k => ?_) h2, h3⟩
    · rw [impl_LongerWay.l2, if_neg (by omega), w1.out]
    · rw [spec_LongerWay.l2, if_neg (by omega), w1.out]
  | e + 1, c, Q, m, hc, hinv, hs => by
    have hiQ : i < Q.length := (List.getElem?_eq_some_iff.1 hs).1
    have hsQ : Q[i] = s := (List.getElem?_eq_some_iff.1 hs).2
    have w1 := Aside0.mk (show wrap64 ((c : Int) + 1) = ((c + 1 : Nat) : Int) from by rw [w64 (by omega) (by omega)]; rfl)
    obtain ⟨r, hr, hrl, hfr⟩ := hinv.row s (by rw [← hsQ]; exact List.getElem_mem hiQ)
    have hway := hinv.way s (by rw [← hsQ]; exact List.getElem_mem hiQ)
    have hm64 := hinv.m64
    have hrd : rd (Q.map S97.f0) (i : Int) = (r : Int) := by rw [rd_lt _ _ (by rw [List.length_map]; exact hiQ), List.getElem_map, hsQ, hr]
    have hrd2 : rd_L2 (Q.map S97.f1) (i : Int) = s.f1 := by unfold rd_L2; rw [Int.toNat_natCast, gD_lt _ _ (by rw [List.length_map]; exact hiQ), List.getElem_map, hsQ]
    have hbit : Go.bits .and .i64 (shr .i64 (m : Int) (c : Int)) 1 = if m.testBit c then 1 else 0 := bit_and m c (by omega) (by omega)
    have hbit2 : Int.tmod (shr .i64 (m : Int) (c : Int)) 2 = if m.testBit c then 1 else 0 := bit_mod m c (by omega)
    -- the two tests
    have hI : ∀ {a : List Int × Bool}, Ev (fun k => impl_LongerWay.j4 k p Q (m : Nat) (i : Nat) (c : Nat) C (c : Nat) (!(cell l r c && !m.testBit c)) R C l s.f0 s.f1) a → Ev (fun k => impl_LongerWay.l2 k p Q (m : Nat) (i : Nat) C (c : Nat) R C l s.f0 s.f1) a := by
      intro a h
      refine Ev.step (fun k => ?_) h
      rw [impl_LongerWay.l2, if_pos (by omega), hr, has_f (R : Int) (C : Int) hrl (hb r hrl).1 (hb r hrl).2 (by omega), Option.bind_some]
      by_cases g : cell l r c = true
      · rw [if_pos g, if_pos (by omega), hbit, g]
        cases m.testBit c <;> rfl
      · rw [if_neg g, show cell l r c = false by simpa using g]
        rfl
    have hS : ∀ {a : List Int × Bool}, Ev (fun k => spec_LongerWay.j4 k p (Q.map S97.f0) (Q.map S97.f1) (m : Nat) (i : Nat) (c : Nat) (!(cell l r c && !m.testBit c)) R C l) a → Ev (fun k => spec_LongerWay.l2 k p (Q.map S97.f0) (Q.map S97.f1) (m : Nat) (i : Nat) (c : Nat) R C l) a := by
      intro a h
      refine Ev.step (fun k => ?_) h
      rw [spec_LongerWay.l2, if_pos (by omega), if_pos (by omega), if_pos (by rw [List.length_map]; omega), hrd, boHas_f (R : Int) (C : Int) hrl (hb r hrl).1 (hb r hrl).2 (by omega), Option.bind_some]
      by_cases g : cell l r c = true
      · rw [if_pos g, if_pos (by omega), hbit2, g]
        cases m.testBit c <;> rfl
      · rw [if_neg g, show cell l r c = false by simpa using g]
        rfl
    by_cases hnew : (cell l r c && !m.testBit c) = true
    rotate_left
    · obtain ⟨a, h1, h2, h3⟩ := search_l2 i hi12 ihl s e (c + 1) Q m (by omega) hinv hs
      have hf : (!(cell l r c && !m.testBit c)) = true := by rw [Bool.eq_false_iff.mpr hnew]; rfl
      refine ⟨a, hI (Ev.step (fun k => ?_) h1), hS (Ev.step (fun k => ?_) h2), h3⟩
      · rw [impl_LongerWay.j4, hf, if_pos rfl, w1.out]
      · rw [spec_LongerWay.j4, hf, if_pos rfl, w1.out]
    · have hf : (!(cell l r c && !m.testBit c)) = false := by rw [hnew]; rfl
      rw [Bool.and_eq_true] at hnew
      have hmc : m.testBit c = false := by simpa using hnew.2
      have hor := Aside0.mk (show Go.bits .or .i64 (m : Int) (shl .i64 1 (c : Int)) = ((m ||| 2 ^ c : Nat) : Int) from by
        rw [shl_one c (by omega), or_nat _ _ (by omega) (by have : 2 ^ c < 2 ^ 6 := Nat.pow_lt_pow_right (by decide) (by omega); omega)])
      have hl6 : l.length ≤ 6 := by omega
      have hQl := hinv.len
      have hI2 : ∀ {a : List Int × Bool}, Ev (fun k => if rowOf (c : Int) p 0 < 0 then some (s.f1 ++ [(c : Int)], true) else impl_LongerWay.l2 k p (Q ++ [(⟨rowOf (c : Int) p 0, s.f1 ++ [(c : Int)] ++ [rowOf (c : Int) p 0]⟩ : S97)]) ((m ||| 2 ^ c : Nat) : Int) (i : Nat) C ((c + 1 : Nat) : Int) R C l s.f0 s.f1) a → Ev (fun k => impl_LongerWay.l2 k p Q (m : Nat) (i : Nat) C (c : Nat) R C l s.f0 s.f1) a := by
        intro a h
        refine hI (Ev.step (f := fun k => (slices_Index_int_int.f k p (c : Int)).bind fun t125 => if t125 < 0 then some (s.f1 ++ [(c : Int)], true) else impl_LongerWay.l2 k p (Q ++ [(⟨t125, s.f1 ++ [(c : Int)] ++ [t125]⟩ : S97)]) ((m ||| 2 ^ c : Nat) : Int) (i : Nat) C ((c + 1 : Nat) : Int) R C l s.f0 s.f1) (fun k => ?_) ?_)
        · rw [impl_LongerWay.j4, hf, if_neg (by simp), if_pos (by omega), clone_f (by omega), Option.bind_some, if_pos (by omega), Option.bind_some, hor.out, w1.out]
          congr 1
          funext t
          rw [if_pos (show (s.f1 ++ [(c : Int)]).length < 17592186044416 by rw [List.length_append, List.length_singleton]; omega), if_pos (show Q.length < 4398046511104 by omega)]
        · exact Ev.bind (index (c : Int) (by omega)) h
      have hS2 : ∀ {a : List Int × Bool}, Ev (fun k => if rowOf (c : Int) p 0 < 0 then some (s.f1 ++ [(c : Int)], true) else spec_LongerWay.l2 k p (Q.map S97.f0 ++ [rowOf (c : Int) p 0]) (Q.map S97.f1 ++ [s.f1 ++ [(c : Int)] ++ [rowOf (c : Int) p 0]]) ((m ||| 2 ^ c : Nat) : Int) (i : Nat) ((c + 1 : Nat) : Int) R C l) a → Ev (fun k => spec_LongerWay.l2 k p (Q.map S97.f0) (Q.map S97.f1) (m : Nat) (i : Nat) (c : Nat) R C l) a := by
        intro a h
        refine hS (Ev.step (f := fun k => (spec_lcRowOf.f k p (c : Int)).bind fun t123 => if t123 < 0 then some (s.f1 ++ [(c : Int)], true) else spec_LongerWay.l2 k p (Q.map S97.f0 ++ [t123]) (Q.map S97.f1 ++ [s.f1 ++ [(c : Int)] ++ [t123]]) ((m ||| 2 ^ c : Nat) : Int) (i : Nat) ((c + 1 : Nat) : Int) R C l) (fun k => ?_) ?_)
        · rw [spec_LongerWay.j4, hf, if_neg (by simp), if_pos (by omega), if_pos (by omega), if_pos (by rw [List.length_map]; omega), hrd2, l1Own_f (by omega), Option.bind_some, if_pos (by omega), Option.bind_some, hor.out, w1.out]
          congr 1
          funext t
          rw [if_pos (show (Q.map S97.f0).length < 17592186044416 by rw [List.length_map]; omega), if_pos (show (s.f1 ++ [(c : Int)]).length < 17592186044416 by rw [List.length_append, List.length_singleton]; omega), if_pos (show (Q.map S97.f1).length < 5864062014805 by rw [List.length_map]; omega)]
        · exact Ev.bind (lcRowOf (c : Int) (by omega)) h
      rcases rowOf_at (c : Int) p 0 with ⟨g1, g2⟩ | ⟨j, hj, g1, g2⟩
      · refine ⟨(s.f1 ++ [(c : Int)], true), hI2 ?_, hS2 ?_, fun _ => freed_grow hl6 hfr hnew.1 (by omega) (fun q e => g2 ?_), by rw [List.length_append, List.length_singleton]; omega, fun h => (by cases h)⟩
        · exact Ev.congr (fun k => by rw [g1, if_pos (by omega)]) (Ev.now _)
        · exact Ev.congr (fun k => by rw [g1, if_pos (by omega)]) (Ev.now _)
        · obtain ⟨h1, h2⟩ := pF_some.1 e
          rw [gD_lt _ _ h1] at h2
          rw [← h2]
          exact List.getElem_mem h1
      · rw [Nat.zero_add] at g1
        have hll := left_less (m := m) (show c < 6 by omega) hmc
        have hpj : pF p j = some c := pF_some.2 ⟨hj, by rw [gD_lt _ _ hj]; exact g2⟩
        have hor6 : m ||| 2 ^ c < 64 := Nat.or_lt_two_pow (n := 6) hm64 (Nat.pow_lt_pow_right (by decide) (by omega))
        obtain ⟨a, h1, h2, h3⟩ := search_l2 i hi12 ihl s e (c + 1) (Q ++ [(⟨(j : Int), s.f1 ++ [(c : Int)] ++ [(j : Int)]⟩ : S97)]) (m ||| 2 ^ c) (by omega)
          ⟨by rw [List.length_append, List.length_singleton]; omega,
           fun x hx => by
            rcases List.mem_append.1 hx with hx | hx
            · have := hinv.way x hx; omega
            · rw [List.mem_singleton.1 hx]
              show (s.f1 ++ [(c : Int)] ++ [(j : Int)]).length + 2 * left (m ||| 2 ^ c) ≤ 13
              rw [List.length_append, List.length_append, List.length_singleton, List.length_singleton]
              omega,
           fun x hx => by
            rcases List.mem_append.1 hx with hx | hx
            · obtain ⟨q, q1, q2, q3⟩ := hinv.row x hx
              exact ⟨q, q1, q2, freed_more q3⟩
            · rw [List.mem_singleton.1 hx]
              exact ⟨j, rfl, by omega, freed_next hl6 hp hfr hnew.1 (by omega) hmc hpj (by omega)⟩,
           hor6⟩
          (by rw [List.getElem?_append_left hiQ]; exact hs)
        refine ⟨a, hI2 ?_, hS2 ?_, h3⟩
        · exact Ev.congr (fun k => by rw [g1, if_neg (by omega)]) h1
        · rw [List.map_append, List.map_append] at h2
          exact Ev.congr (fun k => by rw [g1, if_neg (by omega)]; rfl) h2
theorem search_l1 : ∀ (d i : Nat), i + d = 13 → ∀ Q m, Inv l p Q m → i ≤ Q.length → ∃ a, Ev (fun k => impl_LongerWay.l1 k p Q (m : Nat) (i : Nat) R C l) a ∧ Ev (fun k => spec_LongerWay.l1 k p (Q.map S97.f0) (Q.map S97.f1) (m : Nat) (i : Nat) R C l) a ∧ Good l p a
  | 0, i, hi, Q, m, hinv, hle => by have := hinv.len; omega
  | d + 1, i, hi, Q, m, hinv, hle => by
    by_cases hlt : i < Q.length
    · have hQl := hinv.len
      obtain ⟨a, h1, h2, h3⟩ := search_l2 hlR hR hC hb hp hpl i (by omega) (fun Q m hinv hle => search_l1 d (i + 1) (by omega) Q m hinv hle) Q[i] C 0 Q m (by omega) hinv (List.getElem?_eq_getElem hlt)
      have hrd : rd_T97 Q (i : Int) = Q[i] := by unfold rd_T97; rw [Int.toNat_natCast, gD_lt _ _ hlt]
      refine ⟨a, Ev.step (fun k => ?_) h1, Ev.step (fun k => ?_) h2, h3⟩
      · rw [impl_LongerWay.l1, if_pos (by omega), if_pos (by omega), hrd]; rfl
      · rw [spec_LongerWay.l1, if_pos (by rw [List.length_map]; omega)]; rfl
    · refine ⟨([], false), Ev.step (f := fun _ => some ([], false)) (fun k => ?_) (Ev.now _), Ev.step (f := fun _ => some ([], false)) (fun k => ?_) (Ev.now _), ⟨fun h => (by cases h), by simp, fun _ => rfl⟩⟩
      · rw [impl_LongerWay.l1, if_neg (by omega)]
      · rw [spec_LongerWay.l1, if_neg (by rw [List.length_map]; omega)]
def qF : List Int → Nat → List S97
  | [], _ => []
  | x :: t, i => if x = -1 then (⟨(i : Int), [(i : Int)]⟩ : S97) :: qF t (i + 1) else qF t (i + 1)
omit hlR hR hC hb hp hpl in
theorem qF_len : ∀ (t : List Int) (i : Nat), (qF t i).length ≤ t.length
  | [], i => Nat.le_refl _
  | x :: t, i => by
    have := qF_len t (i + 1)
    rw [qF]
    split <;> simp <;> omega
omit hlR hR hC hb hp hpl in
theorem qF_mem : ∀ (t : List Int) (i : Nat), ∀ x ∈ qF t i, ∃ j, ∃ h : j < t.length, t[j] = -1 ∧ x = (⟨((i + j : Nat) : Int), [((i + j : Nat) : Int)]⟩ : S97)
  | [], i, x, hx => by cases hx
  | y :: t, i, x, hx => by
    have ih := qF_mem t (i + 1)
    rw [qF] at hx
    have next : x ∈ qF t (i + 1) → ∃ j, ∃ h : j < (y :: t).length, (y :: t)[j] = -1 ∧ x = (⟨((i + j : Nat) : Int), [((i + j : Nat) : Int)]⟩ : S97) := by
      intro hx
      obtain ⟨j, hj, h1, h2⟩ := ih x hx
      refine ⟨j + 1, by simpa using hj, by simpa using h1, ?_⟩
      rw [h2, show i + 1 + j = i + (j + 1) by omega]
    by_cases h : y = -1
    · rw [if_pos h] at hx
      rcases List.mem_cons.1 hx with rfl | hx
      · exact ⟨0, by simp, by simpa using h, rfl⟩
      · exact next hx
    · rw [if_neg h] at hx
      exact next hx
theorem start : Inv l p (qF p 0) 0 := by
  have hq := qF_len p 0
  have h6 : left 0 = 6 := by decide
  refine ⟨by omega, fun x hx => ?_, fun x hx => ?_, by decide⟩
  · obtain ⟨j, hj, h1, rfl⟩ := qF_mem p 0 x hx
    rw [h6]
    show 1 + 2 * 6 ≤ 13
    decide
  · obtain ⟨j, hj, h1, rfl⟩ := qF_mem p 0 x hx
    refine ⟨j, by simp, by omega, pF p, hp, rfl, ?_, by omega, fun q c e => ⟨q, e⟩, fun q c _ => Iff.rfl⟩
    unfold pF
    rw [gD_lt _ _ hj, h1, if_neg (by decide)]
theorem impl_l0 {a : List Int × Bool} : ∀ (d i : Nat) (acc : List S97), i + d = p.length → acc.length ≤ i → Ev (fun k => impl_LongerWay.l1 k p (acc ++ qF (p.drop i) i) ((0 : Nat) : Int) ((0 : Nat) : Int) R C l) a → Ev (fun k => impl_LongerWay.l0 k p acc p (p.length : Int) (i : Nat) R C l) a
  | 0, i, acc, hi, ha, h => by
    rw [List.drop_eq_nil_of_le (by omega), qF, List.append_nil] at h
    refine Ev.step (fun k => ?_) h
    rw [impl_LongerWay.l0, if_neg (by omega)]
    rfl
  | d + 1, i, acc, hi, ha, h => by
    have w1 := Aside0.mk (show wrap64 ((i : Int) + 1) = ((i + 1 : Nat) : Int) from by rw [w64 (by omega) (by omega)]; rfl)
    have hi2 : i < p.length := by omega
    rw [List.drop_eq_getElem_cons hi2, qF] at h
    by_cases e : p[i] = -1
    · rw [if_pos e] at h
      have ih := impl_l0 (a := a) d (i + 1) (acc ++ [(⟨(i : Int), [(i : Int)]⟩ : S97)]) (by omega) (by rw [List.length_append, List.length_singleton]; omega) (by rw [List.append_assoc]; exact h)
      refine Ev.step (fun k => ?_) ih
      rw [impl_LongerWay.l0, if_pos (by omega), if_pos (by omega), if_pos (by omega), rd_lt _ _ hi2, if_pos e, if_pos (by omega), w1.out]
    · rw [if_neg e] at h
      refine Ev.step (fun k => ?_) (impl_l0 (a := a) d (i + 1) acc (by omega) (by omega) h)
      rw [impl_LongerWay.l0, if_pos (by omega), if_pos (by omega), if_pos (by omega), rd_lt _ _ hi2, if_neg e, w1.out]
theorem spec_l0 (hge : ∀ x ∈ p, -1 ≤ x) {a : List Int × Bool} : ∀ (d i : Nat) (acc : List S97), i + d = p.length → acc.length ≤ i → Ev (fun k => spec_LongerWay.l1 k p ((acc ++ qF (p.drop i) i).map S97.f0) ((acc ++ qF (p.drop i) i).map S97.f1) ((0 : Nat) : Int) ((0 : Nat) : Int) R C l) a → Ev (fun k => spec_LongerWay.l0 k p (acc.map S97.f0) (acc.map S97.f1) p (p.length : Int) (i : Nat) R C l) a
  | 0, i, acc, hi, ha, h => by
    rw [List.drop_eq_nil_of_le (by omega), qF, List.append_nil] at h
    refine Ev.step (fun k => ?_) h
    rw [spec_LongerWay.l0, if_neg (by omega)]
    rfl
  | d + 1, i, acc, hi, ha, h => by
    have w1 := Aside0.mk (show wrap64 ((i : Int) + 1) = ((i + 1 : Nat) : Int) from by rw [w64 (by omega) (by omega)]; rfl)
    have hi2 : i < p.length := by omega
    have hg := hge p[i] (List.getElem_mem hi2)
    rw [List.drop_eq_getElem_cons hi2, qF] at h
    by_cases e : p[i] = -1
    · rw [if_pos e] at h
      have ih := spec_l0 hge (a := a) d (i + 1) (acc ++ [(⟨(i : Int), [(i : Int)]⟩ : S97)]) (by omega) (by rw [List.length_append, List.length_singleton]; omega) (by rw [List.append_assoc]; exact h)
      rw [List.map_append, List.map_append] at ih
      refine Ev.step (fun k => ?_) ih
      rw [spec_LongerWay.l0, if_pos (by omega), if_pos (by omega), if_pos (by omega), rd_lt _ _ hi2, if_pos (by omega), if_pos (by rw [List.length_map]; omega), if_pos (by rw [List.length_map]; omega), w1.out]
      rfl
    · rw [if_neg e] at h
      refine Ev.step (fun k => ?_) (spec_l0 hge (a := a) d (i + 1) acc (by omega) (by omega) h)
      rw [spec_LongerWay.l0, if_pos (by omega), if_pos (by omega), if_pos (by omega), rd_lt _ _ hi2, if_neg (by omega), w1.out]
theorem search (hge : ∀ x ∈ p, -1 ≤ x) : ∃ a, Ev (fun k => impl_LongerWay.l0 k p [] p (p.length : Int) 0 R C l) a ∧ Ev (fun k => spec_LongerWay.l0 k p [] [] p (p.length : Int) 0 R C l) a ∧ Good l p a := by
  obtain ⟨a, h1, h2, h3⟩ := search_l1 hlR hR hC hb hp hpl 13 0 (by omega) (qF p 0) 0 (start hlR hR hC hb hp hpl) (by omega)
  exact ⟨a, impl_l0 hlR hR hC hb hp hpl p.length 0 [] (by omega) (by simp) h1, spec_l0 hlR hR hC hb hp hpl hge p.length 0 [] (by omega) (by simp) h2, h3⟩
end
theorem countP_getD (q : Int → Bool) (d : Int) : ∀ (p : List Int), (List.range p.length).countP (fun r => q (p.getD r d)) = p.countP q
  | [] => rfl
  | x :: t => by
    rw [List.length_cons, List.range_succ_eq_map, List.countP_cons, List.countP_map, List.countP_cons]
    have := countP_getD q d t
    show (List.range t.length).countP (fun r => q (t.getD r d)) + _ = _
    rw [this]
    rfl
theorem size_rk {p : List Int} (h6 : p.length ≤ 6) (hge : ∀ x ∈ p, -1 ≤ x) : size (pF p) = rk p := by
  have e : size (pF p) = (List.range 6).countP (fun r => decide (0 ≤ p.getD r (-1))) := by
    unfold size cnt
    congr 1
    funext r
    unfold pF
    by_cases h : 0 ≤ p.getD r (-1)
    · rw [if_pos h, decide_eq_true h]; rfl
    · rw [if_neg h, decide_eq_false h]; rfl
  rw [e, show (6 : Nat) = p.length + (6 - p.length) by omega, List.range_add, List.countP_append, countP_getD (fun x => decide (0 ≤ x)) (-1) p]
  have z : List.countP (fun r => decide (0 ≤ p.getD r (-1))) (List.map (fun x => p.length + x) (List.range (6 - p.length))) = 0 := by
    rw [List.countP_eq_zero]
    intro r hr
    obtain ⟨y, _, rfl⟩ := List.mem_map.1 hr
    rw [gD_ge _ _ (by omega)]
    decide
  rw [z, Nat.add_zero]
  unfold rk
  refine List.countP_congr fun x hx => ?_
  have := hge x hx
  simp
  omega
theorem both {r c : Int} {l p : List Int} (hl : l.length ≤ 1048576) (hp : p.length ≤ 1048576) : ∃ a, a.1.length ≤ 1000 ∧ Ev (fun k => impl_LongerWay.f k r c l p) a ∧ Ev (fun k => spec_LongerWay.f k r c l p) a := by
  have nope : Ev (fun k => impl_LongerWay.j0 k p true r c l) ([], false) ∧ Ev (fun k => spec_LongerWay.j0 k p true r c l) ([], false) :=
    ⟨Ev.step (f := fun _ => some ([], false)) (fun k => by rw [impl_LongerWay.j0, if_pos rfl]) (Ev.now _), Ev.step (f := fun _ => some ([], false)) (fun k => by rw [spec_LongerWay.j0, if_pos rfl]) (Ev.now _)⟩
  by_cases hb : isBoardB r c l = true
  · have hb0 := hb
    obtain ⟨R, C, rfl, rfl, hlR, h1R, hR, h1C, hC, hbits⟩ := board_of hb
    have hb64 : ∀ i (hi : i < l.length), 0 ≤ l[i] ∧ l[i] < 64 := fun i hi => by have := hbits i hi; have := two_pow_six hC; omega
    by_cases hpl : placeB l C p = true
    · have hge := placeB_ge hpl
      have hM := place_match hlR hR hC hpl
      have hsz := size_rk (p := p) (by omega) (fun x hx => (hge.2 x hx).1)
      obtain ⟨a, h1, h2, h3⟩ := search hlR hR hC hb64 hM hge.1 (fun x hx => (hge.2 x hx).1)
      refine ⟨a, h3.2.1, ?_, ?_⟩
      · unfold impl_LongerWay.f
        refine Ev.congr (fun k => by rw [impl_IsBoard.f, Option.bind_some, if_pos hb]) ?_
        refine Ev.bind (PlaceK.isPlacement hlR hR hC hb64 p) ?_
        refine Ev.congr (fun k => by rw [if_pos hpl]) ?_
        refine Ev.bind (PlaceK.rooks hp) (Ev.bind (most hb0) ?_)
        by_cases hm : rk p = mostN l C R 0 0
        · have hno : a.2 = false := by
            cases e : a.2 with
            | false => rfl
            | true =>
              obtain ⟨f, hf, hs⟩ := h3.1 e
              have := bound hlR hR hC hbits R 0 0 f (by omega) ⟨hf, fun q x _ => ⟨by omega, Nat.zero_testBit x⟩⟩
              omega
          have ha : a = ([], false) := by
            have := h3.2.2 hno
            cases a
            simp_all
          rw [ha]
          refine Ev.congr (fun k => by rw [show ((rk p : Int) == ((mostN l C R 0 0 : Nat) : Int)) = true by rw [hm]; simp]) nope.1
        · refine Ev.congr (fun k => by rw [show ((rk p : Int) == ((mostN l C R 0 0 : Nat) : Int)) = false by rw [beq_eq_false_iff_ne]; omega]) ?_
          exact Ev.step (fun k => by rw [impl_LongerWay.j0, if_neg (by simp)]) h1
      · unfold spec_LongerWay.f
        refine Ev.bind (boGood R C (by omega)) ?_
        refine Ev.congr (fun k => by rw [if_pos hb]) ?_
        refine Ev.bind (PlaceK.lcGood hlR hR hC hb64 p) ?_
        refine Ev.congr (fun k => by rw [hpl]) ?_
        exact Ev.step (fun k => by rw [spec_LongerWay.j0, if_neg (by simp)]) h2
    · have hpf : placeB l C p = false := Bool.eq_false_iff.mpr hpl
      refine ⟨([], false), by simp, ?_, ?_⟩
      · unfold impl_LongerWay.f
        refine Ev.congr (fun k => by rw [impl_IsBoard.f, Option.bind_some, if_pos hb]) ?_
        refine Ev.bind (PlaceK.isPlacement hlR hR hC hb64 p) ?_
        exact Ev.congr (fun k => by rw [if_neg hpl]) nope.1
      · unfold spec_LongerWay.f
        refine Ev.bind (boGood R C (by omega)) ?_
        refine Ev.congr (fun k => by rw [if_pos hb]) ?_
        refine Ev.bind (PlaceK.lcGood hlR hR hC hb64 p) ?_
        exact Ev.congr (fun k => by rw [hpf]; rfl) nope.2
  · refine ⟨([], false), by simp, ?_, ?_⟩
    · unfold impl_LongerWay.f
      exact Ev.congr (fun k => by rw [impl_IsBoard.f, Option.bind_some, if_neg hb]) nope.1
    · unfold spec_LongerWay.f
      refine Ev.bind (boGood r c (by omega)) ?_
      exact Ev.congr (fun k => by rw [if_neg hb]) nope.2
end Go.Proofs.Ytgnmcfoenmfhcaa.LongK
end
section
namespace Go.Proofs.Ytgnmcfoenmfhcaa.WayA
set_option linter.unusedVariables false
set_option linter.unusedSectionVars false
open Go.RowKit Go.Proofs.Ytgnmcfoenmfhcaa.Q Go.Proofs.YtgnmcfoenmfhcaaW.PrintWords Go.Proofs.YtgnmcfoenmfhcaaW.PrintLast Go.Proofs.YtgnmcfoenmfhcaaW.PrintMore
open Go.Proofs.YtgnmcfoenmfhcaaL Go.Proofs.Ytgnmcfoenmfhcaa.LawK Go.Proofs.Ytgnmcfoenmfhcaa.BoardK Go.Proofs.Ytgnmcfoenmfhcaa.Koenig Go.Proofs.Ytgnmcfoenmfhcaa.MostK Go.Proofs.Ytgnmcfoenmfhcaa.LongK
open Go.Proofs.Ytgnmcfoenmfhcaa.PlaceK (placeB placeI rk placeB_ge evEq)
structure Val (l : List Int) (C : Nat) (g : List Int) : Prop where
  len : g.length = l.length
  cells : ∀ q, q < g.length → g.getD q (-1) = -1 ∨ (0 ≤ g.getD q (-1) ∧ g.getD q (-1) < C ∧ cell l q (g.getD q (-1)).toNat = true)
  inj : ∀ q q', q < g.length → q' < g.length → g.getD q (-1) = g.getD q' (-1) → g.getD q (-1) ≠ -1 → q = q'
theorem val_of {l p : List Int} {C : Nat} (h : placeB l C p = true) : Val l C p := by
  unfold placeB at h
  rw [Bool.and_eq_true, decide_eq_true_eq] at h
  have hat := placeI_at p 0 [] h.2
  refine ⟨h.1, fun q hq => ?_, fun q q' hq hq' e hn => ?_⟩
  · rw [gD_lt _ _ hq]
    rcases hat q hq with g | ⟨a, b, g, _, _⟩
    · exact .inl g
    · rw [Nat.zero_add] at g; exact .inr ⟨a, b, g⟩
  · rw [gD_lt _ _ hq] at e hn
    rw [gD_lt _ _ hq'] at e
    rcases Nat.lt_trichotomy q q' with hlt | heq | hlt
    · rcases hat q' hq' with g | ⟨_, _, _, _, g⟩
      · omega
      · exact absurd e (g q hlt)
    · exact heq
    · rcases hat q hq with g | ⟨_, _, _, _, g⟩
      · omega
      · exact absurd e.symm (g q' hlt)
theorem placeI_of {l : List Int} {C : Nat} : ∀ (t : List Int) (i : Nat) (pre : List Int), (∀ j (h : j < t.length), t[j] = -1 ∨ (0 ≤ t[j] ∧ t[j] < C ∧ cell l (i + j) t[j].toNat = true ∧ ¬ t[j] ∈ pre)) → (∀ j j' (h : j < t.length) (h' : j' < t.length), j < j' → t[j] = t[j'] → t[j] = -1) → placeI l C t i pre = true
  | [], i, pre, _, _ => rfl
  | x :: t, i, pre, h1, h2 => by
    rw [placeI, Bool.and_eq_true]
    constructor
    · have := h1 0 (by simp)
      simp only [List.getElem_cons_zero, Nat.add_zero] at this
      rcases this with h | ⟨a, b, c, d⟩
      · rw [decide_eq_true h]; rfl
      · rw [show inR 0 ((C : Int) - 1) x = true from decide_eq_true ⟨a, by omega⟩, c, decide_eq_false d]; simp
    · refine placeI_of t (i + 1) (pre ++ [x]) (fun j hj => ?_) (fun j j' hj hj' hlt e => ?_)
      · have := h1 (j + 1) (by simpa using hj)
        simp only [List.getElem_cons_succ] at this
        rcases this with h | ⟨a, b, c, d⟩
        · exact .inl h
        · refine .inr ⟨a, b, by rw [show i + 1 + j = i + (j + 1) by omega]; exact c, fun hm => ?_⟩
          rcases List.mem_append.1 hm with hm | hm
          · exact d hm
          · have e := List.mem_singleton.1 hm
            have := h2 0 (j + 1) (by simp) (by simpa using hj) (by omega) (by simpa using e.symm)
            simp only [List.getElem_cons_zero] at this
            omega
      · have := h2 (j + 1) (j' + 1) (by simpa using hj) (by simpa using hj') (by omega) (by simpa using e)
        simpa using this
theorem place_of {l g : List Int} {C : Nat} (h : Val l C g) : placeB l C g = true := by
  unfold placeB
  rw [Bool.and_eq_true, decide_eq_true_eq]
  refine ⟨h.len, placeI_of g 0 [] (fun j hj => ?_) (fun j j' hj hj' hlt e => ?_)⟩
  · have := h.cells j hj
    rw [gD_lt _ _ hj] at this
    rw [Nat.zero_add]
    rcases this with h1 | ⟨a, b, c⟩
    · exact .inl h1
    · exact .inr ⟨a, b, c, by simp⟩
  · by_cases hn : g[j] = -1
    · exact hn
    · have := h.inj j j' hj hj' (by rw [gD_lt _ _ hj, gD_lt _ _ hj']; exact e) (by rw [gD_lt _ _ hj]; exact hn)
      omega
theorem rk_cons (x : Int) (t : List Int) : rk (x :: t) = rk t + if x = -1 then 0 else 1 := by
  unfold rk
  rw [List.countP_cons]
  by_cases h : x = -1
  · rw [if_pos h, if_neg (by simp [h])]
  · rw [if_neg h, if_pos (by simpa using h)]
theorem rk_set : ∀ (g : List Int) (r : Nat) (x : Int), r < g.length → rk (g.set r x) + (if g.getD r (-1) = -1 then 0 else 1) = rk g + if x = -1 then 0 else 1
  | [], r, x, h => by simp at h
  | y :: t, 0, x, h => by
    rw [List.set_cons_zero, rk_cons, rk_cons, List.getD_cons_zero]
    omega
  | y :: t, r + 1, x, h => by
    have := rk_set t r x (by simpa using h)
    rw [List.set_cons_succ, rk_cons, rk_cons, List.getD_cons_succ]
    omega
theorem getD_set (g : List Int) {r q : Nat} (x : Int) (hr : r < g.length) : (g.set r x).getD q (-1) = if q = r then x else g.getD q (-1) := by
  rw [List.getD_eq_getElem?_getD, List.getElem?_set]
  by_cases h : q = r
  · subst h
    rw [if_pos rfl, if_pos rfl, if_pos hr]
    rfl
  · rw [if_neg (fun e => h e.symm), if_neg h, List.getD_eq_getElem?_getD]
theorem getD_mem {g : List Int} {q : Nat} (h : q < g.length) : g.getD q (-1) ∈ g := by rw [gD_lt _ _ h]; exact List.getElem_mem h
theorem val_put {l g : List Int} {C r c : Nat} (h : Val l C g) (hr : r < g.length) (hc : cell l r c = true) (hcC : c < C) (hn : ∀ q, q < g.length → g.getD q (-1) ≠ (c : Int)) : Val l C (g.set r (c : Int)) := by
  refine ⟨by rw [List.length_set]; exact h.len, fun q hq => ?_, fun q q' hq hq' e hne => ?_⟩
  · rw [List.length_set] at hq
    rw [getD_set g _ hr]
    by_cases e : q = r
    · rw [if_pos e, e]; exact .inr ⟨by omega, by omega, by rw [Int.toNat_natCast]; exact hc⟩
    · rw [if_neg e]; exact h.cells q hq
  · rw [List.length_set] at hq hq'
    rw [getD_set g _ hr] at e hne
    rw [getD_set g _ hr] at e
    by_cases e1 : q = r
    · by_cases e2 : q' = r
      · omega
      · rw [if_pos e1, if_neg e2] at e
        exact absurd e.symm (hn q' hq')
    · by_cases e2 : q' = r
      · rw [if_neg e1, if_pos e2] at e
        exact absurd e (hn q hq)
      · rw [if_neg e1, if_neg e2] at e
        rw [if_neg e1] at hne
        exact h.inj q q' hq hq' e hne
theorem val_off {l g : List Int} {C r : Nat} (h : Val l C g) (hr : r < g.length) : Val l C (g.set r (-1)) := by
  refine ⟨by rw [List.length_set]; exact h.len, fun q hq => ?_, fun q q' hq hq' e hne => ?_⟩
  · rw [List.length_set] at hq
    rw [getD_set g _ hr]
    by_cases e : q = r
    · rw [if_pos e]; exact .inl rfl
    · rw [if_neg e]; exact h.cells q hq
  · rw [List.length_set] at hq hq'
    rw [getD_set g _ hr] at e hne
    rw [getD_set g _ hr] at e
    by_cases e1 : q = r
    · rw [if_pos e1] at hne; exact absurd rfl hne
    · by_cases e2 : q' = r
      · rw [if_neg e1, if_pos e2] at e; rw [if_neg e1] at hne; exact absurd e hne
      · rw [if_neg e1, if_neg e2] at e
        rw [if_neg e1] at hne
        exact h.inj q q' hq hq' e hne
def apw (p : List Int) (ps : List (Nat × Nat)) : List Int := ps.foldl (fun o x => o.set x.1 (x.2 : Int)) p
def flat (ps : List (Nat × Nat)) : List Int := ps.flatMap (fun x => [(x.1 : Int), (x.2 : Int)])
theorem apw_snoc (p : List Int) (ps : List (Nat × Nat)) (x : Nat × Nat) : apw p (ps ++ [x]) = (apw p ps).set x.1 (x.2 : Int) := by unfold apw; rw [List.foldl_append]; rfl
theorem flat_snoc (ps : List (Nat × Nat)) (x : Nat × Nat) : flat (ps ++ [x]) = flat ps ++ [(x.1 : Int), (x.2 : Int)] := by unfold flat; rw [List.flatMap_append]; simp
theorem flat_len (ps : List (Nat × Nat)) : (flat ps).length = 2 * ps.length := by
  induction ps with
  | nil => rfl
  | cons x t ih => unfold flat at ih ⊢; rw [List.flatMap_cons, List.length_append, ih]; simp; omega
structure Wy (l p : List Int) (C m : Nat) (ps : List (Nat × Nat)) (r : Nat) : Prop where
  ex : ∃ g, Val l C g ∧ rk g = rk p ∧ g.getD r (-1) = -1 ∧ apw p ps = g.set r (p.getD r (-1)) ∧ (∀ q c, m.testBit c = false → q < p.length → (g.getD q (-1) = (c : Int) ↔ p.getD q (-1) = (c : Int))) ∧ (∀ q, p.getD q (-1) ≠ -1 → g.getD q (-1) ≠ -1 ∨ q = r) ∧ ∀ q, q < p.length → g.getD q (-1) ≠ -1 → g.getD q (-1) ∈ p
  row : r < p.length
  rows : ∀ x ∈ ps, x.1 < p.length
  first : p.getD ((ps.map (fun x => x.1) ++ [r]).headD 0) (-1) = -1
theorem set_self (g : List Int) (r : Nat) (x : Int) (hr : r < g.length) (h : g.getD r (-1) = x) : g.set r x = g := by
  rw [gD_lt _ _ hr] at h
  subst h
  exact List.set_getElem_self hr
theorem wy_free {l p : List Int} {C m r : Nat} (h : Val l C p) (hr : r < p.length) (hf : p.getD r (-1) = -1) : Wy l p C m [] r :=
  ⟨⟨p, h, rfl, hf, by rw [hf]; exact (set_self p r (-1) hr hf).symm, fun q c _ _ => Iff.rfl, fun q hq => .inl hq, fun q hq _ => getD_mem hq⟩, hr, (by simp), hf⟩
theorem wy_more {l p : List Int} {C m m' r : Nat} {ps : List (Nat × Nat)} (h : Wy l p C m ps r) (hm : ∀ x, m'.testBit x = false → m.testBit x = false) : Wy l p C m' ps r := by
  obtain ⟨⟨g, h1, h2, h3, h4, h5, h6, h7⟩, hr, hrs, hf⟩ := h
  exact ⟨⟨g, h1, h2, h3, h4, fun q c hc hq => h5 q c (hm c hc) hq, h6, h7⟩, hr, hrs, hf⟩
theorem head_snoc (ps : List (Nat × Nat)) (r c j : Nat) : (((ps ++ [(r, c)]).map (fun x => x.1)) ++ [j]).headD 0 = (ps.map (fun x => x.1) ++ [r]).headD 0 := by
  cases ps <;> simp
theorem wy_on {l p : List Int} {C m r c j : Nat} {ps : List (Nat × Nat)} (h : Wy l p C m ps r) (hpl : p.length = l.length) (hc : cell l r c = true) (hcC : c < C) (hmc : m.testBit c = false) (hj : j < p.length) (hpj : p.getD j (-1) = (c : Int)) : Wy l p C (m ||| 2 ^ c) (ps ++ [(r, c)]) j := by
  obtain ⟨⟨g, h1, h2, h3, h4, h5, h6, h7⟩, hr, hrs, hf⟩ := h
  have hgl : g.length = p.length := by rw [h1.len, hpl]
  have hgj : g.getD j (-1) = (c : Int) := (h5 j c hmc hj).2 hpj
  have hjr : j ≠ r := fun e => by rw [e, h3] at hgj; omega
  have hrg : r < g.length := by omega
  have hjg : j < g.length := by omega
  have hjs : j < (g.set r (c : Int)).length := by rw [List.length_set]; exact hjg
  have hoff := val_off h1 hjg
  have hn : ∀ q, q < (g.set j (-1)).length → (g.set j (-1)).getD q (-1) ≠ (c : Int) := by
    intro q hq e
    rw [List.length_set] at hq
    rw [getD_set g _ hjg] at e
    by_cases e1 : q = j
    · rw [if_pos e1] at e; omega
    · rw [if_neg e1] at e
      exact e1 (h1.inj q j hq hjg (by rw [e, hgj]) (by omega))
  have hcomm : (g.set r (c : Int)).set j (-1) = (g.set j (-1)).set r (c : Int) := List.set_comm _ _ (fun e => hjr e.symm)
  have hv : Val l C ((g.set r (c : Int)).set j (-1)) := by
    rw [hcomm]
    exact val_put hoff (by rw [List.length_set]; exact hrg) hc hcC hn
  have hat : ∀ q, ((g.set r (c : Int)).set j (-1)).getD q (-1) = if q = j then -1 else if q = r then (c : Int) else g.getD q (-1) := by
    intro q
    rw [getD_set _ _ hjs, getD_set g _ hrg]
  refine ⟨⟨(g.set r (c : Int)).set j (-1), hv, ?_, ?_, ?_, ?_, ?_, ?_⟩, hj, ?_, ?_⟩
  · have e1 := rk_set g r (c : Int) hrg
    have e2 := rk_set (g.set r (c : Int)) j (-1) hjs
    rw [getD_set g _ hrg, if_neg hjr, hgj] at e2
    rw [h3] at e1
    rw [if_pos rfl, if_neg (by omega)] at e1
    rw [if_neg (by omega), if_pos rfl] at e2
    omega
  · rw [hat, if_pos rfl]
  · rw [apw_snoc, h4]
    show (g.set r (p.getD r (-1))).set r (c : Int) = _
    rw [List.set_set, hpj, List.set_set]
    exact (set_self _ _ _ hjs (by rw [getD_set g _ hrg, if_neg hjr]; exact hgj)).symm
  · intro q c' hc' hq
    rw [Nat.testBit_or, Bool.or_eq_false_iff, Nat.testBit_two_pow, decide_eq_false_iff_not] at hc'
    rw [hat]
    by_cases e1 : q = j
    · rw [if_pos e1, e1, hpj]
      constructor <;> intro e <;> omega
    · rw [if_neg e1]
      by_cases e2 : q = r
      · rw [if_pos e2, e2]
        have := h5 r c' hc'.1 hr
        rw [h3] at this
        constructor
        · intro e; omega
        · intro e; have := this.2 e; omega
      · rw [if_neg e2]; exact h5 q c' hc'.1 hq
  · intro q hq
    rw [hat]
    by_cases e1 : q = j
    · exact .inr e1
    · rw [if_neg e1]
      left
      by_cases e2 : q = r
      · rw [if_pos e2]; omega
      · rw [if_neg e2]
        rcases h6 q hq with h | h
        · exact h
        · exact absurd h e2
  · intro q hq
    rw [hat]
    by_cases e1 : q = j
    · rw [if_pos e1]; intro h; exact absurd rfl h
    · rw [if_neg e1]
      by_cases e2 : q = r
      · rw [if_pos e2, ← hpj]; intro _; exact getD_mem hj
      · rw [if_neg e2]; exact h7 q hq
  · intro x hx
    rcases List.mem_append.1 hx with hx | hx
    · exact hrs x hx
    · rw [List.mem_singleton.1 hx]; exact hr
  · rw [head_snoc]; exact hf
structure Done (l p : List Int) (C : Nat) (ps : List (Nat × Nat)) (r c : Nat) : Prop where
  val : Val l C (apw p (ps ++ [(r, c)]))
  size : rk (apw p (ps ++ [(r, c)])) = rk p + 1
  keep : ∀ q, p.getD q (-1) ≠ -1 → (apw p (ps ++ [(r, c)])).getD q (-1) ≠ -1
  rows : ∀ x ∈ ps ++ [(r, c)], x.1 < p.length
  first : p.getD (((ps ++ [(r, c)]).map (fun x => x.1)).headD 0) (-1) = -1
  last : ¬ ((c : Nat) : Int) ∈ p
theorem wy_done {l p : List Int} {C m r c : Nat} {ps : List (Nat × Nat)} (h : Wy l p C m ps r) (hpl : p.length = l.length) (hc : cell l r c = true) (hcC : c < C) (hn : ¬ ((c : Nat) : Int) ∈ p) : Done l p C ps r c := by
  obtain ⟨⟨g, h1, h2, h3, h4, h5, h6, h7⟩, hr, hrs, hf⟩ := h
  have hgl : g.length = p.length := by rw [h1.len, hpl]
  have hrg : r < g.length := by omega
  have e : apw p (ps ++ [(r, c)]) = g.set r (c : Int) := by
    rw [apw_snoc, h4]
    show (g.set r (p.getD r (-1))).set r (c : Int) = _
    rw [List.set_set]
  have hng : ∀ q, q < g.length → g.getD q (-1) ≠ (c : Int) := fun q hq e => hn (by rw [← e]; exact h7 q (by omega) (by omega))
  refine ⟨by rw [e]; exact val_put h1 hrg hc hcC hng, ?_, ?_, ?_, ?_, hn⟩
  · rw [e]
    have := rk_set g r (c : Int) hrg
    rw [h3, if_pos rfl, if_neg (by omega)] at this
    omega
  · intro q hq
    rw [e, getD_set g _ hrg]
    by_cases e2 : q = r
    · rw [if_pos e2]; omega
    · rw [if_neg e2]
      rcases h6 q hq with h | h
      · exact h
      · exact absurd h e2
  · intro x hx
    rcases List.mem_append.1 hx with hx | hx
    · exact hrs x hx
    · rw [List.mem_singleton.1 hx]; exact hr
  · have : (((ps ++ [(r, c)]).map (fun x => x.1)).headD 0) = (ps.map (fun x => x.1) ++ [r]).headD 0 := by rw [List.map_append]; rfl
    rw [this]; exact hf
theorem closed {l p : List Int} {R m : Nat} (hlR : l.length = R) (hR : R ≤ 6) (hp : Match (cell l) (pF p)) (hpl : p.length = l.length) (S : Nat → Bool)
    (hfree : ∀ q, q < p.length → p.getD q (-1) = -1 → S q = true) (hout : ∀ q, R ≤ q → S q = true) (hge : ∀ q, q < p.length → -1 ≤ p.getD q (-1)) (hcl : ∀ r c, r < R → S r = true → cell l r c = true → m.testBit c = true) (hcol : ∀ c, c < 6 → m.testBit c = true → ∃ r, r < R ∧ S r = true ∧ pF p r = some c) : kap (cell l) S ≤ size (pF p) := by
  have h1 : cnt (nb (cell l) S) ≤ cnt (used (pF p) ((List.range 6).filter S)) := by
    refine cnt_mono fun c hc hn => ?_
    obtain ⟨r, hr, hs, hg⟩ := nb_iff.1 hn
    have hrl : r < R := by
      by_cases h : r < R
      · exact h
      · rw [cell, gD_ge _ _ (by omega)] at hg; simp at hg
    obtain ⟨q, hq, hsq, he⟩ := hcol c hc (hcl r c hrl hs hg)
    exact used_iff.2 ⟨q, List.mem_filter.2 ⟨List.mem_range.2 (by omega), hsq⟩, he⟩
  rw [used_cnt hp _ (List.nodup_range.filter _)] at h1
  unfold kap size
  have h2 : cnt (fun r => !S r) = (List.range 6).countP (fun r => !S r) := rfl
  have h3 : ((List.range 6).filter S).countP (fun r => (pF p r).isSome) + (List.range 6).countP (fun r => !S r) ≤ (List.range 6).countP (fun r => (pF p r).isSome) := by
    have key : ∀ L : List Nat, (∀ r ∈ L, S r = false → (pF p r).isSome = true) → (L.filter S).countP (fun r => (pF p r).isSome) + L.countP (fun r => !S r) ≤ L.countP (fun r => (pF p r).isSome) := by
      intro L
      induction L with
      | nil => intro _; simp
      | cons x t ih =>
        intro hL
        have ih2 := ih (fun r hr => hL r (by simp [hr]))
        rw [List.filter_cons, List.countP_cons, List.countP_cons]
        by_cases hx : S x = true
        · rw [if_pos hx, List.countP_cons, hx]
          simp only [Bool.not_true, Bool.false_eq_true, if_false]
          omega
        · have hxf : S x = false := by simpa using hx
          have := hL x (by simp) hxf
          rw [if_neg hx, hxf, this]
          simp only [Bool.not_false, if_true]
          omega
    refine key _ fun r _ hs => ?_
    have hrl : r < R := by
      by_cases h : r < R
      · exact h
      · rw [hout r (by omega)] at hs; cases hs
    have hne : p.getD r (-1) ≠ -1 := fun e => by rw [hfree r (by omega) e] at hs; cases hs
    have := hge r (by omega)
    unfold pF
    rw [if_pos (by omega)]
    rfl
  have h4 : cnt (fun r => (pF p r).isSome) = (List.range 6).countP (fun r => (pF p r).isSome) := rfl
  omega
end Go.Proofs.Ytgnmcfoenmfhcaa.WayA
end
section
namespace Go.Proofs.Ytgnmcfoenmfhcaa.WayA
set_option linter.unusedVariables false
set_option linter.unusedSectionVars false
open Go.RowKit Go.Proofs.Ytgnmcfoenmfhcaa.Q Go.Proofs.YtgnmcfoenmfhcaaW.PrintWords Go.Proofs.YtgnmcfoenmfhcaaW.PrintLast Go.Proofs.YtgnmcfoenmfhcaaW.PrintMore
open Go.Proofs.YtgnmcfoenmfhcaaL Go.Proofs.Ytgnmcfoenmfhcaa.LawK Go.Proofs.Ytgnmcfoenmfhcaa.BoardK Go.Proofs.Ytgnmcfoenmfhcaa.Koenig Go.Proofs.Ytgnmcfoenmfhcaa.MostK Go.Proofs.Ytgnmcfoenmfhcaa.LongK
open Go.Proofs.Ytgnmcfoenmfhcaa.PlaceK (placeB placeI rk placeB_ge evEq)
structure Inv2 (l p : List Int) (C : Nat) (Q : List S97) (m i : Nat) : Prop where
  len : Q.length + left m ≤ 12
  way : ∀ x ∈ Q, x.f1.length + 2 * left m ≤ 13
  m64 : m < 64
  ways : ∀ x ∈ Q, ∃ (ps : List (Nat × Nat)) (r : Nat), x.f0 = (r : Int) ∧ x.f1 = flat ps ++ [(r : Int)] ∧ Wy l p C m ps r
  free : ∀ q, q < p.length → p.getD q (-1) = -1 → ∃ x ∈ Q, x.f0 = (q : Int)
  col : ∀ c, c < 6 → m.testBit c = true → ∃ q, q < p.length ∧ p.getD q (-1) = (c : Int) ∧ ∃ x ∈ Q, x.f0 = (q : Int)
  fin : ∀ k (hk : k < Q.length), k < i → ∀ r c : Nat, Q[k].f0 = (r : Int) → c < C → cell l r c = true → m.testBit c = true
def Good2 (l p : List Int) (C : Nat) (a : List Int × Bool) : Prop := (a.2 = true → ∃ ps r c, a.1 = flat (ps ++ [(r, c)]) ∧ Done l p C ps r c ∧ a.1.length ≤ 12) ∧ (a.2 = false → a.1 = [] ∧ ∃ S, kap (cell l) S ≤ size (pF p))
theorem bit_more {m c x : Nat} (h : (m ||| 2 ^ c).testBit x = false) : m.testBit x = false := by
  rw [Nat.testBit_or, Bool.or_eq_false_iff] at h
  exact h.1
theorem bit_keep {m c x : Nat} (h : m.testBit x = true) : (m ||| 2 ^ c).testBit x = true := by
  rw [Nat.testBit_or, h]; rfl
theorem bit_new (m c : Nat) : (m ||| 2 ^ c).testBit c = true := by
  rw [Nat.testBit_or, Nat.testBit_two_pow]; simp
section
variable {l p : List Int} {R C : Nat} (hlR : l.length = R) (hR : R ≤ 6) (hC : C ≤ 6) (hb : ∀ i (hi : i < l.length), 0 ≤ l[i] ∧ l[i] < 2 ^ C) (hp : Match (cell l) (pF p)) (hpl : p.length = l.length) (hge : ∀ x ∈ p, -1 ≤ x)
include hlR hR hC hb hp hpl hge
theorem search2_l2 (i : Nat) (hi12 : i ≤ 12) (ihl : ∀ Q m, Inv2 l p C Q m (i + 1) → i + 1 ≤ Q.length → ∃ a, Ev (fun k => impl_LongerWay.l1 k p Q (m : Nat) ((i + 1 : Nat) : Int) R C l) a ∧ Good2 l p C a) (s : S97) :
    ∀ (e c : Nat) (Q : List S97) (m : Nat), c + e = C → Inv2 l p C Q m i → Q[i]? = some s → (∀ r c' : Nat, s.f0 = (r : Int) → c' < c → cell l r c' = true → m.testBit c' = true) → ∃ a, Ev (fun k => impl_LongerWay.l2 k p Q (m : Nat) (i : Nat) C (c : Nat) R C l s.f0 s.f1) a ∧ Good2 l p C a
  | 0, c, Q, m, hc, hinv, hs, hpart => by
    have hiQ : i < Q.length := (List.getElem?_eq_some_iff.1 hs).1
    have hsQ : Q[i] = s := (List.getElem?_eq_some_iff.1 hs).2
    have w1 := Aside0.mk (show wrap64 ((i : Int) + 1) = ((i + 1 : Nat) : Int) from by rw [w64 (by omega) (by omega)]; rfl)
    obtain ⟨a, h1, h3⟩ := ihl Q m ⟨hinv.len, hinv.way, hinv.m64, hinv.ways, hinv.free, hinv.col, fun k hk hki r c' e hc' hg => by
      by_cases ek : k = i
      · subst ek; rw [hsQ] at e; exact hpart r c' e (by omega) hg
      · exact hinv.fin k hk (by omega) r c' e hc' hg⟩ (by omega)
    refine ⟨a, Ev.step (fun k => ?_) h1, h3⟩
    rw [impl_LongerWay.l2, if_neg (by omega), w1.out]
  | e + 1, c, Q, m, hc, hinv, hs, hpart => by
    have hiQ : i < Q.length := (List.getElem?_eq_some_iff.1 hs).1
    have hsQ : Q[i] = s := (List.getElem?_eq_some_iff.1 hs).2
    have hsm : s ∈ Q := by rw [← hsQ]; exact List.getElem_mem hiQ
    have w1 := Aside0.mk (show wrap64 ((c : Int) + 1) = ((c + 1 : Nat) : Int) from by rw [w64 (by omega) (by omega)]; rfl)
    obtain ⟨ps, r, hr, hsw, hwy⟩ := hinv.ways s hsm
    have hrp := hwy.row
    have hrl : r < l.length := by omega
    have hway := hinv.way s hsm
    have hm64 := hinv.m64
    have h64 : 0 ≤ l[r] ∧ l[r] < 64 := by have := hb r hrl; have := two_pow_six hC; omega
    have hbit : Go.bits .and .i64 (shr .i64 (m : Int) (c : Int)) 1 = if m.testBit c then 1 else 0 := bit_and m c (by omega) (by omega)
    have hI : ∀ {a : List Int × Bool}, Ev (fun k => impl_LongerWay.j4 k p Q (m : Nat) (i : Nat) (c : Nat) C (c : Nat) (!(cell l r c && !m.testBit c)) R C l s.f0 s.f1) a → Ev (fun k => impl_LongerWay.l2 k p Q (m : Nat) (i : Nat) C (c : Nat) R C l s.f0 s.f1) a := by
      intro a h
      refine Ev.step (fun k => ?_) h
      rw [impl_LongerWay.l2, if_pos (by omega), hr, has_f (R : Int) (C : Int) hrl h64.1 h64.2 (by omega), Option.bind_some]
      by_cases g : cell l r c = true
      · rw [if_pos g, if_pos (by omega), hbit, g]
        cases m.testBit c <;> rfl
      · rw [if_neg g, show cell l r c = false by simpa using g]
        rfl
    by_cases hnew : (cell l r c && !m.testBit c) = true
    rotate_left
    · obtain ⟨a, h1, h3⟩ := search2_l2 i hi12 ihl s e (c + 1) Q m (by omega) hinv hs (fun r' c' e' hc' hg => by
        by_cases ec : c' = c
        · subst ec
          have er : r' = r := by omega
          subst er
          rw [hg, Bool.true_and] at hnew
          simpa using hnew
        · exact hpart r' c' e' (by omega) hg)
      have hf : (!(cell l r c && !m.testBit c)) = true := by rw [Bool.eq_false_iff.mpr hnew]; rfl
      refine ⟨a, hI (Ev.step (fun k => ?_) h1), h3⟩
      rw [impl_LongerWay.j4, hf, if_pos rfl, w1.out]
    · have hf : (!(cell l r c && !m.testBit c)) = false := by rw [hnew]; rfl
      rw [Bool.and_eq_true] at hnew
      have hmc : m.testBit c = false := by simpa using hnew.2
      have hor := Aside0.mk (show Go.bits .or .i64 (m : Int) (shl .i64 1 (c : Int)) = ((m ||| 2 ^ c : Nat) : Int) from by
        rw [shl_one c (by omega), or_nat _ _ (by omega) (by have : 2 ^ c < 2 ^ 6 := Nat.pow_lt_pow_right (by decide) (by omega); omega)])
      have hQl := hinv.len
      have hll := left_less (m := m) (show c < 6 by omega) hmc
      have hI2 : ∀ {a : List Int × Bool}, Ev (fun k => if rowOf (c : Int) p 0 < 0 then some (s.f1 ++ [(c : Int)], true) else impl_LongerWay.l2 k p (Q ++ [(⟨rowOf (c : Int) p 0, s.f1 ++ [(c : Int)] ++ [rowOf (c : Int) p 0]⟩ : S97)]) ((m ||| 2 ^ c : Nat) : Int) (i : Nat) C ((c + 1 : Nat) : Int) R C l s.f0 s.f1) a → Ev (fun k => impl_LongerWay.l2 k p Q (m : Nat) (i : Nat) C (c : Nat) R C l s.f0 s.f1) a := by
        intro a h
        refine hI (Ev.step (f := fun k => (slices_Index_int_int.f k p (c : Int)).bind fun t125 => if t125 < 0 then some (s.f1 ++ [(c : Int)], true) else impl_LongerWay.l2 k p (Q ++ [(⟨t125, s.f1 ++ [(c : Int)] ++ [t125]⟩ : S97)]) ((m ||| 2 ^ c : Nat) : Int) (i : Nat) C ((c + 1 : Nat) : Int) R C l s.f0 s.f1) (fun k => ?_) ?_)
        · rw [impl_LongerWay.j4, hf, if_neg (by simp), if_pos (by omega), clone_f (by omega), Option.bind_some, if_pos (by omega), Option.bind_some, hor.out, w1.out]
          congr 1
          funext t
          rw [if_pos (show (s.f1 ++ [(c : Int)]).length < 17592186044416 by rw [List.length_append, List.length_singleton]; omega), if_pos (show Q.length < 4398046511104 by omega)]
        · exact Ev.bind (index (c : Int) (by omega)) h
      rcases rowOf_at (c : Int) p 0 with ⟨g1, g2⟩ | ⟨j, hj, g1, g2⟩
      · refine ⟨(s.f1 ++ [(c : Int)], true), hI2 ?_, fun _ => ⟨ps, r, c, ?_, wy_done hwy hpl hnew.1 (by omega) g2, ?_⟩, fun h => (by cases h)⟩
        · exact Ev.congr (fun k => by rw [g1, if_pos (by omega)]) (Ev.now _)
        · rw [hsw, flat_snoc, List.append_assoc]; rfl
        · rw [List.length_append, List.length_singleton]; omega
      · rw [Nat.zero_add] at g1
        have hpj : p.getD j (-1) = (c : Int) := by rw [gD_lt _ _ hj]; exact g2
        have hor6 : m ||| 2 ^ c < 64 := Nat.or_lt_two_pow (n := 6) hm64 (Nat.pow_lt_pow_right (by decide) (by omega))
        obtain ⟨a, h1, h3⟩ := search2_l2 i hi12 ihl s e (c + 1) (Q ++ [(⟨(j : Int), s.f1 ++ [(c : Int)] ++ [(j : Int)]⟩ : S97)]) (m ||| 2 ^ c) (by omega)
          ⟨by rw [List.length_append, List.length_singleton]; omega,
           fun x hx => by
            rcases List.mem_append.1 hx with hx | hx
            · have := hinv.way x hx; omega
            · rw [List.mem_singleton.1 hx]
              show (s.f1 ++ [(c : Int)] ++ [(j : Int)]).length + 2 * left (m ||| 2 ^ c) ≤ 13
              rw [List.length_append, List.length_append, List.length_singleton, List.length_singleton]
              omega,
           hor6,
           fun x hx => by
            rcases List.mem_append.1 hx with hx | hx
            · obtain ⟨qs, q, q1, q2, q3⟩ := hinv.ways x hx
              exact ⟨qs, q, q1, q2, wy_more q3 (fun y hy => bit_more hy)⟩
            · rw [List.mem_singleton.1 hx]
              refine ⟨ps ++ [(r, c)], j, rfl, ?_, wy_on hwy hpl hnew.1 (by omega) hmc hj hpj⟩
              show s.f1 ++ [(c : Int)] ++ [(j : Int)] = _
              rw [hsw, flat_snoc]
              simp,
           fun q hq hf => by
            obtain ⟨x, hx, ex⟩ := hinv.free q hq hf
            exact ⟨x, List.mem_append.2 (.inl hx), ex⟩,
           fun c' hc6 hbit' => by
            by_cases ec : c' = c
            · subst ec
              exact ⟨j, hj, hpj, _, List.mem_append.2 (.inr (List.mem_singleton.2 rfl)), rfl⟩
            · have hb' : m.testBit c' = true := by
                rw [Nat.testBit_or, Nat.testBit_two_pow, decide_eq_false (fun h => ec h.symm), Bool.or_false] at hbit'
                exact hbit'
              obtain ⟨q, hq, h1, x, hx, ex⟩ := hinv.col c' hc6 hb'
              exact ⟨q, hq, h1, x, List.mem_append.2 (.inl hx), ex⟩,
           fun k hk hki r' c' e' hc' hg => by
            have hkQ : k < Q.length := by omega
            rw [List.getElem_append_left hkQ] at e'
            exact bit_keep (hinv.fin k hkQ hki r' c' e' hc' hg)⟩
          (by rw [List.getElem?_append_left hiQ]; exact hs)
          (fun r' c' e' hc' hg => by
            by_cases ec : c' = c
            · subst ec; exact bit_new m c'
            · exact bit_keep (hpart r' c' e' (by omega) hg))
        refine ⟨a, hI2 ?_, h3⟩
        exact Ev.congr (fun k => by rw [g1, if_neg (by omega)]) h1
theorem search2_l1 : ∀ (d i : Nat), i + d = 13 → ∀ Q m, Inv2 l p C Q m i → i ≤ Q.length → ∃ a, Ev (fun k => impl_LongerWay.l1 k p Q (m : Nat) (i : Nat) R C l) a ∧ Good2 l p C a
  | 0, i, hi, Q, m, hinv, hle => by have := hinv.len; omega
  | d + 1, i, hi, Q, m, hinv, hle => by
    by_cases hlt : i < Q.length
    · have hQl := hinv.len
      obtain ⟨a, h1, h3⟩ := search2_l2 hlR hR hC hb hp hpl hge i (by omega) (fun Q m hinv hle => search2_l1 d (i + 1) (by omega) Q m hinv hle) Q[i] C 0 Q m (by omega) hinv (List.getElem?_eq_getElem hlt) (fun r c' _ h _ => by omega)
      have hrd : rd_T97 Q (i : Int) = Q[i] := by unfold rd_T97; rw [Int.toNat_natCast, gD_lt _ _ hlt]
      refine ⟨a, Ev.step (fun k => ?_) h1, h3⟩
      rw [impl_LongerWay.l1, if_pos (by omega), if_pos (by omega), hrd]; rfl
    · refine ⟨([], false), Ev.step (f := fun _ => some ([], false)) (fun k => ?_) (Ev.now _), fun h => (by cases h), fun _ => ⟨rfl, ?_⟩⟩
      · rw [impl_LongerWay.l1, if_neg (by omega)]
      · refine ⟨fun q => decide (R ≤ q ∨ ∃ x ∈ Q, x.f0 = (q : Int)), closed hlR hR hp hpl _ (m := m) (fun q hq hf => decide_eq_true (.inr (hinv.free q hq hf))) (fun q hq => decide_eq_true (.inl hq)) (fun q hq => hge _ (getD_mem hq)) (fun r c hr hs hg => ?_) (fun c hc hbit => ?_)⟩
        · rcases of_decide_eq_true hs with h | ⟨x, hx, ex⟩
          · omega
          · obtain ⟨k, hk, rfl⟩ := List.mem_iff_getElem.1 hx
            exact hinv.fin k hk (by omega) r c ex (cell_bit hb hg) hg
        · obtain ⟨q, hq, h1, h2⟩ := hinv.col c hc hbit
          exact ⟨q, by omega, decide_eq_true (.inr h2), pF_some.2 ⟨hq, h1⟩⟩
omit hlR hR hC hb hp hpl hge in
theorem qF_all : ∀ (t : List Int) (i j : Nat), j < t.length → t.getD j (-1) = -1 → ∃ x ∈ qF t i, x.f0 = ((i + j : Nat) : Int)
  | [], i, j, h, _ => by simp at h
  | y :: t, i, 0, h, e => by
    rw [List.getD_cons_zero] at e
    rw [qF, if_pos e]
    exact ⟨_, List.mem_cons_self, rfl⟩
  | y :: t, i, j + 1, h, e => by
    rw [List.getD_cons_succ] at e
    obtain ⟨x, hx, ex⟩ := qF_all t (i + 1) j (by simpa using h) e
    refine ⟨x, ?_, by rw [ex]; congr 1; omega⟩
    rw [qF]
    split
    · exact List.mem_cons_of_mem _ hx
    · exact hx
theorem start2 (hv : Val l C p) : Inv2 l p C (qF p 0) 0 0 := by
  have hq := qF_len p 0
  have h6 : left 0 = 6 := by decide
  refine ⟨by omega, fun x hx => ?_, by decide, fun x hx => ?_, fun q hq' hf => ?_, fun c _ hbit => ?_, fun k hk hki => by omega⟩
  · obtain ⟨j, hj, h1, rfl⟩ := qF_mem p 0 x hx
    rw [h6]
    show 1 + 2 * 6 ≤ 13
    decide
  · obtain ⟨j, hj, h1, rfl⟩ := qF_mem p 0 x hx
    exact ⟨[], j, by rw [Nat.zero_add], by rw [Nat.zero_add]; rfl, wy_free hv hj (by rw [gD_lt _ _ hj]; exact h1)⟩
  · obtain ⟨x, hx, ex⟩ := qF_all p 0 q hq' hf
    exact ⟨x, hx, by rw [ex, Nat.zero_add]⟩
  · rw [Nat.zero_testBit] at hbit; cases hbit
end
theorem ev_unique {α : Type} {g : Nat → Option α} {a b : α} (h : Ev g a) (h' : Ev g b) : a = b := by
  obtain ⟨K, hK⟩ := h
  obtain ⟨K', hK'⟩ := h'
  have e1 := hK (max K K') (Nat.le_max_left _ _)
  have e2 := hK' (max K K') (Nat.le_max_right _ _)
  rw [e1] at e2
  exact Option.some.inj e2
theorem longer {l p : List Int} {R C : Nat} (hlb : isBoardB R C l = true) (hpl : placeB l C p = true) : ∃ a, Ev (fun k => impl_LongerWay.f k R C l p) a ∧
    ((a = ([], false) ∧ rk p = mostN l C R 0 0) ∨ rk p < mostN l C R 0 0 ∧ ∃ ps r c, a = (flat (ps ++ [(r, c)]), true) ∧ Done l p C ps r c ∧ (flat (ps ++ [(r, c)])).length ≤ 12) := by
  have hb0 := hlb
  obtain ⟨R', C', e1, e2, hlR, h1R, hR, h1C, hC, hbits⟩ := board_of hlb
  have e1 : R' = R := by omega
  have e2 : C' = C := by omega
  subst e1 e2
  have hb64 : ∀ i (hi : i < l.length), 0 ≤ l[i] ∧ l[i] < 64 := fun i hi => by have := hbits i hi; have := two_pow_six hC; omega
  have hge := placeB_ge hpl
  have hge' : ∀ x ∈ p, -1 ≤ x := fun x hx => (hge.2 x hx).1
  have hM := place_match hlR hR hC hpl
  have hsz := size_rk (p := p) (by omega) hge'
  have hup := bound hlR hR hC hbits R' 0 0 (pF p) (by omega) ⟨hM, fun q x _ => ⟨by omega, Nat.zero_testBit x⟩⟩
  obtain ⟨b, h1, h3⟩ := search2_l1 hlR hR hC hbits hM hge.1 hge' 13 0 (by omega) (qF p 0) 0 (start2 hlR hR hC hbits hM hge.1 hge' (val_of hpl)) (by omega)
  have h0 := impl_l0 hlR hR hC hb64 hM hge.1 p.length 0 [] (by omega) (by simp) h1
  by_cases hm : rk p = mostN l C' R' 0 0
  · refine ⟨([], false), ?_, .inl ⟨rfl, hm⟩⟩
    unfold impl_LongerWay.f
    refine Ev.congr (fun k => by rw [impl_IsBoard.f, Option.bind_some, if_pos hlb]) ?_
    refine Ev.bind (PlaceK.isPlacement hlR hR hC hb64 p) ?_
    refine Ev.congr (fun k => by rw [if_pos hpl]) ?_
    refine Ev.bind (PlaceK.rooks (by omega)) (Ev.bind (most hb0) ?_)
    refine Ev.congr (fun k => by rw [show ((rk p : Int) == ((mostN l C' R' 0 0 : Nat) : Int)) = true by rw [hm]; simp]) ?_
    exact Ev.step (f := fun _ => some ([], false)) (fun k => by rw [impl_LongerWay.j0, if_pos rfl]) (Ev.now _)
  · refine ⟨b, ?_, .inr ⟨by omega, ?_⟩⟩
    · unfold impl_LongerWay.f
      refine Ev.congr (fun k => by rw [impl_IsBoard.f, Option.bind_some, if_pos hlb]) ?_
      refine Ev.bind (PlaceK.isPlacement hlR hR hC hb64 p) ?_
      refine Ev.congr (fun k => by rw [if_pos hpl]) ?_
      refine Ev.bind (PlaceK.rooks (by omega)) (Ev.bind (most hb0) ?_)
      refine Ev.congr (fun k => by rw [show ((rk p : Int) == ((mostN l C' R' 0 0 : Nat) : Int)) = false by rw [beq_eq_false_iff_ne]; omega]) ?_
      exact Ev.step (fun k => by rw [impl_LongerWay.j0, if_neg (by simp)]; rfl) h0
    · cases e : b.2 with
      | true =>
        obtain ⟨ps, r, c, g1, g2, g3⟩ := h3.1 e
        refine ⟨ps, r, c, ?_, g2, by rw [← g1]; exact g3⟩
        cases b
        simp_all
      | false =>
        obtain ⟨_, S, hS⟩ := h3.2 e
        have := (most_min hlR hR hC hbits).2 S
        omega
end Go.Proofs.Ytgnmcfoenmfhcaa.WayA
end
section
namespace Go.Proofs.Ytgnmcfoenmfhcaa.DrawK
set_option linter.unusedVariables false
open Go.RowKit Go.Proofs.Ytgnmcfoenmfhcaa.Q Go.Proofs.YtgnmcfoenmfhcaaW.PrintWords Go.Proofs.YtgnmcfoenmfhcaaW.PrintLast Go.Proofs.YtgnmcfoenmfhcaaW.PrintMore
open Go.Proofs.YtgnmcfoenmfhcaaL Go.Proofs.Ytgnmcfoenmfhcaa.LawK Go.Proofs.Ytgnmcfoenmfhcaa.BoardK
def Run {α : Type} (g : Nat → Option α) (P : α → Prop) : Prop := ∃ a, Ev g a ∧ P a
theorem Run.now {α : Type} {a : α} {P : α → Prop} (h : P a) : Run (fun _ => some a) P := ⟨a, Ev.now a, h⟩
theorem Run.of {α : Type} {g : Nat → Option α} {a : α} {P : α → Prop} (h : Ev g a) (hp : P a) : Run g P := ⟨a, h, hp⟩
theorem Run.bind {α β : Type} {g : Nat → Option α} {h : Nat → α → Option β} {P : α → Prop} {Q : β → Prop} (h1 : Run g P) (h2 : ∀ a, P a → Run (fun k => h k a) Q) : Run (fun k => (g k).bind (h k)) Q := by
  obtain ⟨a, ha, hp⟩ := h1
  obtain ⟨b, hb, hq⟩ := h2 a hp
  exact ⟨b, Ev.bind ha hb, hq⟩
theorem Run.congr {α : Type} {g g' : Nat → Option α} {P : α → Prop} (e : ∀ k, g k = g' k) (h : Run g' P) : Run g P := by
  obtain ⟨a, ha, hp⟩ := h
  exact ⟨a, Ev.congr e ha, hp⟩
theorem Run.step {α : Type} {g f : Nat → Option α} {P : α → Prop} (e : ∀ k, g (k + 1) = f k) (h : Run f P) : Run g P := by
  obtain ⟨a, ha, hp⟩ := h
  exact ⟨a, Ev.step e ha, hp⟩
theorem Run.mono {α : Type} {g : Nat → Option α} {P Q : α → Prop} (h : Run g P) (hpq : ∀ a, P a → Q a) : Run g Q := by
  obtain ⟨a, ha, hp⟩ := h
  exact ⟨a, ha, hpq a hp⟩
theorem Run.ite {α : Type} {c : Prop} [Decidable c] {g g' : Nat → Option α} {P : α → Prop} (h1 : c → Run g P) (h2 : ¬ c → Run g' P) : Run (fun k => if c then g k else g' k) P := by
  by_cases h : c
  · exact Run.congr (fun k => if_pos h) (h1 h)
  · exact Run.congr (fun k => if_neg h) (h2 h)
def Bytes (l : List Int) : Prop := l.length ≤ 1048576 ∧ ∀ x ∈ l, 0 ≤ x ∧ x ≤ 255
def At (M : Nat) (a : Int) : Prop := 0 ≤ a ∧ a ≤ M ∧ M ≤ 1000000
theorem At.le {M N : Nat} {a : Int} (h : At M a) (hm : M ≤ N) (hn : N ≤ 1000000) : At N a := ⟨h.1, Int.le_trans h.2.1 (by omega), hn⟩
theorem wraps_u64 (n : Int) (h₀ : 0 ≤ n) (h₁ : n < 2 ^ 64) : IntKind.u64.wrap n = n := by rw [IntKind.wrap_u64]; omega
theorem wrap_u64_range (n : Int) : 0 ≤ IntKind.u64.wrap n ∧ IntKind.u64.wrap n < 2 ^ 64 := by rw [IntKind.wrap_u64]; omega
theorem and_255 {x : Int} (h0 : 0 ≤ x) (h1 : x < 2 ^ 64) : 0 ≤ Go.bits .and .u64 x 255 ∧ Go.bits .and .u64 x 255 ≤ 255 := by
  obtain ⟨a, rfl⟩ : ∃ a : Nat, x = a := ⟨x.toNat, by omega⟩
  have h := (bits_nat .u64 64 (by decide) wraps_u64 a 255 (by omega) (by decide)).1
  have h2 : Go.bits .and .u64 (a : Int) 255 = ((a &&& 255 : Nat) : Int) := h
  rw [h2]
  have : a &&& 255 ≤ 255 := Nat.and_le_right
  omega
theorem next_run {code : List Int} (hc : Bytes code) {M : Nat} {a s : Int} (ha : At M a) (hm : M + 1 ≤ 1000000) : ∃ v a' s', spec_l1Cur_next.f code a s = some (v, a', s') ∧ (0 ≤ v ∧ v ≤ 255) ∧ At (M + 1) a' := by
  obtain ⟨h0, h1, h2⟩ := ha
  have w1 := Aside0.mk (show wrap64 (a + 1) = a + 1 from w64 (by omega) (by omega))
  have hA : At (M + 1) (a + 1) := ⟨by omega, by omega, by omega⟩
  have hu : ∀ n : Int, (0 ≤ wrap64 (Go.bits .and .u64 (IntKind.u64.wrap n / 1099511627776) 255) ∧ wrap64 (Go.bits .and .u64 (IntKind.u64.wrap n / 1099511627776) 255) ≤ 255) := by
    intro n
    have h3 := wrap_u64_range n
    generalize IntKind.u64.wrap n = y at h3
    have h4 := and_255 (x := y / 1099511627776) (by omega) (by omega)
    generalize Go.bits .and .u64 (y / 1099511627776) 255 = z at h4
    rw [w64 (by omega) (by omega)]
    exact h4
  unfold spec_l1Cur_next.f
  rw [w1.out]
  by_cases c1 : a < (code.length : Int)
  · have hl := hc.1
    rw [if_pos c1, if_pos h0]
    have hx : 0 ≤ rd code a ∧ rd code a ≤ 255 := by
      unfold rd
      rw [gD_lt _ _ (by omega)]
      exact hc.2 _ (List.getElem_mem _)
    have hv : 0 ≤ wrap64 (rd code a) ∧ wrap64 (rd code a) ≤ 255 := by rw [w64 (by omega) (by omega)]; exact hx
    by_cases c2 : a + 1 ≤ (code.length : Int)
    · rw [if_pos c2]; exact ⟨_, _, _, rfl, hv, hA⟩
    · rw [if_neg c2]; exact ⟨_, _, _, rfl, hu _, hA⟩
  · rw [if_neg c1]
    by_cases c2 : a + 1 ≤ (code.length : Int)
    · rw [if_pos c2]; exact ⟨_, _, _, rfl, ⟨by omega, by omega⟩, hA⟩
    · rw [if_neg c2]; exact ⟨_, _, _, rfl, hu _, hA⟩
theorem pick_run {code : List Int} (hc : Bytes code) {M : Nat} {a s : Int} (ha : At M a) (hm : M + 2 ≤ 1000000) (n : Int) : ∃ v a' s', spec_l1Cur_pick.f code a s n = some (v, a', s') ∧ (0 ≤ v ∧ (v < n ∨ v = 0)) ∧ At (M + 2) a' := by
  unfold spec_l1Cur_pick.f
  by_cases c1 : n ≤ 1
  · rw [if_pos c1]; exact ⟨_, _, _, rfl, ⟨by omega, .inr rfl⟩, ha.le (by omega) hm⟩
  · rw [if_neg c1]
    obtain ⟨v, a1, s1, e1, hv, ha1⟩ := next_run hc (s := s) ha (by omega)
    rw [e1, Option.bind_some]
    by_cases c2 : n > 200
    · rw [if_pos c2]
      obtain ⟨v2, a2, s2, e2, hv2, ha2⟩ := next_run hc (s := s1) ha1 (by omega)
      try simp only []
      rw [e2, Option.bind_some, if_neg (by omega)]
      refine ⟨_, _, _, rfl, ?_, ha2⟩
      try simp only []
      rw [w64 (n := v * 256) (by omega) (by omega), w64 (by omega) (by omega)]
      exact ⟨Int.tmod_nonneg _ (by omega), .inl (Int.tmod_lt_of_pos _ (by omega))⟩
    · rw [if_neg c2, if_neg (by omega)]
      exact ⟨_, _, _, rfl, ⟨Int.tmod_nonneg _ hv.1, .inl (Int.tmod_lt_of_pos _ (by omega))⟩, ha1.le (by omega) (by omega)⟩
theorem one_run {code : List Int} (hc : Bytes code) {M : Nat} {a s : Int} (ha : At M a) (hm : M + 2 ≤ 1000000) (n : Int) : ∃ (v : Bool) (a' s' : Int), spec_l1Cur_one.f code a s n = some (v, a', s') ∧ At (M + 2) a' := by
  obtain ⟨v, a1, s1, e1, hv, ha1⟩ := pick_run hc (s := s) ha hm n
  unfold spec_l1Cur_one.f
  rw [e1, Option.bind_some]
  exact ⟨_, _, _, rfl, ha1⟩
theorem among_run {code : List Int} (hc : Bytes code) {M : Nat} {a s : Int} (ha : At M a) (hm : M + 2 ≤ 1000000) {l : List Int} (hl : l ≠ []) : ∃ v a' s', spec_l1Cur_among.f code a s l = some (v, a', s') ∧ v ∈ l ∧ At (M + 2) a' := by
  obtain ⟨v, a1, s1, e1, hv, ha1⟩ := pick_run hc (s := s) ha hm (l.length : Int)
  have hp : 0 < l.length := List.length_pos_iff.2 hl
  unfold spec_l1Cur_among.f
  rw [e1, Option.bind_some]
  try simp only []
  rw [if_pos hv.1, if_pos (by omega)]
  refine ⟨_, _, _, rfl, ?_, ha1⟩
  unfold rd
  rw [gD_lt _ _ (by omega)]
  exact List.getElem_mem _
theorem sides_run {code : List Int} (hc : Bytes code) {M : Nat} {a s : Int} (ha : At M a) (hm : M + 4 ≤ 1000000) : ∃ v a' s', spec_l1Cur_sides.f code a s = some (v, a', s') ∧ (1 ≤ v ∧ v ≤ 6) ∧ At (M + 4) a' := by
  unfold spec_l1Cur_sides.f
  obtain ⟨b, a1, s1, e1, ha1⟩ := one_run hc (s := s) ha (by omega) 8
  rw [e1, Option.bind_some]
  cases b with
  | true => exact ⟨_, _, _, rfl, ⟨by omega, by omega⟩, ha1.le (by omega) (by omega)⟩
  | false =>
    obtain ⟨v, a2, s2, e2, hv, ha2⟩ := pick_run hc (s := s1) ha1 (by omega) 5
    try simp only []
    rw [if_neg (by simp), e2, Option.bind_some]
    refine ⟨_, _, _, rfl, ?_, ha2⟩
    rw [w64 (by omega) (by omega)]
    omega
def Drawn (n M : Nat) (x : Int × Int × List Int × Int × Int) : Prop := x.2.2.1.length ≤ n ∧ At M x.2.2.2.1
def DrawnN (n M : Nat) (x : Int × Int × List Int × Int × Int) : Prop := x.2.2.1.length = n ∧ At M x.2.2.2.1
theorem boardOf_l0 {code : List Int} (hc : Bytes code) {C : Nat} (hC : C ≤ 6) (n : Nat) (hn : n ≤ 8) (r0 c0 : Int) : ∀ (d i M : Nat) (a s : Int) (l : List Int), i + d = n → l.length = n → At M a → M + 6 * d ≤ 1000000 → Run (fun k => spec_l1Cur_boardOf.l0 k (C : Int) (n : Int) (i : Int) code a s r0 c0 l) (DrawnN n (M + 6 * d))
  | 0, i, M, a, s, l, hi, hl, ha, hm => by
    refine Run.step (f := fun _ => some (r0, c0, l, a, s)) (fun k => ?_) (Run.now ⟨hl, by simpa using ha⟩)
    rw [spec_l1Cur_boardOf.l0, if_neg (by omega)]
  | d + 1, i, M, a, s, l, hi, hl, ha, hm => by
    have w1 := Aside0.mk (show wrap64 ((i : Int) + 1) = ((i + 1 : Nat) : Int) from by rw [w64 (by omega) (by omega)]; rfl)
    obtain ⟨v, a1, s1, e1, hv, ha1⟩ := pick_run hc (s := s) ha (by omega) (shl .i64 1 (C : Int))
    obtain ⟨b, a2, s2, e2, ha2⟩ := one_run hc (s := s1) ha1 (by omega) 3
    cases b with
    | true =>
      obtain ⟨v3, a3, s3, e3, hv3, ha3⟩ := pick_run hc (s := s2) ha2 (by omega) (wrap64 ((C : Int) + 1))
      refine Run.step (fun k => ?_) ((boardOf_l0 hc hC n hn r0 c0 d (i + 1) (M + 6) a3 s3 ((l.set (i : Int).toNat v).set (i : Int).toNat (wrap64 (shl .i64 1 v3 - 1))) (by omega) (by rw [List.length_set, List.length_set]; exact hl) ha3 (by omega)).mono (fun x hx => ⟨hx.1, hx.2.le (by omega) (by omega)⟩))
      rw [spec_l1Cur_boardOf.l0, if_pos (by omega), if_pos (by omega), e1, Option.bind_some, if_pos (by omega), if_pos (by omega), Option.bind_some, e2, Option.bind_some, if_pos rfl, e3, Option.bind_some, if_pos hv3.1, w1.out]
    | false =>
      refine Run.step (fun k => ?_) ((boardOf_l0 hc hC n hn r0 c0 d (i + 1) (M + 6) a2 s2 (l.set (i : Int).toNat v) (by omega) (by rw [List.length_set]; exact hl) (ha2.le (by omega) (by omega)) (by omega)).mono (fun x hx => ⟨hx.1, hx.2.le (by omega) (by omega)⟩))
      rw [spec_l1Cur_boardOf.l0, if_pos (by omega), if_pos (by omega), e1, Option.bind_some, if_pos (by omega), if_pos (by omega), Option.bind_some, e2, Option.bind_some, if_neg (by simp), w1.out]
theorem boardOf_run {code : List Int} (hc : Bytes code) {M : Nat} {a s r c : Int} (ha : At M a) (hm : M + 36 ≤ 1000000) (hr : 1 ≤ r ∧ r ≤ 6) (hcc : 1 ≤ c ∧ c ≤ 6) : Run (fun k => spec_l1Cur_boardOf.f k code a s r c) (fun x => (1 ≤ x.2.2.1.length ∧ x.2.2.1.length ≤ 6) ∧ At (M + 36) x.2.2.2.1) := by
  obtain ⟨R, rfl⟩ : ∃ R : Nat, r = R := ⟨r.toNat, by omega⟩
  obtain ⟨C, rfl⟩ : ∃ C : Nat, c = C := ⟨c.toNat, by omega⟩
  have he : spec_boEmpty.f (R : Int) (C : Int) = some ((R : Int), (C : Int), List.replicate R 0) := by unfold spec_boEmpty.f; rw [if_pos (by omega), if_pos (by omega), Int.toNat_natCast]
  unfold spec_l1Cur_boardOf.f
  have h := boardOf_l0 hc (C := C) (by omega) R (by omega) R C R 0 M a s (List.replicate R 0) (by omega) (by simp) ha (by omega)
  refine Run.congr (fun k => ?_) (h.mono (Q := fun x => (1 ≤ x.2.2.1.length ∧ x.2.2.1.length ≤ 6) ∧ At (M + 36) x.2.2.2.1) (fun x hx => ⟨by have := hx.1; omega, hx.2.le (by omega) (by omega)⟩))
  rw [he, Option.bind_some]
  try simp only [List.length_replicate]
  try rfl
theorem pick_R {code : List Int} (hc : Bytes code) {M : Nat} {a s : Int} (ha : At M a) (hm : M + 2 ≤ 1000000) (n : Int) : Run (fun _ => spec_l1Cur_pick.f code a s n) (fun x => (0 ≤ x.1 ∧ (x.1 < n ∨ x.1 = 0)) ∧ At (M + 2) x.2.1) := by
  obtain ⟨v, a1, s1, e1, hv, ha1⟩ := pick_run hc (s := s) ha hm n
  exact ⟨_, Ev.congr (fun _ => e1) (Ev.now _), hv, ha1⟩
theorem one_R {code : List Int} (hc : Bytes code) {M : Nat} {a s : Int} (ha : At M a) (hm : M + 2 ≤ 1000000) (n : Int) : Run (fun _ => spec_l1Cur_one.f code a s n) (fun x => At (M + 2) x.2.1) := by
  obtain ⟨v, a1, s1, e1, ha1⟩ := one_run hc (s := s) ha hm n
  exact ⟨_, Ev.congr (fun _ => e1) (Ev.now _), ha1⟩
theorem among_R {code : List Int} (hc : Bytes code) {M : Nat} {a s : Int} (ha : At M a) (hm : M + 2 ≤ 1000000) {l : List Int} (hl : l ≠ []) : Run (fun _ => spec_l1Cur_among.f code a s l) (fun x => x.1 ∈ l ∧ At (M + 2) x.2.1) := by
  obtain ⟨v, a1, s1, e1, hv, ha1⟩ := among_run hc (s := s) ha hm hl
  exact ⟨_, Ev.congr (fun _ => e1) (Ev.now _), hv, ha1⟩
theorem sides_R {code : List Int} (hc : Bytes code) {M : Nat} {a s : Int} (ha : At M a) (hm : M + 4 ≤ 1000000) : Run (fun _ => spec_l1Cur_sides.f code a s) (fun x => (1 ≤ x.1 ∧ x.1 ≤ 6) ∧ At (M + 4) x.2.1) := by
  obtain ⟨v, a1, s1, e1, hv, ha1⟩ := sides_run hc (s := s) ha hm
  exact ⟨_, Ev.congr (fun _ => e1) (Ev.now _), hv, ha1⟩
theorem board_run {code : List Int} (hc : Bytes code) {M : Nat} {a s : Int} (ha : At M a) (hm : M + 50 ≤ 1000000) : Run (fun k => spec_l1Cur_board.f k code a s) (Drawn 7 (M + 50)) := by
  unfold spec_l1Cur_board.f
  refine Run.bind (sides_R hc ha (by omega)) ?_
  rintro ⟨r, a1, s1⟩ ⟨hr, ha1⟩
  refine Run.bind (sides_R hc ha1 (by omega)) ?_
  rintro ⟨c, a2, s2⟩ ⟨hcc, ha2⟩
  refine Run.bind (boardOf_run hc ha2 (by omega) hr hcc) ?_
  rintro ⟨r1, c1, l, a3, s3⟩ ⟨hl, ha3⟩
  simp only [] at hl
  refine Run.bind (pick_R hc ha3 (by omega) 18) ?_
  rintro ⟨v, a4, s4⟩ ⟨hv, ha4⟩
  refine Run.ite (fun _ => ?_) (fun _ => Run.ite (fun _ => ?_) (fun _ => Run.ite (fun _ => ?_) (fun _ => Run.ite (fun _ => ?_) (fun _ => ?_))))
  · refine Run.bind (among_R hc ha4 (by omega) (by simp)) ?_
    rintro ⟨x, a5, s5⟩ ⟨hx, ha5⟩
    exact Run.now ⟨by simp only []; omega, ha5.le (by omega) (by omega)⟩
  · refine Run.bind (among_R hc ha4 (by omega) (by simp)) ?_
    rintro ⟨x, a5, s5⟩ ⟨hx, ha5⟩
    exact Run.now ⟨by simp only []; omega, ha5.le (by omega) (by omega)⟩
  · refine Run.bind (pick_R hc ha4 (by omega) (l.length : Int)) ?_
    rintro ⟨v5, a5, s5⟩ ⟨hv5, ha5⟩
    refine Run.bind (among_R hc ha5 (by omega) (by simp)) ?_
    rintro ⟨x, a6, s6⟩ ⟨hx, ha6⟩
    simp only [] at hv5
    have hlt : v5 < (l.length : Int) := by omega
    refine Run.congr (fun k => (if_pos hv5.1).trans (if_pos hlt)) (Run.now ⟨by simp only [List.length_set]; omega, ha6.le (by omega) (by omega)⟩)
  · exact Run.congr (fun k => if_pos (by simp only []; omega)) (Run.now ⟨by simp only [List.length_append, List.length_singleton]; omega, ha4.le (by omega) (by omega)⟩)
  · exact Run.now ⟨by simp only []; omega, ha4.le (by omega) (by omega)⟩
end Go.Proofs.Ytgnmcfoenmfhcaa.DrawK
end
section
namespace Go.Proofs.Ytgnmcfoenmfhcaa.DrawK
set_option linter.unusedVariables false
open Go.RowKit Go.Proofs.Ytgnmcfoenmfhcaa.Q Go.Proofs.YtgnmcfoenmfhcaaW.PrintWords Go.Proofs.YtgnmcfoenmfhcaaW.PrintLast Go.Proofs.YtgnmcfoenmfhcaaW.PrintMore
open Go.Proofs.YtgnmcfoenmfhcaaL Go.Proofs.Ytgnmcfoenmfhcaa.LawK Go.Proofs.Ytgnmcfoenmfhcaa.BoardK
theorem sparse_l1 {code : List Int} (hc : Bytes code) {C : Nat} (r0 : Int) (n i d : Nat) (hi : i < n) (hn : n ≤ 8) (next : ∀ (M : Nat) (a s : Int) (l : List Int), l.length = n → At M a → M + 20 * d ≤ 1000000 → Run (fun k => spec_l1Cur_sparse.l0 k (n : Int) ((i + 1 : Nat) : Int) code a s r0 (C : Int) l) (DrawnN n (M + 20 * d))) :
    ∀ (V M : Nat) (a s : Int) (l : List Int), V ≤ 4 → l.length = n → At M a → M + 2 * V + 20 * d ≤ 1000000 → Run (fun k => spec_l1Cur_sparse.l1 k (i : Int) (V : Int) (n : Int) (i : Int) code a s r0 (C : Int) l) (DrawnN n (M + 2 * V + 20 * d))
  | 0, M, a, s, l, hV, hl, ha, hm => by
    have w1 := Aside0.mk (show wrap64 ((i : Int) + 1) = ((i + 1 : Nat) : Int) from by rw [w64 (by omega) (by omega)]; rfl)
    refine Run.step (fun k => ?_) (next M a s l hl ha (by omega))
    rw [spec_l1Cur_sparse.l1, if_neg (by omega), w1.out]
  | V + 1, M, a, s, l, hV, hl, ha, hm => by
    have w1 := Aside0.mk (show wrap64 (((V + 1 : Nat) : Int) - 1) = (V : Int) from by rw [w64 (by omega) (by omega)]; omega)
    obtain ⟨v, a1, s1, e1, hv, ha1⟩ := pick_run hc (s := s) ha (by omega) (C : Int)
    refine Run.step (fun k => ?_) ((sparse_l1 hc (C := C) r0 n i d hi hn next V (M + 2) a1 s1 (l.set (i : Int).toNat (Go.bits .or .i64 (rd l (i : Int)) (shl .i64 1 v))) (by omega) (by rw [List.length_set]; exact hl) ha1 (by omega)).mono (fun x hx => ⟨hx.1, hx.2.le (by omega) (by omega)⟩))
    rw [spec_l1Cur_sparse.l1, if_pos (by omega), if_pos (by omega), if_pos (by omega), e1, Option.bind_some, if_pos hv.1, w1.out]
theorem sparse_l0 {code : List Int} (hc : Bytes code) {C : Nat} (r0 : Int) (n : Nat) (hn : n ≤ 8) : ∀ (d i M : Nat) (a s : Int) (l : List Int), i + d = n → l.length = n → At M a → M + 20 * d ≤ 1000000 → Run (fun k => spec_l1Cur_sparse.l0 k (n : Int) (i : Int) code a s r0 (C : Int) l) (DrawnN n (M + 20 * d))
  | 0, i, M, a, s, l, hi, hl, ha, hm => by
    refine Run.step (f := fun _ => some (r0, (C : Int), l, a, s)) (fun k => ?_) (Run.now ⟨hl, by simpa using ha⟩)
    rw [spec_l1Cur_sparse.l0, if_neg (by omega)]
  | d + 1, i, M, a, s, l, hi, hl, ha, hm => by
    obtain ⟨v, a1, s1, e1, hv, ha1⟩ := pick_run hc (s := s) ha (by omega) 4
    obtain ⟨V, rfl⟩ : ∃ V : Nat, v = V := ⟨v.toNat, by omega⟩
    have hV : V ≤ 3 := by omega
    refine Run.step (fun k => ?_) ((sparse_l1 hc (C := C) r0 n i d (by omega) hn (fun M' a' s' l' hl' ha' hm' => sparse_l0 hc (C := C) r0 n hn d (i + 1) M' a' s' l' (by omega) hl' ha' hm') V (M + 2) a1 s1 l (by omega) hl ha1 (by omega)).mono (fun x hx => ⟨hx.1, hx.2.le (by omega) (by omega)⟩))
    rw [spec_l1Cur_sparse.l0, if_pos (by omega), e1, Option.bind_some]
theorem sparse_run {code : List Int} (hc : Bytes code) {M : Nat} {a s : Int} (ha : At M a) (hm : M + 200 ≤ 1000000) : Run (fun k => spec_l1Cur_sparse.f k code a s) (Drawn 7 (M + 200)) := by
  unfold spec_l1Cur_sparse.f
  refine Run.bind (one_R hc ha (by omega) 5) ?_
  rintro ⟨b, a1, s1⟩ ha1
  refine Run.ite (fun _ => ?_) (fun _ => ?_)
  · refine Run.bind (board_run hc ha1 (by omega)) ?_
    rintro ⟨r1, c1, l, a3, s3⟩ ⟨hl, ha3⟩
    exact Run.now ⟨hl, ha3.le (by omega) (by omega)⟩
  · refine Run.bind (pick_R hc ha1 (by omega) 5) ?_
    rintro ⟨v, a2, s2⟩ ⟨hv, ha2⟩
    refine Run.bind (pick_R hc ha2 (by omega) 5) ?_
    rintro ⟨v3, a3, s3⟩ ⟨hv3, ha3⟩
    simp only [] at hv hv3
    obtain ⟨R, hR⟩ : ∃ R : Nat, wrap64 (1 + v) = R := ⟨(1 + v).toNat, by rw [w64 (by omega) (by omega)]; omega⟩
    obtain ⟨C, hC⟩ : ∃ C : Nat, wrap64 (1 + v3) = C := ⟨(1 + v3).toNat, by rw [w64 (by omega) (by omega)]; omega⟩
    have hR6 : R ≤ 6 := by rw [w64 (by omega) (by omega)] at hR; omega
    have he : spec_boEmpty.f (wrap64 (1 + v)) (wrap64 (1 + v3)) = some ((R : Int), (C : Int), List.replicate R 0) := by rw [hR, hC]; unfold spec_boEmpty.f; rw [if_pos (by omega), if_pos (by omega), Int.toNat_natCast]
    refine Run.bind (P := fun x => x = ((R : Int), (C : Int), List.replicate R 0)) ⟨_, Ev.congr (fun _ => he) (Ev.now _), rfl⟩ ?_
    rintro x rfl
    have h := sparse_l0 hc (C := C) R R (by omega) R 0 _ a3 s3 (List.replicate R 0) (by omega) (by simp) ha3 (by omega)
    refine Run.congr (fun k => ?_) (h.mono (Q := Drawn 7 (M + 200)) (fun x hx => ⟨by have := hx.1; omega, hx.2.le (by omega) (by omega)⟩))
    try simp only [List.length_replicate]
    try rfl
end Go.Proofs.Ytgnmcfoenmfhcaa.DrawK
end
section
namespace Go.Proofs.Ytgnmcfoenmfhcaa.DrawK
set_option linter.unusedVariables false
open Go.RowKit Go.Proofs.Ytgnmcfoenmfhcaa.Q Go.Proofs.YtgnmcfoenmfhcaaW.PrintWords Go.Proofs.YtgnmcfoenmfhcaaW.PrintLast Go.Proofs.YtgnmcfoenmfhcaaW.PrintMore
open Go.Proofs.YtgnmcfoenmfhcaaL Go.Proofs.Ytgnmcfoenmfhcaa.LawK Go.Proofs.Ytgnmcfoenmfhcaa.BoardK
def DrawnP (M : Nat) (y : Int × Int × List Int × List Int × Int × Int) : Prop := y.2.2.1.length ≤ 7 ∧ y.2.2.2.1.length ≤ 7 ∧ At M y.2.2.2.2.1
section
variable {code : List Int} (hc : Bytes code) {l : List Int} {R C : Nat} (hlR : l.length = R) (hR : 1 ≤ R ∧ R ≤ 6) (hC : 1 ≤ C ∧ C ≤ 6) (hb : ∀ i (hi : i < l.length), 0 ≤ l[i] ∧ l[i] < 64)
include hc hlR hR hC hb
theorem placing_l1 (i N : Nat) (hi : i < R) (x : List Int) (hx : x.length ≤ 6) (next : ∀ (M : Nat) (a s v : Int), At M a → M ≤ N → Run (fun k => spec_l1Cur_placing.l0 k (x ++ [v]) ((i + 1 : Nat) : Int) code a s R C l) (DrawnP 1000)) :
    ∀ (d t M : Nat) (a s v : Int), t + d = 3 → At M a → M + 2 * d ≤ N → N + 10 ≤ 1000000 → Run (fun k => spec_l1Cur_placing.l1 k x (i : Int) v (t : Int) code a s R C l) (DrawnP 1000) := by
  have w1 := Aside0.mk (show wrap64 ((i : Int) + 1) = ((i + 1 : Nat) : Int) from by rw [w64 (by omega) (by omega)]; rfl)
  have out : ∀ (t M : Nat) (a s v : Int), At M a → M ≤ N → Run (fun k => spec_l1Cur_placing.j2 k x (i : Int) v (t : Int) false code a s R C l) (DrawnP 1000) := by
    intro t M a s v ha hm
    refine Run.step (fun k => ?_) (next M a s v ha hm)
    rw [spec_l1Cur_placing.j2, if_neg (by simp), if_pos (by omega), w1.out]
  intro d
  induction d with
  | zero =>
    intro t M a s v ht ha hm hn
    refine Run.step (fun k => ?_) (out t M a s v ha (by omega))
    rw [spec_l1Cur_placing.l1, if_neg (by omega)]
  | succ d ih =>
    intro t M a s v ht ha hm hn
    by_cases hv : v < 0
    · have w2 := Aside0.mk (show wrap64 ((t : Int) + 1) = ((t + 1 : Nat) : Int) from by rw [w64 (by omega) (by omega)]; rfl)
      refine Run.step (f := fun k => spec_l1Cur_placing.j2 k x (i : Int) v (t : Int) true code a s R C l) (fun k => ?_) ?_
      · rw [spec_l1Cur_placing.l1, if_pos (by omega), decide_eq_true hv]
      · obtain ⟨u, a1, s1, e1, hu, ha1⟩ := pick_run hc (s := s) ha (by omega) (C : Int)
        obtain ⟨U, rfl⟩ : ∃ U : Nat, u = U := ⟨u.toNat, by omega⟩
        have hil : i < l.length := by omega
        have hh := boHas_f (l := l) (R : Int) (C : Int) (i := i) (j := U) hil (hb i hil).1 (hb i hil).2 (by omega)
        have ihA := fun (w : Int) => ih (t + 1) (M + 2) a1 s1 w (by omega) ha1 (by omega) hn
        by_cases g : cell l i U = true
        · refine Run.step (f := fun k => (spec_l1Has.f k x (U : Int)).bind fun t121 => if t121 = true then spec_l1Cur_placing.l1 k x (i : Int) v ((t + 1 : Nat) : Int) code a1 s1 R C l else spec_l1Cur_placing.l1 k x (i : Int) (U : Int) ((t + 1 : Nat) : Int) code a1 s1 R C l) (fun k => ?_) ?_
          · rw [spec_l1Cur_placing.j2, if_pos rfl, e1, Option.bind_some, hh, Option.bind_some, if_pos g, w2.out]
          · refine Run.bind (P := fun _ => True) (Run.of (PermK.l1Has (U : Int) (by omega)) trivial) ?_
            intro b _
            exact Run.ite (fun _ => ihA v) (fun _ => ihA (U : Int))
        · refine Run.step (fun k => ?_) (ihA v)
          rw [spec_l1Cur_placing.j2, if_pos rfl, e1, Option.bind_some, hh, Option.bind_some, if_neg g, w2.out]
    · refine Run.step (fun k => ?_) (out t M a s v ha (by omega))
      rw [spec_l1Cur_placing.l1, if_pos (by omega), decide_eq_false hv]
theorem placing_l0 : ∀ (d i M : Nat) (a s : Int) (x : List Int), i + d = R → x.length = i → At M a → M + 6 * d ≤ 900 → Run (fun k => spec_l1Cur_placing.l0 k x (i : Int) code a s R C l) (DrawnP 1000)
  | 0, i, M, a, s, x, hi, hx, ha, hm => by
    refine Run.step (fun k => by rw [spec_l1Cur_placing.l0, if_neg (by omega)]) ?_
    refine Run.bind (pick_R hc ha (by omega) 14) ?_
    rintro ⟨v, a1, s1⟩ ⟨hv, ha1⟩
    refine Run.ite (fun _ => ?_) (fun _ => Run.ite (fun _ => ?_) (fun _ => ?_))
    · refine Run.bind (pick_R hc ha1 (by omega) (x.length : Int)) ?_
      rintro ⟨u, a2, s2⟩ ⟨hu, ha2⟩
      refine Run.bind (among_R hc ha2 (by omega) (by simp)) ?_
      rintro ⟨y, a3, s3⟩ ⟨hy, ha3⟩
      simp only [] at hu
      exact Run.congr (fun k => (if_pos hu.1).trans (if_pos (by omega))) (Run.now ⟨by simp only []; omega, by simp only [List.length_set]; omega, ha3.le (by omega) (by omega)⟩)
    · exact Run.congr (fun k => if_pos (by omega)) (Run.now ⟨by simp only []; omega, by simp only [List.length_append, List.length_singleton]; omega, ha1.le (by omega) (by omega)⟩)
    · exact Run.now ⟨by simp only []; omega, by simp only []; omega, ha1.le (by omega) (by omega)⟩
  | d + 1, i, M, a, s, x, hi, hx, ha, hm => by
    refine Run.step (f := fun k => spec_l1Cur_placing.l1 k x (i : Int) (-1) ((0 : Nat) : Int) code a s R C l) (fun k => ?_) ?_
    · rw [spec_l1Cur_placing.l0, if_pos (by omega)]; rfl
    · exact placing_l1 hc hlR hR hC hb i (M + 6) (by omega) x (by omega) (fun M' a' s' v' ha' hm' => placing_l0 d (i + 1) (M + 6) a' s' (x ++ [v']) (by omega) (by rw [List.length_append, List.length_singleton]; omega) (ha'.le hm' (by omega)) (by omega)) 3 0 M a s (-1) (by omega) ha (by omega) (by omega)
end
theorem placing_run {code : List Int} (hc : Bytes code) {a s : Int} (ha : At 0 a) : Run (fun k => spec_l1Cur_placing.f k code a s) (DrawnP 1000) := by
  unfold spec_l1Cur_placing.f
  refine Run.bind (sparse_run hc ha (by omega)) ?_
  rintro ⟨r, c, l, a1, s1⟩ ⟨hl, ha1⟩
  simp only [] at hl
  refine Run.bind (P := fun t => t = isBoardB r c l) (Run.of (boGood (l := l) r c (by omega)) rfl) ?_
  rintro t rfl
  refine Run.ite (fun hbd => ?_) (fun _ => ?_)
  · obtain ⟨R, C, rfl, rfl, hlR, h1R, hR, h1C, hC, hbits⟩ := board_of hbd
    exact placing_l0 hc hlR ⟨h1R, hR⟩ ⟨h1C, hC⟩ (fun i hi => ⟨(hbits i hi).1, by have := (hbits i hi).2; have h3 := two_pow_six hC; omega⟩) R 0 200 a1 s1 [] (by omega) rfl (ha1.le (by omega) (by omega)) (by omega)
  · exact Run.now ⟨by simp only []; omega, by simp, ha1.le (by omega) (by omega)⟩
theorem zero_at0 : At 0 0 := ⟨by omega, by omega, by omega⟩
theorem draw_longer {code : List Int} (hc : Bytes code) : Run (fun k => spec_DrawLongerWay.f k code) (fun y => y.2.2.1.length ≤ 7 ∧ y.2.2.2.length ≤ 7) := by
  unfold spec_DrawLongerWay.f
  refine Run.bind (placing_run hc zero_at0) ?_
  rintro ⟨r, c, l, p, a, s⟩ ⟨hl, hp, ha⟩
  exact Run.now ⟨hl, hp⟩
theorem follow_l0 {code : List Int} (hc : Bytes code) (p : List Int) (r c : Int) (l : List Int) : ∀ (V M : Nat) (a s : Int) (w : List Int), V ≤ 20 → w.length + V ≤ 20 → At M a → M + 4 * V + 10 ≤ 1000000 → Run (fun k => spec_DrawFollowWay.l0 k p w (V : Int) code a s r c l) (fun y => y.2.2.1 = l ∧ y.2.2.2.1 = p ∧ y.2.2.2.2.length ≤ 1000)
  | 0, M, a, s, w, hV, hw, ha, hm => by
    refine Run.step (f := fun _ => some (r, c, l, p, w)) (fun k => ?_) (Run.now ⟨rfl, rfl, by simp only []; omega⟩)
    rw [spec_DrawFollowWay.l0, if_neg (by omega)]
  | V + 1, M, a, s, w, hV, hw, ha, hm => by
    have w1 := Aside0.mk (show wrap64 (((V + 1 : Nat) : Int) - 1) = (V : Int) from by rw [w64 (by omega) (by omega)]; omega)
    refine Run.step (fun k => by rw [spec_DrawFollowWay.l0, if_pos (by omega), w1.out]) ?_
    refine Run.bind (pick_R hc ha (by omega) 7) ?_
    rintro ⟨u, a1, s1⟩ ⟨hu, ha1⟩
    refine Run.bind (pick_R hc ha1 (by omega) 9) ?_
    rintro ⟨u2, a2, s2⟩ ⟨hu2, ha2⟩
    exact Run.congr (fun k => if_pos (by omega)) (follow_l0 hc p r c l V (M + 4) a2 s2 _ (by omega) (by rw [List.length_append, List.length_singleton]; omega) (ha2.le (by omega) (by omega)) (by omega))
theorem follow_j0 {code : List Int} (hc : Bytes code) (p w : List Int) (hw : w.length ≤ 1000) (b : Bool) {M : Nat} {a s : Int} (r c : Int) (l : List Int) (ha : At M a) (hm : M + 200 ≤ 1000000) : Run (fun k => spec_DrawFollowWay.j0 k p w b code a s r c l) (fun y => y.2.2.1 = l ∧ y.2.2.2.1 = p ∧ y.2.2.2.2.length ≤ 1000) := by
  cases b with
  | true =>
    refine Run.step (f := fun _ => some (r, c, l, p, w)) (fun k => ?_) (Run.now ⟨rfl, rfl, hw⟩)
    rw [spec_DrawFollowWay.j0, if_pos rfl]
  | false =>
    refine Run.step (fun k => by rw [spec_DrawFollowWay.j0, if_neg (by simp)]) ?_
    refine Run.bind (among_R hc ha (by omega) (by simp)) ?_
    rintro ⟨u, a1, s1⟩ ⟨hu, ha1⟩
    have hu2 : 0 ≤ u ∧ u ≤ 14 := by
      simp only [List.mem_cons, List.not_mem_nil, or_false] at hu
      omega
    obtain ⟨V, rfl⟩ : ∃ V : Nat, u = V := ⟨u.toNat, by omega⟩
    exact follow_l0 hc p r c l V (M + 2) a1 s1 [] (by omega) (by simp only [List.length_nil]; omega) ha1 (by omega)
theorem draw_follow {code : List Int} (hc : Bytes code) : Run (fun k => spec_DrawFollowWay.f k code) (fun y => y.2.2.1.length ≤ 7 ∧ y.2.2.2.1.length ≤ 7 ∧ y.2.2.2.2.length ≤ 1000) := by
  unfold spec_DrawFollowWay.f
  refine Run.bind (placing_run hc zero_at0) ?_
  rintro ⟨r, c, l, p, a, s⟩ ⟨hl, hp, ha⟩
  simp only [] at hl hp
  obtain ⟨w, hw, _, hS⟩ := LongK.both (r := r) (c := c) (l := l) (p := p) (by omega) (by omega)
  refine Run.bind (P := fun x => x = w) ⟨w, hS, rfl⟩ ?_
  rintro x rfl
  refine Run.ite (fun _ => ?_) (fun _ => ?_)
  · refine Run.bind (one_R hc ha (by omega) 4) ?_
    rintro ⟨b, a1, s1⟩ ha1
    exact (follow_j0 hc p x.1 hw (!b) r c l ha1 (by omega)).mono (fun y hy => ⟨by rw [hy.1]; exact hl, by rw [hy.2.1]; exact hp, hy.2.2⟩)
  · exact (follow_j0 hc p x.1 hw false r c l ha (by omega)).mono (fun y hy => ⟨by rw [hy.1]; exact hl, by rw [hy.2.1]; exact hp, hy.2.2⟩)
end Go.Proofs.Ytgnmcfoenmfhcaa.DrawK
end
section
namespace Go.Proofs.Ytgnmcfoenmfhcaa.DrawK
set_option linter.unusedVariables false
open Go.RowKit Go.Proofs.Ytgnmcfoenmfhcaa.Q Go.Proofs.YtgnmcfoenmfhcaaW.PrintWords Go.Proofs.YtgnmcfoenmfhcaaW.PrintLast Go.Proofs.YtgnmcfoenmfhcaaW.PrintMore
open Go.Proofs.YtgnmcfoenmfhcaaL Go.Proofs.Ytgnmcfoenmfhcaa.LawK
theorem kSame_l0 {a b : List Int} (hl : a.length ≤ 4611686018427387904) (h : a.length = b.length) : ∀ (d i : Nat), i + d = a.length → a.take i = b.take i → Ev (fun k => laws_kSame.l0 k a b (a.length : Int) i) (decide (a = b))
  | 0, i, hi, ht => by
    refine Ev.step (f := fun _ => some (decide (a = b))) (fun k => ?_) (Ev.now _)
    rw [laws_kSame.l0, if_neg (by omega)]
    rw [List.take_of_length_le (by omega), List.take_of_length_le (by omega)] at ht
    simp [ht]
  | d + 1, i, hi, ht => by
    have h1 : wrap64 ((i : Int) + 1) = ((i + 1 : Nat) : Int) := by rw [w64 (by omega) (by omega)]; rfl
    have hi2 : i < a.length := by omega
    by_cases e : a[i] = b[i]'(by omega)
    · refine Ev.step (fun k => ?_) (kSame_l0 hl h d (i + 1) (by omega) (by rw [List.take_succ_eq_append_getElem (by omega), List.take_succ_eq_append_getElem (by omega), ht, e]))
      rw [laws_kSame.l0, if_pos (by omega), if_pos (by omega), if_pos (by omega), if_pos (by omega), rd_lt _ _ hi2, rd_lt _ _ (by omega), if_pos e, h1]
    · have : a ≠ b := fun hab => e (by simp [hab])
      rw [decide_eq_false this]
      refine Ev.step (f := fun _ => some false) (fun k => ?_) (Ev.now _)
      rw [laws_kSame.l0, if_pos (by omega), if_pos (by omega), if_pos (by omega), if_pos (by omega), rd_lt _ _ hi2, rd_lt _ _ (by omega), if_neg e]
theorem kSame {a b : List Int} (hl : a.length ≤ 4611686018427387904) : Ev (fun k => laws_kSame.f k a b) (decide (a = b)) := by
  unfold laws_kSame.f
  by_cases h : a.length = b.length
  · exact Ev.congr (fun k => if_pos (by omega)) (kSame_l0 hl h a.length 0 (by omega) (by simp))
  · have : a ≠ b := fun hab => h (by simp [hab])
    rw [decide_eq_false this]
    exact Ev.congr (fun k => if_neg (by omega)) (Ev.now _)
theorem kSame_self {a : List Int} (hl : a.length ≤ 4611686018427387904) : Ev (fun k => laws_kSame.f k a a) true := by
  have := kSame (a := a) (b := a) hl
  rw [decide_eq_true rfl] at this
  exact this
theorem big_f (l0 l1 : List Int) (h1 : l1.length ≤ 4611686018427387904) : laws_big.f l0 l1 = some true ∨ laws_big.f l0 l1 = some false ∧ l0.length ≤ 1048576 ∧ l1.length ≤ 1048576 := by
  unfold laws_big.f
  by_cases h : (l0.length : Int) > 1048576
  · exact .inl (if_pos h)
  · rw [if_neg h, w64 (by omega) (by omega)]
    by_cases h2 : (l1.length : Int) > 1048576 - (l0.length : Int)
    · exact .inl (by rw [decide_eq_true h2])
    · exact .inr ⟨by rw [decide_eq_false h2], by omega, by omega⟩
theorem byte_of {x : Int} (h : (Lit.int .u8 x).wf = true) : 0 ≤ x ∧ x ≤ 255 := by
  simp [Lit.wf, IntKind.min, IntKind.max, IntKind.signed, IntKind.bits] at h
  omega
end Go.Proofs.Ytgnmcfoenmfhcaa.DrawK
end
section
namespace Go.Proofs.Ytgnmcfoenmfhcaa.Pure
set_option linter.unusedVariables false
open Go.RowKit Go.Proofs.Ytgnmcfoenmfhcaa.Q Go.Proofs.YtgnmcfoenmfhcaaW.PrintWords Go.Proofs.YtgnmcfoenmfhcaaW.PrintLast Go.Proofs.YtgnmcfoenmfhcaaW.PrintMore
open Go.Proofs.YtgnmcfoenmfhcaaL Go.Proofs.Ytgnmcfoenmfhcaa.LawK Go.Proofs.Ytgnmcfoenmfhcaa.BoardK Go.Proofs.Ytgnmcfoenmfhcaa.MostK Go.Proofs.Ytgnmcfoenmfhcaa.LongK Go.Proofs.Ytgnmcfoenmfhcaa.WayA Go.Proofs.Ytgnmcfoenmfhcaa.DrawK
open Go.Proofs.Ytgnmcfoenmfhcaa.PlaceK (placeB rk placeB_ge)
namespace LongerK
theorem mostRooks {R C : Nat} {l : List Int} (hb : isBoardB R C l = true) : Ev (fun k => impl_MostRooks.f k R C l) (((mostN l C R 0 0 : Nat) : Int), true) := by
  unfold impl_MostRooks.f
  refine Ev.congr (fun k => by rw [impl_IsBoard.f, Option.bind_some, if_pos hb]) ?_
  exact Ev.bind (most hb) (Ev.now _)
theorem isPlace {r c : Int} {l p : List Int} (hb : isBoardB r c l = true) : Ev (fun k => impl_IsPlacement.f k r c l p) (placeB l c.toNat p, true) := by
  obtain ⟨R, C, rfl, rfl, hlR, h1R, hR, h1C, hC, hbits⟩ := board_of hb
  rw [Int.toNat_natCast]
  unfold impl_IsPlacement.f
  refine Ev.congr (fun k => by rw [impl_IsBoard.f, Option.bind_some, if_pos hb]) ?_
  exact Ev.bind (PlaceK.isPlacement hlR hR hC (fun i hi => ⟨(hbits i hi).1, by have := (hbits i hi).2; have h3 := two_pow_six hC; omega⟩) p) (Ev.now _)
theorem noPlace {r c : Int} {l p : List Int} (hb : isBoardB r c l = false) : Ev (fun k => impl_IsPlacement.f k r c l p) (false, false) := by
  unfold impl_IsPlacement.f
  exact Ev.congr (fun k => by rw [impl_IsBoard.f, Option.bind_some, hb, if_neg (by simp)]) (Ev.now _)
theorem noIdx {p : List Int} (hl : p.length ≤ 6) (hp : ∀ x ∈ p, -1 ≤ x ∧ x ≤ 5) : ∀ (d i : Nat), i + d = p.length → Ev (fun k => slices_IndexFunc_int_int__at_impl_CountRooks_1.l0 k p (p.length : Int) i) (-1)
  | 0, i, hi => Ev.step (f := fun _ => some (-1)) (fun k => by rw [slices_IndexFunc_int_int__at_impl_CountRooks_1.l0, if_neg (by omega)]) (Ev.now _)
  | d + 1, i, hi => by
    have h1 : wrap64 ((i : Int) + 1) = ((i + 1 : Nat) : Int) := by rw [w64 (by omega) (by omega)]; rfl
    have hi2 : i < p.length := by omega
    have hx := hp _ (List.getElem_mem hi2)
    refine Ev.step (fun k => ?_) (noIdx hl hp d (i + 1) (by omega))
    rw [slices_IndexFunc_int_int__at_impl_CountRooks_1.l0, if_pos (by omega), if_pos (by omega), if_pos (by omega), rd_lt _ _ hi2, impl_CountRooks_1.f, PlaceK.withinR, show inR (-1) 5 p[i] = true from decide_eq_true hx, Option.bind_some, Option.bind_some, if_neg (by simp), h1]
theorem countRooks {p : List Int} (hl : p.length ≤ 6) (hp : ∀ x ∈ p, -1 ≤ x ∧ x ≤ 5) : Ev (fun k => impl_CountRooks.f k p) ((rk p : Int), true) := by
  unfold impl_CountRooks.f slices_ContainsFunc_int_int__at_impl_CountRooks_1.f slices_IndexFunc_int_int__at_impl_CountRooks_1.f
  refine Ev.congr (fun k => by rw [if_neg (by omega)]) ?_
  refine Ev.bind (Ev.bind (noIdx hl hp p.length 0 (by omega)) (Ev.now _)) ?_
  refine Ev.congr (fun k => by rw [if_neg (by decide)]) ?_
  exact Ev.bind (PlaceK.rooks (by omega)) (Ev.now _)
theorem noHas {p : List Int} (hl : p.length ≤ 1000) {x : Int} (hx : ¬ x ∈ p) : ∀ (d i : Nat), i + d = p.length → Ev (fun k => laws_kHas.l0 k x p (p.length : Int) i) false
  | 0, i, hi => Ev.step (f := fun _ => some false) (fun k => by rw [laws_kHas.l0, if_neg (by omega)]) (Ev.now _)
  | d + 1, i, hi => by
    have h1 : wrap64 ((i : Int) + 1) = ((i + 1 : Nat) : Int) := by rw [w64 (by omega) (by omega)]; rfl
    have hi2 : i < p.length := by omega
    refine Ev.step (fun k => ?_) (noHas hl hx d (i + 1) (by omega))
    rw [laws_kHas.l0, if_pos (by omega), if_pos (by omega), if_pos (by omega), rd_lt _ _ hi2, if_neg (fun e => hx (by rw [← e]; exact List.getElem_mem hi2)), h1]
theorem folL_flat (R : Nat) (F : List Int → List Int × Bool) : ∀ (qs : List (Nat × Nat)) (out : List Int), (∀ x ∈ qs, x.1 < R) → FollowK.folL R F (flat qs) out = F (apw out qs)
  | [], out, _ => rfl
  | x :: t, out, h => by
    have hx := h x (by simp)
    have e : flat (x :: t) = (x.1 : Int) :: (x.2 : Int) :: flat t := rfl
    rw [e, FollowK.folL, if_pos (show inR 0 ((R : Int) - 1) (x.1 : Int) = true from decide_eq_true ⟨by omega, by omega⟩), Int.toNat_natCast, folL_flat R F t _ (fun y hy => h y (by simp [hy]))]
    rfl
theorem followed {l p : List Int} {R C : Nat} {ps : List (Nat × Nat)} {r c : Nat} (hlR : l.length = R) (hb : isBoardB R C l = true) (hp : placeB l C p = true) (hd : Done l p C ps r c) (hl : (flat (ps ++ [(r, c)])).length ≤ 12) : FollowK.ans R C l p (flat (ps ++ [(r, c)])) = (apw p (ps ++ [(r, c)]), true) := by
  have hpl := (placeB_ge hp).1
  have hlen := flat_len (ps ++ [(r, c)])
  rw [List.length_append, List.length_singleton] at hlen
  unfold FollowK.ans
  rw [Int.toNat_natCast, Int.toNat_natCast, hb, hp, decide_eq_true ⟨by omega, by omega, hl⟩, if_pos (by rfl), folL_flat R _ _ _ (fun x hx => by have := hd.rows x hx; omega)]
  unfold FollowK.fin
  have hs := hd.size
  rw [place_of hd.val, decide_eq_true (by omega), if_pos (by rfl)]
theorem last {more : List Int} (hc : Bytes more) : Ev (fun k => laws_FnLongerWays.j5 k more) true := by
  obtain ⟨⟨r, c, l, p, w⟩, hd, hl, hp, hw⟩ := draw_follow hc
  simp only [] at hl hp hw
  refine Ev.step (fun k => by rw [laws_FnLongerWays.j5]) ?_
  refine Ev.bind hd ?_
  refine Ev.bind (FollowK.impl_answer (r := r) (c := c) (l := l) (p := p) (way := w) (by omega)) (Ev.bind (FollowK.spec_answer (r := r) (c := c) (l := l) (p := p) (way := w) (by omega) (by omega)) ?_)
  refine Ev.congr (fun k => by rw [if_pos (by simp)]) ?_
  have hn := FollowK.ans_len r c l p w
  exact Ev.bind (kSame_self (a := (FollowK.ans r c l p w).1) (by omega)) (Ev.now _)
theorem keeps {p out more : List Int} (hc : Bytes more) (hpl : p.length ≤ 6) (hol : out.length = p.length) (hge : ∀ q, q < out.length → -1 ≤ out.getD q (-1)) (hk : ∀ q, p.getD q (-1) ≠ -1 → out.getD q (-1) ≠ -1) : ∀ (d i : Nat), i + d = p.length → Ev (fun k => laws_FnLongerWays.l0 k more out p (p.length : Int) i) true
  | 0, i, hi => Ev.step (fun k => by rw [laws_FnLongerWays.l0, if_neg (by omega)]) (last hc)
  | d + 1, i, hi => by
    have h1 : wrap64 ((i : Int) + 1) = ((i + 1 : Nat) : Int) := by rw [w64 (by omega) (by omega)]; rfl
    have hi2 : i < p.length := by omega
    have hi3 : i < out.length := by omega
    refine Ev.step (fun k => ?_) (keeps hc hpl hol hge hk d (i + 1) (by omega))
    rw [laws_FnLongerWays.l0, if_pos (by omega), if_pos (by omega), if_pos (by omega), rd_lt _ _ hi2, rd_lt _ _ hi3, h1]
    by_cases hx : p[i] ≥ 0
    · have h2 := hk i (by rw [gD_lt _ _ hi2]; omega)
      have h3 := hge i hi3
      rw [gD_lt _ _ hi3] at h2 h3
      rw [if_pos hx, if_pos (by omega), if_neg (by omega)]
    · rw [if_neg hx]
theorem flat_first (qs : List (Nat × Nat)) (h : qs ≠ []) : (flat qs).getD 0 0 = (((qs.map (fun x => x.1)).headD 0 : Nat) : Int) := by
  cases qs with
  | nil => exact absurd rfl h
  | cons x t => rfl
theorem noWay {r c : Int} {l p : List Int} (h : isBoardB r c l = true → placeB l c.toNat p = false) : Ev (fun k => impl_LongerWay.f k r c l p) ([], false) := by
  have nope : Ev (fun k => impl_LongerWay.j0 k p true r c l) ([], false) := Ev.step (f := fun _ => some ([], false)) (fun k => by rw [impl_LongerWay.j0, if_pos rfl]) (Ev.now _)
  unfold impl_LongerWay.f
  by_cases hb : isBoardB r c l = true
  · have hp := h hb
    obtain ⟨R, C, rfl, rfl, hlR, h1R, hR, h1C, hC, hbits⟩ := board_of hb
    rw [Int.toNat_natCast] at hp
    refine Ev.congr (fun k => by rw [impl_IsBoard.f, Option.bind_some, if_pos hb]) ?_
    refine Ev.bind (PlaceK.isPlacement hlR hR hC (fun i hi => ⟨(hbits i hi).1, by have := (hbits i hi).2; have h3 := two_pow_six hC; omega⟩) p) ?_
    exact Ev.congr (fun k => by rw [hp, if_neg (by simp)]) nope
  · exact Ev.congr (fun k => by rw [impl_IsBoard.f, Option.bind_some, if_neg hb]) nope
end LongerK
open LongerK
theorem FnLongerWays : laws_FnLongerWays.Pure := by
  intro code more hcl _ hcw hml hm8 hmw
  unfold laws_FnLongerWays.f
  refine ends ?_
  rcases big_f code more (by omega) with hbig | ⟨hbig, h1, h2⟩
  · exact Ev.congr (fun k => by rw [hbig, Option.bind_some, if_pos rfl]) (Ev.now _)
  have hc : Bytes code := ⟨h1, fun x hx => byte_of (hcw x hx)⟩
  have hm : Bytes more := ⟨h2, fun x hx => byte_of (hmw x hx)⟩
  refine Ev.congr (fun k => by rw [hbig, Option.bind_some, if_neg (by simp)]) ?_
  obtain ⟨⟨r, c, l, p⟩, hd, hl, hp⟩ := draw_longer hc
  simp only [] at hl hp
  refine Ev.bind hd ?_
  obtain ⟨a, ha, hI, hS⟩ := both (r := r) (c := c) (l := l) (p := p) (by omega) (by omega)
  refine Ev.bind hI (Ev.bind hS ?_)
  refine Ev.congr (fun k => by rw [if_neg (by simp)]) ?_
  refine Ev.bind (kSame_self (a := a.1) (by omega)) ?_
  refine Ev.step (fun k => by rw [laws_FnLongerWays.j0, if_neg (by simp)]) ?_
  have no : isBoardB r c l = true ∧ placeB l c.toNat p = true ∨ a = ([], false) := by
    by_cases hb : isBoardB r c l = true
    · by_cases hpl : placeB l c.toNat p = true
      · exact .inl ⟨hb, hpl⟩
      · exact .inr (ev_unique hI (noWay (fun _ => by simpa using hpl)))
    · exact .inr (ev_unique hI (noWay (fun h => absurd h hb)))
  have noj : a = ([], false) → Ev (fun k => laws_FnLongerWays.j1 k more p a.1 a.2 false r c l) true := by
    intro e
    rw [e]
    exact Ev.step (fun k => by rw [laws_FnLongerWays.j1, if_neg (by simp), if_neg (by simp)]) (last hm)
  by_cases hb : isBoardB r c l = true
  rotate_left
  · have hbf : isBoardB r c l = false := by simpa using hb
    refine Ev.bind (noPlace hbf) ?_
    refine Ev.congr (fun k => by rw [if_neg (by simp)]) ?_
    rcases no with h | h
    · exact absurd h.1 hb
    · exact noj h
  refine Ev.bind (isPlace hb) ?_
  refine Ev.congr (fun k => by rw [if_pos rfl]) ?_
  by_cases hpl : placeB l c.toNat p = true
  rotate_left
  · rcases no with h | h
    · exact absurd h.2 hpl
    · have hpf : placeB l c.toNat p = false := by simpa using hpl
      rw [hpf]
      exact noj h
  rw [hpl]
  obtain ⟨R, C, rfl, rfl, hlR, h1R, hR, h1C, hC, hbits⟩ := board_of hb
  rw [Int.toNat_natCast] at hpl
  have hge := placeB_ge hpl
  obtain ⟨a', hI', hcase⟩ := longer hb hpl
  have ea := ev_unique hI hI'
  subst ea
  refine Ev.step (fun k => by rw [laws_FnLongerWays.j1, if_pos rfl]) ?_
  refine Ev.bind (countRooks (p := p) (by omega) (fun x hx => by have := hge.2 x hx; omega)) (Ev.bind (mostRooks hb) ?_)
  refine Ev.congr (fun k => by rw [if_pos rfl, if_pos rfl]) ?_
  rcases hcase with ⟨e, hmx⟩ | ⟨hmx, ps, r0, c0, e, hdn, hwl⟩
  · rw [e]
    refine Ev.step (fun k => by rw [laws_FnLongerWays.j2, if_neg (by simp; omega), if_neg (by simp)]) ?_
    exact last hm
  · rw [e]
    have hval := hdn.val
    have hol : (apw p (ps ++ [(r0, c0)])).length = p.length := by rw [hval.len, hge.1]
    have hog := placeB_ge (place_of hval)
    have hlen := flat_len (ps ++ [(r0, c0)])
    rw [List.length_append, List.length_singleton] at hlen
    have hfo := FollowK.impl_answer (r := (R : Int)) (c := (C : Int)) (l := l) (p := p) (way := flat (ps ++ [(r0, c0)])) (by omega)
    rw [followed hlR hb hpl hdn hwl] at hfo
    have hrk := hdn.size
    have hrl : rk p ≤ 6 := Nat.le_trans (List.countP_le_length) (by omega)
    show Ev (fun k => laws_FnLongerWays.j2 k more p (flat (ps ++ [(r0, c0)])) true ((rk p : Nat) : Int) (true != decide (((rk p : Nat) : Int) < ((mostN l C R 0 0 : Nat) : Int))) R C l) true
    refine Ev.step (fun k => by rw [laws_FnLongerWays.j2, if_neg (by simp; omega), if_pos rfl]) ?_
    refine Ev.bind hfo ?_
    refine Ev.bind (countRooks (p := apw p (ps ++ [(r0, c0)])) (by omega) (fun x hx => by have := hog.2 x hx; omega)) ?_
    have hfst := hdn.first
    have hne : ps ++ [(r0, c0)] ≠ [] := by simp
    obtain ⟨h0, hh0⟩ : ∃ h0 : Nat, h0 = ((ps ++ [(r0, c0)]).map (fun x => x.1)).headD 0 := ⟨_, rfl⟩
    rw [← hh0] at hfst
    have hrd0 : rd (flat (ps ++ [(r0, c0)])) 0 = (h0 : Int) := by rw [hh0]; exact flat_first _ hne
    have hh0l : h0 < p.length := by
      cases hps : ps ++ [(r0, c0)] with
      | nil => exact absurd hps hne
      | cons x t => rw [hps] at hh0; rw [hh0]; exact hdn.rows x (by rw [hps]; simp)
    have hrdp : rd p (h0 : Int) = -1 := by
      rw [rd_lt _ _ hh0l]
      rw [gD_lt _ _ hh0l] at hfst
      exact hfst
    have hw1 : wrap64 (((flat (ps ++ [(r0, c0)])).length : Int) - 1) = (((flat ps).length + 1 : Nat) : Int) := by
      rw [w64 (by omega) (by omega), flat_snoc, List.length_append]
      simp only [List.length_cons, List.length_nil]
      omega
    have hrdl : rd (flat (ps ++ [(r0, c0)])) (((flat ps).length + 1 : Nat) : Int) = (c0 : Int) := by
      rw [flat_snoc]
      unfold rd
      rw [Int.toNat_natCast, List.getD_eq_getElem?_getD, List.getElem?_append_right (by omega)]
      simp
    have hlp := flat_len ps
    have hz0 : 0 ≤ rd (flat (ps ++ [(r0, c0)])) 0 := by rw [hrd0]; omega
    have hz1 : rd (flat (ps ++ [(r0, c0)])) 0 < (p.length : Int) := by rw [hrd0]; omega
    have hz2 : rd p (rd (flat (ps ++ [(r0, c0)])) 0) = -1 := by rw [hrd0]; exact hrdp
    refine Ev.congr (fun k => by rw [if_pos rfl, if_pos rfl, if_pos (by rw [w64 (by omega) (by omega)]; omega), if_pos (by omega), if_pos hz0, if_pos hz1, if_pos hz2, hw1, if_pos (by omega), if_pos (by omega), hrdl]) ?_
    refine Ev.bind (show Ev (fun k => laws_kHas.f k p (c0 : Int)) false from noHas (by omega) hdn.last p.length 0 (by omega)) ?_
    refine Ev.step (fun k => by rw [laws_FnLongerWays.j3, if_neg (by simp)]) ?_
    exact keeps hm (by omega) hol (fun q hq => by rw [gD_lt _ _ hq]; exact (hog.2 _ (List.getElem_mem hq)).1) hdn.keep p.length 0 (by omega)
end Go.Proofs.Ytgnmcfoenmfhcaa.Pure
end
