/- Texts of this claim put together (8): words, what the functions compute, and plain facts. No conditions. -/
import Derived.Test.YtgnmcfoenmfhcaaSFnExactLargestPlacement7
import Derived.Outline
import Derived.Lib.Hide
import Derived.Test.YtgnmcfoenmfhcaaSFnExactLargestPlacement4
import Derived.Deep.RegionWith
import Derived.Deep.RegionLaw
section
namespace Go.Proofs.Ytgnmcfoenmfhcaa.MostK
set_option linter.unusedVariables false
open Go.RowKit Go.Proofs.Ytgnmcfoenmfhcaa.Q Go.Proofs.YtgnmcfoenmfhcaaW.PrintWords Go.Proofs.YtgnmcfoenmfhcaaW.PrintLast Go.Proofs.YtgnmcfoenmfhcaaW.PrintMore
open Go.Proofs.YtgnmcfoenmfhcaaL Go.Proofs.Ytgnmcfoenmfhcaa.LawK Go.Proofs.Ytgnmcfoenmfhcaa.BoardK Go.Proofs.Ytgnmcfoenmfhcaa.LinesK Go.Proofs.Ytgnmcfoenmfhcaa.Koenig
def mostN (l : List Int) (C : Nat) : Nat → Nat → Nat → Nat
  | 0, _, _ => 0
  | d + 1, r, used => (List.range' 0 C).foldl (fun a c => if (cell l r c && !used.testBit c) = true then (if a > 1 + mostN l C d (r + 1) (used ||| 2 ^ c) then a else 1 + mostN l C d (r + 1) (used ||| 2 ^ c)) else a) (mostN l C d (r + 1) used)
theorem foldl_inv {α β : Type} (P : β → Prop) (s : β → α → β) : ∀ (l : List α) (a : β), P a → (∀ a c, c ∈ l → P a → P (s a c)) → P (l.foldl s a)
  | [], a, h, _ => h
  | c :: t, a, h, hs => foldl_inv P s t (s a c) (hs a c (by simp) h) (fun a c hc => hs a c (by simp [hc]))
theorem mostN_le (l : List Int) (C : Nat) : ∀ d r used, mostN l C d r used ≤ d
  | 0, r, used => Nat.le_refl _
  | d + 1, r, used => by
    rw [mostN]
    refine foldl_inv (fun a => a ≤ d + 1) _ _ _ (Nat.le_succ_of_le (mostN_le l C d (r + 1) used)) ?_
    intro a c _ h
    have := mostN_le l C d (r + 1) (used ||| 2 ^ c)
    try simp only []
    split
    · split <;> omega
    · exact h
theorem foldl_base (p : Nat → Bool) (g : Nat → Nat) : ∀ (l : List Nat) (a : Nat), a ≤ l.foldl (fun a c => if p c = true then (if a > g c then a else g c) else a) a
  | [], a => Nat.le_refl _
  | c :: t, a => by
    rw [List.foldl_cons]
    refine Nat.le_trans ?_ (foldl_base p g t _)
    split
    · split <;> omega
    · exact Nat.le_refl _
theorem foldl_elem (p : Nat → Bool) (g : Nat → Nat) : ∀ (l : List Nat) (a : Nat) (c : Nat), c ∈ l → p c = true → g c ≤ l.foldl (fun a c => if p c = true then (if a > g c then a else g c) else a) a
  | [], a, c, h, _ => by cases h
  | x :: t, a, c, h, hp => by
    rw [List.foldl_cons]
    rcases List.mem_cons.1 h with rfl | h
    · refine Nat.le_trans ?_ (foldl_base p g t _)
      rw [if_pos hp]
      split <;> omega
    · exact foldl_elem p g t _ c h hp
structure From (G : Nat → Nat → Bool) (r used : Nat) (f : Nat → Option Nat) : Prop where
  m : Match G f
  far : ∀ q c, f q = some c → r ≤ q ∧ used.testBit c = false
theorem size_put {f : Nat → Option Nat} {r c : Nat} (hr : r < 6) (h : f r = none) : size (fun q => if q = r then some c else f q) = size f + 1 := by
  unfold size
  rw [← cnt_add (p := fun q => (f q).isSome) hr (by rw [h]; rfl)]
  refine cnt_congr fun x _ => ?_
  by_cases e : x = r
  · subst e; simp
  · simp [e]
theorem size_none : size (fun _ => none) = 0 := cnt_false
theorem size_congr {f g : Nat → Option Nat} (h : ∀ x, x < 6 → f x = g x) : size f = size g := cnt_congr fun x hx => by rw [h x hx]
theorem reach {l : List Int} {R C : Nat} (hR : R ≤ 6) (hC : C ≤ 6) : ∀ d r used, r + d = R → ∃ f, From (cell l) r used f ∧ size f = mostN l C d r used
  | 0, r, used, _ => ⟨fun _ => none, ⟨⟨fun r c h => (by cases h), fun r r' c h => (by cases h)⟩, fun q c h => (by cases h)⟩, size_none⟩
  | d + 1, r, used, hd => by
    rw [mostN]
    refine foldl_inv (fun a => ∃ f, From (cell l) r used f ∧ size f = a) _ _ _ ?_ ?_
    · obtain ⟨f, hf, hs⟩ := reach (l := l) hR hC d (r + 1) used (by omega)
      exact ⟨f, ⟨hf.m, fun q c h => by have := hf.far q c h; exact ⟨by omega, this.2⟩⟩, hs⟩
    · intro a c hc h
      try simp only []
      split
      · rename_i hg
        rw [Bool.and_eq_true] at hg
        split
        · exact h
        · obtain ⟨f, hf, hs⟩ := reach (l := l) hR hC d (r + 1) (used ||| 2 ^ c) (by omega)
          have hfr : f r = none := by
            cases e : f r with
            | none => rfl
            | some x => have := hf.far r x e; omega
          have hcC : c < C := by have := (List.mem_range'_1.1 hc).2; omega
          have hne : ∀ q x, f q = some x → x ≠ c := fun q x e h2 => by
            have := (hf.far q x e).2
            rw [h2, Nat.testBit_or, Nat.testBit_two_pow] at this
            simp at this
          refine ⟨fun q => if q = r then some c else f q, ⟨⟨fun q x e => ?_, fun q q' x e e' => ?_⟩, fun q x e => ?_⟩, by rw [size_put (by omega) hfr, hs]; omega⟩
          · try simp only [] at e
            split at e
            · rename_i hq; injection e with e; subst hq e; exact ⟨by omega, by omega, hg.1⟩
            · exact hf.m.edge q x e
          · try simp only [] at e e'
            split at e
            · rename_i hq
              injection e with e
              split at e'
              · rename_i hq'; omega
              · exact absurd e.symm (hne q' x e')
            · split at e'
              · injection e' with e'; exact absurd e'.symm (hne q x e)
              · exact hf.m.inj q q' x e e'
          · try simp only [] at e
            split at e
            · rename_i hq
              injection e with e
              subst hq e
              exact ⟨Nat.le_refl _, by simpa using hg.2⟩
            · have := hf.far q x e
              refine ⟨by omega, ?_⟩
              have h2 := this.2
              rw [Nat.testBit_or] at h2
              simp at h2
              exact h2.1
      · exact h
theorem bound {l : List Int} {R C : Nat} (hlR : l.length = R) (hR : R ≤ 6) (hC : C ≤ 6) (hb : ∀ i (hi : i < l.length), 0 ≤ l[i] ∧ l[i] < 2 ^ C) : ∀ d r used f, r + d = R → From (cell l) r used f → size f ≤ mostN l C d r used
  | 0, r, used, f, hd, hf => by
    have : size f = 0 := by
      rw [← size_none]
      refine size_congr fun x hx => ?_
      cases e : f x with
      | none => rfl
      | some c =>
        have h1 := (hf.far x c e).1
        have h2 := (hf.m.edge x c e).2.2
        unfold cell at h2
        rw [gD_ge _ _ (by omega)] at h2
        simp at h2
    omega
  | d + 1, r, used, f, hd, hf => by
    rw [mostN]
    cases e : f r with
    | none =>
      refine Nat.le_trans (bound hlR hR hC hb d (r + 1) used f (by omega) ⟨hf.m, fun q c h => ?_⟩) (foldl_base _ (fun c => 1 + mostN l C d (r + 1) (used ||| 2 ^ c)) _ _)
      have := hf.far q c h
      refine ⟨?_, this.2⟩
      by_cases hq : q = r
      · subst hq; rw [e] at h; cases h
      · omega
    | some c =>
      have he := hf.m.edge r c e
      have hu := (hf.far r c e).2
      have hcC : c < C := by
        by_cases h : c < C
        · exact h
        · have h2 := he.2.2
          unfold cell at h2
          by_cases hr : r < l.length
          · rw [gD_lt _ _ hr] at h2
            have := hb r hr
            have h3 : l[r].toNat < 2 ^ C := by
              have h4 : ((l[r].toNat : Nat) : Int) < ((2 ^ C : Nat) : Int) := by rw [Int.toNat_of_nonneg this.1]; exact_mod_cast this.2
              exact_mod_cast h4
            rw [Nat.testBit_lt_two_pow (Nat.lt_of_lt_of_le h3 (Nat.pow_le_pow_right (by decide) (by omega)))] at h2
            cases h2
          · rw [gD_ge _ _ (by omega)] at h2; simp at h2
      have hs : size f = size (fun q => if q = r then none else f q) + 1 := by
        rw [← size_put (f := fun q => if q = r then none else f q) (r := r) (c := c) he.1 (by simp)]
        refine size_congr fun x _ => ?_
        by_cases hx : x = r
        · subst hx; simp [e]
        · simp [hx]
      have ih := bound hlR hR hC hb d (r + 1) (used ||| 2 ^ c) (fun q => if q = r then none else f q) (by omega) ⟨⟨fun q x h => ?_, fun q q' x h h' => ?_⟩, fun q x h => ?_⟩
      · have h2 := foldl_elem (fun c => cell l r c && !used.testBit c) (fun c => 1 + mostN l C d (r + 1) (used ||| 2 ^ c)) (List.range' 0 C) (mostN l C d (r + 1) used) c (List.mem_range'_1.2 ⟨by omega, by omega⟩) (by rw [he.2.2, hu]; rfl)
        try simp only [] at h2
        omega
      · try simp only [] at h
        split at h
        · cases h
        · exact hf.m.edge q x h
      · try simp only [] at h h'
        split at h
        · cases h
        · split at h'
          · cases h'
          · exact hf.m.inj q q' x h h'
      · try simp only [] at h
        split at h
        · cases h
        · rename_i hq
          have := hf.far q x h
          refine ⟨by omega, ?_⟩
          rw [Nat.testBit_or, this.2, Nat.testBit_two_pow, Bool.false_or, decide_eq_false_iff_not]
          intro e2
          subst e2
          exact hq (hf.m.inj q r c h e)
theorem most_min {l : List Int} {R C : Nat} (hlR : l.length = R) (hR : R ≤ 6) (hC : C ≤ 6) (hb : ∀ i (hi : i < l.length), 0 ≤ l[i] ∧ l[i] < 2 ^ C) : (∃ S, kap (cell l) S = mostN l C R 0 0) ∧ ∀ S, mostN l C R 0 0 ≤ kap (cell l) S := by
  obtain ⟨f0, S0, hM, hs⟩ := koenig _ (cell l) rfl
  obtain ⟨f, hf, hfs⟩ := reach (l := l) (C := C) hR hC R 0 0 (by omega)
  have h1 := weak hf.m S0
  have h2 := bound hlR hR hC hb R 0 0 f0 (by omega) ⟨hM, fun q c _ => ⟨by omega, Nat.zero_testBit c⟩⟩
  refine ⟨⟨S0, by omega⟩, fun S => ?_⟩
  have h3 := weak hM S
  omega
theorem lcMost_l0 {l : List Int} {R C : Nat} (hlR : l.length = R) (hR : R ≤ 6) (hC : C ≤ 6) (hb : ∀ i (hi : i < l.length), 0 ≤ l[i] ∧ l[i] < 64) (r used d : Nat) (hr : r + (d + 1) = R) (hu : used < 64) (ih : ∀ used : Nat, used < 64 → Ev (fun k => spec_lcMost.f k R C l ((r + 1 : Nat) : Int) used) ((mostN l C d (r + 1) used : Nat) : Int)) :
    ∀ (e c a : Nat), c + e = C → a ≤ 7 → Ev (fun k => spec_lcMost.l0 k r used a c R C l) (((List.range' c e).foldl (fun a c => if (cell l r c && !used.testBit c) = true then (if a > 1 + mostN l C d (r + 1) (used ||| 2 ^ c) then a else 1 + mostN l C d (r + 1) (used ||| 2 ^ c)) else a) a : Nat) : Int)
  | 0, c, a, hc, ha => by
    refine Ev.step (f := fun _ => some (a : Int)) (fun k => ?_) (Ev.now _)
    rw [spec_lcMost.l0, if_neg (by omega)]
  | e + 1, c, a, hc, ha => by
    have w1 := Aside0.mk (show wrap64 ((c : Int) + 1) = ((c + 1 : Nat) : Int) from by rw [w64 (by omega) (by omega)]; rfl)
    have w2 := Aside0.mk (show wrap64 ((r : Int) + 1) = ((r + 1 : Nat) : Int) from by rw [w64 (by omega) (by omega)]; rfl)
    have hrl : r < l.length := by omega
    rw [List.range'_succ, List.foldl_cons]
    have hu2 : used ||| 2 ^ c < 64 := Nat.or_lt_two_pow (n := 6) hu (Nat.pow_lt_pow_right (by decide) (by omega))
    have hm := mostN_le l C d (r + 1) (used ||| 2 ^ c)
    have ihe := lcMost_l0 hlR hR hC hb r used d hr hu ih e (c + 1) (if (cell l r c && !used.testBit c) = true then (if a > 1 + mostN l C d (r + 1) (used ||| 2 ^ c) then a else 1 + mostN l C d (r + 1) (used ||| 2 ^ c)) else a) (by omega) (by split; split <;> omega; exact ha)
    by_cases hcell : cell l r c = true
    · by_cases hbit : used.testBit c = true
      · rw [hcell, hbit] at ihe ⊢
        refine Ev.step (f := fun k => spec_lcMost.j1 k r used a c false R C l) (fun k => ?_) ?_
        · rw [spec_lcMost.l0, if_pos (by omega), boHas_f (R : Int) (C : Int) hrl (hb r hrl).1 (hb r hrl).2 (by omega), Option.bind_some, if_pos hcell, if_pos (by omega), bit_mod _ _ (by omega), if_pos hbit]
          rfl
        · refine Ev.step (fun k => ?_) ihe
          rw [spec_lcMost.j1, if_neg (by simp), w1.out]
          rfl
      · have hbit2 : used.testBit c = false := by simpa using hbit
        rw [hcell, hbit2] at ihe ⊢
        refine Ev.step (f := fun k => spec_lcMost.j1 k r used a c true R C l) (fun k => ?_) ?_
        · rw [spec_lcMost.l0, if_pos (by omega), boHas_f (R : Int) (C : Int) hrl (hb r hrl).1 (hb r hrl).2 (by omega), Option.bind_some, if_pos hcell, if_pos (by omega), bit_mod _ _ (by omega), if_neg hbit]
          rfl
        · refine Ev.step (f := fun k => (spec_lcMost.f k R C l ((r + 1 : Nat) : Int) ((used ||| 2 ^ c : Nat) : Int)).bind fun t104 => (spec_l1Most.f a (wrap64 (1 + t104))).bind fun t105 => spec_lcMost.l0 k r used t105 ((c + 1 : Nat) : Int) R C l) (fun k => ?_) ?_
          · rw [spec_lcMost.j1, if_pos rfl, if_pos (by omega), w1.out, w2.out, shl_one c (by omega), or_nat _ _ (by omega) (by have : 2 ^ c < 2 ^ 6 := Nat.pow_lt_pow_right (by decide) (by omega); omega)]
          · refine Ev.bind (ih _ hu2) ?_
            refine Ev.congr (fun k => ?_) ihe
            rw [w64 (by omega) (by omega), spec_l1Most.f]
            by_cases h : a > 1 + mostN l C d (r + 1) (used ||| 2 ^ c)
            · rw [if_pos (by omega), Option.bind_some]
              simp [h]
            · rw [if_neg (by omega), Option.bind_some]
              simp [h]
    · have hcell2 : cell l r c = false := by simpa using hcell
      rw [hcell2] at ihe ⊢
      refine Ev.step (f := fun k => spec_lcMost.j1 k r used a c false R C l) (fun k => ?_) ?_
      · rw [spec_lcMost.l0, if_pos (by omega), boHas_f (R : Int) (C : Int) hrl (hb r hrl).1 (hb r hrl).2 (by omega), Option.bind_some, if_neg hcell]
      · refine Ev.step (fun k => ?_) ihe
        rw [spec_lcMost.j1, if_neg (by simp), w1.out]
        rfl
theorem lcMost_f {l : List Int} {R C : Nat} (hlR : l.length = R) (hR : R ≤ 6) (hC : C ≤ 6) (hb : ∀ i (hi : i < l.length), 0 ≤ l[i] ∧ l[i] < 64) : ∀ (d r used : Nat), r + d = R → used < 64 → Ev (fun k => spec_lcMost.f k R C l r used) ((mostN l C d r used : Nat) : Int)
  | 0, r, used, hr, hu => by
    refine Ev.step (f := fun _ => some 0) (fun k => ?_) (Ev.now _)
    rw [spec_lcMost.f, if_pos (by omega)]
  | d + 1, r, used, hr, hu => by
    have w2 := Aside0.mk (show wrap64 ((r : Int) + 1) = ((r + 1 : Nat) : Int) from by rw [w64 (by omega) (by omega)]; rfl)
    have ih := fun used hu => lcMost_f hlR hR hC hb d (r + 1) used (by omega) hu
    have hm := mostN_le l C d (r + 1) used
    refine Ev.step (f := fun k => (spec_lcMost.f k R C l ((r + 1 : Nat) : Int) used).bind fun t102 => spec_lcMost.l0 k r used t102 0 R C l) (fun k => ?_) ?_
    · rw [spec_lcMost.f, if_neg (by omega), w2.out]
    · refine Ev.bind (ih used hu) ?_
      exact lcMost_l0 hlR hR hC hb r used d hr hu ih C 0 _ (by omega) (by omega)
theorem lcMost {l : List Int} {R C : Nat} (hlR : l.length = R) (hR : R ≤ 6) (hC : C ≤ 6) (hb : ∀ i (hi : i < l.length), 0 ≤ l[i] ∧ l[i] < 64) : Ev (fun k => spec_lcMost.f k R C l 0 0) ((mostN l C R 0 0 : Nat) : Int) := lcMost_f hlR hR hC hb R 0 0 (by omega) (by decide)
end Go.Proofs.Ytgnmcfoenmfhcaa.MostK
end
section
namespace Go.Proofs.Ytgnmcfoenmfhcaa.Walk
set_option linter.unusedVariables false
open Go.RowKit Go.Proofs.YtgnmcfoenmfhcaaW.PrintWords Go.Proofs.YtgnmcfoenmfhcaaW.PrintLast Go.Proofs.YtgnmcfoenmfhcaaW.PrintMore
open Go.Proofs.YtgnmcfoenmfhcaaL Go.Proofs.Ytgnmcfoenmfhcaa.LawK Go.Proofs.Ytgnmcfoenmfhcaa.BoardK
theorem mem_iota {m : Int} {n : Nat} {x : Int} (h1 : m ≤ x) (h2 : x < m + n) : x ∈ iota m n := by
  have hi : (x - m).toNat < (iota m n).length := by rw [iota_length]; omega
  have := iota_get n m (x - m).toNat hi
  rw [show x = (iota m n)[(x - m).toNat] by rw [this]; omega]
  exact List.getElem_mem hi
def colWays (l : List Int) (r t : Nat) (pre : List Int) (next : Nat → List Int → List (List Int)) (c : Int) : List (List Int) :=
  if c < 0 then next t (pre ++ [c])
  else if cell l r c.toNat && !t.testBit c.toNat then next (t ||| 2 ^ c.toNat) (pre ++ [c]) else []
def waysFrom (l : List Int) (C : Nat) : Nat → Nat → Nat → List Int → List (List Int)
  | 0, _, _, pre => [pre]
  | d + 1, r, t, pre => (iota (-1) (C + 1)).flatMap (colWays l r t pre (waysFrom l C d (r + 1)))
theorem iota_cut : ∀ (j n : Nat) (m : Int), j < n → iota m n = iota m j ++ (m + j) :: iota (m + j + 1) (n - j - 1)
  | 0, n + 1, m, _ => by rw [iota, iota]; simp
  | j + 1, n + 1, m, h => by
    rw [iota, iota, iota_cut j n (m + 1) (by omega), List.cons_append]
    have e1 : m + 1 + (j : Int) = m + ((j + 1 : Nat) : Int) := by omega
    rw [e1, show n + 1 - (j + 1) - 1 = n - j - 1 by omega]
theorem ways_cut (l : List Int) (C d r t : Nat) (pre : List Int) (j : Nat) (hj : j < C + 1) {x : Int} (hx : x = -1 + j) :
    waysFrom l C (d + 1) r t pre = (iota (-1) j).flatMap (colWays l r t pre (waysFrom l C d (r + 1))) ++ (colWays l r t pre (waysFrom l C d (r + 1)) x ++ (iota (x + 1) (C + 1 - j - 1)).flatMap (colWays l r t pre (waysFrom l C d (r + 1)))) := by
  rw [waysFrom, iota_cut j (C + 1) (-1) hj, List.flatMap_append, List.flatMap_cons, hx]
theorem ways_len (l : List Int) (C : Nat) : ∀ (d r t : Nat) (pre : List Int), (waysFrom l C d r t pre).length ≤ (C + 1) ^ d
  | 0, r, t, pre => by simp [waysFrom]
  | d + 1, r, t, pre => by
    have hc : ∀ c, (colWays l r t pre (waysFrom l C d (r + 1)) c).length ≤ (C + 1) ^ d := by
      intro c
      unfold colWays
      split
      · exact ways_len l C d (r + 1) _ _
      · split
        · exact ways_len l C d (r + 1) _ _
        · exact Nat.zero_le _
    have hf : ∀ (n : Nat) (m : Int), ((iota m n).flatMap (colWays l r t pre (waysFrom l C d (r + 1)))).length ≤ n * (C + 1) ^ d := by
      intro n
      induction n with
      | zero => intro m; simp [iota]
      | succ n ih =>
        intro m
        rw [iota, List.flatMap_cons, List.length_append, Nat.succ_mul]
        have h1 := hc m
        have h2 := ih (m + 1)
        omega
    rw [waysFrom, Nat.pow_succ, Nat.mul_comm]
    exact hf (C + 1) (-1)
structure Blks where (b d a p g r : Nat)
structure Blks.Apart (k : Blks) : Prop where
  bd : k.b ≠ k.d
  ba : k.b ≠ k.a
  bp : k.b ≠ k.p
  bg : k.b ≠ k.g
  br : k.b ≠ k.r
  da : k.d ≠ k.a
  dp : k.d ≠ k.p
  dg : k.d ≠ k.g
  dr : k.d ≠ k.r
  ap : k.a ≠ k.p
  ag : k.a ≠ k.g
  ar : k.a ≠ k.r
  pg : k.p ≠ k.g
  pr : k.p ≠ k.r
  gr : k.g ≠ k.r
def Blks.has (k : Blks) (i : Nat) : Prop := i = k.b ∨ i = k.d ∨ i = k.a ∨ i = k.p ∨ i = k.g ∨ i = k.r
structure Still (S : Nat → Prop) (w w' : World) : Prop where
  kept : Kept w w' S
  os : w'.os = w.os
  tape : w'.tape = w.tape
  output : w'.output = w.output
theorem Still.refl (S : Nat → Prop) (w : World) : Still S w w := ⟨Kept.refl _ _, rfl, rfl, rfl⟩
theorem Still.of_below {S : Nat → Prop} {w w' : World} (h : Below w.heap.size w w') : Still S w w' := ⟨Kept.of_below h S, h.os, h.tape, h.output⟩
theorem Still.set {S : Nat → Prop} (w : World) {a : Addr} (h : S a.block) (v : Value) : Still S w (w.setCell a v) := ⟨Kept.setCell (Kept.refl _ _) (.inl h) v, rfl, rfl, rfl⟩
theorem Still.drewN {S : Nat → Prop} (w : World) (n : Nat) : Still S w (w.drewN n) := ⟨Kept.drewN (Kept.refl _ _) n, rfl, rfl, rfl⟩
theorem Still.trans {S : Nat → Prop} {a b c : World} (h : Still S a b) (k : Still S b c) : Still S a c := ⟨h.kept.then_ k.kept (fun _ hk => .inl hk), k.os.trans h.os, k.tape.trans h.tape, k.output.trans h.output⟩
theorem Still.below {S : Nat → Prop} {w0 w w' : World} (h : Below w0.heap.size w0 w) (k : Still S w w') (hS : ∀ i, S i → w0.heap.size ≤ i) : Below w0.heap.size w0 w' :=
  ⟨k.os.trans h.os, k.tape.trans h.tape, k.output.trans h.output, Nat.le_trans h.size k.kept.1, fun i hi => (k.kept.2 i (Nat.lt_of_lt_of_le hi h.size) (fun hs => by have := hS i hs; omega)).trans (h.block i hi)⟩
structure WSt (k : Blks) (Inv : List (List Int) → World → Prop) (RI CI : Int) (n cp : Nat) (l : List Int) (A0 : Option Addr) (c0 : Nat) (F : Value) (vis : List (List Int)) (ps : List Int) (w : World) : Prop where
  cB : w.heap[k.b]? = some (.cells #[.int .i64 RI, .int .i64 CI, .slice A0 l.length c0] 26 (0, 0))
  cD : w.heap[k.d]? = some (.cells #[F] 93 (0, 0))
  cA : Kd.R (Kd.int .i64) 3 w 0 (fun i => i = k.a) (.slice (some ⟨k.a, 0, none⟩) n cp) ps
  cP : w.heap[k.p]? = some (.cells #[.slice (some ⟨k.a, 0, none⟩) n cp] 24 (0, 0))
  cG : w.heap[k.g]? = some (.cells #[.bool true] 4 (0, 0))
  cR : w.heap[k.r]? = some (.cells #[.func (.func 160) #[] #[.pointer (some ⟨k.b, 0, none⟩), .pointer (some ⟨k.d, 0, none⟩), .pointer (some ⟨k.p, 0, none⟩), .pointer (some ⟨k.g, 0, none⟩), .pointer (some ⟨k.r, 0, none⟩)]] 129 (0, 0))
  inv : Inv vis w
section
variable {k : Blks} {Inv : List (List Int) → World → Prop} {RI CI : Int} {n cp : Nat} {l : List Int} {A0 : Option Addr} {c0 : Nat} {F : Value} {vis : List (List Int)} {ps : List Int} {w w' : World}
theorem WSt.below (hI : ∀ vis w w', Inv vis w → Still k.has w w' → Inv vis w') (h : WSt k Inv RI CI n cp l A0 c0 F vis ps w) (hb : Below w.heap.size w w') : WSt k Inv RI CI n cp l A0 c0 F vis ps w' :=
  ⟨blk_below h.cB hb, blk_below h.cD hb, Kd.R_below h.cA hb, blk_below h.cP hb, blk_below h.cG hb, blk_below h.cR hb, hI _ _ _ h.inv (Still.of_below hb)⟩
theorem WSt.drewN (hI : ∀ vis w w', Inv vis w → Still k.has w w' → Inv vis w') (h : WSt k Inv RI CI n cp l A0 c0 F vis ps w) (m : Nat) : WSt k Inv RI CI n cp l A0 c0 F vis ps (w.drewN m) :=
  h.below hI (pw_below_drewN (Below.refl _ _) m)
theorem WSt.setA (hI : ∀ vis w w', Inv vis w → Still k.has w w' → Inv vis w') (hk : k.Apart) (h : WSt k Inv RI CI n cp l A0 c0 F vis ps w) (i c : Int) : WSt k Inv RI CI n cp l A0 c0 F vis (ps.set i.toNat c) (w.setCell ⟨k.a, i.toNat, none⟩ (.int .i64 c)) :=
  ⟨blk_far h.cB hk.ba _, blk_far h.cD hk.da _, Kd.R_putn h.cA i c, blk_far h.cP hk.ap.symm _, blk_far h.cG hk.ag.symm _, blk_far h.cR hk.ar.symm _, hI _ _ _ h.inv (Still.set w (.inr (.inr (.inl rfl))) _)⟩
theorem WSt.setG (hI : ∀ vis w w', Inv vis w → Still k.has w w' → Inv vis w') (hk : k.Apart) (h : WSt k Inv RI CI n cp l A0 c0 F vis ps w) : WSt k Inv RI CI n cp l A0 c0 F vis ps (w.setCell ⟨k.g, 0, none⟩ (.bool true)) :=
  ⟨blk_far h.cB hk.bg _, blk_far h.cD hk.dg _, Kd.R_far h.cA (fun i hi => by rw [hi]; exact hk.ag) _, blk_far h.cP hk.pg _, blk_put h.cG 0 _ rfl, blk_far h.cR hk.gr.symm _, hI _ _ _ h.inv (Still.set w (.inr (.inr (.inr (.inr (.inl rfl))))) _)⟩
end
end Go.Proofs.Ytgnmcfoenmfhcaa.Walk
end
section
namespace Go.Proofs.Ytgnmcfoenmfhcaa.Q
open Go.RowKit Go.Proofs.YtgnmcfoenmfhcaaW.PrintWords Go.Proofs.YtgnmcfoenmfhcaaW.PrintLast Go.Proofs.YtgnmcfoenmfhcaaW.PrintMore
attribute [local go_sem] max2_int min2_int max_two min_two max_three min_three max_four min_four   -- for this text's walks alone
set_option linter.unusedVariables false
set_option linter.unusedSimpArgs false
def impl_rooks.l0 : Nat → Int → List Int → Int → Int → Option (Int)
  | 0, _, _, _, _ => none
  | k + 1, x3, x6, x7, x8 => if x8 < x7 then (if 0 ≤ x8 then (if x8 < (x6.length : Int) then (if (rd x6 x8) = (-1) then (impl_rooks.l0 k x3 x6 x7 (wrap64 (x8 + 1))) else (impl_rooks.l0 k (wrap64 (x3 + 1)) x6 x7 (wrap64 (x8 + 1)))) else (none)) else (none)) else (some x3)
def impl_rooks.f (k : Nat) (l0 : List Int) : Option (Int) := impl_rooks.l0 k 0 l0 (l0.length : Int) 0
set_option maxHeartbeats 8000000 in
set_option maxRecDepth 100000 in
theorem impl_rooks.calls (k : Nat) (A0 : Option Addr) (c0 : Nat) (l0 : List Int) (r : Int) (w : World) (hr0 : Kd.C (Kd.int .i64) w A0 l0.length l0) (hc0 : l0.length ≤ c0) (h : impl_rooks.f k l0 = some r) :
    Calls Try.prog 97 #[.slice A0 l0.length c0] w fun e w' => e = .returned (.int .i64 r) ∧ Drawn0 w w' := by
  have HR0 := Aside0.mk hr0
  have HC0 := Aside0.mk hc0
  clear hr0 hc0
  have H : (impl_rooks.l0 k 0 l0 (l0.length : Int) 0) = some r := h
  clear h
  have H' := Aside0.mk H
  clear H
  go_enter Try.func97, Try.ntmps97
  go_wp2
  go_loopg [3, 8] k (fun kq v3 v8 w' => ∃ (x3_1 : Int) (x8_1 : Int), v3 = .int .i64 x3_1 ∧ v8 = .int .i64 x8_1 ∧ Aside0 (impl_rooks.l0 kq x3_1 l0 (l0.length : Int) x8_1 = some r) ∧ Aside0 (kq ≤ k) ∧ Drawn0 w w')
  case atStart => exact ⟨(0), (0), (by first | rfl | (simp; done) | (simp [*]; done)), (by first | rfl | (simp; done) | (simp [*]; done)), H', ⟨Nat.le_refl _⟩, by repeat (first | exact Drawn0.refl _ | apply Drawn0.step)⟩
  case round =>
    clear H'
    obtain ⟨x3_1, x8_1, rfl, rfl, HA, HK1, ⟨m1, rfl⟩⟩ := hrel
    cases gk with
    | zero => exact absurd HA.out (by simp [impl_rooks.l0])
    | succ k1 =>
      have H := HA.out
      clear HA
      simp only [impl_rooks.l0] at H
      by_cases c2 : x8_1 < (l0.length : Int)
      · rw [if_pos c2] at H
        have c2b0 : decide (x8_1 < (l0.length : Int)) = true := decide_eq_true c2
        clear c2
        by_cases c3 : 0 ≤ x8_1
        · rw [if_pos c3] at H
          have c3b0 : decide (0 ≤ x8_1) = true := decide_eq_true c3
          clear c3
          by_cases c4 : x8_1 < (l0.length : Int)
          · rw [if_pos c4] at H
            have c4b0 : decide (x8_1 < (l0.length : Int)) = true := decide_eq_true c4
            clear c4
            by_cases c5 : (rd l0 x8_1) = (-1)
            · rw [if_pos c5] at H
              have c5b0 : ((rd l0 x8_1) == (-1)) = true := beq_iff_eq.mpr c5
              have c5b1 : ((rd l0 x8_1) != (-1)) = false := bne_eq_false_iff_eq.mpr c5
              clear c5
              have H' := Aside0.mk H
              clear H
              have p101 : 0 ≤ (x8_1 : Int) := of_decide_eq_true (by first | (with_reducible assumption) | assumption)
              have q101 : x8_1 < (l0.length : Int) := of_decide_eq_true (by first | (with_reducible assumption) | assumption)
              obtain ⟨ad101, e101, hx101_0⟩ := Kd.at_int HR0.out x8_1 p101 q101
              cases e101
              replace p101 := eq_true p101
              replace q101 := eq_true q101
              go_wp2
              go_roundg k1
              case measure => have := HK1.out; omega
              case rel => exact ⟨(x3_1), (wrap64 (x8_1 + 1)), (by first | rfl | (simp; done) | (simp [*]; done)), (by first | rfl | (simp; done) | (simp [*]; done)), H', ⟨by have := HK1.out; omega⟩, by repeat (first | exact Drawn0.refl _ | apply Drawn0.step)⟩
            · rw [if_neg c5] at H
              have c5b0 : ((rd l0 x8_1) == (-1)) = false := beq_eq_false_iff_ne.mpr c5
              have c5b1 : ((rd l0 x8_1) != (-1)) = true := bne_iff_ne.mpr c5
              have H' := Aside0.mk H
              clear H
              have p101 : 0 ≤ (x8_1 : Int) := of_decide_eq_true (by first | (with_reducible assumption) | assumption)
              have q101 : x8_1 < (l0.length : Int) := of_decide_eq_true (by first | (with_reducible assumption) | assumption)
              obtain ⟨ad101, e101, hx101_0⟩ := Kd.at_int HR0.out x8_1 p101 q101
              cases e101
              replace p101 := eq_true p101
              replace q101 := eq_true q101
              go_wp2
              go_roundg k1
              case measure => have := HK1.out; omega
              case rel => exact ⟨(wrap64 (x3_1 + 1)), (wrap64 (x8_1 + 1)), (by first | rfl | (simp; done) | (simp [*]; done)), (by first | rfl | (simp; done) | (simp [*]; done)), H', ⟨by have := HK1.out; omega⟩, by repeat (first | exact Drawn0.refl _ | apply Drawn0.step)⟩
          · rw [if_neg c4] at H
            exact absurd H (by simp)
        · rw [if_neg c3] at H
          exact absurd H (by simp)
      · rw [if_neg c2] at H
        have c2b0 : decide (x8_1 < (l0.length : Int)) = false := decide_eq_false c2
        clear c2
        obtain rfl := Option.some.inj H
        go_wp2
        go_ret
        exact ⟨by first | rfl | (simp; done) | (simp [*]; done), by repeat (first | exact Drawn0.refl _ | apply Drawn0.step)⟩
end Go.Proofs.Ytgnmcfoenmfhcaa.Q
end
section
namespace Go.Proofs.Ytgnmcfoenmfhcaa.Walk
set_option linter.unusedVariables false
open Go.RowKit Go.Proofs.YtgnmcfoenmfhcaaW.PrintWords Go.Proofs.YtgnmcfoenmfhcaaW.PrintLast Go.Proofs.YtgnmcfoenmfhcaaW.PrintMore
open Go.Proofs.YtgnmcfoenmfhcaaL Go.Proofs.Ytgnmcfoenmfhcaa.LawK Go.Proofs.Ytgnmcfoenmfhcaa.BoardK Go.Proofs.Ytgnmcfoenmfhcaa.Q
def rooksN (l : List Int) : Nat := l.countP (fun x => x != -1)
theorem rooks_l0 {l : List Int} (hl : l.length ≤ 1048576) : ∀ (d i n : Nat), i + d = l.length → n ≤ i → Ev (fun k => impl_rooks.l0 k n l (l.length : Int) i) ((n + rooksN (l.drop i) : Nat) : Int)
  | 0, i, n, hi, hn => by
    refine Ev.step (f := fun _ => some ((n + rooksN (l.drop i) : Nat) : Int)) (fun k => ?_) (Ev.now _)
    rw [impl_rooks.l0, if_neg (by omega), List.drop_eq_nil_of_le (by omega)]; rfl
  | d + 1, i, n, hi, hn => by
    have h1 : wrap64 ((i : Int) + 1) = ((i + 1 : Nat) : Int) := by rw [w64 (by omega) (by omega)]; rfl
    have h2 : wrap64 ((n : Int) + 1) = ((n + 1 : Nat) : Int) := by rw [w64 (by omega) (by omega)]; rfl
    have hi2 : i < l.length := by omega
    rw [List.drop_eq_getElem_cons hi2, rooksN, List.countP_cons]
    by_cases hx : l[i] = -1
    · have ih := rooks_l0 hl d (i + 1) n (by omega) (by omega)
      rw [rooksN] at ih
      rw [if_neg (by simp [hx]), Nat.add_zero]
      refine Ev.step (fun k => ?_) ih
      rw [impl_rooks.l0, if_pos (by omega), if_pos (by omega), if_pos (by omega), rd_lt _ _ hi2, if_pos hx, h1]
    · have ih := rooks_l0 hl d (i + 1) (n + 1) (by omega) (by omega)
      rw [rooksN] at ih
      rw [if_pos (by simpa using hx)]
      rw [show n + (List.countP (fun x => x != -1) (List.drop (i + 1) l) + 1) = n + 1 + List.countP (fun x => x != -1) (List.drop (i + 1) l) by omega]
      refine Ev.step (fun k => ?_) ih
      rw [impl_rooks.l0, if_pos (by omega), if_pos (by omega), if_pos (by omega), rd_lt _ _ hi2, if_neg hx, h1, h2]
theorem rooks_f {l : List Int} (hl : l.length ≤ 1048576) : ∃ k, impl_rooks.f k l = some (rooksN l : Int) := by
  have h := rooks_l0 hl l.length 0 0 (by omega) (by omega)
  rw [List.drop_zero, Nat.zero_add] at h
  exact h.rounds
end Go.Proofs.Ytgnmcfoenmfhcaa.Walk
end
section
namespace Go.Proofs.Ytgnmcfoenmfhcaa.MostK
set_option linter.unusedVariables false
open Go.RowKit Go.Proofs.Ytgnmcfoenmfhcaa.Q Go.Proofs.YtgnmcfoenmfhcaaW.PrintWords Go.Proofs.YtgnmcfoenmfhcaaW.PrintLast Go.Proofs.YtgnmcfoenmfhcaaW.PrintMore
open Go.Proofs.YtgnmcfoenmfhcaaL Go.Proofs.Ytgnmcfoenmfhcaa.LawK Go.Proofs.Ytgnmcfoenmfhcaa.BoardK Go.Proofs.Ytgnmcfoenmfhcaa.LinesK Go.Proofs.Ytgnmcfoenmfhcaa.Koenig Go.Proofs.Ytgnmcfoenmfhcaa.Walk
theorem rooks_none (pre : List Int) : rooksN (pre ++ [-1]) = rooksN pre := by
  unfold rooksN
  rw [List.countP_append]
  rfl
theorem rooks_some (pre : List Int) {c : Int} (h : c ≠ -1) : rooksN (pre ++ [c]) = rooksN pre + 1 := by
  unfold rooksN
  rw [List.countP_append, List.countP_singleton, if_pos (by simpa using h)]
theorem col_none (l : List Int) (r t : Nat) (pre : List Int) (next : Nat → List Int → List (List Int)) : colWays l r t pre next (-1) = next t (pre ++ [-1]) := by
  unfold colWays
  rw [if_pos (by omega)]
theorem col_some (l : List Int) (r t : Nat) (pre : List Int) (next : Nat → List Int → List (List Int)) (c : Nat) : colWays l r t pre next (c : Int) = if (cell l r c && !t.testBit c) = true then next (t ||| 2 ^ c) (pre ++ [(c : Int)]) else [] := by
  unfold colWays
  rw [if_neg (by omega), Int.toNat_natCast]
theorem mem_cols {C : Nat} {c : Int} : c ∈ iota (-1) (C + 1) ↔ c = -1 ∨ ∃ n : Nat, c = n ∧ n < C := by
  constructor
  · intro h
    obtain ⟨i, hi, e⟩ := List.mem_iff_getElem.1 h
    rw [iota_get] at e
    rw [iota_length] at hi
    by_cases h0 : i = 0
    · left; omega
    · right; exact ⟨i - 1, by omega, by omega⟩
  · rintro (rfl | ⟨n, rfl, hn⟩)
    · exact mem_iota (by omega) (by omega)
    · exact mem_iota (by omega) (by omega)
theorem ways_most (l : List Int) (C : Nat) : ∀ (d r t : Nat) (pre : List Int), (∀ q ∈ waysFrom l C d r t pre, rooksN q ≤ rooksN pre + mostN l C d r t) ∧ ∃ q ∈ waysFrom l C d r t pre, rooksN q = rooksN pre + mostN l C d r t
  | 0, r, t, pre => by
    rw [waysFrom, mostN]
    exact ⟨fun q hq => by rw [List.mem_singleton.1 hq]; exact Nat.le_refl _, pre, List.mem_singleton.2 rfl, rfl⟩
  | d + 1, r, t, pre => by
    have hbase := foldl_base (fun c => cell l r c && !t.testBit c) (fun c => 1 + mostN l C d (r + 1) (t ||| 2 ^ c)) (List.range' 0 C) (mostN l C d (r + 1) t)
    have helem := fun c => foldl_elem (fun c => cell l r c && !t.testBit c) (fun c => 1 + mostN l C d (r + 1) (t ||| 2 ^ c)) (List.range' 0 C) (mostN l C d (r + 1) t) c
    rw [waysFrom, mostN]
    constructor
    · intro q hq
      rw [List.mem_flatMap] at hq
      obtain ⟨c, hc, hq⟩ := hq
      rcases mem_cols.1 hc with rfl | ⟨n, rfl, hn⟩
      · rw [col_none] at hq
        have := (ways_most l C d (r + 1) t (pre ++ [-1])).1 q hq
        rw [rooks_none] at this
        exact Nat.le_trans this (Nat.add_le_add_left hbase _)
      · rw [col_some] at hq
        split at hq
        · rename_i hg
          have := (ways_most l C d (r + 1) (t ||| 2 ^ n) (pre ++ [(n : Int)])).1 q hq
          rw [rooks_some pre (by omega)] at this
          have h2 := helem n (List.mem_range'_1.2 ⟨by omega, by omega⟩) hg
          try simp only [] at h2
          refine Nat.le_trans this ?_
          rw [Nat.add_assoc]
          exact Nat.add_le_add_left h2 _
        · cases hq
    · refine foldl_inv (fun a => ∃ q ∈ (iota (-1) (C + 1)).flatMap (colWays l r t pre (waysFrom l C d (r + 1))), rooksN q = rooksN pre + a) _ _ _ ?_ ?_
      · obtain ⟨q, hq, e⟩ := (ways_most l C d (r + 1) t (pre ++ [-1])).2
        rw [rooks_none] at e
        exact ⟨q, List.mem_flatMap.2 ⟨-1, mem_cols.2 (.inl rfl), by rw [col_none]; exact hq⟩, e⟩
      · intro a c hc h
        try simp only []
        split
        · rename_i hg
          split
          · exact h
          · obtain ⟨q, hq, e⟩ := (ways_most l C d (r + 1) (t ||| 2 ^ c) (pre ++ [(c : Int)])).2
            rw [rooks_some pre (by omega)] at e
            refine ⟨q, List.mem_flatMap.2 ⟨(c : Int), mem_cols.2 (.inr ⟨c, rfl, by have := (List.mem_range'_1.1 hc).2; omega⟩), by rw [col_some, if_pos hg]; exact hq⟩, by omega⟩
        · exact h
theorem cell_bit {l : List Int} {C r c : Nat} (hb : ∀ i (hi : i < l.length), 0 ≤ l[i] ∧ l[i] < 2 ^ C) (h : cell l r c = true) : c < C := by
  by_cases hc : c < C
  · exact hc
  · unfold cell at h
    by_cases hr : r < l.length
    · rw [gD_lt _ _ hr] at h
      have := hb r hr
      have h3 : l[r].toNat < 2 ^ C := by
        have h4 : ((l[r].toNat : Nat) : Int) < ((2 ^ C : Nat) : Int) := by rw [Int.toNat_of_nonneg this.1]; exact_mod_cast this.2
        exact_mod_cast h4
      rw [Nat.testBit_lt_two_pow (Nat.lt_of_lt_of_le h3 (Nat.pow_le_pow_right (by decide) (by omega)))] at h
      cases h
    · rw [gD_ge _ _ (by omega)] at h; simp at h
theorem cnt_lt : ∀ C : Fin 7, cnt (fun c => decide (c < C.val)) = C.val := by decide
theorem most_cols {l : List Int} {R C : Nat} (hlR : l.length = R) (hR : R ≤ 6) (hC : C ≤ 6) (hb : ∀ i (hi : i < l.length), 0 ≤ l[i] ∧ l[i] < 2 ^ C) : mostN l C R 0 0 ≤ C := by
  have h := (most_min hlR hR hC hb).2 (fun _ => true)
  have h2 : kap (cell l) (fun _ => true) ≤ C := by
    unfold kap
    have e : (fun (r : Nat) => !true) = fun _ => false := rfl
    rw [e, cnt_false, Nat.zero_add]
    have h3 := cnt_lt ⟨C, by omega⟩
    simp only [] at h3
    rw [← h3]
    refine cnt_mono fun c _ hc => ?_
    obtain ⟨r, _, _, hg⟩ := nb_iff.1 hc
    exact decide_eq_true (cell_bit hb hg)
  omega
theorem ways_le {l : List Int} {R C : Nat} (hlR : l.length = R) (hR : R ≤ 6) (hC : C ≤ 6) (hb : ∀ i (hi : i < l.length), 0 ≤ l[i] ∧ l[i] < 2 ^ C) : ∀ q ∈ waysFrom l C R 0 0 [], (rooksN q : Int) ≤ min (R : Int) (C : Int) := by
  intro q hq
  have h := (ways_most l C R 0 0 []).1 q hq
  have h1 := mostN_le l C R 0 0
  have h2 := most_cols hlR hR hC hb
  have h3 : rooksN [] = 0 := rfl
  omega
end Go.Proofs.Ytgnmcfoenmfhcaa.MostK
end
section
namespace Go.Proofs.Ytgnmcfoenmfhcaa.AllK
set_option linter.unusedVariables false
open Go.RowKit Go.Proofs.Ytgnmcfoenmfhcaa.Q Go.Proofs.YtgnmcfoenmfhcaaW.PrintWords Go.Proofs.YtgnmcfoenmfhcaaW.PrintLast Go.Proofs.YtgnmcfoenmfhcaaW.PrintMore
open Go.Proofs.YtgnmcfoenmfhcaaL Go.Proofs.Ytgnmcfoenmfhcaa.LawK Go.Proofs.Ytgnmcfoenmfhcaa.BoardK Go.Proofs.Ytgnmcfoenmfhcaa.LinesK Go.Proofs.Ytgnmcfoenmfhcaa.Koenig Go.Proofs.Ytgnmcfoenmfhcaa.Walk Go.Proofs.Ytgnmcfoenmfhcaa.MostK
def key (c : Int) : Nat := if c = -1 then 6 else c.toNat
def rankB : List Int → Nat
  | [] => 0
  | c :: t => key c * 7 ^ t.length + rankB t
def okC (c : Int) : Bool := decide (-1 ≤ c ∧ c < 6)
theorem key_lt {c : Int} (h : okC c = true) : key c < 7 := by
  have := of_decide_eq_true h
  unfold key
  split <;> omega
theorem key_inj {c d : Int} (h : okC c = true) (h' : okC d = true) (e : key c = key d) : c = d := by
  have := of_decide_eq_true h
  have := of_decide_eq_true h'
  unfold key at e
  split at e <;> split at e <;> omega
theorem rank_lt : ∀ {l : List Int}, l.all okC = true → rankB l < 7 ^ l.length
  | [], _ => by simp [rankB]
  | c :: t, h => by
    rw [List.all_cons, Bool.and_eq_true] at h
    have h1 := key_lt h.1
    have h2 := rank_lt h.2
    rw [rankB, List.length_cons, Nat.pow_succ]
    have : key c * 7 ^ t.length ≤ 6 * 7 ^ t.length := Nat.mul_le_mul_right _ (by omega)
    omega
theorem rank_head {c d : Int} {s t : List Int} (hl : s.length = t.length) (hs : s.all okC = true) (h : key c < key d) : rankB (c :: s) < rankB (d :: t) := by
  have h1 := rank_lt hs
  rw [rankB, rankB, ← hl]
  have : (key c + 1) * 7 ^ s.length ≤ key d * 7 ^ s.length := Nat.mul_le_mul_right _ h
  rw [Nat.succ_mul] at this
  omega
theorem rank_app (pre s : List Int) : rankB (pre ++ s) = rankB pre * 7 ^ s.length + rankB s := by
  induction pre with
  | nil => simp [rankB]
  | cons c t ih => rw [List.cons_append, rankB, ih, rankB, List.length_append, Nat.pow_add, Nat.add_mul, ← Nat.mul_assoc, Nat.add_assoc]
theorem rank_inj : ∀ {s t : List Int}, s.length = t.length → s.all okC = true → t.all okC = true → rankB s = rankB t → s = t
  | [], [], _, _, _, _ => rfl
  | [], _ :: _, h, _, _, _ => by simp at h
  | _ :: _, [], h, _, _, _ => by simp at h
  | c :: s, d :: t, hl, hs, ht, h => by
    rw [List.length_cons, List.length_cons] at hl
    have hl : s.length = t.length := by omega
    have hs' := hs
    have ht' := ht
    rw [List.all_cons, Bool.and_eq_true] at hs ht
    rcases Nat.lt_trichotomy (key c) (key d) with e | e | e
    · have := rank_head hl hs.2 e; omega
    · have e2 := key_inj hs.1 ht.1 e
      subst e2
      rw [rankB, rankB, hl] at h
      rw [rank_inj hl hs.2 ht.2 (by omega)]
    · have := rank_head hl.symm ht.2 e; omega
def cmpB : List Int → List Int → Int
  | a :: s, b :: t => if a = b then cmpB s t else (key a : Int) - key b
  | _, _ => 0
theorem cmp_lt : ∀ {s t : List Int}, s.length = t.length → s.all okC = true → t.all okC = true → (cmpB s t < 0 ↔ rankB s < rankB t)
  | [], [], _, _, _ => by simp [cmpB]
  | [], _ :: _, h, _, _ => by simp at h
  | _ :: _, [], h, _, _ => by simp at h
  | c :: s, d :: t, hl, hs, ht => by
    rw [List.length_cons, List.length_cons] at hl
    have hl : s.length = t.length := by omega
    rw [List.all_cons, Bool.and_eq_true] at hs ht
    rw [cmpB]
    by_cases e : c = d
    · subst e
      rw [if_pos rfl, cmp_lt hl hs.2 ht.2, rankB, rankB, hl]
      omega
    · rw [if_neg e]
      have hk : key c ≠ key d := fun h => e (key_inj hs.1 ht.1 h)
      constructor
      · intro h
        exact rank_head hl hs.2 (by omega)
      · intro h
        rcases Nat.lt_or_gt_of_ne hk with e2 | e2
        · omega
        · have := rank_head hl.symm ht.2 e2; omega
def allS (l : List Int) (C : Nat) : Nat → Nat → Nat → List Int → Nat → List (List Int)
  | 0, _, _, pre, m => if m > 0 then [] else [pre]
  | d + 1, r, t, pre, m => if m > d + 1 then [] else (List.range' 0 C).flatMap (fun c => if (cell l r c && !t.testBit c && decide (m > 0)) = true then allS l C d (r + 1) (t ||| 2 ^ c) (pre ++ [(c : Int)]) (m - 1) else []) ++ allS l C d (r + 1) t (pre ++ [-1]) m
theorem ways_form {l : List Int} {C : Nat} (hC : C ≤ 6) : ∀ (d r t : Nat) (pre : List Int), ∀ q ∈ waysFrom l C d r t pre, ∃ s, q = pre ++ s ∧ s.length = d ∧ s.all okC = true
  | 0, r, t, pre, q, hq => by
    rw [waysFrom] at hq
    exact ⟨[], by rw [List.mem_singleton.1 hq, List.append_nil], rfl, rfl⟩
  | d + 1, r, t, pre, q, hq => by
    rw [waysFrom, List.mem_flatMap] at hq
    obtain ⟨c, hc, hq⟩ := hq
    have hco : okC c = true := by
      rcases mem_cols.1 hc with rfl | ⟨n, rfl, hn⟩
      · rfl
      · exact decide_eq_true ⟨by omega, by omega⟩
    have key : ∀ t', q ∈ waysFrom l C d (r + 1) t' (pre ++ [c]) → ∃ s, q = pre ++ s ∧ s.length = d + 1 ∧ s.all okC = true := by
      intro t' h
      obtain ⟨s, rfl, h2, h3⟩ := ways_form hC d (r + 1) t' (pre ++ [c]) q h
      exact ⟨c :: s, by rw [List.append_assoc]; rfl, by rw [List.length_cons, h2], by rw [List.all_cons, hco, h3]; rfl⟩
    rcases mem_cols.1 hc with rfl | ⟨n, rfl, hn⟩
    · rw [col_none] at hq
      exact key _ hq
    · rw [col_some] at hq
      split at hq
      · exact key _ hq
      · cases hq
theorem rooks_app (a b : List Int) : rooksN (a ++ b) = rooksN a + rooksN b := by
  unfold rooksN
  rw [List.countP_append]
theorem iota_range (m : Int) : ∀ n, iota m n = (List.range' 0 n).map (fun c : Nat => m + (c : Int)) := by
  intro n
  apply List.ext_getElem
  · rw [iota_length, List.length_map, List.length_range']
  · intro i h1 h2
    rw [iota_get, List.getElem_map, List.getElem_range']
    omega
theorem iota_cols (C : Nat) : iota (-1) (C + 1) = -1 :: (List.range' 0 C).map (fun c : Nat => (c : Int)) := by
  rw [iota, iota_range]
  congr 1
  apply List.map_congr_left
  intro c _
  omega
theorem flatMap_perm {α β : Type} {f g : α → List β} : ∀ (l : List α), (∀ x ∈ l, (f x).Perm (g x)) → (l.flatMap f).Perm (l.flatMap g)
  | [], _ => List.Perm.refl _
  | x :: t, h => by
    rw [List.flatMap_cons, List.flatMap_cons]
    exact List.Perm.append (h x (by simp)) (flatMap_perm t (fun y hy => h y (by simp [hy])))
theorem filter_flat {α β : Type} (p : β → Bool) (f : α → List β) : ∀ l : List α, (l.flatMap f).filter p = l.flatMap (fun x => (f x).filter p)
  | [] => rfl
  | x :: t => by rw [List.flatMap_cons, List.filter_append, filter_flat p f t, List.flatMap_cons]
theorem all_perm {l : List Int} {C : Nat} (hC : C ≤ 6) : ∀ (d r t : Nat) (pre : List Int) (m : Nat), ((waysFrom l C d r t pre).filter (fun p => decide (rooksN p = rooksN pre + m))).Perm (allS l C d r t pre m)
  | 0, r, t, pre, m => by
    rw [waysFrom, allS]
    by_cases h : m > 0
    · rw [if_pos h, List.filter_cons, if_neg (by simp; omega), List.filter_nil]
    · rw [if_neg h, List.filter_cons, if_pos (by simp; omega), List.filter_nil]
  | d + 1, r, t, pre, m => by
    rw [allS]
    by_cases h : m > d + 1
    · rw [if_pos h]
      have : (waysFrom l C (d + 1) r t pre).filter (fun p => decide (rooksN p = rooksN pre + m)) = [] := by
        rw [List.filter_eq_nil_iff]
        intro q hq
        have h1 := (ways_most l C (d + 1) r t pre).1 q hq
        have h2 := mostN_le l C (d + 1) r t
        simp
        omega
      rw [this]
    · rw [if_neg h, waysFrom, iota_cols, List.flatMap_cons, List.filter_append, col_none]
      refine List.Perm.trans List.perm_append_comm (List.Perm.append ?_ ?_)
      · rw [List.flatMap_map, filter_flat]
        refine flatMap_perm _ fun c hc => ?_
        rw [col_some]
        by_cases hg : (cell l r c && !t.testBit c) = true
        · rw [if_pos hg]
          by_cases hm : m > 0
          · rw [if_pos (by rw [hg, decide_eq_true hm]; rfl)]
            have ih := all_perm (l := l) hC d (r + 1) (t ||| 2 ^ c) (pre ++ [(c : Int)]) (m - 1)
            rw [rooks_some pre (by omega), show rooksN pre + 1 + (m - 1) = rooksN pre + m by omega] at ih
            exact ih
          · rw [if_neg (by rw [hg, decide_eq_false hm]; simp)]
            have : (waysFrom l C d (r + 1) (t ||| 2 ^ c) (pre ++ [(c : Int)])).filter (fun p => decide (rooksN p = rooksN pre + m)) = [] := by
              rw [List.filter_eq_nil_iff]
              intro q hq
              obtain ⟨s, rfl, _, _⟩ := ways_form hC _ _ _ _ q hq
              rw [rooks_app, rooks_some pre (by omega)]
              simp
              omega
            rw [this]
        · rw [if_neg hg, if_neg (by rw [Bool.eq_false_iff.2 hg]; simp)]
          exact List.Perm.refl _
      · have ih := all_perm (l := l) hC d (r + 1) t (pre ++ [-1]) m
        rw [rooks_none] at ih
        exact ih
theorem all_form {l : List Int} {C : Nat} (hC : C ≤ 6) {d r t : Nat} {pre : List Int} {m : Nat} {q : List Int} (h : q ∈ allS l C d r t pre m) : ∃ s, q = pre ++ s ∧ s.length = d ∧ s.all okC = true :=
  ways_form hC d r t pre q (List.mem_filter.1 ((all_perm hC d r t pre m).mem_iff.2 h)).1
theorem all_sorted {l : List Int} {C : Nat} (hC : C ≤ 6) : ∀ (d r t : Nat) (pre : List Int) (m : Nat), (allS l C d r t pre m).Pairwise (fun a b => rankB a < rankB b)
  | 0, r, t, pre, m => by
    rw [allS]
    split <;> simp
  | d + 1, r, t, pre, m => by
    rw [allS]
    split
    · exact List.Pairwise.nil
    · have below : ∀ (c c' : Int) (t t' : Nat) (m m' : Nat), key c < key c' → ∀ x ∈ allS l C d (r + 1) t (pre ++ [c]) m, ∀ y ∈ allS l C d (r + 1) t' (pre ++ [c']) m', rankB x < rankB y := by
        intro c c' t t' m m' hk x hx y hy
        obtain ⟨s, rfl, h1, h2⟩ := all_form hC hx
        obtain ⟨s', rfl, h3, h4⟩ := all_form hC hy
        have := rank_head (c := c) (d := c') (s := s) (t := s') (by omega) h2 hk
        rw [List.append_assoc, List.append_assoc, List.singleton_append, List.singleton_append, rank_app, rank_app, List.length_cons, List.length_cons, h1, h3]
        omega
      have kc : ∀ c : Nat, key (c : Int) = c := fun c => by unfold key; rw [if_neg (by omega)]; rfl
      rw [List.pairwise_append]
      refine ⟨?_, all_sorted hC d (r + 1) t (pre ++ [-1]) m, ?_⟩
      · rw [List.pairwise_flatMap]
        refine ⟨fun c hc => ?_, ?_⟩
        · split
          · exact all_sorted hC d (r + 1) _ _ _
          · exact List.Pairwise.nil
        · refine List.Pairwise.imp ?_ (List.pairwise_lt_range' (s := 0) (n := C) (step := 1))
          intro c c' hlt x hx y hy
          split at hx
          · split at hy
            · exact below c c' _ _ _ _ (by rw [kc, kc]; exact hlt) x hx y hy
            · cases hy
          · cases hx
      · intro x hx y hy
        rw [List.mem_flatMap] at hx
        obtain ⟨c, hc, hx⟩ := hx
        split at hx
        · refine below c (-1) _ _ _ _ ?_ x hx y hy
          rw [kc]
          have := (List.mem_range'_1.1 hc).2
          show c < 6
          omega
        · cases hx
def largestS (l : List Int) (C R : Nat) : List (List Int) := allS l C R 0 0 [] (mostN l C R 0 0)
def sortB (l : List (List Int)) : List (List Int) := l.mergeSort (fun a b => decide (rankB a ≤ rankB b))
theorem sortB_all {l : List Int} {C : Nat} (hC : C ≤ 6) {R m : Nat} {L : List (List Int)} (h : L.Perm (allS l C R 0 0 [] m)) : sortB L = allS l C R 0 0 [] m := by
  refine List.Perm.eq_of_pairwise (le := fun a b => rankB a ≤ rankB b) ?_ ?_ ((all_sorted hC R 0 0 [] m).imp (fun h => Nat.le_of_lt h)) ((List.mergeSort_perm _ _).trans h)
  · intro a b ha hb h1 h2
    have ha := (List.mergeSort_perm _ _).mem_iff.1 ha
    obtain ⟨s, rfl, h3, h4⟩ := all_form hC (h.mem_iff.1 ha)
    obtain ⟨s', rfl, h5, h6⟩ := all_form hC hb
    exact rank_inj (by omega) h4 h6 (by omega)
  · have := List.pairwise_mergeSort (le := fun a b => decide (rankB a ≤ rankB b)) (by intro a b c h1 h2; simp at *; omega) (by intro a b; simp; omega) L
    exact this.imp (fun h => of_decide_eq_true h)
theorem largest_ne {l : List Int} {C : Nat} (hC : C ≤ 6) (R : Nat) : largestS l C R ≠ [] := by
  obtain ⟨q, hq, e⟩ := (ways_most l C R 0 0 []).2
  have : q ∈ largestS l C R := (all_perm hC R 0 0 [] _).mem_iff.1 (List.mem_filter.2 ⟨hq, by simpa using e⟩)
  intro h
  rw [h] at this
  cases this
theorem largest_len {l : List Int} {C : Nat} (hC : C ≤ 6) {R : Nat} (hR : R ≤ 6) : (largestS l C R).length ≤ 117649 := by
  have h0 := (all_perm (l := l) hC R 0 0 [] (mostN l C R 0 0)).length_eq
  have h00 := List.length_filter_le (fun p => decide (rooksN p = rooksN [] + mostN l C R 0 0)) (waysFrom l C R 0 0 [])
  have h1 := ways_len l C R 0 0 []
  have h2 : (C + 1) ^ R ≤ 7 ^ 6 := Nat.le_trans (Nat.pow_le_pow_left (by omega) _) (Nat.pow_le_pow_right (by decide) hR)
  have h3 : (7 : Nat) ^ 6 = 117649 := by decide
  unfold largestS
  omega
theorem largest_row {l : List Int} {C : Nat} (hC : C ≤ 6) {R : Nat} : ∀ p ∈ largestS l C R, p.length = R ∧ p.all okC = true := by
  intro p hp
  obtain ⟨s, rfl, h1, h2⟩ := all_form hC hp
  exact ⟨h1, h2⟩
theorem largest_nodup {l : List Int} {C : Nat} (hC : C ≤ 6) (R : Nat) : (largestS l C R).Nodup := (all_sorted hC R 0 0 [] _).imp (fun h e => by rw [e] at h; exact Nat.lt_irrefl _ h)
end Go.Proofs.Ytgnmcfoenmfhcaa.AllK
end
section
namespace Go.Proofs.Ytgnmcfoenmfhcaa.Q
open Go.RowKit Go.Proofs.YtgnmcfoenmfhcaaW.PrintWords Go.Proofs.YtgnmcfoenmfhcaaW.PrintLast Go.Proofs.YtgnmcfoenmfhcaaW.PrintMore
attribute [local go_sem] max2_int min2_int max_two min_two max_three min_three max_four min_four   -- for this text's walks alone
set_option linter.unusedVariables false
set_option linter.unusedSimpArgs false
def impl_behind_1.f (a0 : Int) : Option (Int) := if a0 = (-1) then (some 6) else (some a0)
set_option maxHeartbeats 8000000 in
set_option maxRecDepth 100000 in
theorem impl_behind_1.calls (a0 : Int) (r : Int) (w : World) (h : impl_behind_1.f a0 = some r) :
    Calls Try.prog 148 #[.int .i64 a0] w fun e w' => e = .returned (.int .i64 r) ∧ Drawn0 w w' := by
  have H : (if a0 = (-1) then (some 6) else (some a0)) = some r := h
  clear h
  by_cases c2 : a0 = (-1)
  · rw [if_pos c2] at H
    have c2b0 : (a0 == (-1)) = true := beq_iff_eq.mpr c2
    have c2b1 : (a0 != (-1)) = false := bne_eq_false_iff_eq.mpr c2
    clear c2
    obtain rfl := Option.some.inj H
    go_enter Try.func148, Try.ntmps148
    go_wp2
    go_ret
    exact ⟨by first | rfl | (simp; done) | (simp [*]; done), by repeat (first | exact Drawn0.refl _ | apply Drawn0.step)⟩
  · rw [if_neg c2] at H
    have c2b0 : (a0 == (-1)) = false := beq_eq_false_iff_ne.mpr c2
    have c2b1 : (a0 != (-1)) = true := bne_iff_ne.mpr c2
    obtain rfl := Option.some.inj H
    go_enter Try.func148, Try.ntmps148
    go_wp2
    go_ret
    exact ⟨by first | rfl | (simp; done) | (simp [*]; done), by repeat (first | exact Drawn0.refl _ | apply Drawn0.step)⟩
end Go.Proofs.Ytgnmcfoenmfhcaa.Q
end
section
namespace Go.Proofs.Ytgnmcfoenmfhcaa.Q
open Go.RowKit Go.Proofs.YtgnmcfoenmfhcaaW.PrintWords Go.Proofs.YtgnmcfoenmfhcaaW.PrintLast Go.Proofs.YtgnmcfoenmfhcaaW.PrintMore
attribute [local go_sem] max2_int min2_int max_two min_two max_three min_three max_four min_four   -- for this text's walks alone
set_option linter.unusedVariables false
set_option linter.unusedSimpArgs false
def impl_behind.l0 : Nat → List Int → List Int → Int → Int → Option (Int)
  | 0, _, _, _, _ => none
  | k + 1, x0, x1, x8, x9 => if x9 < x8 then (if 0 ≤ x9 then (if x9 < (x0.length : Int) then (if x9 < (x1.length : Int) then (if (rd x0 x9) = (rd x1 x9) then (impl_behind.l0 k x0 x1 x8 (wrap64 (x9 + 1))) else ((impl_behind_1.f (rd x0 x9)).bind fun t104 => ((impl_behind_1.f (rd x1 x9)).bind fun t106 => (some (wrap64 (t104 - t106)))))) else (none)) else (none)) else (none)) else (some 0)
def impl_behind.f (k : Nat) (l0 : List Int) (l1 : List Int) : Option (Int) := impl_behind.l0 k l0 l1 (l0.length : Int) 0
set_option maxHeartbeats 8000000 in
set_option maxRecDepth 100000 in
theorem impl_behind.calls (k : Nat) (A0 : Option Addr) (c0 : Nat) (l0 : List Int) (A1 : Option Addr) (c1 : Nat) (l1 : List Int) (r : Int) (w : World) (hr0 : Kd.C (Kd.int .i64) w A0 l0.length l0) (hc0 : l0.length ≤ c0) (hr1 : Kd.C (Kd.int .i64) w A1 l1.length l1) (hc1 : l1.length ≤ c1) (h : impl_behind.f k l0 l1 = some r) :
    Calls Try.prog 135 #[.slice A0 l0.length c0, .slice A1 l1.length c1] w fun e w' => e = .returned (.int .i64 r) ∧ Drawn0 w w' := by
  have HR0 := Aside0.mk hr0
  have HC0 := Aside0.mk hc0
  clear hr0 hc0
  have HR1 := Aside0.mk hr1
  have HC1 := Aside0.mk hc1
  clear hr1 hc1
  have H : (impl_behind.l0 k l0 l1 (l0.length : Int) 0) = some r := h
  clear h
  have H' := Aside0.mk H
  clear H
  go_enter Try.func135, Try.ntmps135
  go_wp2
  repeat (go_quiet (fail); try go_wp2)
  go_loopg [9] k (fun kq v9 w' => ∃ (x9_1 : Int), v9 = .int .i64 x9_1 ∧ Aside0 (impl_behind.l0 kq l0 l1 (l0.length : Int) x9_1 = some r) ∧ Aside0 (kq ≤ k) ∧ Drawn0 w w')
  case atStart => exact ⟨(0), (by first | rfl | (simp; done) | (simp [*]; done)), H', ⟨Nat.le_refl _⟩, by repeat (first | exact Drawn0.refl _ | apply Drawn0.step)⟩
  case round =>
    clear H'
    try clear c1
    try clear p2
    obtain ⟨x9_1, rfl, HA, HK1, ⟨m1, rfl⟩⟩ := hrel
    cases gk with
    | zero => exact absurd HA.out (by simp [impl_behind.l0])
    | succ k1 =>
      have H := HA.out
      clear HA
      simp only [impl_behind.l0] at H
      by_cases c3 : x9_1 < (l0.length : Int)
      · rw [if_pos c3] at H
        have c3b0 : decide (x9_1 < (l0.length : Int)) = true := decide_eq_true c3
        clear c3
        by_cases c4 : 0 ≤ x9_1
        · rw [if_pos c4] at H
          have c4b0 : decide (0 ≤ x9_1) = true := decide_eq_true c4
          clear c4
          by_cases c5 : x9_1 < (l0.length : Int)
          · rw [if_pos c5] at H
            have c5b0 : decide (x9_1 < (l0.length : Int)) = true := decide_eq_true c5
            clear c5
            by_cases c6 : x9_1 < (l1.length : Int)
            · rw [if_pos c6] at H
              have c6b0 : decide (x9_1 < (l1.length : Int)) = true := decide_eq_true c6
              clear c6
              by_cases c7 : (rd l0 x9_1) = (rd l1 x9_1)
              · rw [if_pos c7] at H
                have c7b0 : ((rd l0 x9_1) == (rd l1 x9_1)) = true := beq_iff_eq.mpr c7
                have c7b1 : ((rd l0 x9_1) != (rd l1 x9_1)) = false := bne_eq_false_iff_eq.mpr c7
                clear c7
                have H' := Aside0.mk H
                clear H
                have p101 : 0 ≤ (x9_1 : Int) := of_decide_eq_true (by first | (with_reducible assumption) | assumption)
                have q101 : x9_1 < (l0.length : Int) := of_decide_eq_true (by first | (with_reducible assumption) | assumption)
                obtain ⟨ad101, e101, hx101_0⟩ := Kd.at_int HR0.out x9_1 p101 q101
                cases e101
                replace p101 := eq_true p101
                replace q101 := eq_true q101
                have p102 : 0 ≤ (x9_1 : Int) := of_decide_eq_true (by first | (with_reducible assumption) | assumption)
                have q102 : x9_1 < (l1.length : Int) := of_decide_eq_true (by first | (with_reducible assumption) | assumption)
                obtain ⟨ad102, e102, hx102_0⟩ := Kd.at_int HR1.out x9_1 p102 q102
                cases e102
                replace p102 := eq_true p102
                replace q102 := eq_true q102
                go_wp2
                repeat (go_quiet (fail); try go_wp2)
                go_roundg k1
                case measure => have := HK1.out; omega
                case rel => exact ⟨(wrap64 (x9_1 + 1)), (by first | rfl | (simp; done) | (simp [*]; done)), H', ⟨by have := HK1.out; omega⟩, by repeat (first | exact Drawn0.refl _ | apply Drawn0.step)⟩
              · rw [if_neg c7] at H
                have c7b0 : ((rd l0 x9_1) == (rd l1 x9_1)) = false := beq_eq_false_iff_ne.mpr c7
                have c7b1 : ((rd l0 x9_1) != (rd l1 x9_1)) = true := bne_iff_ne.mpr c7
                replace H := Option.bind_eq_some_iff.mp H
                obtain ⟨t104, A80, H⟩ := H
                replace H : ((impl_behind_1.f (rd l1 x9_1)).bind fun t106 => (some (wrap64 (t104 - t106)))) = some r := H
                have A8 := Aside0.mk A80
                clear A80
                replace H := Option.bind_eq_some_iff.mp H
                obtain ⟨t106, A90, H⟩ := H
                replace H : (some (wrap64 (t104 - t106))) = some r := H
                have A9 := Aside0.mk A90
                clear A90
                obtain rfl := Option.some.inj H
                have p101 : 0 ≤ (x9_1 : Int) := of_decide_eq_true (by first | (with_reducible assumption) | assumption)
                have q101 : x9_1 < (l0.length : Int) := of_decide_eq_true (by first | (with_reducible assumption) | assumption)
                obtain ⟨ad101, e101, hx101_0⟩ := Kd.at_int HR0.out x9_1 p101 q101
                cases e101
                replace p101 := eq_true p101
                replace q101 := eq_true q101
                have p102 : 0 ≤ (x9_1 : Int) := of_decide_eq_true (by first | (with_reducible assumption) | assumption)
                have q102 : x9_1 < (l1.length : Int) := of_decide_eq_true (by first | (with_reducible assumption) | assumption)
                obtain ⟨ad102, e102, hx102_0⟩ := Kd.at_int HR1.out x9_1 p102 q102
                cases e102
                replace p102 := eq_true p102
                replace q102 := eq_true q102
                have p103 : 0 ≤ (x9_1 : Int) := of_decide_eq_true (by first | (with_reducible assumption) | assumption)
                have q103 : x9_1 < (l0.length : Int) := of_decide_eq_true (by first | (with_reducible assumption) | assumption)
                obtain ⟨ad103, e103, hx103_0⟩ := Kd.at_int HR0.out x9_1 p103 q103
                obtain rfl : ad101 = ad103 := (by injection e103)
                replace p103 := eq_true p103
                replace q103 := eq_true q103
                go_wp2_with (first | (go_at_call 148; (with_reducible refine (impl_behind_1.calls (rd l0 x9_1) t104 _ A8.out).mono ?_); rintro e w' ⟨rfl, ⟨nd, rfl⟩⟩; (try first | exact ⟨rfl, _, World.drewN_drewN _ _ _⟩ | exact ⟨rfl, _, Eq.trans (World.drewN_drewN _ _ _) (congrArg (World.drewN _) (Nat.add_assoc _ _ _))⟩); have p105 : 0 ≤ (x9_1 : Int) := of_decide_eq_true (by first | (with_reducible assumption) | assumption); have q105 : x9_1 < (l1.length : Int) := of_decide_eq_true (by first | (with_reducible assumption) | assumption); obtain ⟨ad105, e105, hx105_0⟩ := Kd.at_int HR1.out x9_1 p105 q105; obtain rfl : ad102 = ad105 := (by injection e105); replace p105 := eq_true p105; replace q105 := eq_true q105) | (go_at_call 148; (with_reducible refine (impl_behind_1.calls (rd l1 x9_1) t106 _ A9.out).mono ?_); rintro e w' ⟨rfl, ⟨nd, rfl⟩⟩; (try first | exact ⟨rfl, _, World.drewN_drewN _ _ _⟩ | exact ⟨rfl, _, Eq.trans (World.drewN_drewN _ _ _) (congrArg (World.drewN _) (Nat.add_assoc _ _ _))⟩)))
                repeat (go_quiet (first | (go_at_call 148; (with_reducible refine (impl_behind_1.calls (rd l0 x9_1) t104 _ A8.out).mono ?_); rintro e w' ⟨rfl, ⟨nd, rfl⟩⟩; (try first | exact ⟨rfl, _, World.drewN_drewN _ _ _⟩ | exact ⟨rfl, _, Eq.trans (World.drewN_drewN _ _ _) (congrArg (World.drewN _) (Nat.add_assoc _ _ _))⟩); have p105 : 0 ≤ (x9_1 : Int) := of_decide_eq_true (by first | (with_reducible assumption) | assumption); have q105 : x9_1 < (l1.length : Int) := of_decide_eq_true (by first | (with_reducible assumption) | assumption); obtain ⟨ad105, e105, hx105_0⟩ := Kd.at_int HR1.out x9_1 p105 q105; obtain rfl : ad102 = ad105 := (by injection e105); replace p105 := eq_true p105; replace q105 := eq_true q105) | (go_at_call 148; (with_reducible refine (impl_behind_1.calls (rd l1 x9_1) t106 _ A9.out).mono ?_); rintro e w' ⟨rfl, ⟨nd, rfl⟩⟩; (try first | exact ⟨rfl, _, World.drewN_drewN _ _ _⟩ | exact ⟨rfl, _, Eq.trans (World.drewN_drewN _ _ _) (congrArg (World.drewN _) (Nat.add_assoc _ _ _))⟩))); try go_wp2_with (first | (go_at_call 148; (with_reducible refine (impl_behind_1.calls (rd l0 x9_1) t104 _ A8.out).mono ?_); rintro e w' ⟨rfl, ⟨nd, rfl⟩⟩; (try first | exact ⟨rfl, _, World.drewN_drewN _ _ _⟩ | exact ⟨rfl, _, Eq.trans (World.drewN_drewN _ _ _) (congrArg (World.drewN _) (Nat.add_assoc _ _ _))⟩); have p105 : 0 ≤ (x9_1 : Int) := of_decide_eq_true (by first | (with_reducible assumption) | assumption); have q105 : x9_1 < (l1.length : Int) := of_decide_eq_true (by first | (with_reducible assumption) | assumption); obtain ⟨ad105, e105, hx105_0⟩ := Kd.at_int HR1.out x9_1 p105 q105; obtain rfl : ad102 = ad105 := (by injection e105); replace p105 := eq_true p105; replace q105 := eq_true q105) | (go_at_call 148; (with_reducible refine (impl_behind_1.calls (rd l1 x9_1) t106 _ A9.out).mono ?_); rintro e w' ⟨rfl, ⟨nd, rfl⟩⟩; (try first | exact ⟨rfl, _, World.drewN_drewN _ _ _⟩ | exact ⟨rfl, _, Eq.trans (World.drewN_drewN _ _ _) (congrArg (World.drewN _) (Nat.add_assoc _ _ _))⟩))))
                go_ret
                exact ⟨by first | rfl | (simp; done) | (simp [*]; done) | (simp; rw [IntKind.wrap_i64]; unfold wrap64; rfl), by repeat (first | exact Drawn0.refl _ | apply Drawn0.step)⟩
            · rw [if_neg c6] at H
              exact absurd H (by simp)
          · rw [if_neg c5] at H
            exact absurd H (by simp)
        · rw [if_neg c4] at H
          exact absurd H (by simp)
      · rw [if_neg c3] at H
        have c3b0 : decide (x9_1 < (l0.length : Int)) = false := decide_eq_false c3
        clear c3
        obtain rfl := Option.some.inj H
        go_wp2
        repeat (go_quiet (fail); try go_wp2)
        go_ret
        exact ⟨by first | rfl | (simp; done) | (simp [*]; done) | (simp; rw [IntKind.wrap_i64]; unfold wrap64; rfl), by repeat (first | exact Drawn0.refl _ | apply Drawn0.step)⟩
end Go.Proofs.Ytgnmcfoenmfhcaa.Q
end
section
namespace Go.Proofs.Ytgnmcfoenmfhcaa.WalkWith
set_option linter.unusedVariables false
open Go.RowKit Go.Proofs.YtgnmcfoenmfhcaaW.PrintWords Go.Proofs.YtgnmcfoenmfhcaaW.PrintLast Go.Proofs.YtgnmcfoenmfhcaaW.PrintMore
open Go.Proofs.YtgnmcfoenmfhcaaL Go.Proofs.Ytgnmcfoenmfhcaa.LawK Go.Proofs.Ytgnmcfoenmfhcaa.BoardK Go.Proofs.Ytgnmcfoenmfhcaa.Walk Go.Proofs.Ytgnmcfoenmfhcaa.Q
theorem run_store_func {P : Program} {w : World} {a : Addr} {m : Mode} (f : Fn) (xs : Array Value) (ys : Array Value) : (store a (.func f xs ys) m).run P w = stored P w a (.func f xs ys) m := run_store P w a _ m rfl
attribute [local go_sem] run_store_func
section
variable (k : Blks) (hk : k.Apart) (Inv : List (List Int) → World → Prop) (hI : ∀ vis w w', Inv vis w → Still k.has w w' → Inv vis w') (R C : Nat) (RI CI : Int) (hRI : RI = R) (hCI : CI = C) (l : List Int) (A0 : Option Addr) (c0 cp : Nat) (hc0 : l.length ≤ c0) (cc1 cc2 : Value)
  (hL : ∀ vis w, Inv vis w → Kd.C (Kd.int .i64) w A0 l.length l)
  (hl : l.length = R) (hR : R ≤ 6) (hC : C ≤ 6) (hb : ∀ i (hi : i < l.length), 0 ≤ l[i] ∧ l[i] < 2 ^ C)
  (P : List (List Int) → List Int → Prop) (hdo : ∀ vis ps w, ps.length = R → P vis ps → WSt k Inv RI CI R cp l A0 c0 (.func (.func 146) #[] #[cc1, cc2]) vis ps w →
    Calls Try.prog 146 #[.slice (some ⟨k.a, 0, none⟩) R cp, cc1, cc2] w fun e w' => e = .returned (.bool true) ∧ WSt k Inv RI CI R cp l A0 c0 (.func (.func 146) #[] #[cc1, cc2]) (vis ++ [ps]) ps w')
include hk hI hRI hCI hc0 hL hl hR hC hb hdo
set_option maxHeartbeats 4000000 in
set_option maxRecDepth 100000 in
theorem row_calls : ∀ (d r t : Nat) (rI tI : Int), rI = r → tI = t → r + d = R → t < 64 → ∀ vis ps w, ps.length = R → (∀ a q b, waysFrom l C d r t (ps.take r) = a ++ q :: b → P (vis ++ a) q) → WSt k Inv RI CI R cp l A0 c0 (.func (.func 146) #[] #[cc1, cc2]) vis ps w →
    Calls Try.prog 160 #[.int .i64 rI, .int .i64 tI, .pointer (some ⟨k.b, 0, none⟩), .pointer (some ⟨k.d, 0, none⟩), .pointer (some ⟨k.p, 0, none⟩), .pointer (some ⟨k.g, 0, none⟩), .pointer (some ⟨k.r, 0, none⟩)] w fun e w' => e = .returned (.tuple #[]) ∧
      ∃ ps', ps'.length = R ∧ ps'.take r = ps.take r ∧ WSt k Inv RI CI R cp l A0 c0 (.func (.func 146) #[] #[cc1, cc2]) (vis ++ waysFrom l C d r t (ps.take r)) ps' w'
  | 0, r, t, rI, tI, hr, ht, hrd, ht6, vis, ps, w, hps, hPP, hst => by
    have hP0 : P vis ps := by have := hPP [] ps [] (by rw [waysFrom, List.take_of_length_le (by omega)]; rfl); rwa [List.append_nil] at this
    have CX := Lib.hid (fun W (h : Aside0 (WSt k Inv RI CI R cp l A0 c0 (.func (.func 146) #[] #[cc1, cc2]) vis ps W)) => hdo vis ps W hps hP0 h.out)
    have MV := Lib.hid (fun W (h : Aside0 (WSt k Inv RI CI R cp l A0 c0 (.func (.func 146) #[] #[cc1, cc2]) (vis ++ [ps]) ps W)) => h.out.setG hI hk)
    have e0 : (rI == RI) = true := beq_iff_eq.mpr (by omega)
    have e1 := Aside0.mk (show ps.take r = ps from List.take_of_length_le (by omega))
    have hz1 : w.cell? ⟨k.b, 0, none⟩ = some (.int .i64 RI) := (blk_cell hst.cB 0).trans rfl
    have hz2 : w.cell? ⟨k.d, 0, none⟩ = some (.func (.func 146) #[] #[cc1, cc2]) := (blk_cell hst.cD 0).trans rfl
    have hz3 : w.cell? ⟨k.p, 0, none⟩ = some (.slice (some ⟨k.a, 0, none⟩) R cp) := (blk_cell hst.cP 0).trans rfl
    have HS := Aside0.mk hst
    have HP := Aside0.mk hps
    have hu24 := Try.underlying26
    clear hdo hst hps hr ht hrd ht6 hRI hCI hk hI hL hl hR hC hb hc0 hPP hP0
    go_enter Try.func160, Try.ntmps160
    go_wp2_with (first | (go_at_call 146; (refine (CX.out _ HS).mono ?_); rintro e w2 ⟨rfl, hs2⟩; have hz4 : w2.cell? ⟨k.g, 0, none⟩ = some (.bool true) := (blk_cell hs2.cG 0).trans rfl; have hf4 := blk_frozen hs2.cG 0; have HS2 := Aside0.mk hs2; clear hs2))
    first | go_end0 | ((try simp only [Exit.inBlock, Exit.then]); refine bodyPost_ret (results_none rfl _ _ _) rfl ?_)
    refine ⟨rfl, ps, HP.out, rfl, ?_⟩
    rw [e1.out]
    exact MV.out _ HS2
  | d + 1, r, t, rI, tI, hr, ht, hrd, ht6, vis, ps, w, hps, hPP, hst => by
    have IH := Lib.hid (fun (t' : Nat) (tI' : Int) (h2 : tI' = (t' : Int)) (h3 : t' < 64) vis ps W (h4 : ps.length = R) (h5 : ∀ a q b, waysFrom l C d (r + 1) t' (ps.take (r + 1)) = a ++ q :: b → P (vis ++ a) q) (h : WSt k Inv RI CI R cp l A0 c0 (.func (.func 146) #[] #[cc1, cc2]) vis ps W) => row_calls d (r + 1) t' (wrap64 (rI + 1)) tI' (by rw [hr, w64 (by omega) (by omega)]; rfl) h2 (by omega) h3 vis ps W h4 h5 h)
    have MVB := Lib.hid (fun vis ps W W' (h : WSt k Inv RI CI R cp l A0 c0 (.func (.func 146) #[] #[cc1, cc2]) vis ps W) (hb : Below W.heap.size W W') => h.below hI hb)
    have MVA := Lib.hid (fun vis ps W (h : WSt k Inv RI CI R cp l A0 c0 (.func (.func 146) #[] #[cc1, cc2]) vis ps W) (i c : Int) => h.setA hI hk i c)
    have HL := Lib.hid (fun vis ps W (h : WSt k Inv RI CI R cp l A0 c0 (.func (.func 146) #[] #[cc1, cc2]) vis ps W) => hL vis W h.inv)
    have HASF := Lib.hid (fun (j : Nat) (hj : j ≤ 64) => has_f RI CI (l := l) (i := r) (j := j) (by omega) (hb r (by omega)).1 (by have := (hb r (by omega)).2; have := two_pow_six hC; omega) hj)
    have e0 : (rI == RI) = false := beq_eq_false_iff_ne.mpr (by omega)
    have z1 : w.cell? ⟨k.b, 0, none⟩ = some (.int .i64 RI) := (blk_cell hst.cB 0).trans rfl
    have HS := Aside0.mk hst
    have HP := Aside0.mk hps
    have HR := Aside0.mk hr
    have HT := Aside0.mk ht
    have HT6 := Aside0.mk ht6
    have HRD := Aside0.mk hrd
    have HCI := Aside0.mk hCI
    have HC0 := Aside0.mk hc0
    have HC6 := Aside0.mk hC
    have HR6 := Aside0.mk hR
    have hu24 := Try.underlying26
    obtain ⟨pre, hpre⟩ : ∃ pre, pre = ps.take r := ⟨_, rfl⟩
    rw [← hpre] at hPP ⊢
    have HPP := Aside0.mk hPP
    have HPRE := Aside0.mk hpre
    have plt := eq_true (show 0 ≤ rI by omega)
    have plt2 := eq_true (show rI < (R : Int) by omega)
    clear hdo hst hps hr ht hrd ht6 hRI hCI hk hI hL hl hR hC hb hc0 hpre hPP row_calls
    go_enter Try.func160, Try.ntmps160
    go_wp2
    go_loopg [9] (C + 1) (fun kq v9 w' => ∃ (x9 : Int), v9 = .int .i64 x9 ∧ Aside0 (∃ (j : Nat) (ps' : List Int), x9 = -1 + j ∧ j + kq = C + 1 ∧ ps'.length = R ∧ ps'.take r = pre ∧ WSt k Inv RI CI R cp l A0 c0 (.func (.func 146) #[] #[cc1, cc2]) (vis ++ (iota (-1) j).flatMap (colWays l r t pre (waysFrom l C d (r + 1)))) ps' w'))
    case atStart => exact ⟨-1, rfl, ⟨0, ps, by omega, by omega, HP.out, HPRE.out.symm, by simpa [iota] using HS.out⟩⟩
    case round =>
      clear z1
      obtain ⟨x9, rfl, HX⟩ := hrel
      obtain ⟨j, qs, hx, hj, hql, hqt, hs⟩ := HX.out
      clear HX
      have HX := Aside0.mk hx
      have HQL := Aside0.mk hql
      have HQT := Aside0.mk hqt
      have HS2 := Aside0.mk hs
      have HJ := Aside0.mk hj
      have z1 : wr.cell? ⟨k.b, 1, none⟩ = some (.int .i64 CI) := (blk_cell hs.cB 1).trans rfl
      have z2 : wr.cell? ⟨k.g, 0, none⟩ = some (.bool true) := (blk_cell hs.cG 0).trans rfl
      have z3 : wr.cell? ⟨k.b, 0, none⟩ = some (.int .i64 RI) := (blk_cell hs.cB 0).trans rfl
      have z4 : wr.cell? ⟨k.b, 2, none⟩ = some (.slice A0 l.length c0) := (blk_cell hs.cB 2).trans rfl
      clear hx hj hql hqt hs
      by_cases c1 : x9 < CI
      · have c1b : decide (x9 < CI) = true := decide_eq_true c1
        cases gk with
        | zero => exact absurd c1 (by have := HX.out; have := HJ.out; have := HCI.out; omega)
        | succ k1 =>
          have EW := Aside0.mk (show wrap64 (x9 + 1) = -1 + ((j + 1 : Nat) : Int) by have := HX.out; have := HJ.out; have := HC6.out; rw [w64 (by omega) (by omega)]; omega)
          have EJ := Aside0.mk (show j + 1 + k1 = C + 1 by have := HJ.out; omega)
          have ES := Aside0.mk (show (iota (-1) (j + 1)).flatMap (colWays l r t pre (waysFrom l C d (r + 1))) = (iota (-1) j).flatMap (colWays l r t pre (waysFrom l C d (r + 1))) ++ colWays l r t pre (waysFrom l C d (r + 1)) x9 by rw [iota_snoc, List.flatMap_append, HX.out]; simp)
          have C1 := Aside0.mk c1
          clear c1
          by_cases c2 : 0 ≤ x9
          · have c2b : decide (0 ≤ x9) = true := decide_eq_true c2
            have c2e := eq_true c2
            obtain ⟨xn, hxn⟩ : ∃ xn : Nat, x9 = xn := ⟨x9.toNat, by omega⟩
            have HXN := Aside0.mk hxn
            have HX6 := Aside0.mk (show xn < 6 by have := C1.out; have := HCI.out; have := HC6.out; omega)
            have A1 := Aside0.mk (show impl_Board_has.f RI CI l rI x9 = some (cell l r xn) by rw [HR.out, hxn]; exact HASF.out xn (by have := HX6.out; omega))
            obtain ⟨sh, hsh⟩ : ∃ s : Int, shr .i64 tI x9 = s := ⟨_, rfl⟩
            have hsh1 : (tI / 2 ^ min x9.toNat 64) = sh := hsh
            have BT : Go.bits .and .i64 sh 1 = if t.testBit xn then 1 else 0 := by rw [← hsh, HT.out, hxn]; exact bit_and t xn (by have := HT6.out; omega) (by have := HX6.out; omega)
            clear c2 hxn
            by_cases c3 : cell l r xn = true
            · rw [c3] at A1
              by_cases c4 : t.testBit xn = true
              · have c4b : (Go.bits .and .i64 sh 1 == 1) = true := by rw [BT, if_pos c4]; rfl
                have NIL := Aside0.mk (show colWays l r t pre (waysFrom l C d (r + 1)) x9 = [] by have := HXN.out; unfold colWays; rw [if_neg (by omega), if_neg (by rw [HXN.out]; simp [c4])])
                clear c3 c4 BT hsh
                go_wp2_with (first | (go_at_call 100; (refine (impl_Board_has.calls RI CI _ _ l rI x9 true _ ?side1 ?side2 A1.out).mono ?_); (case side1 => exact HL.out _ _ _ HS2.out); (case side2 => exact HC0.out); rintro e w2 ⟨rfl, hb2⟩; have HS3 := Aside0.mk (MVB.out _ _ _ _ HS2.out hb2); clear hb2))
                go_roundg k1
                case measure => omega
                case rel => exact ⟨wrap64 (x9 + 1), (by first | rfl | (simp; done)), ⟨j + 1, qs, EW.out, EJ.out, HQL.out, HQT.out, by rw [ES.out, NIL.out, List.append_nil]; exact HS3.out⟩⟩
              · have c4b : (Go.bits .and .i64 sh 1 == 1) = false := by rw [BT, if_neg c4]; rfl
                have c4f : t.testBit xn = false := by simpa using c4
                have ONE := Aside0.mk (show colWays l r t pre (waysFrom l C d (r + 1)) x9 = waysFrom l C d (r + 1) (t ||| 2 ^ xn) (pre ++ [x9]) by have := HXN.out; unfold colWays; rw [if_neg (by omega), HXN.out, Int.toNat_natCast, if_pos (by rw [c3, c4f]; rfl)])
                obtain ⟨ji, hji⟩ : ∃ s : Int, shl .i64 1 x9 = s := ⟨_, rfl⟩
                have hji_ : (IntKind.i64.wrap (1 * 2 ^ min x9.toNat 64)) = ji := hji
                have hjiu : (IntKind.i64.wrap (2 ^ min x9.toNat 64)) = ji := by have h_ := hji_; rw [Int.one_mul] at h_; exact h_
                have p2x := Nat.pow_le_pow_right (show 0 < 2 by decide) (show xn ≤ 5 by have := HX6.out; omega)
                have OR := Aside0.mk (show Go.bits .or .i64 tI ji = ((t ||| 2 ^ xn : Nat) : Int) by rw [← hji, HT.out, HXN.out, shl_one xn (by have := HX6.out; omega)]; exact or_nat _ _ (by have := HT6.out; omega) (by omega))
                have OR6 := Aside0.mk (show t ||| 2 ^ xn < 64 from Nat.or_lt_two_pow (n := 6) HT6.out (by omega))
                clear c3 c4 c4f BT hsh hji p2x
                have HRT := Aside0.mk (show rI.toNat = r by rw [HR.out]; rfl)
                have HPT := Aside0.mk (show (qs.set rI.toNat x9).take (r + 1) = pre ++ [x9] by have hrl : r < qs.length := (by have := HQL.out; have := HRD.out; omega); rw [HRT.out, List.take_add_one, List.take_set_of_le (Nat.le_refl _), HQT.out]; simp [hrl])
                have NXT := Aside0.mk (show ∀ a q b, waysFrom l C d (r + 1) (t ||| 2 ^ xn) ((qs.set rI.toNat x9).take (r + 1)) = a ++ q :: b → P ((vis ++ (iota (-1) j).flatMap (colWays l r t pre (waysFrom l C d (r + 1)))) ++ a) q from fun a q b hq => by rw [HPT.out, ← ONE.out] at hq; rw [List.append_assoc]; exact HPP.out _ q (b ++ (iota (x9 + 1) (C + 1 - j - 1)).flatMap (colWays l r t pre (waysFrom l C d (r + 1)))) (by rw [ways_cut l C d r t pre j (by have := HX.out; have := C1.out; have := HCI.out; omega) HX.out, hq, List.append_assoc, List.append_assoc]; rfl))
                go_wp2_with (first | (go_at_call 100; (refine (impl_Board_has.calls RI CI _ _ l rI x9 true _ ?side1 ?side2 A1.out).mono ?_); (case side1 => exact HL.out _ _ _ HS2.out); (case side2 => exact HC0.out); rintro e w2 ⟨rfl, hb2⟩; have HS3 := Aside0.mk (MVB.out _ _ _ _ HS2.out hb2); clear hb2; have z5 : w2.cell? ⟨k.p, 0, none⟩ = some (.slice (some ⟨k.a, 0, none⟩) R cp) := (blk_cell HS3.out.cP 0).trans rfl; obtain ⟨z6, f6⟩ := Kd.R_celln 0 HS3.out.cA rI (of_eq_true plt) (of_eq_true plt2)) | ((with_reducible refine gate_store (t := 3) (p := 46) rfl ?_); refine store_event (t := 3) (p := 46) (v := ?vo) (w1 := (w2.setCell ⟨k.a, rI.toNat, none⟩ (.int .i64 x9))) ?hg ?ho ?hn ?hr ?_; (case ho => rfl); (case hg => rfl); (case hn => rfl); (case hr => first | (go_simp; done) | (go_simp; rfl)); intro w4 hw; have HS4 := Aside0.mk (by rw [hw]; exact MVA.out _ _ _ HS3.out rI x9 : WSt k Inv RI CI R cp l A0 c0 (.func (.func 146) #[] #[cc1, cc2]) (vis ++ (iota (-1) j).flatMap (colWays l r t pre (waysFrom l C d (r + 1)))) (qs.set rI.toNat x9) w4); clear hw; have z7 : w4.cell? ⟨k.r, 0, none⟩ = _ := (blk_cell HS4.out.cR 0).trans rfl) | (go_at_call 160; (refine (IH.out (t ||| 2 ^ xn) _ OR.out OR6.out _ (qs.set rI.toNat x9) _ (by rw [List.length_set]; exact HQL.out) NXT.out HS4.out).mono ?_); rintro e w5 ⟨rfl, hex⟩; have HE := Aside0.mk hex; clear hex))
                go_roundg k1
                case measure => omega
                case rel =>
                  obtain ⟨qs2, hl2, ht2, hs5⟩ := HE.out
                  have hrt := HRT.out
                  have hrl : r < qs.length := by have := HQL.out; have := HRD.out; omega
                  have hpt := HPT.out
                  refine ⟨wrap64 (x9 + 1), (by first | rfl | (simp; done)), ⟨j + 1, qs2, EW.out, EJ.out, hl2, ?_, ?_⟩⟩
                  · have h3 := congrArg (List.take r) ht2
                    rw [List.take_take, List.take_take, Nat.min_eq_left (by omega), hrt, List.take_set_of_le (Nat.le_refl _), HQT.out] at h3
                    exact h3
                  · rw [hpt, List.append_assoc] at hs5
                    rw [ES.out, ONE.out]
                    exact hs5
            · have c3f : cell l r xn = false := by simpa using c3
              rw [c3f] at A1
              have NIL := Aside0.mk (show colWays l r t pre (waysFrom l C d (r + 1)) x9 = [] by have := HXN.out; unfold colWays; rw [if_neg (by omega), if_neg (by rw [HXN.out]; simp [c3f])])
              clear c3 c3f BT hsh
              go_wp2_with (first | (go_at_call 100; (refine (impl_Board_has.calls RI CI _ _ l rI x9 false _ ?side1 ?side2 A1.out).mono ?_); (case side1 => exact HL.out _ _ _ HS2.out); (case side2 => exact HC0.out); rintro e w2 ⟨rfl, hb2⟩; have HS3 := Aside0.mk (MVB.out _ _ _ _ HS2.out hb2); clear hb2))
              go_roundg k1
              case measure => omega
              case rel => exact ⟨wrap64 (x9 + 1), (by first | rfl | (simp; done)), ⟨j + 1, qs, EW.out, EJ.out, HQL.out, HQT.out, by rw [ES.out, NIL.out, List.append_nil]; exact HS3.out⟩⟩
          · have c2b : decide (0 ≤ x9) = false := decide_eq_false c2
            have ONE := Aside0.mk (show colWays l r t pre (waysFrom l C d (r + 1)) x9 = waysFrom l C d (r + 1) t (pre ++ [x9]) by unfold colWays; rw [if_pos (by omega)])
            clear c2
            have z5 : wr.cell? ⟨k.p, 0, none⟩ = some (.slice (some ⟨k.a, 0, none⟩) R cp) := (blk_cell HS2.out.cP 0).trans rfl
            obtain ⟨z6, f6⟩ := Kd.R_celln 0 HS2.out.cA rI (of_eq_true plt) (of_eq_true plt2)
            have HRT := Aside0.mk (show rI.toNat = r by rw [HR.out]; rfl)
            have HPT := Aside0.mk (show (qs.set rI.toNat x9).take (r + 1) = pre ++ [x9] by have hrl : r < qs.length := (by have := HQL.out; have := HRD.out; omega); rw [HRT.out, List.take_add_one, List.take_set_of_le (Nat.le_refl _), HQT.out]; simp [hrl])
            have NXT := Aside0.mk (show ∀ a q b, waysFrom l C d (r + 1) t ((qs.set rI.toNat x9).take (r + 1)) = a ++ q :: b → P ((vis ++ (iota (-1) j).flatMap (colWays l r t pre (waysFrom l C d (r + 1)))) ++ a) q from fun a q b hq => by rw [HPT.out, ← ONE.out] at hq; rw [List.append_assoc]; exact HPP.out _ q (b ++ (iota (x9 + 1) (C + 1 - j - 1)).flatMap (colWays l r t pre (waysFrom l C d (r + 1)))) (by rw [ways_cut l C d r t pre j (by have := HX.out; have := C1.out; have := HCI.out; omega) HX.out, hq, List.append_assoc, List.append_assoc]; rfl))
            go_wp2_with (first | ((with_reducible refine gate_store (t := 3) (p := 46) rfl ?_); refine store_event (t := 3) (p := 46) (v := ?vo) (w1 := (wr.setCell ⟨k.a, rI.toNat, none⟩ (.int .i64 x9))) ?hg ?ho ?hn ?hr ?_; (case ho => rfl); (case hg => rfl); (case hn => rfl); (case hr => first | (go_simp; done) | (go_simp; rfl)); intro w4 hw; have HS4 := Aside0.mk (by rw [hw]; exact MVA.out _ _ _ HS2.out rI x9 : WSt k Inv RI CI R cp l A0 c0 (.func (.func 146) #[] #[cc1, cc2]) (vis ++ (iota (-1) j).flatMap (colWays l r t pre (waysFrom l C d (r + 1)))) (qs.set rI.toNat x9) w4); clear hw; have z7 : w4.cell? ⟨k.r, 0, none⟩ = _ := (blk_cell HS4.out.cR 0).trans rfl) | (go_at_call 160; (refine (IH.out t _ HT.out HT6.out _ (qs.set rI.toNat x9) _ (by rw [List.length_set]; exact HQL.out) NXT.out HS4.out).mono ?_); rintro e w5 ⟨rfl, hex⟩; have HE := Aside0.mk hex; clear hex))
            go_roundg k1
            case measure => omega
            case rel =>
              obtain ⟨qs2, hl2, ht2, hs5⟩ := HE.out
              have hrt := HRT.out
              have hrl : r < qs.length := by have := HQL.out; have := HRD.out; omega
              have hpt := HPT.out
              refine ⟨wrap64 (x9 + 1), (by first | rfl | (simp; done)), ⟨j + 1, qs2, EW.out, EJ.out, hl2, ?_, ?_⟩⟩
              · have h3 := congrArg (List.take r) ht2
                rw [List.take_take, List.take_take, Nat.min_eq_left (by omega), hrt, List.take_set_of_le (Nat.le_refl _), HQT.out] at h3
                exact h3
              · rw [hpt, List.append_assoc] at hs5
                rw [ES.out, ONE.out]
                exact hs5
      · have c1b : decide (x9 < CI) = false := decide_eq_false c1
        have FIN := Aside0.mk (show j = C + 1 by have := HX.out; have := HJ.out; have := HCI.out; omega)
        clear c1
        go_wp2
        first | go_end0 | ((try simp only [Exit.inBlock, Exit.then]); refine bodyPost_ret (results_none rfl _ _ _) rfl ?_)
        exact ⟨rfl, qs, HQL.out, HQT.out, by have := HS2.out; rw [FIN.out] at this; exact this⟩
end
section
variable (Inv : (Nat → Prop) → List (List Int) → World → Prop) (hI : ∀ S vis w w', Inv S vis w → Still S w w' → Inv S vis w') (R C : Nat) (RI CI : Int) (hRI : RI = R) (hCI : CI = C) (l : List Int) (A0 : Option Addr) (c0 : Nat) (hc0 : l.length ≤ c0) (cc1 cc2 : Value)
  (hL : ∀ S vis w, Inv S vis w → Kd.C (Kd.int .i64) w A0 l.length l)
  (hl : l.length = R) (h1R : 1 ≤ R) (hR : R ≤ 6) (hC : C ≤ 6) (hb : ∀ i (hi : i < l.length), 0 ≤ l[i] ∧ l[i] < 2 ^ C) (w0 : World)
  (h0 : ∀ S w, (∀ i, S i → w0.heap.size ≤ i) → Below w0.heap.size w0 w → Inv S [] w)
  (hdo : ∀ S vis ps w a cp, (∀ i, S i → w0.heap.size ≤ i) → (∀ i, S i → i < w.heap.size) → ps.length = R → (∃ b, waysFrom l C R 0 0 [] = vis ++ ps :: b) → S a → Kd.C (Kd.int .i64) w (some ⟨a, 0, none⟩) R ps → R ≤ cp → Inv S vis w →
    Calls Try.prog 146 #[.slice (some ⟨a, 0, none⟩) R cp, cc1, cc2] w fun e w' => e = .returned (.bool true) ∧ Inv S (vis ++ [ps]) w' ∧ (∀ i, S i → i < w.heap.size → w'.heap[i]? = w.heap[i]?))
include hI hRI hCI hc0 hL hl h1R hR hC hb h0 hdo
set_option maxHeartbeats 4000000 in
set_option maxRecDepth 100000 in
theorem walk_calls : Calls Try.prog 142 #[.agg #[.int .i64 RI, .int .i64 CI, .slice A0 l.length c0], .func (.func 146) #[] #[cc1, cc2]] w0 fun e w' => e = .returned (.tuple #[]) ∧ ∃ S, (∀ i, S i → w0.heap.size ≤ i) ∧ Inv S (waysFrom l C R 0 0 []) w' := by
  have KEY : ∀ (k : Blks) (cp : Nat) W, k.Apart → (∀ i, k.has i → w0.heap.size ≤ i) → R ≤ cp → WSt k (Inv k.has) RI CI R cp l A0 c0 (.func (.func 146) #[] #[cc1, cc2]) [] (List.replicate R 0) W →
      Calls Try.prog 160 #[.int .i64 0, .int .i64 0, .pointer (some ⟨k.b, 0, none⟩), .pointer (some ⟨k.d, 0, none⟩), .pointer (some ⟨k.p, 0, none⟩), .pointer (some ⟨k.g, 0, none⟩), .pointer (some ⟨k.r, 0, none⟩)] W fun e w' => e = .returned (.tuple #[]) ∧ ∃ S, (∀ i, S i → w0.heap.size ≤ i) ∧ Inv S (waysFrom l C R 0 0 []) w' := by
    intro k cp W hk hS hcp hst
    have := row_calls k hk (Inv k.has) (hI k.has) R C RI CI hRI hCI l A0 c0 cp hc0 cc1 cc2 (hL k.has) hl hR hC hb (fun vis q => ∃ b, waysFrom l C R 0 0 [] = vis ++ q :: b) (fun vis ps w hps hmem hs => by
      obtain ⟨_, _, hC'⟩ := Kd.R_reads' hs.cA
      rw [hps] at hC'
      have hlt : k.a < w.heap.size := by obtain ⟨cells, hc⟩ := Kd.R_typed hs.cA k.a rfl; exact blk_lt hc
      have hSlt : ∀ i, k.has i → i < w.heap.size := by
        rintro i (rfl | rfl | rfl | rfl | rfl | rfl)
        · exact blk_lt hs.cB
        · exact blk_lt hs.cD
        · exact hlt
        · exact blk_lt hs.cP
        · exact blk_lt hs.cG
        · exact blk_lt hs.cR
      refine (hdo k.has vis ps w k.a cp hS hSlt hps hmem (.inr (.inr (.inl rfl))) hC' hcp hs.inv).mono ?_
      rintro e w' ⟨rfl, hi, hkeep⟩
      refine ⟨rfl, (hkeep _ (.inl rfl) (blk_lt hs.cB)).trans hs.cB, (hkeep _ (.inr (.inl rfl)) (blk_lt hs.cD)).trans hs.cD, Kd.R_step hs.cA (fun i hi _ => by subst hi; exact hkeep _ (.inr (.inr (.inl rfl))) hlt), (hkeep _ (.inr (.inr (.inr (.inl rfl)))) (blk_lt hs.cP)).trans hs.cP, (hkeep _ (.inr (.inr (.inr (.inr (.inl rfl))))) (blk_lt hs.cG)).trans hs.cG, (hkeep _ (.inr (.inr (.inr (.inr (.inr rfl))))) (blk_lt hs.cR)).trans hs.cR, hi⟩)
      R 0 0 0 0 rfl rfl (by omega) (by omega) [] (List.replicate R 0) W (by simp) (fun a q b hq => ⟨b, by simpa using hq⟩) hst
    refine this.mono ?_
    rintro e w' ⟨rfl, ps', _, _, hw⟩
    exact ⟨rfl, k.has, hS, by simpa using hw.inv⟩
  have KX := Lib.hid KEY
  have H0 := Lib.hid h0
  have hu24 := Try.underlying26
  have p1 := Aside0.mk (show 0 ≤ RI by omega)
  have p2 := Aside0.mk (show RI.toNat * 8 ≤ 281474976710656 by omega)
  have p3 := Aside0.mk (show RI.toNat = R by omega)
  have p4 := Aside0.mk h1R
  clear KEY h0 hdo hb hC hR hl hL hc0 hCI hRI hI h1R
  go_enter Try.func142, Try.ntmps142
  go_wp2_with (first
    | ((with_reducible refine gate_dst (N := 2) rfl ?_); refine box_event ?hg (N := 2) ?hd (cs := #[.int .i64 RI, .int .i64 CI, .slice A0 l.length c0]) (t := 26) ?hr ?_; (case hd => rfl); (case hg => rfl); (case hr => first | (go_simp; done) | (go_simp; rfl)); intro gb hg w1 hbox hb; have G1 := Aside0.mk hg; have K1 := Aside0.mk hbox; have B1 := Aside0.mk hb; clear hg hbox hb; have z1 : w1.cell? ⟨gb, 0, none⟩ = some (.int .i64 RI) := (blk_cell K1.out 0).trans rfl)
    | ((with_reducible refine gate_dst (N := 3) rfl ?_); refine box_event ?hg (N := 3) ?hd (cs := #[.func (.func 146) #[] #[cc1, cc2]]) (t := 93) ?hr ?_; (case hd => rfl); (case hg => rfl); (case hr => first | (go_simp; done) | (go_simp; rfl)); intro gd hg w2 hbox hb; have G2 := Aside0.mk hg; have K2 := Aside0.mk hbox; have B2 := Aside0.mk hb; clear hg hbox hb; have z2 : w2.cell? ⟨gb, 0, none⟩ = some (.int .i64 RI) := (blk_cell (blk_below K1.out B2.out) 0).trans rfl)
    | ((with_reducible refine gate_dst (N := 9) rfl ?_); refine Kd.R_make (Kd.int .i64) (w0 := w2) w2.heap.size 3 rfl (N := 9) rfl 24 _ _ rfl RI rfl rfl Try.underlying24 (.int .i64 0) 8 info3 rfl (by decide) (by omega) 0 (ok := fun _ => True) (okp := fun _ => True) rfl (fun _ hk => hk) trivial p1.out p2.out (Below.refl _ _) (Nat.le_refl _) ?_; intro v3 w3 ho3 hb hg_ hnew_; clear hg_ hnew_; rw [p3.out] at ho3; obtain ⟨ga, cp, hv3, hga, hga2, cells3, hc3⟩ := Kd.R_form ho3 (by rw [List.length_replicate]; exact p4.out); rw [List.length_replicate] at hv3; subst hv3; have G3 := Aside0.mk (And.intro hga hga2); have K3 := Aside0.mk hc3; clear hga hga2 hc3; have B3 := Aside0.mk hb; have O3 := Aside0.mk ho3; clear hb ho3)
    | ((with_reducible refine gate_dst (N := 4) rfl ?_); refine box_event ?hg (N := 4) ?hd (cs := #[.slice none 0 0]) (t := 24) ?hr ?_; (case hd => rfl); (case hg => rfl); (case hr => first | (go_simp; done) | (go_simp; rfl)); intro gp hg w4 hbox hb; have G4 := Aside0.mk hg; have K4 := Aside0.mk hbox; have B4 := Aside0.mk hb; clear hg hbox hb)
    | ((with_reducible refine gate_dst (N := 5) rfl ?_); refine box_event ?hg (N := 5) ?hd (cs := #[.bool false]) (t := 4) ?hr ?_; (case hd => rfl); (case hg => rfl); (case hr => first | (go_simp; done) | (go_simp; rfl)); intro gg hg w5 hbox hb; have G5 := Aside0.mk hg; have K5 := Aside0.mk hbox; have B5 := Aside0.mk hb; clear hg hbox hb; have y1 : w5.cell? ⟨gp, 0, none⟩ = some (.slice none 0 0) := (blk_cell (blk_below K4.out B5.out) 0).trans rfl; have f1 : w5.frozen? ⟨gp, 0, none⟩ = false := blk_frozen (blk_below K4.out B5.out) 0)
    | ((with_reducible refine gate_store (t := 24) (p := 4) rfl ?_); refine store_event (t := 24) (p := 4) (v := ?vo) (w1 := (w5.setCell ⟨gp, 0, none⟩ (.slice (some ⟨ga, 0, none⟩) R cp))) ?hg ?ho ?hn ?hr ?_; (case ho => rfl); (case hg => rfl); (case hn => rfl); (case hr => first | (go_simp; done) | (go_simp; rfl)); intro w6 hw; have E6 := Aside0.mk hw; clear hw; have N65 := Aside0.mk (show gg ≠ gp by rw [G5.out]; exact Nat.ne_of_gt (blk_lt K4.out)); have K56 := Aside0.mk (show w6.heap[gg]? = some (.cells #[.bool false] 4 (0, 0)) by rw [E6.out]; exact blk_far K5.out N65.out _); have y2 : w6.cell? ⟨gg, 0, none⟩ = some (.bool false) := (blk_cell K56.out 0).trans rfl; have f2 : w6.frozen? ⟨gg, 0, none⟩ = false := blk_frozen K56.out 0)
    | ((with_reducible refine gate_dst (N := 6) rfl ?_); refine box_event ?hg (N := 6) ?hd (cs := #[.nilFunc]) (t := 129) ?hr ?_; (case hd => rfl); (case hg => rfl); (case hr => first | (go_simp; done) | (go_simp; rfl)); intro gr hg w8 hbox hb; have G8 := Aside0.mk hg; have K8 := Aside0.mk hbox; have B8 := Aside0.mk hb; clear hg hbox hb; have y3 : w8.cell? ⟨gr, 0, none⟩ = some .nilFunc := (blk_cell K8.out 0).trans rfl; have f3 : w8.frozen? ⟨gr, 0, none⟩ = false := blk_frozen K8.out 0)
    | (go_at_call 160; (refine (KX.out ⟨gb, gd, ga, gp, gg, gr⟩ cp _ ?sa ?ss ?sc ?sw).mono ?_); (case sa => (have o1 := blk_lt K1.out; have o2 := G2.out; have o3 := blk_lt K2.out; have o4 := G3.out; have o5 := G4.out; have o6 := blk_lt K4.out; have o7 := G5.out; have o8 := blk_lt K5.out; have o9 : w6.heap.size = w5.heap.size := (by rw [E6.out]; simp [World.setCell]); have o10 : (w6.setCell ⟨gg, 0, none⟩ (.bool true)).heap.size = w6.heap.size := (by simp [World.setCell]); have o11 := G8.out; have o12 := G1.out; constructor <;> (try simp only []) <;> omega)); (case ss => (have o1 := blk_lt K1.out; have o2 := G2.out; have o3 := blk_lt K2.out; have o4 := G3.out; have o5 := G4.out; have o6 := blk_lt K4.out; have o7 := G5.out; have o8 := blk_lt K5.out; have o9 : w6.heap.size = w5.heap.size := (by rw [E6.out]; simp [World.setCell]); have o10 : (w6.setCell ⟨gg, 0, none⟩ (.bool true)).heap.size = w6.heap.size := (by simp [World.setCell]); have o11 := G8.out; have o12 := G1.out; rintro i (rfl | rfl | rfl | rfl | rfl | rfl) <;> (try simp only []) <;> omega)); (case sc => exact (Kd.R_reads' O3.out).2.1); (case sw => (have o1 := blk_lt K1.out; have o2 := G2.out; have o3 := blk_lt K2.out; have o4 := G3.out; have o5 := G4.out; have o6 := blk_lt K4.out; have o7 := G5.out; have o8 := blk_lt K5.out; have o9 : w6.heap.size = w5.heap.size := (by rw [E6.out]; simp [World.setCell]); have o10 : (w6.setCell ⟨gg, 0, none⟩ (.bool true)).heap.size = w6.heap.size := (by simp [World.setCell]); have o11 := G8.out; have o12 := G1.out; have q1 := blk_below (blk_below (blk_below (blk_below K1.out B2.out) B3.out) B4.out) B5.out; have q2 := blk_below (blk_below (blk_below K2.out B3.out) B4.out) B5.out; have q3 := Kd.R_below (Kd.R_below (Kd.R_mono (Kd.R_lower (Kd.R_tight rfl O3.out) (Nat.zero_le _)) (fun i hi => (by simpa [Value.ownBlock] using hi : i = ga))) B4.out) B5.out; have q4 := blk_below K4.out B5.out; have e1 : gb ≠ gp := (by omega); have e2 : gd ≠ gp := (by omega); have e3 : ga ≠ gp := (by omega); have e4 : gb ≠ gg := (by omega); have e5 : gd ≠ gg := (by omega); have e6 : ga ≠ gg := (by omega); have e7 : gp ≠ gg := (by omega); have e8 : gb ≠ gr := (by omega); have e9 : gd ≠ gr := (by omega); have e10 : ga ≠ gr := (by omega); have e11 : gp ≠ gr := (by omega); have e12 : gg ≠ gr := (by omega); have b5 : Below w0.heap.size w0 w5 := (((B1.out.trans (B2.out.mono (by omega))).trans (B3.out.mono (by omega))).trans (B4.out.mono (by omega))).trans (B5.out.mono (by omega)); have b7 : Below w0.heap.size w0 (w6.setCell ⟨gg, 0, none⟩ (.bool true)) := (by refine Below.setCell ?_ (by (try simp only []); omega) _; rw [E6.out]; exact Below.setCell b5 (by (try simp only []); omega) _); have b9 : Below w0.heap.size w0 (w8.setCell ⟨gr, 0, none⟩ (.func (.func 160) #[] #[.pointer (some ⟨gb, 0, none⟩), .pointer (some ⟨gd, 0, none⟩), .pointer (some ⟨gp, 0, none⟩), .pointer (some ⟨gg, 0, none⟩), .pointer (some ⟨gr, 0, none⟩)])) := (by exact Below.setCell (b7.trans (B8.out.mono (by omega))) (by (try simp only []); omega) _); exact ⟨(by refine blk_far (blk_below ?_ B8.out) e8 _; rw [E6.out]; exact blk_far (blk_far q1 e1 _) e4 _), (by refine blk_far (blk_below ?_ B8.out) e9 _; rw [E6.out]; exact blk_far (blk_far q2 e2 _) e5 _), (by refine Kd.R_far (Kd.R_below ?_ B8.out) (fun i hi => (by rw [hi]; exact e10)) _; rw [E6.out]; exact Kd.R_far (Kd.R_far q3 (fun i hi => (by rw [hi]; exact e3)) _) (fun i hi => (by rw [hi]; exact e6)) _), (by refine blk_far (blk_below ?_ B8.out) e11 _; rw [E6.out]; exact blk_far (blk_put q4 0 _ rfl) e7 _), (by refine blk_far (blk_below ?_ B8.out) e12 _; rw [E6.out]; exact blk_put (blk_far K5.out e7.symm _) 0 _ rfl), (by exact blk_put K8.out 0 _ rfl), H0.out _ _ (by rintro i (rfl | rfl | rfl | rfl | rfl | rfl) <;> (try simp only []) <;> omega) b9⟩)); rintro e w10 ⟨rfl, hfin⟩))
  first | go_end0 | ((try simp only [Exit.inBlock, Exit.then]); refine bodyPost_ret (results_none rfl _ _ _) rfl ?_)
  exact ⟨rfl, hfin⟩
end
end Go.Proofs.Ytgnmcfoenmfhcaa.WalkWith
end
section
namespace Go.Proofs.Ytgnmcfoenmfhcaa.WithK
set_option linter.unusedVariables false
set_option linter.unusedSectionVars false
open Go.RowKit Go.Proofs.YtgnmcfoenmfhcaaW.PrintWords Go.Proofs.YtgnmcfoenmfhcaaW.PrintLast Go.Proofs.YtgnmcfoenmfhcaaW.PrintMore
open Go.Proofs.YtgnmcfoenmfhcaaL Go.Proofs.Ytgnmcfoenmfhcaa.LawK Go.Proofs.Ytgnmcfoenmfhcaa.BoardK Go.Proofs.Ytgnmcfoenmfhcaa.Walk Go.Proofs.Ytgnmcfoenmfhcaa.Q
section
variable (hI kI : Int) (R cp a gk go kk : Nat) (ps : List Int) (w : World)
  (hps : ps.length = R) (hcp : R ≤ cp) (hr : Kd.C (Kd.int .i64) w (some ⟨a, 0, none⟩) R ps)
  (hgk : w.heap[gk]? = some (.cells #[.int .i64 kI] 3 (0, 0)))
  (hh : impl_rooks.f kk ps = some hI)
include hps hcp hr hgk hh
set_option maxHeartbeats 4000000 in
set_option maxRecDepth 100000 in
theorem wi1_skip (hne : hI ≠ kI) : Calls Try.prog 146 #[.slice (some ⟨a, 0, none⟩) R cp, .pointer (some ⟨gk, 0, none⟩), .pointer (some ⟨go, 0, none⟩)] w
    fun e w' => e = .returned (.bool true) ∧ Below w.heap.size w w' := by
  have CX := Lib.hid (fun (W : World) (hb : Below w.heap.size w W) => by
    have := impl_rooks.calls kk (some ⟨a, 0, none⟩) cp ps hI W (by rw [hps]; exact Kd.C_below hr hb) (by rw [hps]; exact hcp) hh
    rw [hps] at this
    have h2 : Calls Try.prog 97 #[.slice (some ⟨a, 0, none⟩) R cp] W fun e w' => e = .returned (.int .i64 hI) ∧ Below w.heap.size w w' := this.mono (by rintro e w' ⟨rfl, h3⟩; exact ⟨rfl, hb.trans (h3.below.mono hb.size)⟩)
    exact h2)
  have c1 : (hI == kI) = false := beq_eq_false_iff_ne.mpr hne
  have BK := Aside0.mk hgk
  have hz5 : w.cell? ⟨gk, 0, none⟩ = some (.int .i64 kI) := (blk_cell hgk 0).trans rfl
  clear hps hcp hr hgk hh hne
  go_enter Try.func146, Try.ntmps146
  go_wp2
  go_region_with (go_at_call 97; refine (CX.out _ (by repeat (first | exact Below.refl _ _ | apply below_drew1 | apply pw_below_drewN))).mono ?_; rintro e w2 ⟨rfl, hb⟩; have hb2 := Aside0.mk hb; have hz6 : w2.cell? ⟨gk, 0, none⟩ = some (.int .i64 kI) := (blk_cell (blk_below BK.out hb) 0).trans rfl; clear hb)
  all_goals go_wp2
  all_goals go_ret
  all_goals exact ⟨rfl, hb2.out⟩
end
section
variable (hI : Int) (R cp a gk go kk bs : Nat) (ps : List Int) (out : List (List Int)) (v : Value) (OKP : Nat → Prop) (w : World)
  (hps : ps.length = R) (hR6 : R ≤ 6) (hcp : R ≤ cp) (hr : Kd.C (Kd.int .i64) w (some ⟨a, 0, none⟩) R ps)
  (hgk : w.heap[gk]? = some (.cells #[.int .i64 hI] 3 (0, 0)))
  (hgo : w.heap[go]? = some (.cells #[v] 61 (0, 0))) (hng : ∀ k, OKP k → k ≠ go) (hbs : bs ≤ w.heap.size) (hnew : ∀ k, w.heap.size ≤ k → OKP k)
  (ho : Kd.S (Kd.slice 3 (Kd.int .i64)) 24 w bs OKP v out) (hol : out.length ≤ 1000000)
  (hh : impl_rooks.f kk ps = some hI)
include hps hR6 hcp hr hgk hgo hng hbs hnew ho hol hh
set_option maxHeartbeats 8000000 in
set_option maxRecDepth 100000 in
theorem wi1_take : Calls Try.prog 146 #[.slice (some ⟨a, 0, none⟩) R cp, .pointer (some ⟨gk, 0, none⟩), .pointer (some ⟨go, 0, none⟩)] w
    fun e w' => e = .returned (.bool true) ∧ ∃ v', w'.heap[go]? = some (.cells #[v'] 61 (0, 0)) ∧ Kd.S (Kd.slice 3 (Kd.int .i64)) 24 w' bs OKP v' (out ++ [ps]) ∧ Still (fun k => k = go ∨ OKP k) w w' := by
  have CX := Lib.hid (fun (W : World) (hb : Below w.heap.size w W) => by
    have := impl_rooks.calls kk (some ⟨a, 0, none⟩) cp ps hI W (by rw [hps]; exact Kd.C_below hr hb) (by rw [hps]; exact hcp) hh
    rw [hps] at this
    have h2 : Calls Try.prog 97 #[.slice (some ⟨a, 0, none⟩) R cp] W fun e w' => e = .returned (.int .i64 hI) ∧ Below w.heap.size w w' := this.mono (by rintro e w' ⟨rfl, h3⟩; exact ⟨rfl, hb.trans (h3.below.mono hb.size)⟩)
    exact h2)
  have CC := Lib.hid (fun (W : World) (hb : Below w.heap.size w W) => by
    have := slices_Clone_int_int.calls (some ⟨a, 0, none⟩) cp ps ps W (by rw [hps]; exact Kd.C_below hr hb) (by rw [hps]; exact hcp) (by rw [slices_Clone_int_int.f, if_pos (by omega)])
    rw [hps] at this
    have h2 : Calls Try.prog 96 #[.slice (some ⟨a, 0, none⟩) R cp] W fun e w' => ∃ v0_ : Value, e = .returned v0_ ∧ Kd.R (Kd.int .i64) 3 w' w.heap.size (fun _ => True) v0_ ps ∧ Below w.heap.size w w' := this.mono (by rintro e w' ⟨v0, rfl, h3, h4⟩; exact ⟨v0, rfl, Kd.R_lower h3 hb.size, hb.trans (h4.mono hb.size)⟩)
    exact h2)
  have BK := Aside0.mk hgk
  have BO := Aside0.mk hgo
  have HS := Aside0.mk ho
  have HN := Lib.hid hnew
  have HL := Aside0.mk hol
  have HBS := Aside0.mk hbs
  have HGL := Lib.hid hng
  have hz5 : w.cell? ⟨gk, 0, none⟩ = some (.int .i64 hI) := (blk_cell hgk 0).trans rfl
  clear hps hR6 hcp hr hgk hgo hh hnew ho hol hbs hng
  go_enter Try.func146, Try.ntmps146
  go_wp2
  go_region_with (go_at_call 97; refine (CX.out _ (by repeat (first | exact Below.refl _ _ | apply below_drew1 | apply pw_below_drewN))).mono ?_; rintro e w2 ⟨rfl, hb⟩; have hb2 := Aside0.mk hb; have hz6 : w2.cell? ⟨gk, 0, none⟩ = some (.int .i64 hI) := (blk_cell (blk_below BK.out hb) 0).trans rfl; have hz7 : w2.cell? ⟨go, 0, none⟩ = some v := (blk_cell (blk_below BO.out hb) 0).trans rfl; have hf7 : w2.frozen? ⟨go, 0, none⟩ = false := blk_frozen (blk_below BO.out hb) 0; clear hb)
  all_goals go_wp2
  all_goals clear hz5 hz6
  all_goals go_region_law (first | (refine Kd.S_append_step (Kd.slice 3 (Kd.int .i64)) (w0 := w) bs (by kernel_rfl) (.tmp 9) (.tmp 12) 61 24 (.slice none 0 0) 24 (by rfl) Try.underlying61 info24 rfl (by decide) (by decide) v out ps [.slice A3 ps.length c3] OKP (fun k => some k = (Value.slice A3 ps.length c3).ownBlock) (by rfl) (by rfl) ?x1 ?x2 ?x3 ?x4 ?x5 ?x6 ?x7 ?_; (case x1 => exact ⟨_, rfl, (by (with_reducible repeat (first | apply Kd.R_alloc | apply Kd.R_drewN | apply Kd.R_drew)); exact Kd.R_tight rfl (Kd.R_lower H3.out HBS.out))⟩); (case x2 => exact fun k hk => (have h1 := Kd.R_base H3.out k hk.symm; ⟨HN.out k h1, fun he => (by have h2 := Kd.S_lt HS.out k he.symm; omega)⟩)); (case x3 => exact fun k hk => HN.out k (Nat.le_trans hb3.out.size hk)); (case x4 => ((with_reducible repeat (first | apply Kd.S_alloc | apply Kd.S_drewN | apply Kd.S_drew)); exact Kd.S_mono (Kd.S_below (Kd.S_bound HS.out) hb3.out) (fun k hk => ⟨hk.1, fun he => (by have h1 := Kd.R_base H3.out k he.symm; have h2 := hk.2.2.1; omega)⟩))); (case x5 => exact (by repeat (first | (with_reducible first | exact hb3.out.mono HBS.out | apply pw_below_drewN | apply below_drew1) | exact hb3.out.mono HBS.out))); (case x6 => exact Nat.le_trans HBS.out hb3.out.size); (case x7 => (have := HL.out; omega)); intro v4 w4 hs4 hb4 hg4 hat4; obtain ⟨A4, c4, rfl⟩ := Kd.S_slice hs4; have K4 := Aside0.mk (blk_grown (g := go) (o := .cells #[v] 61 (0, 0)) (by (with_reducible repeat (first | refine blk_drewN ?_ _ | refine blk_drew ?_ | refine blk_alloc ?_ _)); exact blk_below BO.out hb3.out) hg4 (fun he => HGL.out go ((Kd.S_R HS.out).1 go he.symm) rfl)); have S4 := Aside0.mk hs4; have B4 := Aside0.mk hb4; have G4 := Aside0.mk hg4; have T4 := Aside0.mk hat4; have hz9 : w4.cell? ⟨go, 0, none⟩ = some v := (blk_cell K4.out 0).trans rfl; have hf9 : w4.frozen? ⟨go, 0, none⟩ = false := blk_frozen K4.out 0; clear hs4 hb4 hg4 hat4) | (rw [if_pos (by kernel_rfl)]; go_wp2_with (go_at_call 96; refine (CC.out _ (by repeat (first | exact hb2.out | exact Below.refl _ _ | apply below_drew1 | apply pw_below_drewN))).mono ?_; rintro e w3 ⟨v3, rfl, ho3, hb⟩; obtain ⟨A3, c3, rfl⟩ := Kd.R_slice ho3; have hb3 := Aside0.mk hb; have H3 := Aside0.mk ho3; have hz8 : w3.cell? ⟨go, 0, none⟩ = some v := (blk_cell (blk_below BO.out hb) 0).trans rfl; have hz8a : (w3.alloc (Obj.cells #[Value.slice A3 ps.length c3] 24)).cell? ⟨go, 0, none⟩ = some v := (blk_cell (blk_alloc (blk_below BO.out hb) _) 0).trans rfl; have hf8 : w3.frozen? ⟨go, 0, none⟩ = false := blk_frozen (blk_below BO.out hb) 0; clear hb ho3)))
  all_goals go_wp2
  all_goals go_ret
  all_goals have S5 := Kd.S_far (p := ⟨go, 0, none⟩) (Kd.S_bound S4.out) (fun k hk => HGL.out k hk.1) (.slice A4 (out ++ [ps]).length c4)
  all_goals rw [show (out ++ [ps]).length = out.length + 1 by simp] at S5
  all_goals replace S5 := Kd.S_mono (ok' := OKP) S5 (fun _ hk => hk.1)
  all_goals exact ⟨rfl, _, blk_put K4.out 0 _ rfl, S5, ⟨Kept.setCell (Kept.of_grown G4.out (by repeat (first | (with_reducible first | exact Kept.of_below hb3.out _ | apply Kept.alloc | apply Kept.drewN | apply Kept.drew) | exact Kept.of_below hb3.out _)) (fun k hk => .inl (.inr ((Kd.S_R HS.out).1 k hk)))) (.inl (.inl rfl)) _, B4.out.os, B4.out.tape, B4.out.output⟩⟩
end
end Go.Proofs.Ytgnmcfoenmfhcaa.WithK
end
section
namespace Go.Proofs.Ytgnmcfoenmfhcaa.Q
set_option linter.unusedVariables false
open Go.RowKit Go.Proofs.YtgnmcfoenmfhcaaW.PrintWords Go.Proofs.YtgnmcfoenmfhcaaW.PrintLast Go.Proofs.YtgnmcfoenmfhcaaW.PrintMore
open Go.Proofs.YtgnmcfoenmfhcaaL Go.Proofs.Ytgnmcfoenmfhcaa.LawK Go.Proofs.Ytgnmcfoenmfhcaa.BoardK Go.Proofs.Ytgnmcfoenmfhcaa.Walk Go.Proofs.Ytgnmcfoenmfhcaa.WithK
def withs (k : Int) (vis : List (List Int)) : List (List Int) := vis.filter (fun p => decide (((rooksN p : Nat) : Int) = k))
def impl_Board_with.f (a0_0 : Int) (a0_1 : Int) (l0_2 : List Int) (a1 : Int) : Option (List (List Int)) := if isBoardB a0_0 a0_1 l0_2 = true then some (withs a1 (waysFrom l0_2 a0_1.toNat l0_2.length 0 0 [])) else none
def OkI (n : Nat) (S : Nat → Prop) (go gk i : Nat) : Prop := n ≤ i ∧ ¬ S i ∧ i ≠ go ∧ i ≠ gk
structure IInv (kI : Int) (gk go : Nat) (w0 W : World) (S : Nat → Prop) (vis : List (List Int)) (w : World) : Prop where
  k : w.heap[gk]? = some (.cells #[.int .i64 kI] 3 (0, 0))
  o : ∃ v, w.heap[go]? = some (.cells #[v] 61 (0, 0)) ∧ Kd.S (Kd.slice 3 (Kd.int .i64)) 24 w w0.heap.size (OkI w0.heap.size S go gk) v (withs kI vis)
  B : Below w0.heap.size w0 w
  s : ∀ i, S i → W.heap.size ≤ i
theorem ways6 {l : List Int} {R C : Nat} (hR : R ≤ 6) (hC : C ≤ 6) : (waysFrom l C R 0 0 []).length ≤ 117649 := by
  have h1 := ways_len l C R 0 0 []
  have h2 : (C + 1) ^ R ≤ 7 ^ 6 := Nat.le_trans (Nat.pow_le_pow_left (by omega) _) (Nat.pow_le_pow_right (by decide) hR)
  have h3 : (7 : Nat) ^ 6 = 117649 := by decide
  omega
set_option maxHeartbeats 8000000 in
set_option maxRecDepth 100000 in
theorem impl_Board_with.calls (a0_0 a0_1 : Int) (A0_2 : Option Addr) (c0_2 : Nat) (l0_2 : List Int) (a1 : Int) (r : List (List Int)) (w : World) (hr0_2 : Kd.C (Kd.int .i64) w A0_2 l0_2.length l0_2) (hc0_2 : l0_2.length ≤ c0_2) (h : impl_Board_with.f a0_0 a0_1 l0_2 a1 = some r) :
    Calls Try.prog 133 #[.agg #[.int .i64 a0_0, .int .i64 a0_1, .slice A0_2 l0_2.length c0_2], .int .i64 a1] w fun e w' => ∃ v0_ : Value, e = .returned (v0_) ∧ Kd.S (Kd.slice 3 (Kd.int .i64)) 24 w' w.heap.size (fun _ => True) v0_ r ∧ Below w.heap.size w w' := by
  by_cases hs : isBoardB a0_0 a0_1 l0_2 = true
  rotate_left
  · rw [impl_Board_with.f, if_neg hs] at h; cases h
  rw [impl_Board_with.f, if_pos hs] at h
  have h := Option.some.inj h
  obtain ⟨R, C, rfl, rfl, hlR, h1R, hR, h1C, hC, hbits⟩ := board_of hs
  rw [Int.toNat_natCast, hlR] at h
  have KEY : ∀ (W : World) (gk go : Nat), Below w.heap.size w W → w.heap.size ≤ go → w.heap.size ≤ gk → go ≠ gk → go < W.heap.size → gk < W.heap.size →
      IInv a1 gk go w W (fun _ => False) [] W →
      Calls Try.prog 142 #[.agg #[.int .i64 (R : Int), .int .i64 (C : Int), .slice A0_2 l0_2.length c0_2], .func (.func 146) #[] #[.pointer (some ⟨gk, 0, none⟩), .pointer (some ⟨go, 0, none⟩)]] W fun e w' => e = .returned (.tuple #[]) ∧
        ∃ v, w'.heap[go]? = some (.cells #[v] 61 (0, 0)) ∧ Kd.S (Kd.slice 3 (Kd.int .i64)) 24 w' w.heap.size (fun _ => True) v r ∧ Below w.heap.size w w' := by
    intro W gk go hBW bo bk nok lo lk hst
    refine (WalkWith.walk_calls (IInv a1 gk go w W)
      (by
        intro S vis w1 w2 hi hs1
        have kp : ∀ g, g < W.heap.size → ∀ {o}, w1.heap[g]? = some o → w2.heap[g]? = some o := fun g hg o ho => (hs1.kept.2 g (blk_lt ho) (fun h => by have := hi.s g h; omega)).trans ho
        obtain ⟨v, ho1, ho2⟩ := hi.o
        exact ⟨kp gk lk hi.k, ⟨v, kp go lo ho1, Kd.S_step ho2 (fun i hi' hlt => hs1.kept.2 i hlt hi'.2.1)⟩, Still.below hi.B hs1 (fun i h => Nat.le_trans hBW.size (hi.s i h)), hi.s⟩)
      R C R C rfl rfl l0_2 A0_2 c0_2 hc0_2 (.pointer (some ⟨gk, 0, none⟩)) (.pointer (some ⟨go, 0, none⟩))
      (fun S vis w1 hi => Kd.C_below hr0_2 hi.B)
      hlR h1R hR hC hbits W
      (by
        intro S w1 hS hB1
        obtain ⟨v, ho1, ho2⟩ := hst.o
        exact ⟨blk_below hst.k hB1, ⟨v, blk_below ho1 hB1, Kd.S_below (Kd.S_mono (Kd.S_bound ho2) (fun i hi' => ⟨hi'.1.1, fun h => by have := hS i h; have := hi'.2.2.1; omega, hi'.1.2.2⟩)) hB1⟩, hBW.trans (hB1.mono hBW.size), hS⟩)
      (by
        intro S vis ps w1 a cp hS hSlt hps hmem hSa hC2 hcp hi
        obtain ⟨kk, hk⟩ := rooks_f (l := ps) (by omega)
        obtain ⟨v, ho1, ho2⟩ := hi.o
        by_cases e : ((rooksN ps : Nat) : Int) = a1
        · have hvl : (withs a1 vis).length ≤ 1000000 := by
            obtain ⟨b, hb2⟩ := hmem
            have h1 := ways6 (l := l0_2) hR hC
            have h2 : (withs a1 vis).length ≤ vis.length := List.length_filter_le _ _
            rw [hb2, List.length_append] at h1
            omega
          have hgk2 := hi.k
          rw [← e] at hgk2
          refine (wi1_take ((rooksN ps : Nat) : Int) R cp a gk go kk w.heap.size ps (withs a1 vis) v (OkI w.heap.size S go gk) w1 hps hR hcp hC2 hgk2 ho1 (fun k h => h.2.2.1) hi.B.size (fun k hk' => ⟨Nat.le_trans hi.B.size hk', fun h => by have := hSlt k h; omega, fun h => by have := blk_lt ho1; omega, fun h => by have := blk_lt hi.k; omega⟩) ho2 hvl hk).mono ?_
          rintro e' w2 ⟨rfl, v', ho3, ho4, hst2⟩
          have kp : ∀ g, g ≠ go → ¬ OkI w.heap.size S go gk g → ∀ {o}, w1.heap[g]? = some o → w2.heap[g]? = some o := fun g hg hn o ho => (hst2.kept.2 g (blk_lt ho) (fun h => h.elim hg hn)).trans ho
          refine ⟨rfl, ⟨kp gk (Ne.symm nok) (fun h => h.2.2.2 rfl) hi.k, ⟨v', ho3, ?_⟩, Still.below hi.B hst2 ?_, hi.s⟩, fun i hSi hlt => ?_⟩
          · unfold withs at ho4 ⊢
            rw [List.filter_append, List.filter_cons, if_pos (decide_eq_true e), List.filter_nil]
            exact ho4
          · rintro i (rfl | h)
            · exact bo
            · exact h.1
          · exact hst2.kept.2 i hlt (fun h => h.elim (fun h => by have := hi.s i hSi; omega) (fun h => h.2.1 hSi))
        · refine (wi1_skip ((rooksN ps : Nat) : Int) a1 R cp a gk go kk ps w1 hps hcp hC2 hi.k hk e).mono ?_
          rintro e' w2 ⟨rfl, hb2⟩
          refine ⟨rfl, ⟨blk_below hi.k hb2, ⟨v, blk_below ho1 hb2, ?_⟩, hi.B.trans (hb2.mono hi.B.size), hi.s⟩, fun i hSi hlt => hb2.block i hlt⟩
          unfold withs at ho2 ⊢
          rw [List.filter_append, List.filter_cons, if_neg (by simpa using e), List.filter_nil, List.append_nil]
          exact Kd.S_below ho2 hb2)).mono ?_
    rintro e w' ⟨rfl, S, hS, hi⟩
    obtain ⟨v, ho1, ho2⟩ := hi.o
    exact ⟨rfl, v, ho1, by rw [← h]; exact Kd.S_mono ho2 (fun _ _ => trivial), hi.B⟩
  have KX := Lib.hid KEY
  have hu24 := Try.underlying26
  clear KEY h hs hlR h1R hR h1C hC hbits hr0_2 hc0_2
  generalize (R : Int) = RI at *
  generalize (C : Int) = CI at *
  go_enter Try.func133, Try.ntmps133
  go_wp2_with (first
    | ((with_reducible refine gate_dst (N := 2) rfl ?_); refine box_event ?hg (N := 2) ?hd (cs := #[.int .i64 RI, .int .i64 CI, .slice A0_2 l0_2.length c0_2]) (t := 26) ?hr ?_; (case hd => rfl); (case hg => rfl); (case hr => first | (go_simp; done) | (go_simp; rfl)); intro gb hg w1 hbox hb; have G1 := Aside0.mk hg; have K1 := Aside0.mk hbox; have B1 := Aside0.mk hb; clear hg hbox hb)
    | ((with_reducible refine gate_dst (N := 3) rfl ?_); refine box_event ?hg (N := 3) ?hd (cs := #[.int .i64 a1]) (t := 3) ?hr ?_; (case hd => rfl); (case hg => rfl); (case hr => first | (go_simp; done) | (go_simp; rfl)); intro gk hg w2 hbox hb; have G2 := Aside0.mk hg; have K2 := Aside0.mk hbox; have K2b := Aside0.mk (blk_below K1.out hb); have B2 := Aside0.mk hb; clear hg hbox hb)
    | ((with_reducible refine gate_dst (N := 6) rfl ?_); refine Kd.S_lit (Kd.slice 3 (Kd.int .i64)) _ 24 ?hg (N := 6) ?hd (xs := ([] : List (List Int))) (inner := []) (ok := fun _ => True) (okp := fun _ => True) ?hr ?hp (fun _ hk => hk) trivial (Below.refl _ _) (Nat.le_refl _) (by simp) ?_; (case hd => rfl); (case hg => rfl); (case hr => first | (go_simp; done) | (go_simp; rfl)); (case hp => exact (Reps.none _ _)); intro v5 w5 ho5 hb hg_ hnew_; clear hg_ hnew_; obtain ⟨A5, c5, hv5⟩ := Kd.S_slice ho5; have hv6 : v5 = .slice A5 0 c5 := hv5; clear hv5; subst hv6; have O5 := Aside0.mk ho5; have K5 := Aside0.mk (blk_below K2.out hb); have K5b := Aside0.mk (blk_below K2b.out hb); have B5 := Aside0.mk hb; have L5 := Aside0.mk (And.intro (blk_lt K2.out) (blk_lt K2b.out)); clear ho5 hb)
    | ((with_reducible refine gate_dst (N := 5) rfl ?_); refine box_event ?hg (N := 5) ?hd (cs := #[.slice none 0 0]) (t := 61) ?hr ?_; (case hd => rfl); (case hg => rfl); (case hr => first | (go_simp; done) | (go_simp; rfl)); intro go hg w6 hbox hb; have G6 := Aside0.mk hg; have K6 := Aside0.mk hbox; have B6 := Aside0.mk hb; clear hg hbox hb; have y1 : w6.cell? ⟨go, 0, none⟩ = some (.slice none 0 0) := (blk_cell K6.out 0).trans rfl; have f1 : w6.frozen? ⟨go, 0, none⟩ = false := blk_frozen K6.out 0; have nbo := Aside0.mk (show gb ≠ go from Nat.ne_of_lt (by rw [G6.out]; exact blk_lt K5b.out)); have nko := Aside0.mk (show gk ≠ go from Nat.ne_of_lt (by rw [G6.out]; exact blk_lt K5.out)); have z5 : (w6.setCell ⟨go, 0, none⟩ (.slice A5 0 c5)).cell? ⟨gb, 0, none⟩ = some (.int .i64 RI) := (blk_cell (blk_far (blk_below K5b.out B6.out) nbo.out _) 0).trans rfl; have z6 : (w6.setCell ⟨go, 0, none⟩ (.slice A5 0 c5)).cell? ⟨gb, 1, none⟩ = some (.int .i64 CI) := (blk_cell (blk_far (blk_below K5b.out B6.out) nbo.out _) 1).trans rfl; have z7 : (w6.setCell ⟨go, 0, none⟩ (.slice A5 0 c5)).cell? ⟨gb, 2, none⟩ = some (.slice A0_2 l0_2.length c0_2) := (blk_cell (blk_far (blk_below K5b.out B6.out) nbo.out _) 2).trans rfl)
    | (go_at_call 142; (refine (KX.out _ gk go ?sB ?s1 ?s2 ?s3 ?s4 ?s5 ?s6).mono ?_); (all_goals have o1 := G1.out); (all_goals have o2 := G2.out); (all_goals have o3 := B1.out.size); (all_goals have o4 := B2.out.size); (all_goals have o5 := B5.out.size); (all_goals have o6 := G6.out); (all_goals have o7 := blk_lt K6.out); (all_goals have o8 : ∀ v, (w6.setCell ⟨go, 0, none⟩ v).heap.size = w6.heap.size := (fun v => by simp [World.setCell])); (all_goals have o9 := blk_lt K5.out); (all_goals have bb : Below w.heap.size w (w6.setCell ⟨go, 0, none⟩ (.slice A5 0 c5)) := Below.setCell (((B1.out.trans (B2.out.mono (by omega))).trans (B5.out.mono (by omega))).trans (B6.out.mono (by omega))) (by (try simp only []); omega) _); (case sB => exact bb); (case s1 => omega); (case s2 => omega); (case s3 => exact Ne.symm nko.out); (case s4 => rw [o8]; omega); (case s5 => rw [o8]; have := B6.out.size; omega); (case s6 => exact ⟨blk_far (blk_below K5.out B6.out) nko.out _, ⟨_, blk_put K6.out 0 _ rfl, Kd.S_far (Kd.S_mono (Kd.S_below (Kd.S_lower (Kd.S_bound O5.out) (by omega)) B6.out) (fun i hi => (by have h1 := hi.2.1; have h2 := hi.2.2.1; have h3 := L5.out; exact ⟨by omega, fun h => h, by omega, by omega⟩))) (p := ⟨go, 0, none⟩) (fun k hk => hk.2.2.1) _⟩, bb, fun i hi => hi.elim⟩); clear o1 o2 o3 o4 o5 o6 o7 o8 o9 bb; rintro e w7 ⟨rfl, v7, hf1, hf2, hf3⟩; have F2 := Aside0.mk hf2; have F3 := Aside0.mk hf3; have y7 : w7.cell? ⟨go, 0, none⟩ = some v7 := (blk_cell hf1 0).trans rfl; clear hf1 hf2 hf3))
  go_ret
  exact ⟨_, rfl, F2.out, F3.out⟩
end Go.Proofs.Ytgnmcfoenmfhcaa.Q
end
