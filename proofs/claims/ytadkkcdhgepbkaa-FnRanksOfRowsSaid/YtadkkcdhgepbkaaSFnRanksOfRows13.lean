/- Texts of this claim put together (13): words, what the functions compute, and plain facts. No conditions. -/
import Derived.Test.YtadkkcdhgepbkaaSFnRanksOfRows5
import Derived.Test.YtadkkcdhgepbkaaSFnRanksOfRows4
import Derived.Test.YtadkkcdhgepbkaaSFnRanksOfRows7
import Derived.Outline
import Derived.Lib.Hide
import Derived.Deep.RegionWith
import Derived.Deep.RegionLaw
import Derived.Test.YtadkkcdhgepbkaaSFnRanksOfRows9
import Derived.Test.YtadkkcdhgepbkaaSFnRanksOfRows6
import Derived.Test.YtadkkcdhgepbkaaSFnRanksOfRows10
import Derived.Test.YtadkkcdhgepbkaaSFnRanksOfRows8
import Derived.Test.YtadkkcdhgepbkaaSFnRanksOfRows11
import Derived.OpenShut
section
end
section
namespace Go.Proofs.Ytadkkcdhgepbkaa.DrawK
set_option linter.unusedVariables false
open Go.RowKit Go.Proofs.Ytadkkcdhgepbkaa.Q Go.Proofs.YtadkkcdhgepbkaaW.PrintWords Go.Proofs.YtadkkcdhgepbkaaW.PrintLast Go.Proofs.YtadkkcdhgepbkaaW.PrintMore
open Go.Proofs.YtadkkcdhgepbkaaL Go.Proofs.Ytadkkcdhgepbkaa.LawK Go.Proofs.Ytadkkcdhgepbkaa.BoardK
def Run {α : Type} (g : Nat → Option α) (P : α → Prop) : Prop := ∃ a, Ev g a ∧ P a
theorem Run.now {α : Type} {a : α} {P : α → Prop} (h : P a) : Run (fun _ => some a) P := ⟨a, Ev.now a, h⟩
theorem Run.of {α : Type} {g : Nat → Option α} {a : α} {P : α → Prop} (h : Ev g a) (hp : P a) : Run g P := ⟨a, h, hp⟩
theorem Run.bind {α β : Type} {g : Nat → Option α} {h : Nat → α → Option β} {P : α → Prop} {Q : β → Prop} (h1 : Run g P) (h2 : ∀ a, P a → Run (fun k => h k a) Q) : Run (fun k => (g k).bind (h k)) Q := by
  obtain ⟨a, ha, hp⟩ := h1
  obtain ⟨b, hb, hq⟩ := h2 a hp
  exact ⟨b, Ev.bind ha hb, hq⟩
theorem Run.congr {α : Type} {g g' : Nat → Option α} {P : α → Prop} (e : ∀ k, g k = g' k) (h : Run g' P) : Run g P := by
  obtain ⟨a, ha, hp⟩ := h
  exact ⟨a, Ev.congr e ha, hp⟩
theorem Run.step {α : Type} {g f : Nat → Option α} {P : α → Prop} (e : ∀ k, g (k + 1) = f k) (h : Run f P) : Run g P := by
  obtain ⟨a, ha, hp⟩ := h
  exact ⟨a, Ev.step e ha, hp⟩
theorem Run.mono {α : Type} {g : Nat → Option α} {P Q : α → Prop} (h : Run g P) (hpq : ∀ a, P a → Q a) : Run g Q := by
  obtain ⟨a, ha, hp⟩ := h
  exact ⟨a, ha, hpq a hp⟩
theorem Run.ite {α : Type} {c : Prop} [Decidable c] {g g' : Nat → Option α} {P : α → Prop} (h1 : c → Run g P) (h2 : ¬ c → Run g' P) : Run (fun k => if c then g k else g' k) P := by
  by_cases h : c
  · exact Run.congr (fun k => if_pos h) (h1 h)
  · exact Run.congr (fun k => if_neg h) (h2 h)
def Bytes (l : List Int) : Prop := l.length ≤ 1048576 ∧ ∀ x ∈ l, 0 ≤ x ∧ x ≤ 255
def At (M : Nat) (a : Int) : Prop := 0 ≤ a ∧ a ≤ M ∧ M ≤ 1000000
theorem At.le {M N : Nat} {a : Int} (h : At M a) (hm : M ≤ N) (hn : N ≤ 1000000) : At N a := ⟨h.1, Int.le_trans h.2.1 (by omega), hn⟩
theorem wraps_u64 (n : Int) (h₀ : 0 ≤ n) (h₁ : n < 2 ^ 64) : IntKind.u64.wrap n = n := by rw [IntKind.wrap_u64]; omega
theorem wrap_u64_range (n : Int) : 0 ≤ IntKind.u64.wrap n ∧ IntKind.u64.wrap n < 2 ^ 64 := by rw [IntKind.wrap_u64]; omega
theorem and_255 {x : Int} (h0 : 0 ≤ x) (h1 : x < 2 ^ 64) : 0 ≤ Go.bits .and .u64 x 255 ∧ Go.bits .and .u64 x 255 ≤ 255 := by
  obtain ⟨a, rfl⟩ : ∃ a : Nat, x = a := ⟨x.toNat, by omega⟩
  have h := (bits_nat .u64 64 (by decide) wraps_u64 a 255 (by omega) (by decide)).1
  have h2 : Go.bits .and .u64 (a : Int) 255 = ((a &&& 255 : Nat) : Int) := h
  rw [h2]
  have : a &&& 255 ≤ 255 := Nat.and_le_right
  omega
theorem next_run {code : List Int} (hc : Bytes code) {M : Nat} {a s : Int} (ha : At M a) (hm : M + 1 ≤ 1000000) : ∃ v a' s', spec_l1Cur_next.f code a s = some (v, a', s') ∧ (0 ≤ v ∧ v ≤ 255) ∧ At (M + 1) a' := by
  obtain ⟨h0, h1, h2⟩ := ha
  have w1 := Aside0.mk (show wrap64 (a + 1) = a + 1 from w64 (by omega) (by omega))
  have hA : At (M + 1) (a + 1) := ⟨by omega, by omega, by omega⟩
  have hu : ∀ n : Int, (0 ≤ wrap64 (Go.bits .and .u64 (IntKind.u64.wrap n / 1099511627776) 255) ∧ wrap64 (Go.bits .and .u64 (IntKind.u64.wrap n / 1099511627776) 255) ≤ 255) := by
    intro n
    have h3 := wrap_u64_range n
    generalize IntKind.u64.wrap n = y at h3
    have h4 := and_255 (x := y / 1099511627776) (by omega) (by omega)
    generalize Go.bits .and .u64 (y / 1099511627776) 255 = z at h4
    rw [w64 (by omega) (by omega)]
    exact h4
  unfold spec_l1Cur_next.f
  rw [w1.out]
  by_cases c1 : a < (code.length : Int)
  · have hl := hc.1
    rw [if_pos c1, if_pos h0]
    have hx : 0 ≤ rd code a ∧ rd code a ≤ 255 := by
      unfold rd
      rw [gD_lt _ _ (by omega)]
      exact hc.2 _ (List.getElem_mem _)
    have hv : 0 ≤ wrap64 (rd code a) ∧ wrap64 (rd code a) ≤ 255 := by rw [w64 (by omega) (by omega)]; exact hx
    by_cases c2 : a + 1 ≤ (code.length : Int)
    · rw [if_pos c2]; exact ⟨_, _, _, rfl, hv, hA⟩
    · rw [if_neg c2]; exact ⟨_, _, _, rfl, hu _, hA⟩
  · rw [if_neg c1]
    by_cases c2 : a + 1 ≤ (code.length : Int)
    · rw [if_pos c2]; exact ⟨_, _, _, rfl, ⟨by omega, by omega⟩, hA⟩
    · rw [if_neg c2]; exact ⟨_, _, _, rfl, hu _, hA⟩
theorem pick_run {code : List Int} (hc : Bytes code) {M : Nat} {a s : Int} (ha : At M a) (hm : M + 2 ≤ 1000000) (n : Int) : ∃ v a' s', spec_l1Cur_pick.f code a s n = some (v, a', s') ∧ (0 ≤ v ∧ (v < n ∨ v = 0)) ∧ At (M + 2) a' := by
  unfold spec_l1Cur_pick.f
  by_cases c1 : n ≤ 1
  · rw [if_pos c1]; exact ⟨_, _, _, rfl, ⟨by omega, .inr rfl⟩, ha.le (by omega) hm⟩
  · rw [if_neg c1]
    obtain ⟨v, a1, s1, e1, hv, ha1⟩ := next_run hc (s := s) ha (by omega)
    rw [e1, Option.bind_some]
    by_cases c2 : n > 200
    · rw [if_pos c2]
      obtain ⟨v2, a2, s2, e2, hv2, ha2⟩ := next_run hc (s := s1) ha1 (by omega)
      try simp only []
      rw [e2, Option.bind_some, if_neg (by omega)]
      refine ⟨_, _, _, rfl, ?_, ha2⟩
      try simp only []
      rw [w64 (n := v * 256) (by omega) (by omega), w64 (by omega) (by omega)]
      exact ⟨Int.tmod_nonneg _ (by omega), .inl (Int.tmod_lt_of_pos _ (by omega))⟩
    · rw [if_neg c2, if_neg (by omega)]
      exact ⟨_, _, _, rfl, ⟨Int.tmod_nonneg _ hv.1, .inl (Int.tmod_lt_of_pos _ (by omega))⟩, ha1.le (by omega) (by omega)⟩
theorem one_run {code : List Int} (hc : Bytes code) {M : Nat} {a s : Int} (ha : At M a) (hm : M + 2 ≤ 1000000) (n : Int) : ∃ (v : Bool) (a' s' : Int), spec_l1Cur_one.f code a s n = some (v, a', s') ∧ At (M + 2) a' := by
  obtain ⟨v, a1, s1, e1, hv, ha1⟩ := pick_run hc (s := s) ha hm n
  unfold spec_l1Cur_one.f
  rw [e1, Option.bind_some]
  exact ⟨_, _, _, rfl, ha1⟩
theorem among_run {code : List Int} (hc : Bytes code) {M : Nat} {a s : Int} (ha : At M a) (hm : M + 2 ≤ 1000000) {l : List Int} (hl : l ≠ []) : ∃ v a' s', spec_l1Cur_among.f code a s l = some (v, a', s') ∧ v ∈ l ∧ At (M + 2) a' := by
  obtain ⟨v, a1, s1, e1, hv, ha1⟩ := pick_run hc (s := s) ha hm (l.length : Int)
  have hp : 0 < l.length := List.length_pos_iff.2 hl
  unfold spec_l1Cur_among.f
  rw [e1, Option.bind_some]
  try simp only []
  rw [if_pos hv.1, if_pos (by omega)]
  refine ⟨_, _, _, rfl, ?_, ha1⟩
  unfold rd
  rw [gD_lt _ _ (by omega)]
  exact List.getElem_mem _
theorem sides_run {code : List Int} (hc : Bytes code) {M : Nat} {a s : Int} (ha : At M a) (hm : M + 4 ≤ 1000000) : ∃ v a' s', spec_l1Cur_sides.f code a s = some (v, a', s') ∧ (1 ≤ v ∧ v ≤ 6) ∧ At (M + 4) a' := by
  unfold spec_l1Cur_sides.f
  obtain ⟨b, a1, s1, e1, ha1⟩ := one_run hc (s := s) ha (by omega) 8
  rw [e1, Option.bind_some]
  cases b with
  | true => exact ⟨_, _, _, rfl, ⟨by omega, by omega⟩, ha1.le (by omega) (by omega)⟩
  | false =>
    obtain ⟨v, a2, s2, e2, hv, ha2⟩ := pick_run hc (s := s1) ha1 (by omega) 5
    try simp only []
    rw [if_neg (by simp), e2, Option.bind_some]
    refine ⟨_, _, _, rfl, ?_, ha2⟩
    rw [w64 (by omega) (by omega)]
    omega
theorem pick_R {code : List Int} (hc : Bytes code) {M : Nat} {a s : Int} (ha : At M a) (hm : M + 2 ≤ 1000000) (n : Int) : Run (fun _ => spec_l1Cur_pick.f code a s n) (fun x => (0 ≤ x.1 ∧ (x.1 < n ∨ x.1 = 0)) ∧ At (M + 2) x.2.1) := by
  obtain ⟨v, a1, s1, e1, hv, ha1⟩ := pick_run hc (s := s) ha hm n
  exact ⟨_, Ev.congr (fun _ => e1) (Ev.now _), hv, ha1⟩
theorem one_R {code : List Int} (hc : Bytes code) {M : Nat} {a s : Int} (ha : At M a) (hm : M + 2 ≤ 1000000) (n : Int) : Run (fun _ => spec_l1Cur_one.f code a s n) (fun x => At (M + 2) x.2.1) := by
  obtain ⟨v, a1, s1, e1, ha1⟩ := one_run hc (s := s) ha hm n
  exact ⟨_, Ev.congr (fun _ => e1) (Ev.now _), ha1⟩
theorem among_R {code : List Int} (hc : Bytes code) {M : Nat} {a s : Int} (ha : At M a) (hm : M + 2 ≤ 1000000) {l : List Int} (hl : l ≠ []) : Run (fun _ => spec_l1Cur_among.f code a s l) (fun x => x.1 ∈ l ∧ At (M + 2) x.2.1) := by
  obtain ⟨v, a1, s1, e1, hv, ha1⟩ := among_run hc (s := s) ha hm hl
  exact ⟨_, Ev.congr (fun _ => e1) (Ev.now _), hv, ha1⟩
theorem sides_R {code : List Int} (hc : Bytes code) {M : Nat} {a s : Int} (ha : At M a) (hm : M + 4 ≤ 1000000) : Run (fun _ => spec_l1Cur_sides.f code a s) (fun x => (1 ≤ x.1 ∧ x.1 ≤ 6) ∧ At (M + 4) x.2.1) := by
  obtain ⟨v, a1, s1, e1, hv, ha1⟩ := sides_run hc (s := s) ha hm
  exact ⟨_, Ev.congr (fun _ => e1) (Ev.now _), hv, ha1⟩
end Go.Proofs.Ytadkkcdhgepbkaa.DrawK
end
section
namespace Go.Proofs.Ytadkkcdhgepbkaa.Q
open Go.RowKit Go.Proofs.YtadkkcdhgepbkaaW.PrintWords Go.Proofs.YtadkkcdhgepbkaaW.PrintLast Go.Proofs.YtadkkcdhgepbkaaW.PrintMore
attribute [local go_sem] max2_int min2_int max_two min_two max_three min_three max_four min_four   -- for this text's walks alone
set_option linter.unusedVariables false
set_option linter.unusedSimpArgs false
def slices_Index_int_int.l0 : Nat → List Int → Int → Int → Int → Option (Int)
  | 0, _, _, _, _ => none
  | k + 1, x0, x1, x7, x8 => if x8 < x7 then (if 0 ≤ x8 then (if x8 < (x0.length : Int) then (if x1 = (rd x0 x8) then (some x8) else (slices_Index_int_int.l0 k x0 x1 x7 (wrap64 (x8 + 1)))) else (none)) else (none)) else (some (-1))
def slices_Index_int_int.f (k : Nat) (l0 : List Int) (a1 : Int) : Option (Int) := slices_Index_int_int.l0 k l0 a1 (l0.length : Int) 0
end Go.Proofs.Ytadkkcdhgepbkaa.Q
end
section
namespace Go.Proofs.Ytadkkcdhgepbkaa.Q
open Go.RowKit Go.Proofs.YtadkkcdhgepbkaaW.PrintWords Go.Proofs.YtadkkcdhgepbkaaW.PrintLast Go.Proofs.YtadkkcdhgepbkaaW.PrintMore
attribute [local go_sem] max2_int min2_int max_two min_two max_three min_three max_four min_four   -- for this text's walks alone
set_option linter.unusedVariables false
set_option linter.unusedSimpArgs false
def slices_Contains_int_int.f (k : Nat) (l0 : List Int) (a1 : Int) : Option (Bool) := (slices_Index_int_int.f k l0 a1).bind fun t101 => (some (decide (t101 ≥ 0)))
end Go.Proofs.Ytadkkcdhgepbkaa.Q
end
section
namespace Go.Proofs.Ytadkkcdhgepbkaa.Q
open Go.RowKit Go.Proofs.YtadkkcdhgepbkaaW.PrintWords Go.Proofs.YtadkkcdhgepbkaaW.PrintLast Go.Proofs.YtadkkcdhgepbkaaW.PrintMore
attribute [local go_sem] max2_int min2_int max_two min_two max_three min_three max_four min_four   -- for this text's walks alone
set_option linter.unusedVariables false
set_option linter.unusedSimpArgs false
mutual
def impl_free.l0 : Nat → List Int → Int → List Int → Int → Int → Option (Int)
  | 0, _, _, _, _, _ => none
  | k + 1, x1, x5, x9, x10, x11 => if x11 < x10 then (if 0 ≤ x11 then (if x11 < (x9.length : Int) then (impl_free.l1 k x1 x5 x11 x9 x10 x11 (rd x9 x11) 0) else (none)) else (none)) else (some x5)
def impl_free.l1 : Nat → List Int → Int → Int → List Int → Int → Int → Int → Int → Option (Int)
  | 0, _, _, _, _, _, _, _, _ => none
  | k + 1, x1, x5, x6, x9, x10, x11, x16, x17 => if x17 < x16 then (if 0 ≤ x6 then (if x6 < (x1.length : Int) then (if (rd x1 x6) = (-1) then (if x6 ≤ (x1.length : Int) then ((slices_Contains_int_int.f k (x1.take (x6 : Int).toNat) x17).bind fun t104 => (if t104 = true then (impl_free.l1 k x1 x5 x6 x9 x10 x11 x16 (wrap64 (x17 + 1))) else (impl_free.l1 k x1 (wrap64 (x5 + 1)) x6 x9 x10 x11 x16 (wrap64 (x17 + 1))))) else (none)) else (if (rd x1 x6) ≤ x17 then (impl_free.l1 k x1 x5 x6 x9 x10 x11 x16 (wrap64 (x17 + 1))) else (if x6 ≤ (x1.length : Int) then ((slices_Contains_int_int.f k (x1.take (x6 : Int).toNat) x17).bind fun t107 => (if t107 = true then (impl_free.l1 k x1 x5 x6 x9 x10 x11 x16 (wrap64 (x17 + 1))) else (impl_free.l1 k x1 (wrap64 (x5 + 1)) x6 x9 x10 x11 x16 (wrap64 (x17 + 1))))) else (none)))) else (none)) else (none)) else (impl_free.l0 k x1 x5 x9 x10 (wrap64 (x11 + 1)))
end
def impl_free.f (k : Nat) (l0 : List Int) (l1 : List Int) : Option (Int) := impl_free.l0 k l1 0 l0 (l0.length : Int) 0
end Go.Proofs.Ytadkkcdhgepbkaa.Q
end
section
namespace Go.Proofs.Ytadkkcdhgepbkaa.W1
set_option linter.unusedVariables false
set_option linter.unusedSectionVars false
open Go.RowKit Go.Proofs.YtadkkcdhgepbkaaW.PrintWords Go.Proofs.YtadkkcdhgepbkaaW.PrintLast Go.Proofs.YtadkkcdhgepbkaaW.PrintMore
open Go.Proofs.YtadkkcdhgepbkaaL Go.Proofs.Ytadkkcdhgepbkaa.LawK Go.Proofs.Ytadkkcdhgepbkaa.Q
section
variable (kI eI : Nat) (R cp a gl go bs kk g c1 : Nat) (l ps : List Int) (out : List (List Int)) (A0 : Option Addr) (c0 : Nat) (row : List Int) (OKP : Nat → Prop) (w : World)
  (hps : ps.length = R) (hcp : R ≤ cp) (hc0 : l.length ≤ c0) (hr : Kd.C (Kd.int .i64) w (some ⟨a, 0, none⟩) R ps) (hL : Kd.C (Kd.int .i64) w A0 l.length l)
  (hgl : w.heap[gl]? = some (.cells #[.slice A0 l.length c0] 29 (0, 0))) (hgo : w.heap[go]? = some (.cells #[.slice (some ⟨g, 0, none⟩) out.length c1] 24 (0, 0))) (hng : ∀ k, OKP k → k ≠ go) (hbs : bs ≤ w.heap.size) (hnew : ∀ k, w.heap.size ≤ k → OKP k)
  (ho : Kd.S (Kd.slice 3 (Kd.int .i64)) 29 w bs OKP (.slice (some ⟨g, 0, none⟩) out.length c1) out)
  (hk : kI < out.length) (he : eI ≤ 1000) (hrow : out[kI]? = some row) (hrl : row.length ≤ 1000) (hol : out.length ≤ 1000)
  (hh : impl_rooks.f kk ps = some (kI : Int)) (hf : impl_free.f kk l ps = some (eI : Int))
include hps hcp hc0 hr hL hgl hgo hng hbs hnew ho hk he hrow hrl hol hh hf
end
end Go.Proofs.Ytadkkcdhgepbkaa.W1
end
section
namespace Go.Proofs.Ytadkkcdhgepbkaa.Walk
set_option linter.unusedVariables false
open Go.RowKit Go.Proofs.YtadkkcdhgepbkaaW.PrintWords Go.Proofs.YtadkkcdhgepbkaaW.PrintLast Go.Proofs.YtadkkcdhgepbkaaW.PrintMore
open Go.Proofs.YtadkkcdhgepbkaaL Go.Proofs.Ytadkkcdhgepbkaa.LawK Go.Proofs.Ytadkkcdhgepbkaa.BoardK
structure Blks where (b d a p g r : Nat)
def Blks.has (k : Blks) (i : Nat) : Prop := i = k.b ∨ i = k.d ∨ i = k.a ∨ i = k.p ∨ i = k.g ∨ i = k.r
structure Still (S : Nat → Prop) (w w' : World) : Prop where
  kept : Kept w w' S
  os : w'.os = w.os
  tape : w'.tape = w.tape
  output : w'.output = w.output
theorem Still.refl (S : Nat → Prop) (w : World) : Still S w w := ⟨Kept.refl _ _, rfl, rfl, rfl⟩
theorem Still.of_below {S : Nat → Prop} {w w' : World} (h : Below w.heap.size w w') : Still S w w' := ⟨Kept.of_below h S, h.os, h.tape, h.output⟩
theorem Still.set {S : Nat → Prop} (w : World) {a : Addr} (h : S a.block) (v : Value) : Still S w (w.setCell a v) := ⟨Kept.setCell (Kept.refl _ _) (.inl h) v, rfl, rfl, rfl⟩
theorem Still.drewN {S : Nat → Prop} (w : World) (n : Nat) : Still S w (w.drewN n) := ⟨Kept.drewN (Kept.refl _ _) n, rfl, rfl, rfl⟩
theorem Still.trans {S : Nat → Prop} {a b c : World} (h : Still S a b) (k : Still S b c) : Still S a c := ⟨h.kept.then_ k.kept (fun _ hk => .inl hk), k.os.trans h.os, k.tape.trans h.tape, k.output.trans h.output⟩
theorem Still.below {S : Nat → Prop} {w0 w w' : World} (h : Below w0.heap.size w0 w) (k : Still S w w') (hS : ∀ i, S i → w0.heap.size ≤ i) : Below w0.heap.size w0 w' :=
  ⟨k.os.trans h.os, k.tape.trans h.tape, k.output.trans h.output, Nat.le_trans h.size k.kept.1, fun i hi => (k.kept.2 i (Nat.lt_of_lt_of_le hi h.size) (fun hs => by have := hS i hs; omega)).trans (h.block i hi)⟩
structure WSt (k : Blks) (Inv : List (List Int) → World → Prop) (RI CI : Int) (n cp : Nat) (l : List Int) (A0 : Option Addr) (c0 : Nat) (F : Value) (vis : List (List Int)) (ps : List Int) (w : World) : Prop where
  cB : w.heap[k.b]? = some (.cells #[.int .i64 RI, .int .i64 CI, .slice A0 l.length c0] 73 (0, 0))
  cD : w.heap[k.d]? = some (.cells #[F] 62 (0, 0))
  cA : Kd.R (Kd.int .i64) 3 w 0 (fun i => i = k.a) (.slice (some ⟨k.a, 0, none⟩) n cp) ps
  cP : w.heap[k.p]? = some (.cells #[.slice (some ⟨k.a, 0, none⟩) n cp] 29 (0, 0))
  cG : w.heap[k.g]? = some (.cells #[.bool true] 4 (0, 0))
  cR : w.heap[k.r]? = some (.cells #[.func (.func 82) #[] #[.pointer (some ⟨k.b, 0, none⟩), .pointer (some ⟨k.d, 0, none⟩), .pointer (some ⟨k.p, 0, none⟩), .pointer (some ⟨k.g, 0, none⟩), .pointer (some ⟨k.r, 0, none⟩)]] 81 (0, 0))
  inv : Inv vis w
section
variable {k : Blks} {Inv : List (List Int) → World → Prop} {RI CI : Int} {n cp : Nat} {l : List Int} {A0 : Option Addr} {c0 : Nat} {F : Value} {vis : List (List Int)} {ps : List Int} {w w' : World}
theorem WSt.below (hI : ∀ vis w w', Inv vis w → Still k.has w w' → Inv vis w') (h : WSt k Inv RI CI n cp l A0 c0 F vis ps w) (hb : Below w.heap.size w w') : WSt k Inv RI CI n cp l A0 c0 F vis ps w' :=
  ⟨blk_below h.cB hb, blk_below h.cD hb, Kd.R_below h.cA hb, blk_below h.cP hb, blk_below h.cG hb, blk_below h.cR hb, hI _ _ _ h.inv (Still.of_below hb)⟩
theorem WSt.drewN (hI : ∀ vis w w', Inv vis w → Still k.has w w' → Inv vis w') (h : WSt k Inv RI CI n cp l A0 c0 F vis ps w) (m : Nat) : WSt k Inv RI CI n cp l A0 c0 F vis ps (w.drewN m) :=
  h.below hI (pw_below_drewN (Below.refl _ _) m)
end
end Go.Proofs.Ytadkkcdhgepbkaa.Walk
end
section
namespace Go.Proofs.Ytadkkcdhgepbkaa.Walk
set_option linter.unusedVariables false
open Go.RowKit Go.Proofs.YtadkkcdhgepbkaaW.PrintWords Go.Proofs.YtadkkcdhgepbkaaW.PrintLast Go.Proofs.YtadkkcdhgepbkaaW.PrintMore
open Go.Proofs.YtadkkcdhgepbkaaL Go.Proofs.Ytadkkcdhgepbkaa.LawK Go.Proofs.Ytadkkcdhgepbkaa.BoardK Go.Proofs.Ytadkkcdhgepbkaa.Q
def rooksN (l : List Int) : Nat := l.countP (fun x => x != -1)
theorem rooks_l0 {l : List Int} (hl : l.length ≤ 1048576) : ∀ (d i n : Nat), i + d = l.length → n ≤ i → Ev (fun k => impl_rooks.l0 k n l (l.length : Int) i) ((n + rooksN (l.drop i) : Nat) : Int)
  | 0, i, n, hi, hn => by
    refine Ev.step (f := fun _ => some ((n + rooksN (l.drop i) : Nat) : Int)) (fun k => ?_) (Ev.now _)
    rw [impl_rooks.l0, if_neg (by omega), List.drop_eq_nil_of_le (by omega)]; rfl
  | d + 1, i, n, hi, hn => by
    have h1 : wrap64 ((i : Int) + 1) = ((i + 1 : Nat) : Int) := by rw [w64 (by omega) (by omega)]; rfl
    have h2 : wrap64 ((n : Int) + 1) = ((n + 1 : Nat) : Int) := by rw [w64 (by omega) (by omega)]; rfl
    have hi2 : i < l.length := by omega
    rw [List.drop_eq_getElem_cons hi2, rooksN, List.countP_cons]
    by_cases hx : l[i] = -1
    · have ih := rooks_l0 hl d (i + 1) n (by omega) (by omega)
      rw [rooksN] at ih
      rw [if_neg (by simp [hx]), Nat.add_zero]
      refine Ev.step (fun k => ?_) ih
      rw [impl_rooks.l0, if_pos (by omega), if_pos (by omega), if_pos (by omega), rd_lt _ _ hi2, if_pos hx, h1]
    · have ih := rooks_l0 hl d (i + 1) (n + 1) (by omega) (by omega)
      rw [rooksN] at ih
      rw [if_pos (by simpa using hx)]
      rw [show n + (List.countP (fun x => x != -1) (List.drop (i + 1) l) + 1) = n + 1 + List.countP (fun x => x != -1) (List.drop (i + 1) l) by omega]
      refine Ev.step (fun k => ?_) ih
      rw [impl_rooks.l0, if_pos (by omega), if_pos (by omega), if_pos (by omega), rd_lt _ _ hi2, if_neg hx, h1, h2]
end Go.Proofs.Ytadkkcdhgepbkaa.Walk
end
section
namespace Go.Proofs.Ytadkkcdhgepbkaa.Q
open Go.RowKit Go.Proofs.YtadkkcdhgepbkaaW.PrintWords Go.Proofs.YtadkkcdhgepbkaaW.PrintLast Go.Proofs.YtadkkcdhgepbkaaW.PrintMore
attribute [local go_sem] max2_int min2_int max_two min_two max_three min_three max_four min_four   -- for this text's walks alone
set_option linter.unusedVariables false
set_option linter.unusedSimpArgs false
end Go.Proofs.Ytadkkcdhgepbkaa.Q
end
section
namespace Go.Proofs.Ytadkkcdhgepbkaa.Q
open Go.RowKit Go.Proofs.YtadkkcdhgepbkaaW.PrintWords Go.Proofs.YtadkkcdhgepbkaaW.PrintLast Go.Proofs.YtadkkcdhgepbkaaW.PrintMore
attribute [local go_sem] max2_int min2_int max_two min_two max_three min_three max_four min_four   -- for this text's walks alone
set_option linter.unusedVariables false
set_option linter.unusedSimpArgs false
end Go.Proofs.Ytadkkcdhgepbkaa.Q
end
section
namespace Go.Proofs.Ytadkkcdhgepbkaa.LensK
set_option linter.unusedVariables false
open Go.RowKit Go.Proofs.Ytadkkcdhgepbkaa.Q Go.Proofs.YtadkkcdhgepbkaaW.PrintWords Go.Proofs.YtadkkcdhgepbkaaW.PrintLast Go.Proofs.YtadkkcdhgepbkaaW.PrintMore
open Go.Proofs.YtadkkcdhgepbkaaL Go.Proofs.Ytadkkcdhgepbkaa.LawK Go.Proofs.Ytadkkcdhgepbkaa.BoardK
theorem evEq {α : Type} {g : Nat → Option α} {a b : α} (h : Ev g a) (e : a = b) : Ev g b := e ▸ h
def riseFrom (l : List Int) (i : Nat) : Bool := decide (∀ j, j < l.length - 1 → i ≤ j + 1 → l.getD j 0 ≤ l.getD (j + 1) 0)
def riseTo (l : List Int) (i : Nat) : Bool := decide (∀ j, j < i → l.getD j 0 ≤ l.getD (j + 1) 0)
theorem spec_rise {l : List Int} (hl : l.length ≤ 6) : ∀ (d i : Nat), i + d = l.length → 1 ≤ i → Ev (fun k => spec_feGood.l0 k l i) (riseFrom l i)
  | 0, i, hi, h1 => by
    refine Ev.step (f := fun _ => some true) (fun k => ?_) (evEq (Ev.now _) (Eq.symm (decide_eq_true (fun j hj h => by omega))))
    rw [spec_feGood.l0, if_neg (by omega)]
  | d + 1, i, hi, h1 => by
    have e1 : wrap64 ((i : Int) + 1) = ((i + 1 : Nat) : Int) := by rw [w64 (by omega) (by omega)]; rfl
    have e2 : wrap64 ((i : Int) - 1) = ((i - 1 : Nat) : Int) := by rw [w64 (by omega) (by omega)]; omega
    have hstep : ∀ k, spec_feGood.l0 (k + 1) l i = if l.getD i 0 < l.getD (i - 1) 0 then some false else spec_feGood.l0 k l ((i + 1 : Nat) : Int) := by
      intro k
      rw [spec_feGood.l0, if_pos (by omega), if_pos (by omega), e2, if_pos (by omega), if_pos (by omega), e1, rd_nat, rd_nat]
    by_cases hc : l.getD i 0 < l.getD (i - 1) 0
    · refine Ev.step (f := fun _ => some false) (fun k => by rw [hstep, if_pos hc]) (evEq (Ev.now _) (Eq.symm (decide_eq_false (fun h => ?_))))
      have := h (i - 1) (by omega) (by omega)
      rw [show i - 1 + 1 = i by omega] at this
      omega
    · refine Ev.step (fun k => by rw [hstep, if_neg hc]) (evEq (spec_rise hl d (i + 1) (by omega) (by omega)) ?_)
      apply decide_eq_decide.2
      constructor
      · intro h j hj hij
        by_cases e : j + 1 = i
        · subst e; simp only [Nat.add_sub_cancel] at hc; omega
        · exact h j hj (by omega)
      · intro h j hj hij
        exact h j hj (by omega)
theorem less_f (a b : Int) : cmp_Less_int.f a b = some (decide (a < b)) := by
  unfold cmp_Less_int.f cmp_isNaN_int.f
  rw [Option.bind_some, if_neg (by simp)]
theorem impl_rise {l : List Int} (hl : l.length ≤ 6) : ∀ (i : Nat), i < l.length → Ev (fun k => slices_IsSorted_int_int.l0 k l i) (riseTo l i)
  | 0, hi => by
    refine Ev.step (f := fun _ => some true) (fun k => ?_) (evEq (Ev.now _) (Eq.symm (decide_eq_true (fun j hj => by omega))))
    rw [slices_IsSorted_int_int.l0, if_neg (by omega)]
  | i + 1, hi => by
    have e2 : wrap64 (((i + 1 : Nat) : Int) - 1) = ((i : Nat) : Int) := by rw [w64 (by omega) (by omega)]; omega
    have hstep : ∀ k, slices_IsSorted_int_int.l0 (k + 1) l ((i + 1 : Nat) : Int) = if l.getD (i + 1) 0 < l.getD i 0 then some false else slices_IsSorted_int_int.l0 k l (i : Int) := by
      intro k
      rw [slices_IsSorted_int_int.l0, if_pos (by omega), if_pos (by omega), if_pos (by omega), e2, if_pos (by omega), if_pos (by omega), less_f, Option.bind_some, rd_nat, rd_nat]
      by_cases hc : l.getD (i + 1) 0 < l.getD i 0
      · rw [if_pos (decide_eq_true hc), if_pos hc]
      · rw [if_neg (by simpa using hc), if_neg hc]
    by_cases hc : l.getD (i + 1) 0 < l.getD i 0
    · refine Ev.step (f := fun _ => some false) (fun k => by rw [hstep, if_pos hc]) (evEq (Ev.now _) (Eq.symm (decide_eq_false (fun h => ?_))))
      have := h i (by omega)
      omega
    · refine Ev.step (fun k => by rw [hstep, if_neg hc]) (evEq (impl_rise hl i (by omega)) ?_)
      apply decide_eq_decide.2
      constructor
      · intro h j hj
        by_cases e : j = i
        · subst e; omega
        · exact h j (by omega)
      · intro h j hj
        exact h j (by omega)
def lenB (l : List Int) : Bool := inR 1 6 l.length && l.all (inR 0 l.length) && riseFrom l 1
theorem spec_good {l : List Int} (hl : l.length ≤ 1048576) : Ev (fun k => spec_feGood.f k l) (lenB l) := by
  unfold spec_feGood.f lenB
  by_cases h1 : inR 1 6 l.length = true
  · have h6 : 1 ≤ l.length ∧ l.length ≤ 6 := by unfold inR at h1; simp only [decide_eq_true_eq] at h1; omega
    refine Ev.congr (fun k => by rw [boSide_f, Option.bind_some, if_pos h1]) ?_
    refine Ev.bind (l1All 0 l.length (by omega)) ?_
    rw [h1, Bool.true_and]
    by_cases h2 : l.all (inR 0 l.length) = true
    · rw [h2, Bool.true_and]
      refine Ev.step (fun k => by rw [spec_feGood.j0, if_neg (by simp)]) ?_
      exact spec_rise h6.2 (l.length - 1) 1 (by omega) (by omega)
    · have h2f : l.all (inR 0 l.length) = false := by simpa using h2
      rw [h2f, Bool.false_and]
      refine Ev.step (fun k => by rw [spec_feGood.j0, if_pos (by simp)]) (Ev.now _)
  · have h1f : inR 1 6 l.length = false := by simpa using h1
    rw [h1f, Bool.false_and, Bool.false_and]
    refine Ev.step (fun k => by rw [boSide_f, Option.bind_some, if_neg h1, spec_feGood.j0, if_pos rfl]) (Ev.now _)
theorem rise_le {l : List Int} (h : riseFrom l 1 = true) : ∀ d i, i + d < l.length → l.getD i 0 ≤ l.getD (i + d) 0
  | 0, i, _ => Int.le_refl _
  | d + 1, i, hi => by
    have h1 := rise_le h d i (by omega)
    have h2 := of_decide_eq_true h (i + d) (by omega) (by omega)
    rw [show i + (d + 1) = i + d + 1 by omega]
    omega
theorem impl_good {l : List Int} (hl : l.length ≤ 1048576) : Ev (fun k => impl_AreLengths.f k l) (lenB l) := by
  unfold impl_AreLengths.f lenB
  by_cases h1 : inR 1 6 l.length = true
  · have h6 : 1 ≤ l.length ∧ l.length ≤ 6 := by unfold inR at h1; simp only [decide_eq_true_eq] at h1; omega
    have e0 : wrap64 ((l.length : Int) - 1) = ((l.length - 1 : Nat) : Int) := by rw [w64 (by omega) (by omega)]; omega
    refine Ev.congr (fun k => by rw [isSide_f, Option.bind_some, if_pos (show decide (1 ≤ (l.length : Int) ∧ (l.length : Int) ≤ 6) = true from h1)]) ?_
    rw [h1, Bool.true_and]
    have er : riseTo l (l.length - 1) = riseFrom l 1 := decide_eq_decide.2 ⟨fun h j hj _ => h j hj, fun h j hj => h j hj (by omega)⟩
    refine Ev.bind (a := riseFrom l 1) (by unfold slices_IsSorted_int_int.f; rw [e0, ← er]; exact impl_rise h6.2 (l.length - 1) (by omega)) ?_
    by_cases h2 : riseFrom l 1 = true
    · rw [h2, Bool.and_true]
      refine Ev.congr (fun k => by rw [if_pos rfl, if_pos (by omega), within_f, Option.bind_some, e0]) ?_
      have hall : l.all (inR 0 l.length) = (inR 0 l.length (l.getD 0 0) && inR 0 l.length (l.getD (l.length - 1) 0)) := by
        rw [Bool.eq_iff_iff, Bool.and_eq_true, List.all_eq_true]
        constructor
        · intro h
          rw [gD_lt _ _ (by omega), gD_lt _ _ (by omega)]
          exact ⟨h _ (List.getElem_mem _), h _ (List.getElem_mem _)⟩
        · rintro ⟨ha, hb⟩ x hx
          obtain ⟨i, hi, e⟩ := List.mem_iff_getElem.1 hx
          have q1 := rise_le h2 i 0 (by omega)
          have q2 := rise_le h2 (l.length - 1 - i) i (by omega)
          rw [show i + (l.length - 1 - i) = l.length - 1 by omega] at q2
          rw [Nat.zero_add, gD_lt l 0 hi, e] at q1
          rw [gD_lt l 0 hi, e] at q2
          unfold inR at ha hb ⊢
          simp only [decide_eq_true_eq] at ha hb ⊢
          omega
      rw [hall]
      have r0 : rd l 0 = l.getD 0 0 := rd_nat l 0
      by_cases h3 : inR 0 l.length (l.getD 0 0) = true
      · rw [h3, Bool.true_and]
        refine Ev.congr (fun k => by rw [r0, if_pos (show decide (0 ≤ l.getD 0 0 ∧ l.getD 0 0 ≤ (l.length : Int)) = true from h3), if_pos (by omega), if_pos (by omega), within_f, Option.bind_some, rd_nat]; rfl) (Ev.now _)
      · have h3f : inR 0 l.length (l.getD 0 0) = false := by simpa using h3
        rw [h3f, Bool.false_and]
        exact Ev.congr (fun k => by rw [r0, if_neg (show ¬ decide (0 ≤ l.getD 0 0 ∧ l.getD 0 0 ≤ (l.length : Int)) = true from h3)]) (Ev.now _)
    · have h2f : riseFrom l 1 = false := by simpa using h2
      rw [h2f, Bool.and_false]
      exact Ev.congr (fun k => by rw [if_neg (by simp)]) (Ev.now _)
  · have h1f : inR 1 6 l.length = false := by simpa using h1
    rw [h1f, Bool.false_and, Bool.false_and]
    exact Ev.congr (fun k => by rw [isSide_f, Option.bind_some, if_neg (show ¬ decide (1 ≤ (l.length : Int) ∧ (l.length : Int) ≤ 6) = true from h1)]) (Ev.now _)
theorem len_of {l : List Int} (h : lenB l = true) : 1 ≤ l.length ∧ l.length ≤ 6 ∧ ∀ i (hi : i < l.length), 0 ≤ l[i] ∧ l[i] ≤ l.length := by
  unfold lenB at h
  simp only [Bool.and_eq_true, List.all_eq_true] at h
  obtain ⟨⟨h1, h2⟩, h3⟩ := h
  unfold inR at h1 h2
  simp only [decide_eq_true_eq] at h1 h2
  exact ⟨by omega, by omega, fun i hi => h2 _ (List.getElem_mem hi)⟩
end Go.Proofs.Ytadkkcdhgepbkaa.LensK
end
section
namespace Go.Proofs.Ytadkkcdhgepbkaa.PermK
set_option linter.unusedVariables false
open Go.RowKit Go.Proofs.Ytadkkcdhgepbkaa.Q Go.Proofs.YtadkkcdhgepbkaaW.PrintWords Go.Proofs.YtadkkcdhgepbkaaW.PrintLast Go.Proofs.YtadkkcdhgepbkaaW.PrintMore
open Go.Proofs.YtadkkcdhgepbkaaL
theorem index_l0 {l : List Int} (x : Int) (hl : l.length ≤ 4611686018427387904) : ∀ (d i : Nat), i + d = l.length → ∃ r : Int, (decide (r ≥ 0) = decide (x ∈ l.drop i)) ∧ Ev (fun k => slices_Index_int_int.l0 k l x (l.length : Int) i) r
  | 0, i, hi => by
    refine ⟨-1, by rw [List.drop_eq_nil_of_le (by omega)]; rfl, Ev.step (f := fun _ => some (-1)) (fun k => ?_) (Ev.now _)⟩
    rw [slices_Index_int_int.l0, if_neg (by omega)]
  | d + 1, i, hi => by
    have h1 : wrap64 ((i : Int) + 1) = ((i + 1 : Nat) : Int) := by rw [w64 (by omega) (by omega)]; rfl
    have hi2 : i < l.length := by omega
    rw [List.drop_eq_getElem_cons hi2]
    by_cases e : x = l[i]
    · refine ⟨i, by rw [decide_eq_true (show x ∈ l[i] :: l.drop (i + 1) from List.mem_cons.2 (Or.inl e))]; simp, Ev.step (f := fun _ => some (i : Int)) (fun k => ?_) (Ev.now _)⟩
      rw [slices_Index_int_int.l0, if_pos (by omega), if_pos (by omega), if_pos (by omega), rd_lt _ _ hi2, if_pos e]
    · have : (x ∈ l[i] :: l.drop (i + 1)) ↔ x ∈ l.drop (i + 1) := by
        rw [List.mem_cons]; exact ⟨fun h => h.resolve_left e, Or.inr⟩
      rw [decide_eq_decide.mpr this]
      obtain ⟨r, hr, hev⟩ := index_l0 x hl d (i + 1) (by omega)
      refine ⟨r, hr, Ev.step (fun k => ?_) hev⟩
      rw [slices_Index_int_int.l0, if_pos (by omega), if_pos (by omega), if_pos (by omega), rd_lt _ _ hi2, if_neg e, h1]
theorem contains {l : List Int} (x : Int) (hl : l.length ≤ 4611686018427387904) : Ev (fun k => slices_Contains_int_int.f k l x) (decide (x ∈ l)) := by
  obtain ⟨r, hr, hev⟩ := index_l0 x hl l.length 0 (by omega)
  rw [List.drop_zero] at hr
  rw [← hr]
  unfold slices_Contains_int_int.f slices_Index_int_int.f
  exact Ev.bind (a := r) hev (Ev.now _)
end Go.Proofs.Ytadkkcdhgepbkaa.PermK
end
section
namespace Go.Proofs.Ytadkkcdhgepbkaa.FreeK
set_option linter.unusedVariables false
set_option linter.unusedSectionVars false
open Go.RowKit Go.Proofs.Ytadkkcdhgepbkaa.Q Go.Proofs.YtadkkcdhgepbkaaW.PrintWords Go.Proofs.YtadkkcdhgepbkaaW.PrintLast Go.Proofs.YtadkkcdhgepbkaaW.PrintMore
open Go.Proofs.YtadkkcdhgepbkaaL Go.Proofs.Ytadkkcdhgepbkaa.LawK Go.Proofs.Ytadkkcdhgepbkaa.BoardK Go.Proofs.Ytadkkcdhgepbkaa.PermK Go.Proofs.Ytadkkcdhgepbkaa.LensK
section
variable {l p : List Int} (hl6 : l.length ≤ 6) (hin : ∀ i (hi : i < l.length), 0 ≤ l[i] ∧ l[i] ≤ 6) (hp : p.length = l.length)
include hl6 hin hp
end
end Go.Proofs.Ytadkkcdhgepbkaa.FreeK
end
section
namespace Go.Proofs.Ytadkkcdhgepbkaa.BagK
set_option linter.unusedVariables false
open Go.RowKit Go.Proofs.YtadkkcdhgepbkaaW.PrintWords Go.Proofs.YtadkkcdhgepbkaaW.PrintLast Go.Proofs.YtadkkcdhgepbkaaW.PrintMore
open Go.Proofs.YtadkkcdhgepbkaaL Go.Proofs.Ytadkkcdhgepbkaa.LawK Go.Proofs.Ytadkkcdhgepbkaa.W1 Go.Proofs.Ytadkkcdhgepbkaa.Walk Go.Proofs.Ytadkkcdhgepbkaa.FreeK Go.Proofs.Ytadkkcdhgepbkaa.LensK Go.Proofs.Ytadkkcdhgepbkaa.BoardK
structure RepC (r : List Int) (c : Nat → Nat) : Prop where
  get : ∀ i, r.getD i 0 = (c i : Int)
  last : ∀ i, r.length = i + 1 → c i ≠ 0
theorem RepC.nil : RepC [] (fun _ => 0) := ⟨fun i => rfl, fun i h => by simp at h⟩
theorem RepC.congr {r : List Int} {c d : Nat → Nat} (h : RepC r c) (e : ∀ i, c i = d i) : RepC r d := ⟨fun i => by rw [h.get, e], fun i hi => by rw [← e]; exact h.last i hi⟩
theorem set_getD (l : List Int) (p i : Nat) (x : Int) (hp : p < l.length) : (l.set p x).getD i 0 = if i = p then x else l.getD i 0 := by
  rw [List.getD_eq_getElem?_getD, List.getElem?_set, List.getD_eq_getElem?_getD]
  by_cases h : p = i
  · subst h; simp [hp]
  · rw [if_neg h, if_neg (fun e => h e.symm)]
def step (m : Nat) (x : Nat × Nat) : List (Nat × Nat) := (x.1, x.2 + (m - x.1)) :: (List.range (m - x.1)).map fun i => (x.1 + 1, x.2 + i)
def fr (t : Nat) : Nat → Nat
  | 0 => 0
  | x + 1 => fr t x + if t.testBit x then 0 else 1
theorem rooksN_snoc (pre : List Int) (x : Int) : rooksN (pre ++ [x]) = rooksN pre + if x = -1 then 0 else 1 := by
  unfold rooksN
  rw [List.countP_append, List.countP_singleton]
  by_cases h : x = -1 <;> simp [h]
end Go.Proofs.Ytadkkcdhgepbkaa.BagK
end
section
namespace Go.Proofs.Ytadkkcdhgepbkaa.Q
open Go.RowKit Go.Proofs.YtadkkcdhgepbkaaW.PrintWords Go.Proofs.YtadkkcdhgepbkaaW.PrintLast Go.Proofs.YtadkkcdhgepbkaaW.PrintMore
attribute [local go_sem] max2_int min2_int max_two min_two max_three min_three max_four min_four   -- for this text's walks alone
set_option linter.unusedVariables false
set_option linter.unusedSimpArgs false
end Go.Proofs.Ytadkkcdhgepbkaa.Q
end
section
namespace Go.Proofs.Ytadkkcdhgepbkaa.Q
open Go.RowKit Go.Proofs.YtadkkcdhgepbkaaW.PrintWords Go.Proofs.YtadkkcdhgepbkaaW.PrintLast Go.Proofs.YtadkkcdhgepbkaaW.PrintMore
attribute [local go_sem] max2_int min2_int max_two min_two max_three min_three max_four min_four   -- for this text's walks alone
set_option linter.unusedVariables false
set_option linter.unusedSimpArgs false
end Go.Proofs.Ytadkkcdhgepbkaa.Q
end
section
namespace Go.Proofs.Ytadkkcdhgepbkaa.WeAllK
set_option linter.unusedVariables false
set_option linter.unusedSectionVars false
open Go.RowKit Go.Proofs.Ytadkkcdhgepbkaa.Q Go.Proofs.YtadkkcdhgepbkaaW.PrintWords Go.Proofs.YtadkkcdhgepbkaaW.PrintLast Go.Proofs.YtadkkcdhgepbkaaW.PrintMore
open Go.Proofs.YtadkkcdhgepbkaaL Go.Proofs.Ytadkkcdhgepbkaa.LawK Go.Proofs.Ytadkkcdhgepbkaa.W1 Go.Proofs.Ytadkkcdhgepbkaa.BagK Go.Proofs.Ytadkkcdhgepbkaa.LensK Go.Proofs.Ytadkkcdhgepbkaa.BoardK
theorem own_f {l : List Int} (h : l.length ≤ 1000000) : spec_l1Own.f l = some l := by
  unfold spec_l1Own.f
  rw [Option.bind_some, if_pos (by rw [List.length_nil]; omega), List.nil_append]
section
variable {l : List Int} {F : List (Nat × Nat)} {n m r : Nat} (hn : n ≤ 6) (hm : m ≤ 6) (hF : F.length ≤ 1000000) (hFe : ∀ x ∈ F, x.2 < 40)
include hn hm hF hFe
end
end Go.Proofs.Ytadkkcdhgepbkaa.WeAllK
end
section
namespace Go.Proofs.Ytadkkcdhgepbkaa.RowsK
set_option linter.unusedVariables false
open Go.RowKit Go.Proofs.Ytadkkcdhgepbkaa.Q Go.Proofs.YtadkkcdhgepbkaaW.PrintWords Go.Proofs.YtadkkcdhgepbkaaW.PrintLast Go.Proofs.YtadkkcdhgepbkaaW.PrintMore
open Go.Proofs.YtadkkcdhgepbkaaL Go.Proofs.Ytadkkcdhgepbkaa.LawK
theorem evEq {α : Type} {g : Nat → Option α} {a b : α} (h : Ev g a) (e : a = b) : Ev g b := e ▸ h
theorem rdL {xs : List (List Int)} {i : Nat} (h : i < xs.length) : rd_L2 xs (i : Int) = xs[i] := by unfold rd_L2; rw [Int.toNat_natCast]; exact gD_lt _ _ h
end Go.Proofs.Ytadkkcdhgepbkaa.RowsK
end
section
namespace Go.Proofs.Ytadkkcdhgepbkaa.MatK
set_option linter.unusedVariables false
open Go.RowKit Go.Proofs.Ytadkkcdhgepbkaa.Q Go.Proofs.YtadkkcdhgepbkaaW.PrintWords Go.Proofs.YtadkkcdhgepbkaaW.PrintLast Go.Proofs.YtadkkcdhgepbkaaW.PrintMore
open Go.Proofs.YtadkkcdhgepbkaaL Go.Proofs.Ytadkkcdhgepbkaa.LawK Go.Proofs.Ytadkkcdhgepbkaa.BoardK Go.Proofs.Ytadkkcdhgepbkaa.RowsK
theorem evEq {α : Type} {g : Nat → Option α} {a b : α} (h : Ev g a) (e : a = b) : Ev g b := e ▸ h
theorem withinR (a b c : Int) : impl_within.f a b c = some (inR b c a) := by
  unfold impl_within.f inR
  by_cases h : b ≤ a
  · rw [if_pos h]; simp [h]
  · rw [if_neg h]; congr 1; exact (decide_eq_false (by omega)).symm
def sm : List Int → Int
  | [] => 0
  | x :: t => x + sm t
theorem sm_bd : ∀ (l : List Int), (∀ x ∈ l, 0 ≤ x ∧ x ≤ 6) → 0 ≤ sm l ∧ sm l ≤ 6 * l.length
  | [], _ => by simp [sm]
  | x :: t, h => by
    have h1 := sm_bd t (fun y hy => h y (List.mem_cons_of_mem _ hy))
    have h2 := h x List.mem_cons_self
    simp only [sm, List.length_cons]
    omega
theorem sum_l0 {l : List Int} (h6 : l.length ≤ 6) (hx : ∀ x ∈ l, 0 ≤ x ∧ x ≤ 6) : ∀ (d i : Nat) (a : Int), i + d = l.length → 0 ≤ a ∧ a ≤ 6 * i → Ev (fun k => impl_sum.l0 k a l (l.length : Int) i) (a + sm (l.drop i))
  | 0, i, a, hi, ha => by
    rw [List.drop_eq_nil_of_le (by omega), sm, Int.add_zero]
    exact Ev.step (f := fun _ => some a) (fun k => by rw [impl_sum.l0, if_neg (by omega)]) (Ev.now _)
  | d + 1, i, a, hi, ha => by
    have hi2 : i < l.length := by omega
    have hb := hx l[i] (List.getElem_mem hi2)
    have w1 : wrap64 ((i : Int) + 1) = ((i + 1 : Nat) : Int) := by rw [w64 (by omega) (by omega)]; rfl
    have w2 : wrap64 (a + l[i]) = a + l[i] := w64 (by omega) (by omega)
    have ih := sum_l0 h6 hx d (i + 1) (a + l[i]) (by omega) (by omega)
    rw [List.drop_eq_getElem_cons hi2, sm]
    exact Ev.step (fun k => by rw [impl_sum.l0, if_pos (by omega), if_pos (by omega), if_pos (by omega), rd_lt _ _ hi2, w2, w1]) (evEq ih (by omega))
theorem cells_l0 {l : List Int} (h6 : l.length ≤ 6) (hx : ∀ x ∈ l, 0 ≤ x ∧ x ≤ 6) : ∀ (d i : Nat) (a : Int), i + d = l.length → 0 ≤ a ∧ a ≤ 6 * i → Ev (fun k => spec_weCells.l0 k a l (l.length : Int) i) (a + sm (l.drop i))
  | 0, i, a, hi, ha => by
    rw [List.drop_eq_nil_of_le (by omega), sm, Int.add_zero]
    exact Ev.step (f := fun _ => some a) (fun k => by rw [spec_weCells.l0, if_neg (by omega)]) (Ev.now _)
  | d + 1, i, a, hi, ha => by
    have hi2 : i < l.length := by omega
    have hb := hx l[i] (List.getElem_mem hi2)
    have w1 : wrap64 ((i : Int) + 1) = ((i + 1 : Nat) : Int) := by rw [w64 (by omega) (by omega)]; rfl
    have w2 : wrap64 (a + l[i]) = a + l[i] := w64 (by omega) (by omega)
    have ih := cells_l0 h6 hx d (i + 1) (a + l[i]) (by omega) (by omega)
    rw [List.drop_eq_getElem_cons hi2, sm]
    exact Ev.step (fun k => by rw [spec_weCells.l0, if_pos (by omega), if_pos (by omega), if_pos (by omega), rd_lt _ _ hi2, w2, w1]) (evEq ih (by omega))
theorem sum_f {l : List Int} (h6 : l.length ≤ 6) (hx : ∀ x ∈ l, 0 ≤ x ∧ x ≤ 6) : Ev (fun k => impl_sum.f k l) (sm l) := by
  have := sum_l0 h6 hx l.length 0 0 (by omega) (by omega)
  rw [List.drop_zero, Int.zero_add] at this
  exact this
theorem cells_f {l : List Int} (h6 : l.length ≤ 6) (hx : ∀ x ∈ l, 0 ≤ x ∧ x ≤ 6) : Ev (fun k => spec_weCells.f k l) (sm l) := by
  have := cells_l0 h6 hx l.length 0 0 (by omega) (by omega)
  rw [List.drop_zero, Int.zero_add] at this
  exact this
def pw (q : Int) : Nat → Int
  | 0 => 1
  | n + 1 => pw q n * q
theorem pw_bd0 : ∀ n, n < 37 → (1 ≤ pw 2 n ∧ pw 2 n ≤ 1000000000000000000) ∧ (1 ≤ pw 3 n ∧ pw 3 n ≤ 1000000000000000000) := by decide +kernel
theorem pw_bd {q : Int} (hq : 2 ≤ q ∧ q ≤ 3) {n : Nat} (hn : n ≤ 36) : 1 ≤ pw q n ∧ pw q n ≤ 1000000000000000000 := by
  obtain rfl | rfl : q = 2 ∨ q = 3 := by omega
  · exact (pw_bd0 n (by omega)).1
  · exact (pw_bd0 n (by omega)).2
theorem pw_up {q : Int} (hq : 2 ≤ q ∧ q ≤ 3) (n : Nat) : ∀ e, n + e ≤ 36 → pw q n ≤ pw q (n + e)
  | 0, _ => Int.le_refl _
  | e + 1, h => by
    have h1 := pw_up hq n e (by omega)
    have h2 := pw_bd hq (n := n + e) (by omega)
    rw [← Nat.add_assoc, pw]
    obtain rfl | rfl : q = 2 ∨ q = 3 := by omega
    · omega
    · omega
theorem power_l0 {q : Int} (hq : 2 ≤ q ∧ q ≤ 3) : ∀ (d j : Nat), j + d ≤ 36 → Ev (fun k => spec_wePower.l0 k q (d : Int) (pw q j)) (pw q (j + d))
  | 0, j, h => Ev.step (f := fun _ => some (pw q j)) (fun k => by rw [spec_wePower.l0, if_neg (by simp)]) (Ev.now _)
  | d + 1, j, h => by
    have hb := pw_bd hq (n := j + 1) (by omega)
    have w1 : wrap64 (((d + 1 : Nat) : Int) - 1) = (d : Int) := by rw [w64 (by omega) (by omega)]; omega
    have w2 : wrap64 (pw q j * q) = pw q (j + 1) := w64 (by have := hb.1; rw [pw] at this; omega) (by have := hb.2; rw [pw] at this; omega)
    have ih := power_l0 hq d (j + 1) (by omega)
    exact Ev.step (fun k => by rw [spec_wePower.l0, if_pos (by omega), w1, w2]) (evEq ih (by congr 1; omega))
theorem power_f {q : Int} (hq : 2 ≤ q ∧ q ≤ 3) {S : Nat} (h : S ≤ 36) : Ev (fun k => spec_wePower.f k q (S : Int)) (pw q S) := by
  have := power_l0 hq S 0 (by omega)
  rw [Nat.zero_add] at this
  exact this
theorem mats_l0 {q : Int} (hq : 2 ≤ q ∧ q ≤ 3) {S : Nat} (hS : S ≤ 36) : ∀ (d j : Nat), j + d = S → pw q j ≤ 6561 → Ev (fun k => impl_matrices.l0 k q (pw q j) (S : Int) (j : Int)) (if pw q S ≤ 6561 then (pw q S, true) else (0, false))
  | 0, j, h, hj => by
    obtain rfl : j = S := by omega
    rw [if_pos hj]
    exact Ev.step (f := fun _ => some (pw q j, true)) (fun k => by rw [impl_matrices.l0, if_neg (by omega)]) (Ev.now _)
  | d + 1, j, h, hj => by
    have hb := pw_bd hq (n := j + 1) (by omega)
    have w1 : wrap64 ((j : Int) + 1) = ((j + 1 : Nat) : Int) := by rw [w64 (by omega) (by omega)]; rfl
    have w2 : wrap64 (pw q j * q) = pw q (j + 1) := w64 (by have := hb.1; rw [pw] at this; omega) (by have := hb.2; rw [pw] at this; omega)
    by_cases c : pw q (j + 1) > 6561
    · have := pw_up hq (j + 1) d (by omega)
      rw [show j + 1 + d = S by omega] at this
      rw [if_neg (by omega)]
      exact Ev.step (f := fun _ => some (0, false)) (fun k => by rw [impl_matrices.l0, if_pos (by omega), w2, if_pos c]) (Ev.now _)
    · have ih := mats_l0 hq hS d (j + 1) (by omega) (by omega)
      exact Ev.step (fun k => by rw [impl_matrices.l0, if_pos (by omega), w2, if_neg c, w1]) ih
def setD (q : Int) : Nat → Int → List Int → Nat → List Int × Int
  | 0, n, row, _ => (row, n)
  | j + 1, n, row, c => setD q j (Int.tdiv n q) (row.set c (Int.tmod n q)) (c + 1)
def matR (q : Int) (n : Nat) : List Int → Int → List (List Int)
  | [], _ => []
  | m :: t, num => (setD q m.toNat num (List.replicate n 0) 0).1 :: matR q n t (setD q m.toNat num (List.replicate n 0) 0).2
theorem setD_length (q : Int) : ∀ (d : Nat) (num : Int) (row : List Int) (c : Nat), (setD q d num row c).1.length = row.length
  | 0, _, _, _ => rfl
  | d + 1, num, row, c => by rw [setD, setD_length q d, List.length_set]
theorem td {q num : Int} (hq : 2 ≤ q ∧ q ≤ 3) (h : 0 ≤ num ∧ num ≤ 10000) : 0 ≤ Int.tdiv num q ∧ Int.tdiv num q ≤ 10000 := by
  rw [Int.tdiv_eq_ediv_of_nonneg h.1]
  obtain rfl | rfl : q = 2 ∨ q = 3 := by omega
  · omega
  · omega
theorem setD_num {q : Int} (hq : 2 ≤ q ∧ q ≤ 3) : ∀ (d : Nat) (num : Int) (row : List Int) (c : Nat), 0 ≤ num ∧ num ≤ 10000 → 0 ≤ (setD q d num row c).2 ∧ (setD q d num row c).2 ≤ 10000
  | 0, _, _, _, h => h
  | d + 1, num, row, c, h => by rw [setD]; exact setD_num hq d _ _ _ (td hq h)
theorem matR_length (q : Int) (n : Nat) : ∀ (t : List Int) (num : Int), (matR q n t num).length = t.length
  | [], _ => rfl
  | m :: t, num => by rw [matR, List.length_cons, List.length_cons, matR_length q n t]
theorem matR_row (q : Int) (n : Nat) : ∀ (t : List Int) (num : Int), ∀ x ∈ matR q n t num, x.length = n
  | [], _ => by intro x hx; simp [matR] at hx
  | m :: t, num => by
    intro x hx
    rw [matR, List.mem_cons] at hx
    rcases hx with rfl | hx
    · rw [setD_length, List.length_replicate]
    · exact matR_row q n t _ x hx
section
variable {l : List Int} {q : Int} (h6 : l.length ≤ 6) (hq : 2 ≤ q ∧ q ≤ 3) (hx : ∀ i (hi : i < l.length), 0 ≤ l[i] ∧ l[i] ≤ l.length)
include h6 hq
theorem imat_l1 {X : List (List Int)} (i : Nat) (hi : i < l.length) (acc : List (List Int)) (ha : acc.length ≤ 6) : ∀ (d c : Nat) (num : Int) (row : List Int), 0 ≤ num ∧ num ≤ 10000 → c + d ≤ row.length → row.length ≤ 6 →
    Ev (fun k => impl_matrix.l0 k l q (setD q d num row c).2 (acc ++ [(setD q d num row c).1]) l (l.length : Int) ((i + 1 : Nat) : Int)) X → Ev (fun k => impl_matrix.l1 k l q num acc row l (l.length : Int) i ((c + d : Nat) : Int) c) X
  | 0, c, num, row, hn, hc, h6r, hX => by
    have w1 : wrap64 ((i : Int) + 1) = ((i + 1 : Nat) : Int) := by rw [w64 (by omega) (by omega)]; rfl
    rw [setD] at hX
    exact Ev.step (fun k => by rw [impl_matrix.l1, if_neg (by simp), if_pos (by omega), w1]) hX
  | d + 1, c, num, row, hn, hc, h6r, hX => by
    have w1 : wrap64 ((c : Int) + 1) = ((c + 1 : Nat) : Int) := by rw [w64 (by omega) (by omega)]; rfl
    have hd := td hq hn
    have w2 : wrap64 (Int.tdiv num q) = Int.tdiv num q := w64 (by omega) (by omega)
    rw [setD] at hX
    have ih := imat_l1 i hi acc ha d (c + 1) (Int.tdiv num q) (row.set c (Int.tmod num q)) hd (by rw [List.length_set]; omega) (by rw [List.length_set]; exact h6r) hX
    rw [show c + 1 + d = c + (d + 1) by omega] at ih
    exact Ev.step (fun k => by rw [impl_matrix.l1, if_pos (by omega), if_neg (by omega), if_pos (by omega), if_pos (by omega), w2, w1, Int.toNat_natCast]) ih
theorem smat_l2 {X : List (List Int)} (i : Nat) (hi : i < l.length) : ∀ (d c : Nat) (num : Int) (rows : List (List Int)) (hr : i < rows.length), 0 ≤ num ∧ num ≤ 10000 → c + d ≤ rows[i].length → rows[i].length ≤ 6 →
    Ev (fun k => spec_weMatrix.l1 k q (setD q d num rows[i] c).2 (rows.set i (setD q d num rows[i] c).1) l (l.length : Int) ((i + 1 : Nat) : Int)) X → Ev (fun k => spec_weMatrix.l2 k q num rows i ((c + d : Nat) : Int) c l (l.length : Int) i) X
  | 0, c, num, rows, hr, hn, hc, h6r, hX => by
    have w1 : wrap64 ((i : Int) + 1) = ((i + 1 : Nat) : Int) := by rw [w64 (by omega) (by omega)]; rfl
    rw [setD, List.set_getElem_self] at hX
    exact Ev.step (fun k => by rw [spec_weMatrix.l2, if_neg (by simp), w1]) hX
  | d + 1, c, num, rows, hr, hn, hc, h6r, hX => by
    have w1 : wrap64 ((c : Int) + 1) = ((c + 1 : Nat) : Int) := by rw [w64 (by omega) (by omega)]; rfl
    have hd := td hq hn
    have w2 : wrap64 (Int.tdiv num q) = Int.tdiv num q := w64 (by omega) (by omega)
    rw [setD] at hX
    have e1 : (rows.set i (rows[i].set c (Int.tmod num q)))[i]'(by rw [List.length_set]; exact hr) = rows[i].set c (Int.tmod num q) := List.getElem_set_self _
    have ih := smat_l2 i hi d (c + 1) (Int.tdiv num q) (rows.set i (rows[i].set c (Int.tmod num q))) (by rw [List.length_set]; exact hr) hd (by rw [e1, List.length_set]; omega) (by rw [e1, List.length_set]; exact h6r) (by rw [e1, List.set_set]; exact hX)
    rw [show c + 1 + d = c + (d + 1) by omega] at ih
    exact Ev.step (fun k => by rw [spec_weMatrix.l2, if_pos (by omega), if_pos (by omega), if_pos (by omega), if_neg (by omega), if_pos (by omega), rdL hr, if_pos (by omega), w2, w1, Int.toNat_natCast, Int.toNat_natCast]) ih
include hx
theorem imat_l0 : ∀ (d i : Nat) (num : Int) (acc : List (List Int)), i + d = l.length → 0 ≤ num ∧ num ≤ 10000 → acc.length = i → Ev (fun k => impl_matrix.l0 k l q num acc l (l.length : Int) i) (acc ++ matR q l.length (l.drop i) num)
  | 0, i, num, acc, hi, hn, ha => by
    rw [List.drop_eq_nil_of_le (by omega), matR, List.append_nil]
    exact Ev.step (f := fun _ => some acc) (fun k => by rw [impl_matrix.l0, if_neg (by omega)]) (Ev.now _)
  | d + 1, i, num, acc, hi, hn, ha => by
    have hi2 : i < l.length := by omega
    obtain ⟨m, hm⟩ := Int.eq_ofNat_of_zero_le (hx i hi2).1
    have hm2 := (hx i hi2).2
    rw [List.drop_eq_getElem_cons hi2, matR]
    have ih := imat_l0 d (i + 1) (setD q m num (List.replicate l.length 0) 0).2 (acc ++ [(setD q m num (List.replicate l.length 0) 0).1]) (by omega) (setD_num hq _ _ _ _ hn) (by rw [List.length_append, ha]; rfl)
    have := imat_l1 h6 hq i hi2 acc (by omega) m 0 num (List.replicate l.length 0) hn (by rw [List.length_replicate]; omega) (by rw [List.length_replicate]; exact h6) ih
    rw [Nat.zero_add, ← hm] at this
    refine Ev.step (fun k => by rw [impl_matrix.l0, if_pos (by omega), if_pos (by omega), if_pos (by omega), if_pos (by omega), if_pos (by omega), rd_lt _ _ hi2, Int.toNat_natCast]; rfl) (evEq this ?_)
    rw [hm, List.append_assoc]
    rfl
theorem smat_l1 : ∀ (d i : Nat) (num : Int) (acc : List (List Int)), i + d = l.length → 0 ≤ num ∧ num ≤ 10000 → acc.length = i → Ev (fun k => spec_weMatrix.l1 k q num (acc ++ List.replicate d (List.replicate l.length 0)) l (l.length : Int) i) (acc ++ matR q l.length (l.drop i) num)
  | 0, i, num, acc, hi, hn, ha => by
    rw [List.drop_eq_nil_of_le (by omega), matR]
    exact Ev.step (f := fun _ => some (acc ++ [])) (fun k => by rw [spec_weMatrix.l1, if_neg (by omega)]; rfl) (Ev.now _)
  | d + 1, i, num, acc, hi, hn, ha => by
    have hi2 : i < l.length := by omega
    obtain ⟨m, hm⟩ := Int.eq_ofNat_of_zero_le (hx i hi2).1
    have hm2 := (hx i hi2).2
    rw [List.drop_eq_getElem_cons hi2, matR]
    have hr : i < (acc ++ List.replicate (d + 1) (List.replicate l.length (0 : Int))).length := by rw [List.length_append, List.length_replicate]; omega
    have e1 : (acc ++ List.replicate (d + 1) (List.replicate l.length (0 : Int)))[i] = List.replicate l.length 0 := by rw [List.getElem_append_right (by omega)]; exact List.getElem_replicate _
    have e2 : ∀ y, (acc ++ List.replicate (d + 1) (List.replicate l.length (0 : Int))).set i y = (acc ++ [y]) ++ List.replicate d (List.replicate l.length 0) := by
      intro y
      rw [List.set_append_right _ _ (by omega), ha, Nat.sub_self, List.replicate_succ, List.set_cons_zero, List.append_assoc]
      rfl
    have ih := smat_l1 d (i + 1) (setD q m num (List.replicate l.length 0) 0).2 (acc ++ [(setD q m num (List.replicate l.length 0) 0).1]) (by omega) (setD_num hq _ _ _ _ hn) (by rw [List.length_append, ha]; rfl)
    have := smat_l2 h6 hq (l := l) i hi2 m 0 num _ hr hn (by rw [e1, List.length_replicate]; omega) (by rw [e1, List.length_replicate]; exact h6) (by rw [e1, e2]; exact ih)
    rw [Nat.zero_add, ← hm] at this
    refine Ev.step (fun k => by rw [spec_weMatrix.l1, if_pos (by omega), if_pos (by omega), if_pos (by omega), rd_lt _ _ hi2]; rfl) (evEq this ?_)
    rw [hm, List.append_assoc]
    rfl
theorem smat_l0 {num : Int} (hn : 0 ≤ num ∧ num ≤ 10000) : ∀ (d j : Nat), j + d = l.length → Ev (fun k => spec_weMatrix.l0 k l q num (List.replicate j (List.replicate l.length 0)) (l.length : Int) j) (matR q l.length l num)
  | 0, j, h => by
    have := smat_l1 h6 hq hx l.length 0 num [] (by omega) hn rfl
    rw [List.nil_append, List.nil_append, List.drop_zero] at this
    obtain rfl : j = l.length := by omega
    exact Ev.step (fun k => by rw [spec_weMatrix.l0, if_neg (by omega)]; rfl) this
  | d + 1, j, h => by
    have w1 : wrap64 ((j : Int) + 1) = ((j + 1 : Nat) : Int) := by rw [w64 (by omega) (by omega)]; rfl
    have ih := smat_l0 hn d (j + 1) (by omega)
    rw [List.replicate_succ'] at ih
    exact Ev.step (fun k => by rw [spec_weMatrix.l0, if_pos (by omega), if_pos (by omega), if_pos (by omega), if_pos (by rw [List.length_replicate]; omega), Int.toNat_natCast, w1]) ih
theorem imat_f {num : Int} (hn : 0 ≤ num ∧ num ≤ 10000) : Ev (fun k => impl_matrix.f k l q num) (matR q l.length l num) := by
  have := imat_l0 h6 hq hx l.length 0 num [] (by omega) hn rfl
  rw [List.nil_append, List.drop_zero] at this
  exact this
theorem smat_f {num : Int} (hn : 0 ≤ num ∧ num ≤ 10000) : Ev (fun k => spec_weMatrix.f k l q num) (matR q l.length l num) := smat_l0 h6 hq hx hn l.length 0 (by omega)
end
end Go.Proofs.Ytadkkcdhgepbkaa.MatK
end
section
namespace Go.Proofs.Ytadkkcdhgepbkaa.Q
open Go.RowKit Go.Proofs.YtadkkcdhgepbkaaW.PrintWords Go.Proofs.YtadkkcdhgepbkaaW.PrintLast Go.Proofs.YtadkkcdhgepbkaaW.PrintMore
attribute [local go_sem] max2_int min2_int max_two min_two max_three min_three max_four min_four   -- for this text's walks alone
set_option linter.unusedVariables false
set_option linter.unusedSimpArgs false
end Go.Proofs.Ytadkkcdhgepbkaa.Q
end
section
namespace Go.Proofs.Ytadkkcdhgepbkaa.Q
open Go.RowKit Go.Proofs.YtadkkcdhgepbkaaW.PrintWords Go.Proofs.YtadkkcdhgepbkaaW.PrintLast Go.Proofs.YtadkkcdhgepbkaaW.PrintMore
attribute [local go_sem] max2_int min2_int max_two min_two max_three min_three max_four min_four   -- for this text's walks alone
set_option linter.unusedVariables false
set_option linter.unusedSimpArgs false
end Go.Proofs.Ytadkkcdhgepbkaa.Q
end
section
namespace Go.Proofs.Ytadkkcdhgepbkaa.DrawK
set_option linter.unusedVariables false
set_option linter.unusedSectionVars false
open Go.RowKit Go.Proofs.Ytadkkcdhgepbkaa.Q Go.Proofs.YtadkkcdhgepbkaaW.PrintWords Go.Proofs.YtadkkcdhgepbkaaW.PrintLast Go.Proofs.YtadkkcdhgepbkaaW.PrintMore
open Go.Proofs.YtadkkcdhgepbkaaL Go.Proofs.Ytadkkcdhgepbkaa.LawK Go.Proofs.Ytadkkcdhgepbkaa.BoardK Go.Proofs.Ytadkkcdhgepbkaa.LensK
theorem own_l {l : List Int} (h : l.length ≤ 1000000) : spec_l1Own.f l = some l := WeAllK.own_f h
theorem sorted_l1 {x3 x8 : List Int} {v : Int} {n i : Nat} (h3 : x3.length ≤ 1000) (hi : i ≤ 1000) {P : List Int → Prop} (cont : ∀ y : List Int, y.length = x3.length + 1 → Run (fun k => spec_feSorted.l0 k y x8 n ((i + 1 : Nat) : Int)) P) : ∀ (d j : Nat), j + d = x3.length → Run (fun k => spec_feSorted.l1 k x3 v j x8 n i) P
  | d, j, hj => by
    have w1 := Aside0.mk (show wrap64 ((i : Int) + 1) = ((i + 1 : Nat) : Int) from by rw [w64 (by omega) (by omega)]; rfl)
    have hlen : ((x3.take j ++ [v]) ++ x3.drop j).length = x3.length + 1 := by simp only [List.length_append, List.length_take, List.length_drop, List.length_singleton]; omega
    have ht : (x3.take j).length ≤ 1000 := by rw [List.length_take]; omega
    have hs := hlen
    rw [List.length_append] at hs
    cases d with
    | zero =>
      refine Run.step (fun k => ?_) (cont _ hlen)
      rw [spec_feSorted.l1, if_neg (by omega), if_pos (by omega), if_pos (by omega), Int.toNat_natCast, own_l (by omega), Option.bind_some, if_pos (by omega), Option.bind_some, Option.bind_some, if_pos (by omega), w1.out]
    | succ d =>
      have w2 := Aside0.mk (show wrap64 ((j : Int) + 1) = ((j + 1 : Nat) : Int) from by rw [w64 (by omega) (by omega)]; rfl)
      refine Run.step (fun k => by rw [spec_feSorted.l1, if_pos (by omega), if_pos (by omega)]) ?_
      refine Run.ite (fun _ => ?_) (fun _ => ?_)
      · exact Run.congr (fun k => by rw [w2.out]) (sorted_l1 h3 hi cont d (j + 1) (by omega))
      · refine Run.congr (fun k => ?_) (cont _ hlen)
        rw [if_pos (by omega), Int.toNat_natCast, own_l (by omega), Option.bind_some, if_pos (by omega), Option.bind_some, Option.bind_some, if_pos (by omega), w1.out]
theorem sorted_l0 {l : List Int} (hl : l.length ≤ 100) : ∀ (d i : Nat) (x : List Int), i + d = l.length → x.length = i → Run (fun k => spec_feSorted.l0 k x l (l.length : Int) i) (fun y => y.length = l.length)
  | 0, i, x, hi, hx => Run.step (f := fun _ => some x) (fun k => by rw [spec_feSorted.l0, if_neg (by omega)]) (Run.now (by omega))
  | d + 1, i, x, hi, hx => by
    refine Run.step (fun k => by rw [spec_feSorted.l0, if_pos (by omega), if_pos (by omega), if_pos (by omega)]) ?_
    exact sorted_l1 (by omega) (by omega) (fun y hy => sorted_l0 hl d (i + 1) y (by omega) (by omega)) x.length 0 (by omega)
theorem sorted_run {l : List Int} (hl : l.length ≤ 100) : Run (fun k => spec_feSorted.f k l) (fun y => y.length = l.length) := by
  unfold spec_feSorted.f
  exact sorted_l0 hl l.length 0 [] (by omega) rfl
section
variable {code : List Int} (hc : Bytes code)
include hc
theorem lengths_l0 {n : Nat} (hn1 : 1 ≤ n) (hn : n ≤ 6) : ∀ (d i M : Nat) (a s : Int) (x : List Int), i + d = n → x.length = i → At M a → M + 2 * d + 40 ≤ 100000 → Run (fun k => spec_l1Cur_lengths.l0 k n x i code a s) (fun y => y.1.length ≤ 8 ∧ At (M + 2 * d + 10) y.2.1)
  | 0, i, M, a, s, x, hi, hx, ha, hm => by
    refine Run.step (fun k => by rw [spec_l1Cur_lengths.l0, if_neg (by omega)]) ?_
    refine Run.bind (sorted_run (l := x) (by omega)) ?_
    intro t ht
    refine Run.bind (pick_R hc ha (by omega) 14) ?_
    rintro ⟨v, a1, s1⟩ ⟨hv, ha1⟩
    refine Run.ite (fun _ => ?_) (fun _ => Run.ite (fun _ => ?_) (fun _ => Run.ite (fun _ => ?_) (fun _ => ?_)))
    · refine Run.bind (pick_R hc ha1 (by omega) n) ?_
      rintro ⟨v2, a2, s2⟩ ⟨hv2, ha2⟩
      simp only [] at hv2
      refine Run.bind (pick_R hc ha2 (by omega) (wrap64 ((n : Int) + 3))) ?_
      rintro ⟨v3, a3, s3⟩ ⟨hv3, ha3⟩
      exact Run.congr (fun k => (if_pos hv2.1).trans (if_pos (by omega))) (Run.now ⟨by simp only [List.length_set]; omega, ha3.le (by omega) (by omega)⟩)
    · exact Run.congr (fun k => if_pos (by omega)) (Run.now ⟨by simp only [List.length_append, List.length_singleton]; omega, ha1.le (by omega) (by omega)⟩)
    · refine Run.bind (pick_R hc ha1 (by omega) 2) ?_
      rintro ⟨v2, a2, s2⟩ ⟨hv2, ha2⟩
      simp only [] at hv2
      have w := Aside0.mk (show wrap64 (6 + v2) = 6 + v2 from w64 (by omega) (by omega))
      refine Run.congr (fun k => by rw [w.out, if_pos (by omega), if_pos (by omega)]) ?_
      exact Run.now ⟨by simp only [List.length_replicate]; omega, ha2.le (by omega) (by omega)⟩
    · exact Run.now ⟨by simp only []; omega, ha1.le (by omega) (by omega)⟩
  | d + 1, i, M, a, s, x, hi, hx, ha, hm => by
    have w1 := Aside0.mk (show wrap64 ((i : Int) + 1) = ((i + 1 : Nat) : Int) from by rw [w64 (by omega) (by omega)]; rfl)
    refine Run.step (fun k => by rw [spec_l1Cur_lengths.l0, if_pos (by omega)]) ?_
    refine Run.bind (pick_R hc ha (by omega) _) ?_
    rintro ⟨v, a1, s1⟩ ⟨hv, ha1⟩
    refine Run.congr (fun k => by rw [if_pos (by omega), w1.out]) ?_
    exact (lengths_l0 hn1 hn d (i + 1) (M + 2) a1 s1 (x ++ [v]) (by omega) (by rw [List.length_append, List.length_singleton]; omega) ha1 (by omega)).mono (fun y hy => ⟨hy.1, hy.2.le (by omega) (by omega)⟩)
theorem lengths_run {M : Nat} {a s : Int} (ha : At M a) (hm : M + 100 ≤ 100000) : Run (fun k => spec_l1Cur_lengths.f k code a s) (fun y => y.1.length ≤ 8 ∧ At (M + 40) y.2.1) := by
  unfold spec_l1Cur_lengths.f
  refine Run.bind (sides_R hc ha (by omega)) ?_
  rintro ⟨v, a1, s1⟩ ⟨hv, ha1⟩
  simp only [] at hv
  obtain ⟨n, rfl⟩ : ∃ n : Nat, v = n := ⟨v.toNat, by omega⟩
  exact (lengths_l0 hc (n := n) (by omega) (by omega) n 0 (M + 4) a1 s1 [] (by omega) rfl ha1 (by omega)).mono (fun y hy => ⟨hy.1, hy.2.le (by omega) (by omega)⟩)
theorem shorter_l0 {n : Nat} (hn : n ≤ 6) : ∀ (d i M : Nat) (a s : Int) (x : List Int), i + d = n → x.length = i → At M a → M + 2 * d + 200 ≤ 100000 → Run (fun k => spec_l1Cur_shorter.l0 k n x i code a s) (fun y => y.1.length ≤ 8 ∧ At (M + 2 * d + 50) y.2.1)
  | 0, i, M, a, s, x, hi, hx, ha, hm => by
    refine Run.step (fun k => by rw [spec_l1Cur_shorter.l0, if_neg (by omega)]) ?_
    refine Run.bind (one_R hc ha (by omega) 8) ?_
    rintro ⟨b, a1, s1⟩ ha1
    refine Run.ite (fun _ => ?_) (fun _ => ?_)
    · refine Run.bind (lengths_run hc ha1 (by omega)) ?_
      rintro ⟨y, a2, s2⟩ ⟨hy, ha2⟩
      exact Run.now ⟨hy, ha2.le (by omega) (by omega)⟩
    · refine Run.bind (sorted_run (l := x) (by omega)) ?_
      intro t ht
      exact Run.now ⟨by simp only []; omega, ha1.le (by omega) (by omega)⟩
  | d + 1, i, M, a, s, x, hi, hx, ha, hm => by
    have w1 := Aside0.mk (show wrap64 ((i : Int) + 1) = ((i + 1 : Nat) : Int) from by rw [w64 (by omega) (by omega)]; rfl)
    refine Run.step (fun k => by rw [spec_l1Cur_shorter.l0, if_pos (by omega)]) ?_
    refine Run.bind (P := fun _ => True) ?_ ?_
    · unfold spec_l1Least.f
      exact Run.ite (fun _ => Run.now trivial) (fun _ => Run.now trivial)
    intro t _
    refine Run.bind (pick_R hc ha (by omega) _) ?_
    rintro ⟨v, a1, s1⟩ ⟨hv, ha1⟩
    refine Run.congr (fun k => by rw [if_pos (by omega), w1.out]) ?_
    exact (shorter_l0 hn d (i + 1) (M + 2) a1 s1 (x ++ [v]) (by omega) (by rw [List.length_append, List.length_singleton]; omega) ha1 (by omega)).mono (fun y hy => ⟨hy.1, hy.2.le (by omega) (by omega)⟩)
theorem shorter_run {M : Nat} {a s : Int} (ha : At M a) (hm : M + 300 ≤ 100000) : Run (fun k => spec_l1Cur_shorter.f k code a s) (fun y => y.1.length ≤ 8 ∧ At (M + 100) y.2.1) := by
  unfold spec_l1Cur_shorter.f
  refine Run.bind (pick_R hc ha (by omega) 4) ?_
  rintro ⟨v, a1, s1⟩ ⟨hv, ha1⟩
  simp only [] at hv
  obtain ⟨n, hn⟩ : ∃ n : Nat, wrap64 (1 + v) = n := ⟨(wrap64 (1 + v)).toNat, by rw [w64 (by omega) (by omega)]; omega⟩
  have hn4 : n ≤ 6 := by rw [w64 (by omega) (by omega)] at hn; omega
  refine Run.congr (fun k => by rw [hn]) ?_
  exact (shorter_l0 hc (n := n) hn4 n 0 (M + 2) a1 s1 [] (by omega) rfl ha1 (by omega)).mono (fun y hy => ⟨hy.1, hy.2.le (by omega) (by omega)⟩)
theorem base_run {M : Nat} {a s : Int} (ha : At M a) (hm : M + 10 ≤ 100000) : Run (fun _ => spec_l1Cur_base.f code a s) (fun x => x.1 ∈ ([-1, 0, 1, 4, 2, 3] : List Int)) := by
  unfold spec_l1Cur_base.f
  refine Run.bind (one_R hc ha (by omega) 14) ?_
  rintro ⟨b, a1, s1⟩ ha1
  refine Run.ite (fun _ => ?_) (fun _ => ?_)
  · refine Run.bind (among_R hc ha1 (by omega) (by simp)) ?_
    rintro ⟨v, a2, s2⟩ ⟨hv, ha2⟩
    exact Run.now ((by decide : ∀ v ∈ ([-1, 0, 1, 4] : List Int), v ∈ ([-1, 0, 1, 4, 2, 3] : List Int)) v hv)
  · refine Run.bind (pick_R hc ha1 (by omega) 2) ?_
    rintro ⟨v, a2, s2⟩ ⟨hv, ha2⟩
    simp only [] at hv
    refine Run.now ?_
    simp only []
    rw [w64 (by omega) (by omega)]
    have : v = 0 ∨ v = 1 := by omega
    rcases this with rfl | rfl <;> decide
theorem plain_l0 {M : Nat} {a s : Int} (ha : At M a) (hm : M + 10 ≤ 100000) : ∀ (d : Nat) (x : List Int), x.length ≤ d → d ≤ 8 → Run (fun k => spec_DrawRankCountsPlain.l0 k x code a s) (fun y => y.1.length ≤ 8)
  | d, x, hx, hd => by
    have stop : Run (fun k => spec_DrawRankCountsPlain.j1 k x false code a s) (fun y => y.1.length ≤ 8) := by
      refine Run.step (fun k => by rw [spec_DrawRankCountsPlain.j1, if_neg (by simp)]) ?_
      refine Run.bind (base_run hc ha (by omega)) ?_
      rintro ⟨q, a1, s1⟩ hq
      exact Run.now (by simp only []; omega)
    refine Run.step (fun k => by rw [spec_DrawRankCountsPlain.l0]) ?_
    refine Run.bind (P := fun t => t = lenB x) (Run.of (spec_good (l := x) (by omega)) rfl) ?_
    rintro t rfl
    refine Run.ite (fun hb => ?_) (fun _ => stop)
    obtain ⟨h1, h6, hxs⟩ := len_of hb
    refine Run.bind (P := fun _ => True) (Run.of (MatK.cells_f h6 (fun y hy => by obtain ⟨i, hi, rfl⟩ := List.mem_iff_getElem.1 hy; have := hxs i hi; omega)) trivial) ?_
    intro v _
    cases hv : decide (v > 8) with
    | false => exact stop
    | true =>
      cases d with
      | zero => omega
      | succ d =>
        have w1 := Aside0.mk (show wrap64 ((x.length : Int) - 1) = ((x.length - 1 : Nat) : Int) from by rw [w64 (by omega) (by omega)]; omega)
        refine Run.step (fun k => by rw [spec_DrawRankCountsPlain.j1, if_pos rfl, w1.out, if_pos (by omega), if_pos (by omega), Option.bind_some, Int.toNat_natCast]) ?_
        have hl : (x.take (x.length - 1)).length ≤ d := by rw [List.length_take]; omega
        have key : ∀ (e i : Nat) (y : List Int), i + e = y.length → y.length ≤ d → Run (fun k => spec_DrawRankCountsPlain.l1 k y (y.length : Int) i code a s) (fun y => y.1.length ≤ 8) := by
          intro e
          induction e with
          | zero =>
            intro i y hi hy
            exact Run.step (fun k => by rw [spec_DrawRankCountsPlain.l1, if_neg (by omega)]) (plain_l0 ha hm d y hy (by omega))
          | succ e ih =>
            intro i y hi hy
            have w2 := Aside0.mk (show wrap64 ((i : Int) + 1) = ((i + 1 : Nat) : Int) from by rw [w64 (by omega) (by omega)]; rfl)
            refine Run.step (fun k => by rw [spec_DrawRankCountsPlain.l1, if_pos (by omega), if_pos (by omega), if_pos (by omega)]) ?_
            refine Run.bind (P := fun _ => True) ?_ ?_
            · unfold spec_l1Least.f
              exact Run.ite (fun _ => Run.now trivial) (fun _ => Run.now trivial)
            intro t _
            have := ih (i + 1) (y.set (i : Int).toNat t) (by rw [List.length_set]; omega) (by rw [List.length_set]; exact hy)
            rw [List.length_set] at this
            exact Run.congr (fun k => by rw [w2.out]) this
        exact key (x.take (x.length - 1)).length 0 _ (by omega) hl
theorem draw_plain : Run (fun k => spec_DrawRankCountsPlain.f k code) (fun x => x.1.length ≤ 8) := by
  unfold spec_DrawRankCountsPlain.f
  refine Run.bind (shorter_run hc (M := 0) ⟨by omega, by omega, by omega⟩ (by omega)) ?_
  rintro ⟨l, a, s⟩ ⟨hl, ha⟩
  exact plain_l0 hc ha (by omega) 8 l hl (by omega)
end
end Go.Proofs.Ytadkkcdhgepbkaa.DrawK
end
section
namespace Go.Proofs.Ytadkkcdhgepbkaa.MatK
set_option linter.unusedVariables false
open Go.RowKit Go.Proofs.Ytadkkcdhgepbkaa.Q Go.Proofs.YtadkkcdhgepbkaaW.PrintWords Go.Proofs.YtadkkcdhgepbkaaW.PrintLast Go.Proofs.YtadkkcdhgepbkaaW.PrintMore
open Go.Proofs.YtadkkcdhgepbkaaL Go.Proofs.Ytadkkcdhgepbkaa.LawK Go.Proofs.Ytadkkcdhgepbkaa.BoardK Go.Proofs.Ytadkkcdhgepbkaa.RowsK
def ans (l : List Int) (q n : Int) : List (List Int) × Bool :=
  if (LensK.lenB l && inR 2 3 q) = true then if pw q (sm l).toNat ≤ 6561 then if inR 0 (pw q (sm l).toNat - 1) n = true then (matR q l.length l n, true) else ([], false) else ([], false) else ([], false)
theorem impl_ans {l : List Int} (q n : Int) (hl : l.length ≤ 1048576) : Ev (fun k => impl_MatrixWith.f k l q n) (ans l q n) := by
  unfold impl_MatrixWith.f ans
  have no : Ev (fun k => impl_MatrixWith.j0 k l q n true) ([], false) := Ev.step (f := fun _ => some ([], false)) (fun k => by rw [impl_MatrixWith.j0, if_pos rfl]) (Ev.now _)
  refine Ev.bind (LensK.impl_good hl) ?_
  by_cases h : LensK.lenB l = true
  · rw [h, Bool.true_and]
    refine Ev.congr (fun k => by rw [if_pos rfl, impl_isQ.f, withinR, Option.bind_some, Option.bind_some]) ?_
    by_cases hq : inR 2 3 q = true
    · rw [if_pos hq, hq]
      have hq2 : 2 ≤ q ∧ q ≤ 3 := of_decide_eq_true hq
      obtain ⟨h1, h6, hx⟩ := LensK.len_of h
      have hx6 : ∀ x ∈ l, 0 ≤ x ∧ x ≤ 6 := fun x hm => by obtain ⟨i, hi, rfl⟩ := List.mem_iff_getElem.1 hm; have := hx i hi; omega
      have hs := sm_bd l hx6
      have hS : (sm l).toNat ≤ 36 := by omega
      have hpb := pw_bd hq2 hS
      have hM : Ev (fun k => impl_matrices.f k l q) (if pw q (sm l).toNat ≤ 6561 then (pw q (sm l).toNat, true) else (0, false)) := by
        unfold impl_matrices.f
        refine Ev.bind (sum_f h6 hx6) ?_
        have := mats_l0 hq2 hS (sm l).toNat 0 (by omega) (show (1 : Int) ≤ 6561 by decide)
        rw [Int.toNat_of_nonneg hs.1] at this
        exact this
      refine Ev.step (fun k => by rw [impl_MatrixWith.j0, if_neg (by simp)]) (Ev.bind hM ?_)
      by_cases hp : pw q (sm l).toNat ≤ 6561
      · rw [if_pos hp, if_pos hp]
        have w1 : wrap64 (pw q (sm l).toNat - 1) = pw q (sm l).toNat - 1 := w64 (by omega) (by omega)
        refine Ev.congr (fun k => by rw [if_pos rfl, w1, withinR, Option.bind_some]) ?_
        by_cases hn : inR 0 (pw q (sm l).toNat - 1) n = true
        · have hn2 : 0 ≤ n ∧ n ≤ pw q (sm l).toNat - 1 := of_decide_eq_true hn
          rw [if_pos hn]
          exact Ev.congr (fun k => if_pos hn) (Ev.bind (imat_f h6 hq2 hx ⟨hn2.1, by omega⟩) (Ev.now _))
        · rw [if_neg hn]
          exact Ev.congr (fun k => if_neg hn) (Ev.now _)
      · rw [if_neg hp, if_neg hp]
        exact Ev.congr (fun k => if_neg (by simp)) (Ev.now _)
    · rw [if_neg hq, show inR 2 3 q = false by simpa using hq]
      exact no
  · rw [show LensK.lenB l = false by simpa using h, Bool.false_and, if_neg (by simp)]
    exact Ev.congr (fun k => if_neg (by simp)) no
theorem few_f {l : List Int} (q : Int) (hl : l.length ≤ 1048576) : Ev (fun k => spec_weFew.f k l q) ((LensK.lenB l && inR 2 3 q) && decide (pw q (sm l).toNat ≤ 6561)) := by
  unfold spec_weFew.f
  refine Ev.bind (LensK.spec_good hl) ?_
  by_cases h : LensK.lenB l = true
  · rw [h, Bool.true_and]
    refine Ev.congr (fun k => by rw [if_pos rfl, spec_weBase.f, l1In_f, Option.bind_some, Option.bind_some]) ?_
    by_cases hq : inR 2 3 q = true
    · rw [hq, Bool.true_and]
      have hq2 : 2 ≤ q ∧ q ≤ 3 := of_decide_eq_true hq
      obtain ⟨h1, h6, hx⟩ := LensK.len_of h
      have hx6 : ∀ x ∈ l, 0 ≤ x ∧ x ≤ 6 := fun x hm => by obtain ⟨i, hi, rfl⟩ := List.mem_iff_getElem.1 hm; have := hx i hi; omega
      have hs := sm_bd l hx6
      refine Ev.congr (fun k => if_pos rfl) (Ev.bind (cells_f h6 hx6) ?_)
      have := power_f hq2 (S := (sm l).toNat) (by omega)
      rw [Int.toNat_of_nonneg hs.1] at this
      exact Ev.bind this (Ev.now _)
    · rw [show inR 2 3 q = false by simpa using hq, Bool.false_and]
      exact Ev.congr (fun k => if_neg (by simp)) (Ev.now _)
  · rw [show LensK.lenB l = false by simpa using h, Bool.false_and, Bool.false_and]
    exact Ev.congr (fun k => if_neg (by simp)) (Ev.now _)
theorem spec_ans {l : List Int} (q n : Int) (hl : l.length ≤ 1048576) : Ev (fun k => spec_MatrixWith.f k l q n) (ans l q n) := by
  unfold spec_MatrixWith.f ans
  have hw := few_f (l := l) q hl
  refine Ev.bind hw ?_
  by_cases h : (LensK.lenB l && inR 2 3 q) = true
  · rw [h, Bool.true_and, if_pos rfl]
    rw [Bool.and_eq_true] at h
    have hq2 : 2 ≤ q ∧ q ≤ 3 := of_decide_eq_true h.2
    obtain ⟨h1, h6, hx⟩ := LensK.len_of h.1
    have hx6 : ∀ x ∈ l, 0 ≤ x ∧ x ≤ 6 := fun x hm => by obtain ⟨i, hi, rfl⟩ := List.mem_iff_getElem.1 hm; have := hx i hi; omega
    have hs := sm_bd l hx6
    have hpb := pw_bd hq2 (n := (sm l).toNat) (by omega)
    by_cases hp : pw q (sm l).toNat ≤ 6561
    · rw [if_pos hp]
      have w1 : wrap64 (pw q (sm l).toNat - 1) = pw q (sm l).toNat - 1 := w64 (by omega) (by omega)
      have := power_f hq2 (S := (sm l).toNat) (by omega)
      rw [Int.toNat_of_nonneg hs.1] at this
      refine Ev.congr (fun k => if_pos (decide_eq_true hp)) (Ev.bind (cells_f h6 hx6) (Ev.bind this ?_))
      refine Ev.congr (fun k => by rw [w1, l1In_f, Option.bind_some]) ?_
      by_cases hn : inR 0 (pw q (sm l).toNat - 1) n = true
      · have hn2 : 0 ≤ n ∧ n ≤ pw q (sm l).toNat - 1 := of_decide_eq_true hn
        rw [if_pos hn]
        exact Ev.congr (fun k => if_pos hn) (Ev.bind (smat_f h6 hq2 hx ⟨hn2.1, by omega⟩) (Ev.now _))
      · rw [if_neg hn]
        exact Ev.congr (fun k => if_neg hn) (Ev.now _)
    · rw [if_neg hp]
      exact Ev.congr (fun k => if_neg (by rw [decide_eq_false hp]; simp)) (Ev.now _)
  · rw [show (LensK.lenB l && inR 2 3 q) = false by simpa using h, Bool.false_and, if_neg (by simp)]
    exact Ev.congr (fun k => if_neg (by simp)) (Ev.now _)
end Go.Proofs.Ytadkkcdhgepbkaa.MatK
end
section
namespace Go.Proofs.Ytadkkcdhgepbkaa.DrawK
set_option linter.unusedVariables false
set_option linter.unusedSectionVars false
open Go.RowKit Go.Proofs.Ytadkkcdhgepbkaa.Q Go.Proofs.YtadkkcdhgepbkaaW.PrintWords Go.Proofs.YtadkkcdhgepbkaaW.PrintLast Go.Proofs.YtadkkcdhgepbkaaW.PrintMore
open Go.Proofs.YtadkkcdhgepbkaaL Go.Proofs.Ytadkkcdhgepbkaa.LawK Go.Proofs.Ytadkkcdhgepbkaa.BoardK Go.Proofs.Ytadkkcdhgepbkaa.LensK Go.Proofs.Ytadkkcdhgepbkaa.RowsK
def Small (x : List (List Int)) : Prop := x.length ≤ 8 ∧ ∀ y ∈ x, y.length ≤ 8
section
variable {code : List Int} (hc : Bytes code)
include hc
theorem base_at {M : Nat} {a s : Int} (ha : At M a) (hm : M + 10 ≤ 100000) : Run (fun _ => spec_l1Cur_base.f code a s) (fun x => At (M + 4) x.2.1) := by
  unfold spec_l1Cur_base.f
  refine Run.bind (one_R hc ha (by omega) 14) ?_
  rintro ⟨b, a1, s1⟩ ha1
  refine Run.ite (fun _ => ?_) (fun _ => ?_)
  · refine Run.bind (among_R hc ha1 (by omega) (by simp)) ?_
    rintro ⟨v, a2, s2⟩ ⟨hv, ha2⟩
    exact Run.now (ha2.le (by omega) (by omega))
  · refine Run.bind (pick_R hc ha1 (by omega) 2) ?_
    rintro ⟨v, a2, s2⟩ ⟨hv, ha2⟩
    exact Run.now (ha2.le (by omega) (by omega))
theorem rows_l1 {q : Int} {m n : Nat} (hn : n ≤ 8) {X : List (List Int)} (hX : X.length ≤ 8) {i : Nat} (hi : i ≤ 8) {P : List (List Int) × Int × Int → Prop} {B : Nat} (hB : B ≤ 100000) (cont : ∀ (y : List Int) (a s : Int), y.length = n → At B a → Run (fun k => spec_l1Cur_rows.l0 k q m n (X ++ [y]) ((i + 1 : Nat) : Int) code a s) P) : ∀ (d j M : Nat) (a s : Int) (x : List Int), j + d = n → x.length = j → At M a → M + 2 * d ≤ B → Run (fun k => spec_l1Cur_rows.l1 k q m n X i x j code a s) P
  | 0, j, M, a, s, x, hj, hx, ha, hm => by
    have w1 := Aside0.mk (show wrap64 ((i : Int) + 1) = ((i + 1 : Nat) : Int) from by rw [w64 (by omega) (by omega)]; rfl)
    exact Run.step (fun k => by rw [spec_l1Cur_rows.l1, if_neg (by omega), if_pos (by omega), w1.out]) (cont x a s (by omega) (ha.le (by omega) (by omega)))
  | d + 1, j, M, a, s, x, hj, hx, ha, hm => by
    have w1 := Aside0.mk (show wrap64 ((j : Int) + 1) = ((j + 1 : Nat) : Int) from by rw [w64 (by omega) (by omega)]; rfl)
    refine Run.step (fun k => by rw [spec_l1Cur_rows.l1, if_pos (by omega)]) ?_
    refine Run.bind (P := fun _ => True) ?_ ?_
    · unfold spec_l1Least.f
      exact Run.ite (fun _ => Run.now trivial) (fun _ => Run.now trivial)
    intro t _
    refine Run.bind (P := fun _ => True) ?_ ?_
    · unfold spec_l1Most.f
      exact Run.ite (fun _ => Run.now trivial) (fun _ => Run.now trivial)
    intro t2 _
    refine Run.bind (pick_R hc ha (by omega) _) ?_
    rintro ⟨v, a1, s1⟩ ⟨hv, ha1⟩
    refine Run.congr (fun k => by rw [if_pos (by omega), w1.out]) ?_
    exact rows_l1 hn hX hi hB cont d (j + 1) (M + 2) a1 s1 (x ++ [v]) (by omega) (by rw [List.length_append, List.length_singleton]; omega) ha1 (by omega)
theorem rows_l0 {q : Int} {m n : Nat} (hm1 : 1 ≤ m) (hm8 : m ≤ 8) (hn1 : 1 ≤ n) (hn : n ≤ 8) : ∀ (d i M : Nat) (a s : Int) (X : List (List Int)), i + d = m → X.length = i → (∀ y ∈ X, y.length = n) → At M a → M + 16 * d + 100 ≤ 100000 → Run (fun k => spec_l1Cur_rows.l0 k q m n X i code a s) (fun y => Small y.1)
  | 0, i, M, a, s, X, hi, hX, hx, ha, hM => by
    have hsm : Small X := ⟨by omega, fun y hy => by rw [hx y hy]; exact hn⟩
    refine Run.step (fun k => by rw [spec_l1Cur_rows.l0, if_neg (by omega)]) ?_
    refine Run.bind (pick_R hc ha (by omega) 12) ?_
    rintro ⟨v, a1, s1⟩ ⟨hv, ha1⟩
    refine Run.ite (fun _ => ?_) (fun _ => Run.ite (fun _ => ?_) (fun _ => Run.ite (fun _ => ?_) (fun _ => ?_)))
    · refine Run.bind (pick_R hc ha1 (by omega) m) ?_
      rintro ⟨v2, a2, s2⟩ ⟨hv2, ha2⟩
      simp only [] at hv2
      refine Run.bind (pick_R hc ha2 (by omega) 5) ?_
      rintro ⟨v3, a3, s3⟩ ⟨hv3, ha3⟩
      refine Run.congr (fun k => (if_pos hv2.1).trans (if_pos (by omega))) (Run.now ⟨by simp only [List.length_set]; omega, fun y hy => ?_⟩)
      rcases List.mem_or_eq_of_mem_set hy with h | h
      · exact hsm.2 y h
      · rw [h]; simp
    · have h0 : 0 < X.length := by omega
      have e0 : rd_L2 X 0 = X[0] := rdL (i := 0) h0
      have hl0 : X[0].length = n := hx _ (List.getElem_mem h0)
      refine Run.congr (fun k => if_pos (by omega)) ?_
      refine Run.bind (among_R hc ha1 (by omega) (by simp)) ?_
      rintro ⟨v2, a2, s2⟩ ⟨hv2, ha2⟩
      refine Run.congr (fun k => if_pos (by rw [e0]; omega)) (Run.now ⟨by simp only [List.length_set]; omega, fun y hy => ?_⟩)
      rcases List.mem_or_eq_of_mem_set hy with h | h
      · exact hsm.2 y h
      · rw [h, List.length_set, e0]; omega
    · exact Run.now ⟨Nat.zero_le _, fun y hy => by simp at hy⟩
    · exact Run.now hsm
  | d + 1, i, M, a, s, X, hi, hX, hx, ha, hM => by
    refine Run.step (fun k => by rw [spec_l1Cur_rows.l0, if_pos (by omega)]) ?_
    refine rows_l1 hc (q := q) (m := m) hn (X := X) (by omega) (i := i) (by omega) (B := M + 16) (by omega) (fun y a1 s1 hy ha1 => ?_) n 0 M a s [] (by omega) rfl ha (by omega)
    refine rows_l0 hm1 hm8 hn1 hn d (i + 1) (M + 16) a1 s1 (X ++ [y]) (by omega) (by rw [List.length_append, List.length_singleton]; omega) (fun z hz => ?_) ha1 (by omega)
    rcases List.mem_append.1 hz with h | h
    · exact hx z h
    · rw [List.mem_singleton.1 h]; exact hy
theorem rows_run {M : Nat} {a s : Int} (ha : At M a) (hm : M + 1000 ≤ 100000) (q : Int) : Run (fun k => spec_l1Cur_rows.f k code a s q) (fun y => Small y.1) := by
  unfold spec_l1Cur_rows.f
  refine Run.bind (pick_R hc ha (by omega) 4) ?_
  rintro ⟨v, a1, s1⟩ ⟨hv, ha1⟩
  refine Run.bind (pick_R hc ha1 (by omega) 4) ?_
  rintro ⟨v2, a2, s2⟩ ⟨hv2, ha2⟩
  refine Run.bind (one_R hc ha2 (by omega) 8) ?_
  rintro ⟨b, a3, s3⟩ ha3
  simp only [] at hv hv2
  obtain ⟨n, hn⟩ : ∃ n : Nat, wrap64 (1 + v2) = n := ⟨(wrap64 (1 + v2)).toNat, by rw [w64 (by omega) (by omega)]; omega⟩
  have hn4 : 1 ≤ n ∧ n ≤ 8 := by rw [w64 (by omega) (by omega)] at hn; omega
  have go : ∀ (m : Nat) {M2 : Nat} {a4 s4 : Int}, 1 ≤ m → m ≤ 8 → At M2 a4 → M2 + 500 ≤ 100000 → Run (fun k => spec_l1Cur_rows.j0 k q m n code a4 s4) (fun y => Small y.1) := fun m M2 a4 s4 h1 h8 ha4 hM2 =>
    Run.step (fun k => by rw [spec_l1Cur_rows.j0]; rfl) (rows_l0 hc (q := q) h1 h8 hn4.1 hn4.2 m 0 M2 a4 s4 [] (by omega) rfl (fun y hy => by simp at hy) ha4 (by omega))
  refine Run.ite (fun _ => ?_) (fun _ => ?_)
  · refine Run.bind (pick_R hc ha3 (by omega) 2) ?_
    rintro ⟨v3, a4, s4⟩ ⟨hv3, ha4⟩
    simp only [] at hv3
    obtain ⟨m, hm⟩ : ∃ m : Nat, wrap64 (6 + v3) = m := ⟨(wrap64 (6 + v3)).toNat, by rw [w64 (by omega) (by omega)]; omega⟩
    have hm4 : 1 ≤ m ∧ m ≤ 8 := by rw [w64 (by omega) (by omega)] at hm; omega
    exact Run.congr (fun k => by rw [hm, hn]) (go m hm4.1 hm4.2 ha4 (by omega))
  · obtain ⟨m, hm⟩ : ∃ m : Nat, wrap64 (1 + v) = m := ⟨(wrap64 (1 + v)).toNat, by rw [w64 (by omega) (by omega)]; omega⟩
    have hm4 : 1 ≤ m ∧ m ≤ 8 := by rw [w64 (by omega) (by omega)] at hm; omega
    exact Run.congr (fun k => by rw [hm, hn]) (go m hm4.1 hm4.2 ha3 (by omega))
theorem draw_modulo : Run (fun k => spec_DrawRankModulo.f k code) (fun x => Small x.1) := by
  unfold spec_DrawRankModulo.f
  refine Run.bind (base_at hc (M := 0) ⟨by omega, by omega, by omega⟩ (by omega)) ?_
  rintro ⟨q, a1, s1⟩ ha1
  refine Run.bind (rows_run hc ha1 (by omega) q) ?_
  rintro ⟨y, a2, s2⟩ hy
  exact Run.now hy
theorem few_run {l : List Int} (q : Int) (hl : l.length ≤ 8) : Run (fun k => spec_weFew.f k l q) (fun t => t = true → lenB l = true ∧ (2 ≤ q ∧ q ≤ 3) ∧ 1 ≤ MatK.pw q (MatK.sm l).toNat ∧ MatK.pw q (MatK.sm l).toNat ≤ 6561 ∧ Ev (fun k => spec_weCells.f k l) (MatK.sm l) ∧ Ev (fun k => spec_wePower.f k q (MatK.sm l)) (MatK.pw q (MatK.sm l).toNat)) := by
  refine Run.of (MatK.few_f q (by omega)) (fun h => ?_)
  rw [Bool.and_eq_true, Bool.and_eq_true] at h
  obtain ⟨⟨h1, h2⟩, h3⟩ := h
  have hq2 : 2 ≤ q ∧ q ≤ 3 := of_decide_eq_true h2
  obtain ⟨g1, g6, gx⟩ := len_of h1
  have hx6 : ∀ x ∈ l, 0 ≤ x ∧ x ≤ 6 := fun x hm => by obtain ⟨i, hi, rfl⟩ := List.mem_iff_getElem.1 hm; have := gx i hi; omega
  have hs := MatK.sm_bd l hx6
  have hpb := MatK.pw_bd hq2 (n := (MatK.sm l).toNat) (by omega)
  have hpw := MatK.power_f hq2 (S := (MatK.sm l).toNat) (by omega)
  rw [Int.toNat_of_nonneg hs.1] at hpw
  exact ⟨h1, hq2, hpb.1, of_decide_eq_true h3, MatK.cells_f g6 hx6, hpw⟩
theorem draw_matrix : Run (fun k => spec_DrawMatrixWith.f k code) (fun x => x.1.length ≤ 8) := by
  unfold spec_DrawMatrixWith.f
  refine Run.bind (draw_plain hc) ?_
  rintro ⟨l, q⟩ hl
  simp only [] at hl
  refine Run.bind (few_run hc q hl) ?_
  intro t ht
  simp only [] at ht
  refine Run.ite (fun h => ?_) (fun _ => ?_)
  · obtain ⟨h1, h2, h3, h4, h5, h6⟩ := ht h
    refine Run.bind (Run.of (P := fun t => t = MatK.sm l) h5 rfl) ?_
    rintro _ rfl
    refine Run.bind (Run.of (P := fun t => t = MatK.pw q (MatK.sm l).toNat) h6 rfl) ?_
    rintro _ rfl
    refine Run.bind (one_R hc (M := 0) (a := 0) (s := 0) ⟨by omega, by omega, by omega⟩ (by omega) 5) ?_
    rintro ⟨b, a1, s1⟩ ha1
    refine Run.ite (fun _ => ?_) (fun _ => ?_)
    · refine Run.bind (among_R hc ha1 (by omega) (by simp)) ?_
      rintro ⟨v, a2, s2⟩ ⟨hv, ha2⟩
      exact Run.now hl
    · refine Run.bind (pick_R hc ha1 (by omega) _) ?_
      rintro ⟨v, a2, s2⟩ ⟨hv, ha2⟩
      exact Run.now hl
  · refine Run.bind (pick_R hc (M := 0) (a := 0) (s := 0) ⟨by omega, by omega, by omega⟩ (by omega) 4) ?_
    rintro ⟨v, a2, s2⟩ ⟨hv, ha2⟩
    exact Run.now hl
theorem draw_fits : Run (fun k => spec_DrawFitsBoard.f k code) (fun x => x.1.length ≤ 8 ∧ Small x.2.1) := by
  unfold spec_DrawFitsBoard.f
  refine Run.bind (draw_plain hc) ?_
  rintro ⟨l, q⟩ hl
  simp only [] at hl
  refine Run.bind (few_run hc q hl) ?_
  intro t ht
  simp only [] at ht
  refine Run.ite (fun h => ?_) (fun _ => ?_)
  · obtain ⟨h1, h2, h3, h4, h5, h6⟩ := ht h
    obtain ⟨g1, g6, gx⟩ := len_of h1
    refine Run.bind (Run.of (P := fun t => t = MatK.sm l) h5 rfl) ?_
    rintro _ rfl
    refine Run.bind (Run.of (P := fun t => t = MatK.pw q (MatK.sm l).toNat) h6 rfl) ?_
    rintro _ rfl
    refine Run.bind (pick_R hc (M := 0) (a := 0) (s := 0) ⟨by omega, by omega, by omega⟩ (by omega) _) ?_
    rintro ⟨v, a1, s1⟩ ⟨hv, ha1⟩
    simp only [] at hv
    refine Run.bind (Run.of (P := fun t => t = MatK.matR q l.length l v) (MatK.smat_f g6 h2 gx (by omega)) rfl) ?_
    rintro _ rfl
    obtain ⟨X, hX⟩ : ∃ X, X = MatK.matR q l.length l v := ⟨_, rfl⟩
    have hXl : X.length = l.length := by rw [hX, MatK.matR_length]
    have hXr : ∀ y ∈ X, y.length = l.length := fun y hy => MatK.matR_row _ _ _ _ y (hX ▸ hy)
    rw [← hX]
    have hsm : Small X := ⟨by omega, fun y hy => by rw [hXr y hy]; exact hl⟩
    refine Run.bind (one_R hc ha1 (by omega) 3) ?_
    rintro ⟨b, a2, s2⟩ ha2
    refine Run.ite (fun _ => ?_) (fun _ => Run.now ⟨hl, hsm⟩)
    refine Run.bind (pick_R hc ha2 (by omega) _) ?_
    rintro ⟨v2, a3, s3⟩ ⟨hv2, ha3⟩
    simp only [] at hv2
    have hv2l : v2 < (X.length : Int) := by omega
    obtain ⟨i, rfl⟩ : ∃ i : Nat, v2 = i := ⟨v2.toNat, by omega⟩
    have hi : i < X.length := by omega
    refine Run.congr (fun k => (if_pos hv2.1).trans (if_pos hv2l)) ?_
    refine Run.bind (pick_R hc ha3 (by omega) _) ?_
    rintro ⟨v3, a4, s4⟩ ⟨hv3, ha4⟩
    simp only [] at hv3
    refine Run.bind (pick_R hc ha4 (by omega) 4) ?_
    rintro ⟨v4, a5, s5⟩ ⟨hv4, ha5⟩
    have er : rd_L2 X (i : Int) = X[i] := rdL hi
    have hlr := hXr _ (List.getElem_mem hi)
    refine Run.congr (fun k => (if_pos hv3.1).trans (if_pos (by rw [er]; omega))) (Run.now ⟨hl, by simp only [List.length_set]; omega, fun y hy => ?_⟩)
    rcases List.mem_or_eq_of_mem_set hy with h | h
    · exact hsm.2 y h
    · rw [h, List.length_set, er]; omega
  · refine Run.bind (rows_run hc (M := 0) (a := 0) (s := 0) ⟨by omega, by omega, by omega⟩ (by omega) 2) ?_
    rintro ⟨y, a2, s2⟩ hy
    exact Run.now ⟨hl, hy⟩
end
end Go.Proofs.Ytadkkcdhgepbkaa.DrawK
end
section
namespace Go.Proofs.Ytadkkcdhgepbkaa.DrawK
set_option linter.unusedVariables false
open Go.RowKit Go.Proofs.Ytadkkcdhgepbkaa.Q Go.Proofs.YtadkkcdhgepbkaaW.PrintWords Go.Proofs.YtadkkcdhgepbkaaW.PrintLast Go.Proofs.YtadkkcdhgepbkaaW.PrintMore
open Go.Proofs.YtadkkcdhgepbkaaL Go.Proofs.Ytadkkcdhgepbkaa.LawK
theorem big_f (l0 l1 : List Int) (h1 : l1.length ≤ 4611686018427387904) : laws_big.f l0 l1 = some true ∨ laws_big.f l0 l1 = some false ∧ l0.length ≤ 1048576 ∧ l1.length ≤ 1048576 := by
  unfold laws_big.f
  by_cases h : (l0.length : Int) > 1048576
  · exact .inl (if_pos h)
  · rw [if_neg h, w64 (by omega) (by omega)]
    by_cases h2 : (l1.length : Int) > 1048576 - (l0.length : Int)
    · exact .inl (by rw [decide_eq_true h2])
    · exact .inr ⟨by rw [decide_eq_false h2], by omega, by omega⟩
theorem byte_of {x : Int} (h : (Lit.int .u8 x).wf = true) : 0 ≤ x ∧ x ≤ 255 := by
  simp [Lit.wf, IntKind.min, IntKind.max, IntKind.signed, IntKind.bits] at h
  omega
end Go.Proofs.Ytadkkcdhgepbkaa.DrawK
end
section
namespace Go.Proofs.Ytadkkcdhgepbkaa.RankK
set_option linter.unusedVariables false
open Go.RowKit Go.Proofs.Ytadkkcdhgepbkaa.Q Go.Proofs.YtadkkcdhgepbkaaW.PrintWords Go.Proofs.YtadkkcdhgepbkaaW.PrintLast Go.Proofs.YtadkkcdhgepbkaaW.PrintMore
open Go.Proofs.YtadkkcdhgepbkaaL Go.Proofs.Ytadkkcdhgepbkaa.LawK Go.Proofs.Ytadkkcdhgepbkaa.BoardK Go.Proofs.Ytadkkcdhgepbkaa.RowsK Go.Proofs.Ytadkkcdhgepbkaa.LeadsK
def sameB (n : Nat) (q : Int) (rows : List (List Int)) : Bool := rows.all (fun x => decide (x.length = n) && x.all (inR 0 (q - 1)))
theorem weRows_l0 {rows : List (List Int)} {q : Int} (hq : 2 ≤ q ∧ q ≤ 3) (h1 : 0 < rows.length) (h6 : rows.length ≤ 6) (hx : ∀ x ∈ rows, x.length ≤ 1048576) : ∀ (d i : Nat), i + d = rows.length →
    Ev (fun k => spec_weRows.l0 k rows q rows (rows.length : Int) i) (sameB (rows[0]'h1).length q (rows.drop i))
  | 0, i, hi => by
    refine Ev.step (f := fun _ => some true) (fun k => ?_) (evEq (Ev.now _) (by rw [List.drop_eq_nil_of_le (by omega)]; rfl))
    rw [spec_weRows.l0, if_neg (by omega)]
  | d + 1, i, hi => by
    have w1 : wrap64 ((i : Int) + 1) = ((i + 1 : Nat) : Int) := by rw [w64 (by omega) (by omega)]; rfl
    have w2 : wrap64 (q - 1) = q - 1 := w64 (by omega) (by omega)
    have hi2 : i < rows.length := by omega
    have ih := weRows_l0 hq h1 h6 hx d (i + 1) (by omega)
    have e0 : rd_L2 rows 0 = rows[0]'h1 := rdL (i := 0) h1
    rw [List.drop_eq_getElem_cons hi2]
    unfold sameB at ih ⊢
    rw [List.all_cons]
    by_cases c1 : rows[i].length = (rows[0]'h1).length
    · rw [decide_eq_true c1, Bool.true_and]
      refine Ev.step (f := fun k => (spec_l1All.f k rows[i] 0 (q - 1)).bind fun t => if t = true then spec_weRows.l0 k rows q rows (rows.length : Int) ((i + 1 : Nat) : Int) else some false) (fun k => ?_) ?_
      · rw [spec_weRows.l0, if_pos (by omega), if_pos (by omega), if_pos (by omega), if_pos (by omega), rdL hi2, e0, if_pos (by omega), w1, w2]
      · refine Ev.bind (l1All _ _ (by have := hx _ (List.getElem_mem hi2); omega)) ?_
        by_cases c : rows[i].all (inR 0 (q - 1)) = true
        · rw [c, Bool.true_and]
          exact Ev.congr (fun k => if_pos rfl) ih
        · rw [show rows[i].all (inR 0 (q - 1)) = false by simpa using c, Bool.false_and]
          exact Ev.congr (fun k => if_neg (by simp)) (Ev.now _)
    · rw [decide_eq_false c1, Bool.false_and, Bool.false_and]
      refine Ev.step (f := fun _ => some false) (fun k => ?_) (Ev.now _)
      rw [spec_weRows.l0, if_pos (by omega), if_pos (by omega), if_pos (by omega), if_pos (by omega), rdL hi2, e0, if_neg (by omega)]
theorem weRows {rows : List (List Int)} {q : Int} (hq : 2 ≤ q ∧ q ≤ 3) (hx : ∀ x ∈ rows, x.length ≤ 1048576) : Ev (fun k => spec_weRows.f k rows q) (inR 1 6 (rows.length : Int) && (inR 1 6 ((rows.getD 0 []).length : Int) && sameB (rows.getD 0 []).length q rows)) := by
  unfold spec_weRows.f
  have no : Ev (fun k => spec_weRows.j0 k rows q true) false := Ev.step (f := fun _ => some false) (fun k => by rw [spec_weRows.j0, if_pos rfl]) (Ev.now _)
  refine Ev.congr (fun k => by rw [boSide_f, Option.bind_some]) ?_
  by_cases h : inR 1 6 (rows.length : Int) = true
  · have h2 : 1 ≤ (rows.length : Int) ∧ (rows.length : Int) ≤ 6 := of_decide_eq_true h
    have h1 : 0 < rows.length := by omega
    have e0 : rd_L2 rows 0 = rows[0]'h1 := rdL (i := 0) h1
    have e1 : rows.getD 0 [] = rows[0]'h1 := gD_lt _ _ h1
    rw [h, Bool.true_and, e1]
    refine Ev.congr (fun k => by rw [if_pos rfl, if_pos (by omega), e0, boSide_f, Option.bind_some]) ?_
    by_cases c : inR 1 6 ((rows[0]'h1).length : Int) = true
    · rw [c, Bool.true_and]
      have := weRows_l0 hq h1 (by omega) hx rows.length 0 (by omega)
      rw [List.drop_zero] at this
      refine Ev.step (fun k => ?_) this
      rw [spec_weRows.j0, if_neg (by simp)]; rfl
    · rw [show inR 1 6 ((rows[0]'h1).length : Int) = false by simpa using c, Bool.false_and]
      exact no
  · rw [show inR 1 6 (rows.length : Int) = false by simpa using h, Bool.false_and]
    exact Ev.congr (fun k => if_neg (by simp)) no
theorem areRows_eq (rows : List (List Int)) (q : Int) : areRowsB rows q = (inR 2 3 q && (inR 1 6 (rows.length : Int) && (inR 1 6 ((rows.getD 0 []).length : Int) && sameB (rows.getD 0 []).length q rows))) := by
  unfold areRowsB
  show (inR 2 3 q && (inR 1 6 (rows.length : Int) && rows.all (rowOk q (rows.getD 0 []).length))) = _
  cases h2 : inR 1 6 (rows.length : Int)
  · simp
  · have h3 : 1 ≤ (rows.length : Int) ∧ (rows.length : Int) ≤ 6 := of_decide_eq_true h2
    have h0 : rows.getD 0 [] ∈ rows := by rw [gD_lt _ _ (by omega)]; exact List.getElem_mem _
    congr 2
    rw [Bool.eq_iff_iff, Bool.and_eq_true, List.all_eq_true]
    unfold sameB
    rw [List.all_eq_true]
    constructor
    · intro h
      have key : ∀ x ∈ rows, inR 1 6 (x.length : Int) = true ∧ x.length = (rows.getD 0 []).length ∧ x.all (inR 0 (q - 1)) = true := by
        intro x hx
        have := h x hx
        unfold rowOk at this
        rw [Bool.and_eq_true, Bool.and_eq_true, decide_eq_true_eq, decide_eq_true_eq] at this
        exact ⟨decide_eq_true this.1, by omega, this.2.2⟩
      exact ⟨(key _ h0).1, fun x hx => by rw [Bool.and_eq_true, decide_eq_true_eq]; exact (key x hx).2⟩
    · rintro ⟨h1, h4⟩ x hx
      have := h4 x hx
      rw [Bool.and_eq_true, decide_eq_true_eq] at this
      have h5 : 1 ≤ ((rows.getD 0 []).length : Int) ∧ ((rows.getD 0 []).length : Int) ≤ 6 := of_decide_eq_true h1
      unfold rowOk
      rw [Bool.and_eq_true, Bool.and_eq_true, decide_eq_true_eq, decide_eq_true_eq]
      exact ⟨by omega, by omega, this.2⟩
theorem withinR (a b c : Int) : impl_within.f a b c = some (inR b c a) := by
  unfold impl_within.f inR
  by_cases h : b ≤ a
  · rw [if_pos h]; simp [h]
  · rw [if_neg h]; congr 1; exact (decide_eq_false (by omega)).symm
theorem asks {α : Type} {rows : List (List Int)} {q : Int} (hx : ∀ x ∈ rows, x.length ≤ 1048576) {yes : Nat → Option α} {no r : α} (hy : areRowsB rows q = true → Ev yes r) (hn : areRowsB rows q = false → no = r) :
    Ev (fun k => (spec_weBase.f q).bind fun t => if t = true then ((spec_weRows.f k rows q).bind fun t2 => if t2 = true then yes k else some no) else some no) r := by
  refine Ev.congr (fun k => by rw [spec_weBase.f, l1In_f, Option.bind_some, Option.bind_some]) ?_
  by_cases hq : inR 2 3 q = true
  · refine Ev.congr (fun k => if_pos hq) (Ev.bind (weRows (of_decide_eq_true hq) hx) ?_)
    have e := areRows_eq rows q
    rw [hq, Bool.true_and] at e
    rw [← e]
    by_cases h : areRowsB rows q = true
    · exact Ev.congr (fun k => if_pos h) (hy h)
    · refine Ev.congr (fun k => if_neg h) ?_
      rw [hn (by simpa using h)]; exact Ev.now _
  · refine Ev.congr (fun k => if_neg hq) ?_
    have h : areRowsB rows q = false := by rw [areRows_eq, show inR 2 3 q = false by simpa using hq, Bool.false_and]
    rw [hn h]; exact Ev.now _
theorem leadsF_in {q : Int} (hq : 2 ≤ q ∧ q ≤ 3) {n : Nat} : ∀ (rows : List (List Int)) (done : List (List Int)) (out : List Int), (∀ r ∈ rows, Dig q n r) → WFs q n done out → (leadsF q n rows done out).length = out.length + rows.length ∧ ∀ e ∈ leadsF q n rows done out, e = -1 ∨ (0 ≤ e ∧ e < n)
  | [], done, out, _, h => ⟨rfl, h.lead⟩
  | row :: t, done, out, hd, h => by
    rw [leadsF]
    have := leadsF_in hq t _ _ (fun r hr => hd r (List.mem_cons_of_mem _ hr)) (h.snoc (Dig.red hq done out row h.dig (hd row List.mem_cons_self)))
    rw [this.1]
    exact ⟨by simp; omega, this.2⟩
def leadsOf (rows : List (List Int)) (q : Int) : List Int := leadsF q (rows.getD 0 []).length rows [] []
theorem leadsOf_in {rows : List (List Int)} {q : Int} (h : areRowsB rows q = true) : (leadsOf rows q).length = rows.length ∧ ∀ e ∈ leadsOf rows q, e = -1 ∨ 0 ≤ e := by
  obtain ⟨h1, h2, h3, h4, h5⟩ := areRows_out h
  have := leadsF_in h1 rows [] [] h5 ⟨rfl, by simp, by simp⟩
  exact ⟨by have h6 := this.1; rw [List.length_nil, Nat.zero_add] at h6; exact h6, fun e he => by have := this.2 e he; omega⟩
end Go.Proofs.Ytadkkcdhgepbkaa.RankK
end
section
namespace Go.Proofs.Ytadkkcdhgepbkaa.RankK
set_option linter.unusedVariables false
open Go.RowKit Go.Proofs.Ytadkkcdhgepbkaa.Q Go.Proofs.YtadkkcdhgepbkaaW.PrintWords Go.Proofs.YtadkkcdhgepbkaaW.PrintLast Go.Proofs.YtadkkcdhgepbkaaW.PrintMore
open Go.Proofs.YtadkkcdhgepbkaaL Go.Proofs.Ytadkkcdhgepbkaa.LawK Go.Proofs.Ytadkkcdhgepbkaa.BoardK Go.Proofs.Ytadkkcdhgepbkaa.RowsK Go.Proofs.Ytadkkcdhgepbkaa.LeadsK Go.Proofs.Ytadkkcdhgepbkaa.Walk
theorem impl_rank {rows : List (List Int)} {q : Int} (h : areRowsB rows q = true) : Ev (fun k => impl_rank.f k rows q) (rooksN (leadsOf rows q) : Int) := by
  unfold impl_rank.f
  obtain ⟨h1, h2⟩ := leadsOf_in h
  have h6 := (areRows_out h).2.1
  refine Ev.congr (fun k => by rw [impl_leads.f, if_pos h, Option.bind_some]) ?_
  have hr := rooks_l0 (l := leadsOf rows q) (by omega) (leadsOf rows q).length 0 0 (by omega) (by omega)
  rw [List.drop_zero, Nat.zero_add] at hr
  exact Ev.bind (a := (rooksN (leadsOf rows q) : Int)) hr (Ev.now _)
theorem spec_l0 {l : List Int} (hl : l.length ≤ 1048576) (hin : ∀ e ∈ l, e = -1 ∨ 0 ≤ e) : ∀ (d i n : Nat), i + d = l.length → n ≤ i → Ev (fun k => spec_weRank.l0 k n l (l.length : Int) i) ((n + rooksN (l.drop i) : Nat) : Int)
  | 0, i, n, hi, hn => by
    refine Ev.step (f := fun _ => some ((n + rooksN (l.drop i) : Nat) : Int)) (fun k => ?_) (Ev.now _)
    rw [spec_weRank.l0, if_neg (by omega), List.drop_eq_nil_of_le (by omega)]; rfl
  | d + 1, i, n, hi, hn => by
    have w1 := Aside0.mk (show wrap64 ((i : Int) + 1) = ((i + 1 : Nat) : Int) by rw [w64 (by omega) (by omega)]; rfl)
    have w2 := Aside0.mk (show wrap64 ((n : Int) + 1) = ((n + 1 : Nat) : Int) by rw [w64 (by omega) (by omega)]; rfl)
    have hi2 : i < l.length := by omega
    have hx := hin _ (List.getElem_mem hi2)
    rw [List.drop_eq_getElem_cons hi2, rooksN, List.countP_cons]
    by_cases h : l[i] = -1
    · have ih := spec_l0 hl hin d (i + 1) n (by omega) (by omega)
      rw [rooksN] at ih
      rw [if_neg (by simp [h]), Nat.add_zero]
      refine Ev.step (fun k => ?_) ih
      rw [spec_weRank.l0, if_pos (by omega), if_pos (by omega), if_pos (by omega), rd_lt _ _ hi2, if_neg (by omega), w1.out]
    · have ih := spec_l0 hl hin d (i + 1) (n + 1) (by omega) (by omega)
      rw [rooksN] at ih
      rw [if_pos (by simpa using h), show n + (List.countP (fun x => x != -1) (List.drop (i + 1) l) + 1) = n + 1 + List.countP (fun x => x != -1) (List.drop (i + 1) l) by omega]
      refine Ev.step (fun k => ?_) ih
      rw [spec_weRank.l0, if_pos (by omega), if_pos (by omega), if_pos (by omega), rd_lt _ _ hi2, if_pos (by omega), w1.out, w2.out]
theorem spec_rank {rows : List (List Int)} {q : Int} (h : areRowsB rows q = true) : Ev (fun k => spec_weRank.f k rows q) (rooksN (leadsOf rows q) : Int) := by
  unfold spec_weRank.f
  obtain ⟨h1, h2⟩ := leadsOf_in h
  have h6 := (areRows_out h).2.1
  refine Ev.congr (fun k => by rw [spec_weLeads.f, if_pos h, Option.bind_some]) ?_
  have hr := spec_l0 (l := leadsOf rows q) (by omega) h2 (leadsOf rows q).length 0 0 (by omega) (by omega)
  rw [List.drop_zero, Nat.zero_add] at hr
  exact hr
end Go.Proofs.Ytadkkcdhgepbkaa.RankK
end
section
namespace Go.Proofs.Ytadkkcdhgepbkaa.RankA
set_option linter.unusedVariables false
open Go.RowKit Go.Proofs.Ytadkkcdhgepbkaa.Q Go.Proofs.YtadkkcdhgepbkaaW.PrintWords Go.Proofs.YtadkkcdhgepbkaaW.PrintLast Go.Proofs.YtadkkcdhgepbkaaW.PrintMore
open Go.Proofs.YtadkkcdhgepbkaaL Go.Proofs.Ytadkkcdhgepbkaa.LawK Go.Proofs.Ytadkkcdhgepbkaa.BoardK Go.Proofs.Ytadkkcdhgepbkaa.RowsK Go.Proofs.Ytadkkcdhgepbkaa.LeadsK Go.Proofs.Ytadkkcdhgepbkaa.RankK Go.Proofs.Ytadkkcdhgepbkaa.Walk
def rankAns (rows : List (List Int)) (q : Int) : Int × Bool := if areRowsB rows q = true then ((rooksN (leadsOf rows q) : Int), true) else (0, false)
theorem spec_a {rows : List (List Int)} (q : Int) (hx : ∀ x ∈ rows, x.length ≤ 1048576) : Ev (fun k => spec_RankModulo.f k rows q) (rankAns rows q) := by
  unfold spec_RankModulo.f
  exact asks hx (fun h => by unfold rankAns; rw [if_pos h]; exact Ev.bind (spec_rank h) (Ev.now _)) (fun h => by unfold rankAns; rw [h, if_neg (by simp)])
theorem impl_a (rows : List (List Int)) (q : Int) : Ev (fun k => impl_RankModulo.f k rows q) (rankAns rows q) := by
  unfold impl_RankModulo.f rankAns
  refine Ev.congr (fun k => by rw [impl_areRows.f, Option.bind_some]) ?_
  by_cases h : areRowsB rows q = true
  · rw [if_pos h]
    exact Ev.congr (fun k => if_pos h) (Ev.bind (impl_rank h) (Ev.now _))
  · rw [if_neg h]
    exact Ev.congr (fun k => if_neg h) (Ev.now _)
end Go.Proofs.Ytadkkcdhgepbkaa.RankA
end
section
namespace Go.Proofs.Ytadkkcdhgepbkaa.LeadsA
set_option linter.unusedVariables false
open Go.RowKit Go.Proofs.Ytadkkcdhgepbkaa.Q Go.Proofs.YtadkkcdhgepbkaaW.PrintWords Go.Proofs.YtadkkcdhgepbkaaW.PrintLast Go.Proofs.YtadkkcdhgepbkaaW.PrintMore
open Go.Proofs.YtadkkcdhgepbkaaL Go.Proofs.Ytadkkcdhgepbkaa.LawK Go.Proofs.Ytadkkcdhgepbkaa.BoardK Go.Proofs.Ytadkkcdhgepbkaa.RowsK Go.Proofs.Ytadkkcdhgepbkaa.LeadsK Go.Proofs.Ytadkkcdhgepbkaa.RankK
def ans (rows : List (List Int)) (q : Int) : List Int × Bool := if areRowsB rows q = true then (leadsOf rows q, true) else ([], false)
theorem spec_a {rows : List (List Int)} (q : Int) (hx : ∀ x ∈ rows, x.length ≤ 1048576) : Ev (fun k => spec_LeadsOf.f k rows q) (ans rows q) := by
  unfold spec_LeadsOf.f
  exact asks hx (fun h => by unfold ans; rw [if_pos h]; exact Ev.congr (fun k => by rw [spec_weLeads.f, if_pos h, Option.bind_some]; rfl) (Ev.now _)) (fun h => by unfold ans; rw [h, if_neg (by simp)])
theorem impl_a (rows : List (List Int)) (q : Int) : impl_LeadsOf.f rows q = some (ans rows q) := by
  unfold impl_LeadsOf.f ans
  rw [impl_areRows.f, Option.bind_some]
  by_cases h : areRowsB rows q = true
  · rw [if_pos h, if_pos h, impl_leads.f, if_pos h, Option.bind_some]; rfl
  · rw [if_neg h, if_neg h]
end Go.Proofs.Ytadkkcdhgepbkaa.LeadsA
end
section
namespace Go.Proofs.Ytadkkcdhgepbkaa.FitsA
set_option linter.unusedVariables false
open Go.RowKit Go.Proofs.Ytadkkcdhgepbkaa.Q Go.Proofs.YtadkkcdhgepbkaaW.PrintWords Go.Proofs.YtadkkcdhgepbkaaW.PrintLast Go.Proofs.YtadkkcdhgepbkaaW.PrintMore
open Go.Proofs.YtadkkcdhgepbkaaL Go.Proofs.Ytadkkcdhgepbkaa.LawK Go.Proofs.Ytadkkcdhgepbkaa.BoardK Go.Proofs.Ytadkkcdhgepbkaa.RowsK
theorem withinR (a b c : Int) : impl_within.f a b c = some (inR b c a) := by
  unfold impl_within.f inR
  by_cases h : b ≤ a
  · rw [if_pos h]; simp [h]
  · rw [if_neg h]; congr 1; exact (decide_eq_false (by omega)).symm
def rowOk (m q : Int) : List Int → Nat → Bool
  | [], _ => true
  | x :: t, c => (inR 0 (q - 1) x && (decide ((c : Int) < m) || decide (x = 0))) && rowOk m q t (c + 1)
def rowsOk (l : List Int) (q : Int) : List (List Int) → Nat → Bool
  | [], _ => true
  | row :: t, i => (decide (row.length = l.length) && rowOk (l.getD i 0) q row 0) && rowsOk l q t (i + 1)
def fits (l : List Int) (rows : List (List Int)) (q : Int) : Bool := decide (rows.length = l.length) && rowsOk l q rows 0
def ans (l : List Int) (rows : List (List Int)) (q : Int) : Bool × Bool := if (LensK.lenB l && inR 2 3 q) = true then (fits l rows q, true) else (false, false)
section
variable {l : List Int} {q : Int} {rows : List (List Int)} (hl : l.length ≤ 6) (hq : 2 ≤ q ∧ q ≤ 3) (hn : rows.length = l.length)
include hl hq hn
theorem impl_l1 {X : Bool × Bool} (i : Nat) (hi : i < rows.length) (row : List Int) (hr : row.length ≤ 6) (hX : Ev (fun k => impl_FitsBoard.l0 k l q rows (rows.length : Int) ((i + 1 : Nat) : Int)) X) : ∀ (d c : Nat), c + d = row.length →
    Ev (fun k => impl_FitsBoard.l1 k l q i rows (rows.length : Int) i row (row.length : Int) c) (if rowOk (l.getD i 0) q (row.drop c) c = true then X else (false, true))
  | 0, c, hc => by
    have w1 : wrap64 ((i : Int) + 1) = ((i + 1 : Nat) : Int) := by rw [w64 (by omega) (by omega)]; rfl
    rw [List.drop_eq_nil_of_le (by omega), rowOk, if_pos rfl]
    exact Ev.step (fun k => by rw [impl_FitsBoard.l1, if_neg (by omega), w1]) hX
  | d + 1, c, hc => by
    have w1 : wrap64 ((c : Int) + 1) = ((c + 1 : Nat) : Int) := by rw [w64 (by omega) (by omega)]; rfl
    have w2 : wrap64 (q - 1) = q - 1 := w64 (by omega) (by omega)
    have hc2 : c < row.length := by omega
    have ih := impl_l1 i hi row hr hX d (c + 1) (by omega)
    have il : i < l.length := by omega
    have no : ∀ (b : Bool), b = false → (if b = true then X else (false, true)) = (false, true) := fun b h => by rw [h]; rfl
    rw [List.drop_eq_getElem_cons hc2, rowOk]
    by_cases c1 : inR 0 (q - 1) row[c] = true
    · rw [c1, Bool.true_and]
      by_cases c2 : (c : Int) < l.getD i 0
      · rw [decide_eq_true c2, Bool.true_or, Bool.true_and]
        refine Ev.step (fun k => ?_) ih
        rw [impl_FitsBoard.l1, if_pos (by omega), if_pos (by omega), if_pos (by omega), rd_lt _ _ hc2, w2, withinR, Option.bind_some, if_pos c1, if_pos (by omega), if_pos (by omega), rd_nat, if_neg (by omega), w1]
      · rw [decide_eq_false c2, Bool.false_or]
        by_cases c3 : row[c] = 0
        · rw [decide_eq_true c3, Bool.true_and]
          refine Ev.step (fun k => ?_) ih
          rw [impl_FitsBoard.l1, if_pos (by omega), if_pos (by omega), if_pos (by omega), rd_lt _ _ hc2, w2, withinR, Option.bind_some, if_pos c1, if_pos (by omega), if_pos (by omega), rd_nat, if_pos (by omega), if_pos c3, w1]
        · rw [decide_eq_false c3, Bool.false_and, no _ rfl]
          refine Ev.step (f := fun _ => some (false, true)) (fun k => ?_) (Ev.now _)
          rw [impl_FitsBoard.l1, if_pos (by omega), if_pos (by omega), if_pos (by omega), rd_lt _ _ hc2, w2, withinR, Option.bind_some, if_pos c1, if_pos (by omega), if_pos (by omega), rd_nat, if_pos (by omega), if_neg c3]
    · rw [show inR 0 (q - 1) row[c] = false by simpa using c1, Bool.false_and, Bool.false_and, no _ rfl]
      refine Ev.step (f := fun _ => some (false, true)) (fun k => ?_) (Ev.now _)
      rw [impl_FitsBoard.l1, if_pos (by omega), if_pos (by omega), if_pos (by omega), rd_lt _ _ hc2, w2, withinR, Option.bind_some, if_neg c1]
theorem impl_l0 : ∀ (d i : Nat), i + d = rows.length → Ev (fun k => impl_FitsBoard.l0 k l q rows (rows.length : Int) i) (rowsOk l q (rows.drop i) i, true)
  | 0, i, hi => by
    refine Ev.step (f := fun _ => some (true, true)) (fun k => ?_) (evEq (Ev.now _) (by rw [List.drop_eq_nil_of_le (by omega)]; rfl))
    rw [impl_FitsBoard.l0, if_neg (by omega)]
  | d + 1, i, hi => by
    have hi2 : i < rows.length := by omega
    have ih := impl_l0 d (i + 1) (by omega)
    rw [List.drop_eq_getElem_cons hi2, rowsOk]
    by_cases c1 : rows[i].length = l.length
    · rw [decide_eq_true c1, Bool.true_and]
      have := impl_l1 hl hq hn i hi2 rows[i] (by omega) ih rows[i].length 0 (by omega)
      rw [List.drop_zero] at this
      refine Ev.step (fun k => ?_) (evEq this ?_)
      · rw [impl_FitsBoard.l0, if_pos (by omega), if_pos (by omega), if_pos (by omega), rdL hi2, if_pos (by omega)]; rfl
      · cases rowOk (l.getD i 0) q rows[i] 0 <;> rfl
    · rw [decide_eq_false c1, Bool.false_and, Bool.false_and]
      refine Ev.step (f := fun _ => some (false, true)) (fun k => ?_) (Ev.now _)
      rw [impl_FitsBoard.l0, if_pos (by omega), if_pos (by omega), if_pos (by omega), rdL hi2, if_neg (by omega)]
end
theorem impl_answer {l : List Int} {rows : List (List Int)} (q : Int) (hl : l.length ≤ 1048576) : Ev (fun k => impl_FitsBoard.f k l rows q) (ans l rows q) := by
  unfold impl_FitsBoard.f ans
  have no : Ev (fun k => impl_FitsBoard.j0 k l rows q true) (false, false) := Ev.step (f := fun _ => some (false, false)) (fun k => by rw [impl_FitsBoard.j0, if_pos rfl]) (Ev.now _)
  refine Ev.bind (LensK.impl_good hl) ?_
  by_cases h : LensK.lenB l = true
  · rw [h, Bool.true_and]
    refine Ev.congr (fun k => by rw [if_pos rfl, impl_isQ.f, withinR, Option.bind_some, Option.bind_some]) ?_
    by_cases hq : inR 2 3 q = true
    · rw [if_pos hq, hq]
      have hq2 : 2 ≤ q ∧ q ≤ 3 := of_decide_eq_true hq
      have hl6 := (LensK.len_of h).2.1
      unfold fits
      by_cases hn : rows.length = l.length
      · rw [decide_eq_true hn, Bool.true_and]
        have := impl_l0 hl6 hq2 hn rows.length 0 (by omega)
        rw [List.drop_zero] at this
        refine Ev.step (fun k => ?_) this
        rw [impl_FitsBoard.j0, if_neg (by simp), if_pos (by omega)]; rfl
      · rw [decide_eq_false hn, Bool.false_and]
        refine Ev.step (f := fun _ => some (false, true)) (fun k => ?_) (Ev.now _)
        rw [impl_FitsBoard.j0, if_neg (by simp), if_neg (by omega)]
    · rw [if_neg hq, show inR 2 3 q = false by simpa using hq]
      exact no
  · rw [show LensK.lenB l = false by simpa using h, Bool.false_and, if_neg (by simp)]
    exact Ev.congr (fun k => if_neg (by simp)) no
theorem rowOk_split (m q : Int) (hm : 0 ≤ m) : ∀ (row : List Int) (c : Nat), rowOk m q row c = (row.all (inR 0 (q - 1)) && (row.drop (m.toNat - c)).all (inR 0 0))
  | [], c => by simp [rowOk]
  | x :: t, c => by
    have ih := rowOk_split m q hm t (c + 1)
    rw [rowOk, ih, List.all_cons]
    by_cases c2 : (c : Int) < m
    · rw [decide_eq_true c2, show m.toNat - c = (m.toNat - (c + 1)) + 1 by omega, List.drop_succ_cons]
      cases inR 0 (q - 1) x <;> simp
    · rw [decide_eq_false c2, show m.toNat - c = 0 by omega, show m.toNat - (c + 1) = 0 by omega, List.drop_zero, List.drop_zero, List.all_cons]
      have : inR 0 0 x = decide (x = 0) := by unfold inR; exact decide_eq_decide.2 (by omega)
      rw [this]
      cases inR 0 (q - 1) x <;> cases decide (x = 0) <;> cases t.all (inR 0 (q - 1)) <;> simp
def zeros (rows : List (List Int)) : List Int → Nat → Bool
  | [], _ => true
  | m :: t, i => ((rows.getD i []).drop m.toNat).all (inR 0 0) && zeros rows t (i + 1)
section
variable {l : List Int} {q : Int} {rows : List (List Int)} (hl : l.length ≤ 6) (hm : ∀ i (hi : i < l.length), 0 ≤ l[i] ∧ l[i] ≤ l.length) (hn : rows.length = l.length) (hr : ∀ x ∈ rows, x.length = l.length)
include hl hm hn hr
theorem spec_l0 : ∀ (d i : Nat), i + d = l.length → Ev (fun k => spec_FitsBoard.l0 k rows l (l.length : Int) i) (zeros rows (l.drop i) i, true)
  | 0, i, hi => by
    refine Ev.step (f := fun _ => some (true, true)) (fun k => ?_) (evEq (Ev.now _) (by rw [List.drop_eq_nil_of_le (by omega)]; rfl))
    rw [spec_FitsBoard.l0, if_neg (by omega)]
  | d + 1, i, hi => by
    have w1 : wrap64 ((i : Int) + 1) = ((i + 1 : Nat) : Int) := by rw [w64 (by omega) (by omega)]; rfl
    have hi2 : i < l.length := by omega
    have hi3 : i < rows.length := by omega
    have ih := spec_l0 d (i + 1) (by omega)
    have hmi := hm i hi2
    have hri := hr _ (List.getElem_mem hi3)
    rw [List.drop_eq_getElem_cons hi2, zeros, gD_lt _ _ hi3]
    refine Ev.step (f := fun k => (spec_l1All.f k (rows[i].drop l[i].toNat) 0 0).bind fun t => if t = true then spec_FitsBoard.l0 k rows l (l.length : Int) ((i + 1 : Nat) : Int) else some (false, true)) (fun k => ?_) ?_
    · rw [spec_FitsBoard.l0, if_pos (by omega), if_pos (by omega), if_pos (by omega), if_pos (by omega), rd_lt _ _ hi2, if_pos hmi.1, rdL hi3, if_pos (by omega), w1]
    · refine Ev.bind (l1All _ _ (by rw [List.length_drop]; omega)) ?_
      by_cases c : (rows[i].drop l[i].toNat).all (inR 0 0) = true
      · rw [c, Bool.true_and]
        exact Ev.congr (fun k => if_pos rfl) ih
      · rw [show (rows[i].drop l[i].toNat).all (inR 0 0) = false by simpa using c, Bool.false_and]
        exact Ev.congr (fun k => if_neg (by simp)) (Ev.now _)
end
def sameB (n : Nat) (q : Int) (rows : List (List Int)) : Bool := rows.all (fun x => decide (x.length = n) && x.all (inR 0 (q - 1)))
theorem weRows_l0 {rows : List (List Int)} {q : Int} (hq : 2 ≤ q ∧ q ≤ 3) (h1 : 0 < rows.length) (h6 : rows.length ≤ 6) (hx : ∀ x ∈ rows, x.length ≤ 1048576) : ∀ (d i : Nat), i + d = rows.length →
    Ev (fun k => spec_weRows.l0 k rows q rows (rows.length : Int) i) (sameB (rows[0]'h1).length q (rows.drop i))
  | 0, i, hi => by
    refine Ev.step (f := fun _ => some true) (fun k => ?_) (evEq (Ev.now _) (by rw [List.drop_eq_nil_of_le (by omega)]; rfl))
    rw [spec_weRows.l0, if_neg (by omega)]
  | d + 1, i, hi => by
    have w1 : wrap64 ((i : Int) + 1) = ((i + 1 : Nat) : Int) := by rw [w64 (by omega) (by omega)]; rfl
    have w2 : wrap64 (q - 1) = q - 1 := w64 (by omega) (by omega)
    have hi2 : i < rows.length := by omega
    have ih := weRows_l0 hq h1 h6 hx d (i + 1) (by omega)
    have e0 : rd_L2 rows 0 = rows[0]'h1 := rdL (i := 0) h1
    rw [List.drop_eq_getElem_cons hi2]
    unfold sameB at ih ⊢
    rw [List.all_cons]
    by_cases c1 : rows[i].length = (rows[0]'h1).length
    · rw [decide_eq_true c1, Bool.true_and]
      refine Ev.step (f := fun k => (spec_l1All.f k rows[i] 0 (q - 1)).bind fun t => if t = true then spec_weRows.l0 k rows q rows (rows.length : Int) ((i + 1 : Nat) : Int) else some false) (fun k => ?_) ?_
      · rw [spec_weRows.l0, if_pos (by omega), if_pos (by omega), if_pos (by omega), if_pos (by omega), rdL hi2, e0, if_pos (by omega), w1, w2]
      · refine Ev.bind (l1All _ _ (by have := hx _ (List.getElem_mem hi2); omega)) ?_
        by_cases c : rows[i].all (inR 0 (q - 1)) = true
        · rw [c, Bool.true_and]
          exact Ev.congr (fun k => if_pos rfl) ih
        · rw [show rows[i].all (inR 0 (q - 1)) = false by simpa using c, Bool.false_and]
          exact Ev.congr (fun k => if_neg (by simp)) (Ev.now _)
    · rw [decide_eq_false c1, Bool.false_and, Bool.false_and]
      refine Ev.step (f := fun _ => some false) (fun k => ?_) (Ev.now _)
      rw [spec_weRows.l0, if_pos (by omega), if_pos (by omega), if_pos (by omega), if_pos (by omega), rdL hi2, e0, if_neg (by omega)]
theorem weRows {rows : List (List Int)} {q : Int} (hq : 2 ≤ q ∧ q ≤ 3) (hx : ∀ x ∈ rows, x.length ≤ 1048576) : Ev (fun k => spec_weRows.f k rows q) (inR 1 6 (rows.length : Int) && (inR 1 6 ((rows.getD 0 []).length : Int) && sameB (rows.getD 0 []).length q rows)) := by
  unfold spec_weRows.f
  have no : Ev (fun k => spec_weRows.j0 k rows q true) false := Ev.step (f := fun _ => some false) (fun k => by rw [spec_weRows.j0, if_pos rfl]) (Ev.now _)
  refine Ev.congr (fun k => by rw [boSide_f, Option.bind_some]) ?_
  by_cases h : inR 1 6 (rows.length : Int) = true
  · have h2 : 1 ≤ (rows.length : Int) ∧ (rows.length : Int) ≤ 6 := of_decide_eq_true h
    have h1 : 0 < rows.length := by omega
    have e0 : rd_L2 rows 0 = rows[0]'h1 := rdL (i := 0) h1
    have e1 : rows.getD 0 [] = rows[0]'h1 := gD_lt _ _ h1
    rw [h, Bool.true_and, e1]
    refine Ev.congr (fun k => by rw [if_pos rfl, if_pos (by omega), e0, boSide_f, Option.bind_some]) ?_
    by_cases c : inR 1 6 ((rows[0]'h1).length : Int) = true
    · rw [c, Bool.true_and]
      have := weRows_l0 hq h1 (by omega) hx rows.length 0 (by omega)
      rw [List.drop_zero] at this
      refine Ev.step (fun k => ?_) this
      rw [spec_weRows.j0, if_neg (by simp)]; rfl
    · rw [show inR 1 6 ((rows[0]'h1).length : Int) = false by simpa using c, Bool.false_and]
      exact no
  · rw [show inR 1 6 (rows.length : Int) = false by simpa using h, Bool.false_and]
    exact Ev.congr (fun k => if_neg (by simp)) no
theorem rowsOk_split {l : List Int} (q : Int) (hm : ∀ i (hi : i < l.length), 0 ≤ l[i] ∧ l[i] ≤ l.length) (rows : List (List Int)) (hn : rows.length = l.length) : ∀ (d i : Nat), i + d = l.length →
    rowsOk l q (rows.drop i) i = (sameB l.length q (rows.drop i) && zeros rows (l.drop i) i)
  | 0, i, hi => by rw [List.drop_eq_nil_of_le (by omega), List.drop_eq_nil_of_le (by omega)]; rfl
  | d + 1, i, hi => by
    have hi2 : i < l.length := by omega
    have hi3 : i < rows.length := by omega
    have ih := rowsOk_split q hm rows hn d (i + 1) (by omega)
    rw [List.drop_eq_getElem_cons hi3, List.drop_eq_getElem_cons hi2, rowsOk, zeros, gD_lt _ _ hi3, gD_lt _ _ hi2, ih, rowOk_split _ _ (hm i hi2).1, Nat.sub_zero]
    unfold sameB
    rw [List.all_cons]
    cases decide (rows[i].length = l.length) <;> cases rows[i].all (inR 0 (q - 1)) <;> cases (rows[i].drop l[i].toNat).all (inR 0 0) <;> simp
theorem spec_answer {l : List Int} {rows : List (List Int)} (q : Int) (hl : l.length ≤ 1048576) (hx : ∀ x ∈ rows, x.length ≤ 1048576) : Ev (fun k => spec_FitsBoard.f k l rows q) (ans l rows q) := by
  unfold spec_FitsBoard.f ans
  have no : Ev (fun k => spec_FitsBoard.j0 k l rows q true) (false, false) := Ev.step (f := fun _ => some (false, false)) (fun k => by rw [spec_FitsBoard.j0, if_pos rfl]) (Ev.now _)
  have no1 : Ev (fun k => spec_FitsBoard.j1 k l rows true) (false, true) := Ev.step (f := fun _ => some (false, true)) (fun k => by rw [spec_FitsBoard.j1, if_pos rfl]) (Ev.now _)
  refine Ev.bind (LensK.spec_good hl) ?_
  by_cases h : LensK.lenB l = true
  · rw [h, Bool.true_and]
    refine Ev.congr (fun k => by rw [if_pos rfl, spec_weBase.f, l1In_f, Option.bind_some, Option.bind_some]) ?_
    by_cases hq : inR 2 3 q = true
    · rw [if_pos hq, hq]
      have hq2 : 2 ≤ q ∧ q ≤ 3 := of_decide_eq_true hq
      obtain ⟨hl1, hl6, hm⟩ := LensK.len_of h
      unfold fits
      by_cases hn : rows.length = l.length
      · rw [decide_eq_true hn, Bool.true_and]
        refine Ev.step (fun k => by rw [spec_FitsBoard.j0, if_neg (by simp), if_pos (by omega)]) ?_
        refine Ev.bind (weRows hq2 hx) ?_
        have h1 : 0 < rows.length := by omega
        have e0 : rd_L2 rows 0 = rows[0]'h1 := rdL (i := 0) h1
        have e1 : rows.getD 0 [] = rows[0]'h1 := gD_lt _ _ h1
        have hs := rowsOk_split q hm rows hn l.length 0 (by omega)
        rw [List.drop_zero, List.drop_zero] at hs
        rw [e1, show inR 1 6 (rows.length : Int) = true from decide_eq_true (by omega), Bool.true_and]
        by_cases c1 : (rows[0]'h1).length = l.length
        · rw [show inR 1 6 ((rows[0]'h1).length : Int) = true from decide_eq_true (by omega), Bool.true_and, hs, c1]
          by_cases c2 : sameB l.length q rows = true
          · rw [c2, Bool.true_and]
            refine Ev.congr (fun k => by rw [if_pos rfl, if_pos (by omega), e0]) ?_
            have hr : ∀ x ∈ rows, x.length = l.length := fun x hx => by
              have := List.all_eq_true.1 c2 x hx
              rw [Bool.and_eq_true, decide_eq_true_eq] at this
              exact this.1
            have := spec_l0 hl6 hm hn hr l.length 0 (by omega)
            rw [List.drop_zero] at this
            refine Ev.step (fun k => ?_) this
            rw [spec_FitsBoard.j1, if_neg (by simp [c1])]; rfl
          · rw [show sameB l.length q rows = false by simpa using c2, Bool.false_and]
            exact Ev.congr (fun k => if_neg (by simp)) no1
        · have hf : rowsOk l q rows 0 = false := by
            have e2 : rows = rows[0]'h1 :: rows.drop 1 := by
              have := List.drop_eq_getElem_cons h1
              rwa [List.drop_zero] at this
            rw [e2, rowsOk, decide_eq_false c1]; rfl
          rw [hf]
          by_cases c2 : (inR 1 6 ((rows[0]'h1).length : Int) && sameB (rows[0]'h1).length q rows) = true
          · refine Ev.congr (fun k => by rw [if_pos c2, if_pos (by omega), e0]) ?_
            rw [show (((rows[0]'h1).length : Int) != (l.length : Int)) = true by simp; omega]
            exact no1
          · exact Ev.congr (fun k => if_neg c2) no1
      · rw [decide_eq_false hn, Bool.false_and]
        refine Ev.step (f := fun k => spec_FitsBoard.j1 k l rows true) (fun k => ?_) no1
        rw [spec_FitsBoard.j0, if_neg (by simp), if_neg (by omega)]
    · rw [if_neg hq, show inR 2 3 q = false by simpa using hq]
      exact no
  · rw [show LensK.lenB l = false by simpa using h, Bool.false_and, if_neg (by simp)]
    exact Ev.congr (fun k => if_neg (by simp)) no
end Go.Proofs.Ytadkkcdhgepbkaa.FitsA
end
section
namespace Go.Proofs.Ytadkkcdhgepbkaa.MatK
set_option linter.unusedVariables false
set_option linter.unusedSectionVars false
open Go.RowKit Go.Proofs.Ytadkkcdhgepbkaa.Q Go.Proofs.YtadkkcdhgepbkaaW.PrintWords Go.Proofs.YtadkkcdhgepbkaaW.PrintLast Go.Proofs.YtadkkcdhgepbkaaW.PrintMore
open Go.Proofs.YtadkkcdhgepbkaaL Go.Proofs.Ytadkkcdhgepbkaa.LawK Go.Proofs.Ytadkkcdhgepbkaa.BoardK Go.Proofs.Ytadkkcdhgepbkaa.RowsK
theorem setD_out (q : Int) : ∀ (d : Nat) (num : Int) (row : List Int) (c j : Nat), (j < c ∨ c + d ≤ j) → (setD q d num row c).1.getD j 0 = row.getD j 0
  | 0, _, _, _, _, _ => rfl
  | d + 1, num, row, c, j, h => by
    rw [setD, setD_out q d _ _ (c + 1) j (by omega), List.getD_eq_getElem?_getD, List.getElem?_set_ne (by omega), ← List.getD_eq_getElem?_getD]
theorem setD_at (q : Int) (d : Nat) (num : Int) {row : List Int} {c : Nat} (hc : c < row.length) : (setD q (d + 1) num row c).1.getD c 0 = Int.tmod num q := by
  rw [setD, setD_out q d _ _ (c + 1) c (by omega), List.getD_eq_getElem?_getD, List.getElem?_set_self hc]
  rfl
theorem dig_split {q num p b : Int} : (b + Int.tmod num q * p) + (p * q) * Int.tdiv num q = b + p * num := by
  have e : num = q * Int.tdiv num q + Int.tmod num q := (Int.mul_tdiv_add_tmod num q).symm
  have h : p * num = p * (q * Int.tdiv num q) + p * Int.tmod num q := by rw [← Int.mul_add, ← e]
  rw [h, Int.mul_assoc, Int.mul_comm (Int.tmod num q) p]
  omega
theorem tm {q num : Int} (hq : 2 ≤ q ∧ q ≤ 3) (h : 0 ≤ num) : 0 ≤ Int.tmod num q ∧ Int.tmod num q ≤ q - 1 := by
  rw [Int.tmod_eq_emod_of_nonneg h]
  obtain rfl | rfl : q = 2 ∨ q = 3 := by omega
  · omega
  · omega
theorem setD_digs {q : Int} (hq : 2 ≤ q ∧ q ≤ 3) : ∀ (d : Nat) (num : Int) (row : List Int) (c : Nat), 0 ≤ num ∧ num ≤ 10000 → (∀ x ∈ row, 0 ≤ x ∧ x ≤ q - 1) → ∀ x ∈ (setD q d num row c).1, 0 ≤ x ∧ x ≤ q - 1
  | 0, _, _, _, _, h => h
  | d + 1, num, row, c, hn, h => by
    rw [setD]
    refine setD_digs hq d _ _ _ (td hq hn) (fun x hx => ?_)
    rcases List.mem_or_eq_of_mem_set hx with g | g
    · exact h x g
    · rw [g]; exact tm hq hn.1
theorem rowOk_all (m q : Int) : ∀ (row : List Int) (c : Nat), (∀ x ∈ row, 0 ≤ x ∧ x ≤ q - 1) → (∀ j, m ≤ ((c + j : Nat) : Int) → row.getD j 0 = 0) → FitsA.rowOk m q row c = true
  | [], _, _, _ => rfl
  | x :: t, c, h1, h2 => by
    have ih := rowOk_all m q t (c + 1) (fun y hy => h1 y (List.mem_cons_of_mem _ hy)) (fun j hj => by
      have := h2 (j + 1) (by omega)
      rwa [List.getD_cons_succ] at this)
    rw [FitsA.rowOk, ih, Bool.and_true, Bool.and_eq_true]
    refine ⟨decide_eq_true (h1 x List.mem_cons_self), ?_⟩
    by_cases hc : (c : Int) < m
    · rw [decide_eq_true hc]; rfl
    · have := h2 0 (by omega)
      rw [List.getD_cons_zero] at this
      rw [decide_eq_true this, Bool.or_true]
section
variable {l : List Int} {q : Int} (hq : 2 ≤ q ∧ q ≤ 3) (hx : ∀ i (hi : i < l.length), 0 ≤ l[i] ∧ l[i] ≤ l.length)
include hq hx
theorem rows_fit : ∀ (d i : Nat) (num : Int), i + d = l.length → 0 ≤ num ∧ num ≤ 10000 → FitsA.rowsOk l q (matR q l.length (l.drop i) num) i = true
  | 0, i, num, hi, hn => by rw [List.drop_eq_nil_of_le (by omega)]; rfl
  | d + 1, i, num, hi, hn => by
    have hi2 : i < l.length := by omega
    rw [List.drop_eq_getElem_cons hi2, matR, FitsA.rowsOk, rows_fit d (i + 1) _ (by omega) (setD_num hq _ _ _ _ hn), Bool.and_true, Bool.and_eq_true, setD_length, List.length_replicate]
    refine ⟨decide_eq_true rfl, rowOk_all _ _ _ _ (setD_digs hq _ _ _ _ hn (fun x hx => by rw [List.eq_of_mem_replicate hx]; omega)) (fun j hj => ?_)⟩
    rw [gD_lt _ _ hi2] at hj
    rw [setD_out q _ _ _ _ _ (by have := (hx i hi2).1; omega), List.getD_eq_getElem?_getD, List.getElem?_replicate]
    split <;> rfl
theorem mat_fits (h : LensK.lenB l = true) {num : Int} (hn : 0 ≤ num ∧ num ≤ 10000) : FitsA.ans l (matR q l.length l num) q = (true, true) := by
  unfold FitsA.ans FitsA.fits
  rw [h, Bool.true_and, if_pos (show inR 2 3 q = true from decide_eq_true hq), matR_length, decide_eq_true rfl, Bool.true_and]
  have := rows_fit hq hx l.length 0 num (by omega) hn
  rw [List.drop_zero] at this
  rw [this]
end
end Go.Proofs.Ytadkkcdhgepbkaa.MatK
end
