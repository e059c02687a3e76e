/- Texts of this claim put together (11): words, what the functions compute, and plain facts. No conditions. -/
import Derived.Test.YtadkkcdhgepbkaaSFnMatricesOfRanks10
import Derived.Test.YtadkkcdhgepbkaaSFnMatricesOfRanks8
import Derived.Test.YtadkkcdhgepbkaaSFnMatricesOfRanks5
import Derived.Test.YtadkkcdhgepbkaaSFnMatricesOfRanks7
import Derived.Test.YtadkkcdhgepbkaaSFnMatricesOfRanks4
import Derived.Test.YtadkkcdhgepbkaaSFnMatricesOfRanks9
import Derived.Test.YtadkkcdhgepbkaaSFnMatricesOfRanks6
import Derived.OpenShut
import Derived.Test.YtadkkcdhgepbkaaSFnMatricesOfRanks0
section
namespace Go.Proofs.Ytadkkcdhgepbkaa.Hagl
set_option linter.unusedVariables false
set_option linter.unusedSectionVars false
open Go.RowKit Go.Proofs.YtadkkcdhgepbkaaW.PrintWords Go.Proofs.YtadkkcdhgepbkaaW.PrintLast Go.Proofs.YtadkkcdhgepbkaaW.PrintMore
open Go.Proofs.YtadkkcdhgepbkaaL Go.Proofs.Ytadkkcdhgepbkaa.LeadsK Go.Proofs.Ytadkkcdhgepbkaa.LinAlg Go.Proofs.Ytadkkcdhgepbkaa.LeadLaw Go.Proofs.Ytadkkcdhgepbkaa.Walk
open Go.Proofs.Ytadkkcdhgepbkaa.MatK (setD matR)
open Go.Proofs.Ytadkkcdhgepbkaa.BagK (Fk Fk_rooks rooksN_snoc)
theorem sum_append (m : Nat) (g : Nat → Nat) : ∀ n, sumTo (m + n) g = sumTo m g + sumTo n (fun i => g (m + i))
  | 0 => rfl
  | n + 1 => by
    have e : sumTo (m + (n + 1)) g = sumTo (m + n) g + g (m + n) := rfl
    rw [e, sum_append m g n, sumTo]; omega
theorem sum_split (Q : Nat) (g : Nat → Nat) : ∀ M, sumTo (Q * M) g = sumTo Q (fun a => sumTo M (fun b => g (a + Q * b)))
  | 0 => (sum_zero Q).symm
  | M + 1 => by
    rw [Nat.mul_succ, sum_append, sum_split Q g M, ← sum_add]
    exact sum_congr (fun a _ => by rw [sumTo, Nat.add_comm a])
def Gm (Q : Nat) : List Int → Nat → Nat → Nat
  | [], k, z => if k = z then 1 else 0
  | m :: t, k, z => Q ^ k * Gm Q t k z + (Q ^ m.toNat - Q ^ k) * Gm Q t (k + 1) z
def tot : List Int → Nat
  | [] => 0
  | m :: t => m.toNat + tot t
section
variable {q : Int} (hq : 2 ≤ q ∧ q ≤ 3) {n : Nat}
include hq
theorem digits (G : List Int → Int → Nat) (K : Nat) : ∀ (d : Nat) (row : List Int) (c : Nat), sumTo (q.toNat ^ d * K) (fun num => G (setD q d (num : Int) row c).1 (setD q d (num : Int) row c).2) = sumM q.toNat (fun _ => false) d row c (fun y => sumTo K (fun r => G y (r : Int)))
  | 0, row, c => by
    rw [Nat.pow_zero, Nat.one_mul, sumM]
    exact sum_congr (fun r _ => by rw [setD])
  | d + 1, row, c => by
    rw [Nat.pow_succ, Nat.mul_comm (q.toNat ^ d), Nat.mul_assoc, sum_split, sumM, if_neg (by simp)]
    refine sum_congr (fun a ha => ?_)
    rw [← digits G K d (row.set c (a : Int)) (c + 1)]
    refine sum_congr (fun b _ => ?_)
    have hq2 : q = 2 ∨ q = 3 := by omega
    have e1 : Int.tdiv ((a + q.toNat * b : Nat) : Int) q = (b : Int) := by
      rw [Int.tdiv_eq_ediv_of_nonneg (by omega)]
      rcases hq2 with rfl | rfl
      · have : (2 : Int).toNat = 2 := rfl
        rw [this] at ha ⊢
        omega
      · have : (3 : Int).toNat = 3 := rfl
        rw [this] at ha ⊢
        omega
    have e2 : Int.tmod ((a + q.toNat * b : Nat) : Int) q = (a : Int) := by
      rw [Int.tmod_eq_emod_of_nonneg (by omega)]
      rcases hq2 with rfl | rfl
      · have : (2 : Int).toNat = 2 := rfl
        rw [this] at ha ⊢
        omega
      · have : (3 : Int).toNat = 3 := rfl
        rw [this] at ha ⊢
        omega
    rw [setD, e1, e2]
theorem red_support {m : Nat} {done : List (List Int)} {out : List Int} (h : LeadLaw.Steps q n done out) (hz : ∀ s, (hs : s < done.length) → ∀ j, m ≤ j → done[s].getD j 0 = 0) {y : List Int} (hy : Dig q n y) (hyz : ∀ j, m ≤ j → y.getD j 0 = 0) : ∀ j, m ≤ j → (red q n done out y).getD j 0 = 0 := by
  intro j hj
  obtain ⟨g1, _, c, hc⟩ := red_at hq h done.length 0 y (by omega) hy (fun s hs => by omega)
  rw [List.drop_zero, List.drop_zero] at g1 hc
  have h1 := hc j
  rw [hyz j hj, sumI_congr (g := fun _ => 0) (fun s hs => by rw [fam_lt hs, hz s hs j hj, Int.mul_zero]), sumI_zero, Int.sub_zero, Int.zero_sub] at h1
  exact dig_zero hq (g1.dig j) (Int.dvd_neg.1 h1)
theorem mat_count (z : Nat) : ∀ (t : List Int) (M : Nat) (done : List (List Int)) (out : List Int), LeadLaw.Steps q n done out → (∀ s, (hs : s < done.length) → ∀ j, M ≤ j → done[s].getD j 0 = 0) → (∀ x ∈ t, (M : Int) ≤ x ∧ x ≤ n) → t.Pairwise (fun a b => a ≤ b) → sumTo (q.toNat ^ tot t) (fun num => if rooksN (leadsF q n (matR q n t (num : Int)) done out) = z then 1 else 0) = Gm q.toNat t (rooksN out) z
  | [], M, done, out, hs, hz, ht, hp => by
    rw [tot, Nat.pow_zero, sumTo, sumTo, Nat.zero_add, matR, leadsF, Gm]
  | m :: t, M, done, out, hs, hz, ht, hp => by
    obtain ⟨hm1, hm2⟩ := ht m List.mem_cons_self
    obtain ⟨u, rfl⟩ : ∃ u : Nat, m = u := ⟨m.toNat, by omega⟩
    have hzu : ∀ s, (hs : s < done.length) → ∀ j, u ≤ j → done[s].getD j 0 = 0 := fun s hs j hj => hz s hs j (by omega)
    have hp2 := List.pairwise_cons.1 hp
    obtain ⟨G, hG⟩ : ∃ G : List Int → Int → Nat, G = fun y r => if rooksN (leadsF q n (matR q n t r) (done ++ [red q n done out y]) (out ++ [leadOf (red q n done out y) 0])) = z then 1 else 0 := ⟨_, rfl⟩
    have e1 : sumTo (q.toNat ^ tot ((u : Int) :: t)) (fun num => if rooksN (leadsF q n (matR q n ((u : Int) :: t) (num : Int)) done out) = z then 1 else 0) = sumTo (q.toNat ^ u * q.toNat ^ tot t) (fun num => G (setD q u (num : Int) (List.replicate n 0) 0).1 (setD q u (num : Int) (List.replicate n 0) 0).2) := by
      rw [tot, Int.toNat_natCast, Nat.pow_add]
      refine sum_congr (fun num _ => ?_)
      rw [hG, matR, leadsF, Int.toNat_natCast]
    rw [e1, digits hq]
    have e2 : sumM q.toNat (fun _ => false) u (List.replicate n 0) 0 (fun y => sumTo (q.toNat ^ tot t) (fun r => G y (r : Int))) = sumM q.toNat (fun _ => false) u (List.replicate n 0) 0 (fun y => (if leadOf (red q n done out y) 0 = -1 then 1 else 0) * Gm q.toNat t (rooksN out) z + (if leadOf (red q n done out y) 0 = -1 then 0 else 1) * Gm q.toNat t (rooksN out + 1) z) := by
      refine sumM_on hq (m := u) (fun y hy _ hyz => ?_) u _ 0 (List.length_replicate ..) (by omega) (by omega) (start_ok hq).1 (fun j _ => (start_ok hq (E := fun _ => false) (m := u)).2 j)
      have hsn := steps_snoc hq hs hy
      have hrs := red_support hq hs hzu hy hyz
      have ih := mat_count z t u (done ++ [red q n done out y]) (out ++ [leadOf (red q n done out y) 0]) hsn (fun s hs2 j hj => by
        by_cases hl : s < done.length
        · rw [app_lt hl]; exact hzu s hl j hj
        · have e : s = done.length := by rw [List.length_append, List.length_singleton] at hs2; omega
          subst e
          rw [app_new]; exact hrs j hj) (fun x hx => ⟨hp2.1 x hx, (ht x (List.mem_cons_of_mem _ hx)).2⟩) hp2.2
      rw [hG]
      refine ih.trans ?_
      rw [rooksN_snoc]
      by_cases hlead : leadOf (red q n done out y) 0 = -1
      · rw [if_pos hlead, if_pos hlead, Nat.one_mul, Nat.zero_mul]; rfl
      · rw [if_neg hlead, if_neg hlead, Nat.one_mul, Nat.zero_mul, Nat.zero_add]
    have hnone := none_count hq (m := u) (by omega) hs hzu
    have hall : sumM q.toNat (fun _ => false) u (List.replicate n 0) 0 (fun y => if leadOf (red q n done out y) 0 = -1 then 1 else 0) + sumM q.toNat (fun _ => false) u (List.replicate n 0) 0 (fun y => if leadOf (red q n done out y) 0 = -1 then 0 else 1) = q.toNat ^ u := by
      rw [← sumM_add, ← sumM_all (Q := q.toNat) u (List.replicate n 0) 0]
      exact sumM_congr (fun y => by split <;> rfl) _ _ _
    rw [e2, sumM_add, sumM_mul, sumM_mul, hnone, Gm, Int.toNat_natCast]
    rw [hnone] at hall
    congr 2
    omega
end
def sumL (f : Nat × Nat → Nat) : List (Nat × Nat) → Nat
  | [] => 0
  | x :: t => f x + sumL f t
theorem sumL_app (f : Nat × Nat → Nat) : ∀ a b, sumL f (a ++ b) = sumL f a + sumL f b
  | [], b => by rw [List.nil_append, sumL, Nat.zero_add]
  | x :: a, b => by rw [List.cons_append, sumL, sumL, sumL_app f a b, Nat.add_assoc]
theorem sumL_congr {f g : Nat × Nat → Nat} : ∀ {l : List (Nat × Nat)}, (∀ x ∈ l, f x = g x) → sumL f l = sumL g l
  | [], _ => rfl
  | x :: l, h => by rw [sumL, sumL, h x List.mem_cons_self, sumL_congr (fun y hy => h y (List.mem_cons_of_mem _ hy))]
theorem sumL_flat (f : Nat × Nat → Nat) (F : Nat × Nat → List (Nat × Nat)) : ∀ l, sumL f (l.flatMap F) = sumL (fun x => sumL f (F x)) l
  | [] => rfl
  | x :: l => by rw [List.flatMap_cons, sumL_app, sumL_flat f F l, sumL]
theorem sumL_range (f : Nat × Nat → Nat) (g : Nat → Nat × Nat) : ∀ n, sumL f ((List.range n).map g) = sumTo n (fun i => f (g i))
  | 0 => rfl
  | n + 1 => by rw [List.range_succ, List.map_append, sumL_app, sumL_range f g n, sumTo, List.map_cons, List.map_nil, sumL, sumL, Nat.add_zero]
def wt (Q S : Nat) (f : Nat → Nat) (x : Nat × Nat) : Nat := (Q - 1) ^ x.1 * Q ^ (S - x.1 - x.2) * f x.1
theorem geo {Q : Nat} (hQ : 1 ≤ Q) (m : Nat) : ∀ d, d ≤ m → sumTo d (fun i => (Q - 1) * Q ^ (m - 1 - i)) + Q ^ (m - d) = Q ^ m
  | 0, _ => by rw [sumTo, Nat.zero_add, Nat.sub_zero]
  | d + 1, h => by
    have ih := geo hQ m d (by omega)
    rw [sumTo]
    have e : Q ^ (m - d) = (Q - 1) * Q ^ (m - 1 - d) + Q ^ (m - (d + 1)) := by
      rw [show m - (d + 1) = m - 1 - d by omega, show m - d = (m - 1 - d) + 1 by omega, Nat.pow_succ]
      obtain ⟨P, rfl⟩ : ∃ P, Q = P + 1 := ⟨Q - 1, by omega⟩
      rw [Nat.add_sub_cancel, Nat.mul_comm, Nat.succ_mul]
    omega
theorem step_sum {Q S m : Nat} (hQ : 1 ≤ Q) (f : Nat → Nat) {x : Nat × Nat} (h1 : x.1 ≤ m) (h2 : x.1 + x.2 ≤ S) : sumL (wt Q (S + m) f) (BagK.step m x) = wt Q S (fun k => Q ^ k * f k + (Q ^ m - Q ^ k) * f (k + 1)) x := by
  obtain ⟨k, e⟩ := x
  simp only [] at h1 h2
  have g := geo hQ m (m - k) (by omega)
  rw [show m - (m - k) = k by omega] at g
  have e0 : Q ^ m - Q ^ k = sumTo (m - k) (fun i => (Q - 1) * Q ^ (m - 1 - i)) := by omega
  unfold BagK.step
  rw [sumL, sumL_range]
  unfold wt
  simp only []
  rw [e0, Nat.mul_add]
  congr 1
  · rw [show S + m - k - (e + (m - k)) = (S - k - e) + k by omega, Nat.pow_add, Nat.mul_assoc, Nat.mul_assoc, Nat.mul_assoc]
  · have e1 : ∀ i, i < m - k → (Q - 1) ^ (k + 1) * Q ^ (S + m - (k + 1) - (e + i)) * f (k + 1) = (Q - 1) ^ k * Q ^ (S - k - e) * f (k + 1) * ((Q - 1) * Q ^ (m - 1 - i)) := by
      intro i hi
      rw [show S + m - (k + 1) - (e + i) = (S - k - e) + (m - 1 - i) by omega, Nat.pow_add Q, Nat.pow_succ (n := Q - 1)]
      simp only [Nat.mul_assoc, Nat.mul_comm, Nat.mul_left_comm]
    rw [sum_congr e1, sum_mul]
    simp only [Nat.mul_assoc, Nat.mul_comm, Nat.mul_left_comm]
end Go.Proofs.Ytadkkcdhgepbkaa.Hagl
end
section
namespace Go.Proofs.Ytadkkcdhgepbkaa.WValK
set_option linter.unusedVariables false
open Go.RowKit Go.Proofs.Ytadkkcdhgepbkaa.Q Go.Proofs.YtadkkcdhgepbkaaW.PrintWords Go.Proofs.YtadkkcdhgepbkaaW.PrintLast Go.Proofs.YtadkkcdhgepbkaaW.PrintMore
open Go.Proofs.YtadkkcdhgepbkaaL
theorem evEq1 {α : Type} {g : Nat → Option α} {a b : α} (h : Ev g a) (e : a = b) : Ev g b := e ▸ h
def wpow (q : Int) : Nat → Int
  | 0 => 1
  | n + 1 => wrap64 (wpow q n * q)
theorem impl_pow (q : Int) {n : Int} (hn : n ≤ 1000) : Ev (fun k => impl_power.f k q n) (wpow q n.toNat) := by
  have key : ∀ (d j : Nat), j + d = n.toNat → Ev (fun k => impl_power.l0 k q (wpow q j) n j) (wpow q n.toNat) := by
    intro d
    induction d with
    | zero => intro j hj; exact Ev.step (f := fun _ => some (wpow q j)) (fun k => by rw [impl_power.l0, if_neg (by omega)]) (evEq1 (Ev.now _) (by rw [show j = n.toNat by omega]))
    | succ d ih =>
      intro j hj
      have w1 : wrap64 ((j : Int) + 1) = ((j + 1 : Nat) : Int) := by rw [w64 (by omega) (by omega)]; rfl
      refine Ev.step (fun k => ?_) (ih (j + 1) (by omega))
      rw [impl_power.l0, if_pos (by omega), w1, wpow]
  exact key n.toNat 0 (by omega)
theorem spec_pow (q : Int) {n : Int} (h0 : -9000000000 ≤ n) (hn : n ≤ 1000) : Ev (fun k => spec_wePower.f k q n) (wpow q n.toNat) := by
  have key : ∀ (d j : Nat) (m : Int), m.toNat = d → m ≤ 1000 → -9000000000 ≤ m → j + d = n.toNat → Ev (fun k => spec_wePower.l0 k q m (wpow q j)) (wpow q n.toNat) := by
    intro d
    induction d with
    | zero => intro j m hm h1 h2 hj; exact Ev.step (f := fun _ => some (wpow q j)) (fun k => by rw [spec_wePower.l0, if_neg (by omega)]) (evEq1 (Ev.now _) (by rw [show j = n.toNat by omega]))
    | succ d ih =>
      intro j m hm h1 h2 hj
      have w1 : wrap64 (m - 1) = m - 1 := w64 (by omega) (by omega)
      refine Ev.step (fun k => ?_) (ih (j + 1) (m - 1) (by omega) (by omega) (by omega) (by omega))
      rw [spec_wePower.l0, if_pos (by omega), w1, wpow]
  exact key n.toNat 0 n rfl hn h0 (by omega)
end Go.Proofs.Ytadkkcdhgepbkaa.WValK
end
section
namespace Go.Proofs.Ytadkkcdhgepbkaa.WeAllK
set_option linter.unusedVariables false
set_option linter.unusedSectionVars false
open Go.RowKit Go.Proofs.Ytadkkcdhgepbkaa.Q Go.Proofs.YtadkkcdhgepbkaaW.PrintWords Go.Proofs.YtadkkcdhgepbkaaW.PrintLast Go.Proofs.YtadkkcdhgepbkaaW.PrintMore
open Go.Proofs.YtadkkcdhgepbkaaL Go.Proofs.Ytadkkcdhgepbkaa.LawK Go.Proofs.Ytadkkcdhgepbkaa.W1 Go.Proofs.Ytadkkcdhgepbkaa.BagK Go.Proofs.Ytadkkcdhgepbkaa.LensK Go.Proofs.Ytadkkcdhgepbkaa.BoardK
theorem rd1_nat (T : List (List Int)) (i : Nat) : rd_L2 T (i : Int) = T.getD i [] := by unfold rd_L2; rw [Int.toNat_natCast]
theorem own_f {l : List Int} (h : l.length ≤ 1000000) : spec_l1Own.f l = some l := by
  unfold spec_l1Own.f
  rw [Option.bind_some, if_pos (by rw [List.length_nil]; omega), List.nil_append]
theorem pad_snoc {row : List Int} {p : Nat} (h : row.length ≤ p) : pad (row ++ [0]) p = pad row p := by
  unfold pad
  rw [List.append_assoc, List.length_append, List.length_singleton, show p + 1 - row.length = (p + 1 - (row.length + 1)) + 1 by omega, List.replicate_succ]
  rfl
theorem pad_long {row : List Int} {p : Nat} (h : p < row.length) : pad row p = row := by
  unfold pad
  rw [show p + 1 - row.length = 0 by omega, List.replicate_zero, List.append_nil]
theorem add_l1 {b : List Int} {by_ e n : Nat} (hp : by_ + e ≤ 1000000) {g : List Int} : ∀ (d : Nat) (row : List Int), d = e + by_ + 1 - row.length →
    Ev (fun k => spec_weAdd.l0 k by_ (addAt row (e + by_) n) b (b.length : Int) ((e + 1 : Nat) : Int)) g → Ev (fun k => spec_weAdd.l1 k by_ row e n b (b.length : Int) e) g
  | 0, row, hd, next => by
    have w1 : wrap64 ((e : Int) + by_) = ((e + by_ : Nat) : Int) := by rw [w64 (by omega) (by omega)]; rfl
    have w2 : wrap64 ((e : Int) + 1) = ((e + 1 : Nat) : Int) := by rw [w64 (by omega) (by omega)]; rfl
    refine Ev.step (fun k => ?_) next
    rw [spec_weAdd.l1, w1, if_neg (by omega), if_pos (by omega), if_pos (by omega), w2, Int.toNat_natCast]
    unfold addAt
    rw [pad_long (by omega)]
  | d + 1, row, hd, next => by
    have w1 : wrap64 ((e : Int) + by_) = ((e + by_ : Nat) : Int) := by rw [w64 (by omega) (by omega)]; rfl
    refine Ev.step (fun k => ?_) (add_l1 hp d (row ++ [0]) (by rw [List.length_append, List.length_singleton]; omega) (by unfold addAt at next ⊢; rw [pad_snoc (by omega)]; exact next))
    rw [spec_weAdd.l1, w1, if_pos (by omega), if_pos (by omega)]
def plus (c d : Nat → Nat) (by_ e i : Nat) : Nat := c i + if by_ ≤ i ∧ i - by_ < e then d (i - by_) else 0
theorem add_l0 {b : List Int} {c d : Nat → Nat} {by_ : Nat} (hb : RepC b d) (hbl : b.length ≤ 1000) (hby : by_ ≤ 1000) (hc : ∀ i, c i ≤ 1000000000) (hd : ∀ i, d i ≤ 1000000000) :
    ∀ (r e : Nat) (row : List Int), e + r = b.length → RepC row (plus c d by_ e) → ∃ out, Ev (fun k => spec_weAdd.l0 k by_ row b (b.length : Int) e) out ∧ RepC out (plus c d by_ b.length)
  | 0, e, row, he, hr => by
    refine ⟨row, ?_, by rw [show b.length = e by omega]; exact hr⟩
    refine Ev.step (f := fun _ => some row) (fun k => ?_) (Ev.now _)
    rw [spec_weAdd.l0, if_neg (by omega)]
  | r + 1, e, row, he, hr => by
    have he2 : e < b.length := by omega
    have w2 : wrap64 ((e : Int) + 1) = ((e + 1 : Nat) : Int) := by rw [w64 (by omega) (by omega)]; rfl
    have hg := hb.get e
    have hrd : rd b (e : Int) = (d e : Int) := by rw [rd_nat, hg]
    by_cases h0 : d e = 0
    · obtain ⟨out, h1, h2⟩ := add_l0 hb hbl hby hc hd r (e + 1) row (by omega) (hr.congr (fun i => by
        unfold plus
        congr 1
        by_cases q : by_ ≤ i ∧ i - by_ < e
        · rw [if_pos q, if_pos (by omega)]
        · rw [if_neg q]
          by_cases q2 : by_ ≤ i ∧ i - by_ < e + 1
          · rw [if_pos q2, show i - by_ = e by omega, h0]
          · rw [if_neg q2]))
      refine ⟨out, Ev.step (fun k => ?_) h1, h2⟩
      rw [spec_weAdd.l0, if_pos (by omega), if_pos (by omega), if_pos (by omega), hrd, if_pos (by omega), w2]
    · have hpc : plus c d by_ e (e + by_) = c (e + by_) := by unfold plus; rw [if_neg (by omega), Nat.add_zero]
      have hA := addAt_rep (p := e + by_) (n := d e) hr (by omega) (by rw [hpc]; have := hc (e + by_); have := hd e; omega)
      obtain ⟨out, h1, h2⟩ := add_l0 hb hbl hby hc hd r (e + 1) (addAt row (e + by_) (d e)) (by omega) (hA.congr (fun i => by
        unfold plus
        by_cases q : i = e + by_
        · subst q
          rw [if_pos rfl, if_neg (by omega), if_pos (by omega), show e + by_ - by_ = e by omega]
          rfl
        · rw [if_neg q]
          congr 1
          by_cases q2 : by_ ≤ i ∧ i - by_ < e
          · rw [if_pos q2, if_pos (by omega)]
          · rw [if_neg q2, if_neg (by omega)]))
      refine ⟨out, Ev.step (fun k => ?_) (add_l1 (by_ := by_) (e := e) (n := d e) (b := b) (by omega) (e + by_ + 1 - row.length) row rfl h1), h2⟩
      rw [spec_weAdd.l0, if_pos (by omega), if_pos (by omega), if_pos (by omega), hrd, if_neg (by omega)]
theorem weAdd {a b : List Int} {c d : Nat → Nat} {by_ : Nat} (ha : RepC a c) (hb : RepC b d) (hal : a.length ≤ 1000) (hbl : b.length ≤ 1000) (hby : by_ ≤ 1000) (hc : ∀ i, c i ≤ 1000000000) (hd : ∀ i, d i ≤ 1000000000) :
    ∃ out, Ev (fun k => spec_weAdd.f k a b by_) out ∧ RepC out (fun i => c i + if by_ ≤ i then d (i - by_) else 0) := by
  obtain ⟨out, h1, h2⟩ := add_l0 (c := c) hb hbl hby hc hd b.length 0 a (by omega) (ha.congr (fun i => by unfold plus; rw [if_neg (by omega), Nat.add_zero]))
  refine ⟨out, ?_, h2.congr (fun i => ?_)⟩
  · unfold spec_weAdd.f
    refine Ev.congr (fun k => by rw [own_f (by omega), Option.bind_some]; rfl) h1
  · unfold plus
    congr 1
    by_cases q : by_ ≤ i
    · rw [if_pos q]
      by_cases q2 : i - by_ < b.length
      · rw [if_pos ⟨q, q2⟩]
      · rw [if_neg (by omega)]
        have := hb.get (i - by_)
        rw [gD_ge _ _ (by omega)] at this
        omega
    · rw [if_neg q, if_neg (by omega)]
theorem RepC.short {r : List Int} {c : Nat → Nat} (h : RepC r c) (hs : ∀ i, c i ≠ 0 → i < 64) : r.length ≤ 64 := by
  rcases Nat.eq_zero_or_pos r.length with h0 | h0
  · omega
  · have := hs (r.length - 1) (h.last (r.length - 1) (by omega)); omega
structure Mid (n m : Nat) (F : List (Nat × Nat)) (T : List (List Int)) (k : Nat) : Prop where
  len : T.length = n + 1
  new : ∀ j, k ≤ j → j ≤ n → RepC (T.getD j []) (nextC F m j)
  old : ∀ j, j < k → j ≤ n → RepC (T.getD j []) (cnt F j)
theorem set_getD1 (T : List (List Int)) (p i : Nat) (x : List Int) (hp : p < T.length) : (T.set p x).getD i [] = if i = p then x else T.getD i [] := by
  rw [List.getD_eq_getElem?_getD, List.getElem?_set, List.getD_eq_getElem?_getD]
  by_cases h : p = i
  · subst h; simp [hp]
  · rw [if_neg h, if_neg (fun e => h e.symm)]
section
variable {l : List Int} {F : List (Nat × Nat)} {n m r : Nat} (hn : n ≤ 6) (hm : m ≤ 6) (hF : F.length ≤ 1000000) (hFe : ∀ x ∈ F, x.2 < 40)
include hn hm hF hFe
theorem cnt_le (k e : Nat) : cnt F k e ≤ 1000000 := Nat.le_trans List.count_le_length hF
theorem cnt_far (k e : Nat) (h : cnt F k e ≠ 0) : e < 40 := by
  have : (k, e) ∈ F := List.count_pos_iff.1 (Nat.pos_of_ne_zero h)
  exact hFe _ this
def part (F : List (Nat × Nat)) (m k b i : Nat) : Nat := (if k ≤ m ∧ m - k ≤ i then cnt F k (i - (m - k)) else 0) + (if k = 0 then 0 else sumTo b (fun b => if b ≤ i then cnt F (k - 1) (i - b) else 0))
theorem sum_far {k i : Nat} : ∀ b, sumTo b (fun b => if b ≤ i then cnt F k (i - b) else 0) ≠ 0 → i < 40 + b
  | 0, h => absurd rfl h
  | b + 1, h => by
    rw [sumTo] at h
    by_cases h1 : sumTo b (fun b => if b ≤ i then cnt F k (i - b) else 0) = 0
    · rw [h1, Nat.zero_add] at h
      by_cases h2 : b ≤ i
      · rw [if_pos h2] at h
        have := cnt_far hn hm hF hFe k (i - b) h
        omega
      · omega
    · have := sum_far b h1; omega
theorem part_far {k b i : Nat} (hb : b ≤ 7) (h : part F m k b i ≠ 0) : i < 64 := by
  unfold part at h
  by_cases h1 : (if k ≤ m ∧ m - k ≤ i then cnt F k (i - (m - k)) else 0) = 0
  · rw [h1, Nat.zero_add] at h
    by_cases h2 : k = 0
    · rw [if_pos h2] at h; exact absurd rfl h
    · rw [if_neg h2] at h
      have := sum_far hn hm hF hFe b h
      omega
  · by_cases h3 : k ≤ m ∧ m - k ≤ i
    · rw [if_pos h3] at h1
      have := cnt_far hn hm hF hFe _ _ h1
      omega
    · rw [if_neg h3] at h1; exact absurd rfl h1
theorem part_le {k b i : Nat} (hb : b ≤ 7) : part F m k b i ≤ 8000000 := by
  unfold part
  have h1 : (if k ≤ m ∧ m - k ≤ i then cnt F k (i - (m - k)) else 0) ≤ 1000000 := by
    split
    · exact cnt_le hn hm hF hFe _ _
    · omega
  have h2 : (if k = 0 then 0 else sumTo b (fun b => if b ≤ i then cnt F (k - 1) (i - b) else 0)) ≤ 7000000 := by
    split
    · omega
    · have := sumTo_le (f := fun b => if b ≤ i then cnt F (k - 1) (i - b) else 0) (B := 1000000) (fun b => by
        split
        · exact cnt_le hn hm hF hFe _ _
        · omega) b
      have h3 : b * 1000000 ≤ 7 * 1000000 := Nat.mul_le_mul_right _ hb
      omega
  omega
theorem old_short {T : List (List Int)} {k j : Nat} (h : Mid n m F T k) (hj : j < k) (hjn : j ≤ n) : (T.getD j []).length ≤ 64 :=
  RepC.short (h.old j hj hjn) (fun i hi => by have := cnt_far hn hm hF hFe j i hi; omega)
theorem all_l2 (hl : l.length = n) {g : List (List Int)} {T : List (List Int)} {k : Nat} (hk : k ≤ n) (hT : Mid n m F T (k + 1))
    (next : ∀ T', Mid n m F T' k → Ev (fun q => spec_weAll.l1 q l T' m ((k : Int) - 1) l (l.length : Int) r) g) :
    ∀ (d b : Nat) (row : List Int), b + d = m + 1 - k → RepC row (part F m k b) → Ev (fun q => spec_weAll.l2 q l T m k row b l (l.length : Int) r) g
  | 0, b, row, hb, hr => by
    have w1 : wrap64 ((m : Int) - k) = (m : Int) - k := w64 (by omega) (by omega)
    have w2 : wrap64 ((m : Int) - k + 1) = (m : Int) - k + 1 := w64 (by omega) (by omega)
    have w3 : wrap64 ((k : Int) - 1) = (k : Int) - 1 := w64 (by omega) (by omega)
    have hM : Mid n m F (T.set k row) k := by
      refine ⟨by rw [List.length_set]; exact hT.len, fun j h1 h2 => ?_, fun j h1 h2 => ?_⟩
      · rw [set_getD1 _ _ _ _ (by rw [hT.len]; omega)]
        by_cases e : j = k
        · rw [if_pos e]
          refine hr.congr (fun i => ?_)
          rw [e]
          unfold part nextC
          by_cases hk0 : k = 0
          · rw [if_pos hk0, if_pos hk0]
          · rw [if_neg hk0, if_neg hk0, show b = m + 1 - k by omega]
        · rw [if_neg e]; exact hT.new j (by omega) h2
      · rw [set_getD1 _ _ _ _ (by rw [hT.len]; omega), if_neg (by omega)]
        exact hT.old j (by omega) h2
    refine Ev.step (fun q => ?_) (next _ hM)
    rw [spec_weAll.l2, w1, w2, w3]
    by_cases hk0 : (k : Int) > 0
    · rw [if_pos hk0, if_neg (by omega), if_pos (by omega), if_pos (by rw [hT.len]; omega), Int.toNat_natCast]
    · rw [if_neg hk0, if_pos (by omega), if_pos (by rw [hT.len]; omega), Int.toNat_natCast]
  | d + 1, b, row, hb, hr => by
    have hb7 : b ≤ 7 := by clear hT next hr; omega
    have hbm : (b : Int) < (m : Int) - k + 1 := by clear hT next hr; omega
    have w1 : wrap64 ((m : Int) - k) = (m : Int) - k := w64 (by omega) (by omega)
    have w2 : wrap64 ((m : Int) - k + 1) = (m : Int) - k + 1 := w64 (by omega) (by omega)
    have w4 : wrap64 ((b : Int) + 1) = ((b + 1 : Nat) : Int) := by rw [w64 (by omega) (by omega)]; rfl
    by_cases hk0 : k = 0
    · have hM : Mid n m F (T.set k row) k := by
        refine ⟨by rw [List.length_set]; exact hT.len, fun j h1 h2 => ?_, fun j h1 h2 => by omega⟩
        rw [set_getD1 _ _ _ _ (by rw [hT.len]; omega)]
        by_cases e : j = k
        · rw [if_pos e]
          refine hr.congr (fun i => ?_)
          rw [e]
          unfold part nextC
          rw [if_pos hk0, if_pos hk0]
        · rw [if_neg e]; exact hT.new j (by omega) h2
      have w3 : wrap64 ((k : Int) - 1) = (k : Int) - 1 := w64 (by omega) (by omega)
      refine Ev.step (fun q => ?_) (next _ hM)
      rw [spec_weAll.l2, w3, if_neg (by omega), if_pos (by omega), if_pos (by rw [hT.len]; omega), Int.toNat_natCast]
    · have w3 : wrap64 ((k : Int) - 1) = ((k - 1 : Nat) : Int) := by rw [w64 (by omega) (by omega)]; omega
      have hold := hT.old (k - 1) (by omega) (by omega)
      have hs := old_short hn hm hF hFe hT (show k - 1 < k + 1 by omega) (by omega)
      obtain ⟨out, h1, h2⟩ := weAdd (by_ := b) hr hold (Nat.le_trans (RepC.short hr (fun i hi => part_far hn hm hF hFe hb7 hi)) (by decide)) (Nat.le_trans hs (by decide)) (Nat.le_trans hb7 (by decide)) (fun i => Nat.le_trans (part_le hn hm hF hFe (k := k) (b := b) (i := i) hb7) (by decide)) (fun i => Nat.le_trans (cnt_le hn hm hF hFe (k - 1) i) (by decide))
      have ih := all_l2 hl hk hT next d (b + 1) out (by omega) (h2.congr (fun i => by
        unfold part
        rw [if_neg hk0, if_neg hk0, sumTo, Nat.add_assoc]))
      refine Ev.step (fun q => by rw [spec_weAll.l2, w1, w2, w3, if_pos (by omega), if_pos hbm, if_pos (by omega), if_pos (by rw [hT.len]; omega), rd1_nat, w4]) ?_
      refine Ev.bind h1 ?_
      exact ih
theorem all_l1 (hl : l.length = n) {g : List (List Int)} (next : ∀ T', Mid n m F T' 0 → Ev (fun q => spec_weAll.l0 q l T' l (l.length : Int) (wrap64 ((r : Int) + 1))) g) :
    ∀ (k : Nat) (T : List (List Int)), k ≤ n + 1 → Mid n m F T k → Ev (fun q => spec_weAll.l1 q l T m ((k : Int) - 1) l (l.length : Int) r) g
  | 0, T, hk, hT => by
    refine Ev.step (fun q => ?_) (next T hT)
    rw [spec_weAll.l1, if_neg (by omega)]
  | k + 1, T, hk, hT => by
    have ih := fun T' h' => all_l1 hl next k T' (by omega) h'
    have e0 : ((k + 1 : Nat) : Int) - 1 = k := by omega
    rw [e0]
    have w1 : ∀ h : k ≤ m, wrap64 ((m : Int) - k) = ((m - k : Nat) : Int) := fun h => by rw [w64 (by omega) (by omega)]; omega
    by_cases hkm : k ≤ m
    · have hold := hT.old k (by omega) (by omega)
      have hs := old_short hn hm hF hFe hT (show k < k + 1 by omega) (by omega)
      obtain ⟨out, h1, h2⟩ := weAdd (a := []) (by_ := m - k) RepC.nil hold (by simp) (by omega) (by omega) (fun i => by omega) (fun i => by have := cnt_le hn hm hF hFe k i; omega)
      have h3 := all_l2 hn hm hF hFe hl (r := r) (by omega) hT ih (m + 1 - k) 0 out (by omega) (h2.congr (fun i => by
        unfold part
        rw [Nat.zero_add]
        by_cases q : m - k ≤ i
        · rw [if_pos q, if_pos ⟨hkm, q⟩]; by_cases hk0 : k = 0 <;> simp [hk0, sumTo]
        · rw [if_neg q, if_neg (by omega)]; by_cases hk0 : k = 0 <;> simp [hk0, sumTo]))
      refine Ev.step (fun q => by rw [spec_weAll.l1, if_pos (by omega), if_pos (by omega), if_pos (by omega), if_pos (by rw [hT.len]; omega), rd1_nat, w1 hkm]) ?_
      refine Ev.bind h1 ?_
      exact Ev.step (fun q => by rw [spec_weAll.j2]; rfl) h3
    · have h3 := all_l2 hn hm hF hFe hl (r := r) (by omega) hT ih 0 0 [] (by omega) (RepC.nil.congr (fun i => by
        unfold part
        rw [if_neg (by omega)]
        by_cases hk0 : k = 0 <;> simp [hk0, sumTo]))
      refine Ev.step (fun q => by rw [spec_weAll.l1, if_pos (by omega), if_neg (by omega)]) ?_
      exact Ev.step (fun q => by rw [spec_weAll.j2]; rfl) h3
end
theorem Fk_free {l : List Int} (hm : ∀ r, (l.getD r 0).toNat ≤ 6) : ∀ r x, x ∈ Fk l r → x.2 ≤ 6 * r
  | 0, x, h => by rw [Fk, List.mem_singleton] at h; subst h; exact Nat.le_refl _
  | r + 1, x, h => by
    rw [Fk, List.mem_flatMap] at h
    obtain ⟨y, hy, hx⟩ := h
    have q := Fk_free hm r y hy
    have q2 := hm r
    rw [BagK.step, List.mem_cons, List.mem_map] at hx
    rcases hx with rfl | ⟨i, hi, rfl⟩
    · simp only []; omega
    · rw [List.mem_range] at hi
      simp only []; omega
theorem weAll {l : List Int} (h : lenB l = true) : Ev (fun k => spec_weAll.f k l) (wtab l) := by
  obtain ⟨h1, h2, h3⟩ := len_of h
  have hr : riseFrom l 1 = true := by unfold lenB at h; simp only [Bool.and_eq_true] at h; exact h.2
  have hgd : ∀ i, 0 ≤ l.getD i 0 ∧ l.getD i 0 ≤ l.length := by
    intro i
    by_cases hi : i < l.length
    · rw [gD_lt _ _ hi]; exact h3 i hi
    · rw [gD_ge _ _ (by omega)]; omega
  have hm6 : ∀ i, (l.getD i 0).toNat ≤ 6 := fun i => by have := hgd i; omega
  have hlen : ∀ r, r ≤ l.length → (Fk l r).length ≤ 1000000 := by
    intro r hr
    have a := Fk_len hm6 r
    have b : 7 ^ r ≤ 7 ^ 6 := Nat.pow_le_pow_right (by omega) (by omega)
    omega
  have key : ∀ (d r : Nat) (T : List (List Int)), r + d = l.length → RepT l.length T (Fk l r) → Ev (fun q => spec_weAll.l0 q l T l (l.length : Int) r) (wtab l) := by
    intro d
    induction d with
    | zero =>
      intro r T hrd hT
      refine Ev.step (f := fun _ => some T) (fun k => by rw [spec_weAll.l0, if_neg (by omega)]) (evEq (Ev.now _) ?_)
      rw [show r = l.length by omega] at hT
      exact hT.eq (wtab_rep h)
    | succ d ih =>
      intro r T hrd hT
      have hr2 : r < l.length := by omega
      have w2 : wrap64 ((r : Int) + 1) = ((r + 1 : Nat) : Int) := by rw [w64 (by omega) (by omega)]; rfl
      obtain ⟨m, hm⟩ : ∃ m, m = (l.getD r 0).toNat := ⟨_, rfl⟩
      have hmi : rd l (r : Int) = (m : Int) := by rw [rd_nat, hm]; have := hgd r; omega
      have hm62 := hm6 r
      have hle : ∀ x ∈ Fk l r, x.1 ≤ m := by
        intro x hx
        refine (Fk_rooks r x hx).2 m (fun i hi => ?_)
        have := rise_le hr (r - i) i (by omega)
        rw [show i + (r - i) = r by omega] at this
        omega
      have hfe : ∀ x ∈ Fk l r, x.2 < 40 := fun x hx => by have := Fk_free hm6 r x hx; omega
      have e0 : ((l.length + 1 : Nat) : Int) - 1 = (l.length : Int) := by omega
      have := all_l1 (l := l) (r := r) (m := m) (n := l.length) h2 (by omega) (hlen r (by omega)) hfe rfl (fun T' hT' => by
        rw [w2]
        refine ih (r + 1) T' (by omega) ⟨hT'.len, fun k hk => (hT'.new k (by omega) hk).congr (fun i => ?_)⟩
        rw [Fk, ← hm, cnt_step m k i _ hle]) (l.length + 1) T (Nat.le_refl _) ⟨hT.len, fun j h1 h2 => by omega, fun j h1 h2 => hT.rep j h2⟩
      rw [e0] at this
      refine Ev.step (fun q => ?_) this
      rw [spec_weAll.l0, if_pos (by omega), if_pos (by omega), if_pos (by omega), hmi]
  have e1 : wrap64 ((l.length : Int) + 1) = ((l.length + 1 : Nat) : Int) := by rw [w64 (by omega) (by omega)]; rfl
  unfold spec_weAll.f
  refine Ev.congr (fun k => by rw [e1, if_pos (by omega), Int.toNat_natCast, if_pos (by omega), Option.bind_some, if_pos (by rw [List.length_replicate]; omega)]) ?_
  refine key l.length 0 _ (by omega) ⟨by rw [List.length_set, List.length_replicate], fun k hk => ?_⟩
  rw [show ((0 : Int)).toNat = 0 from rfl, set_getD1 _ _ _ _ (by rw [List.length_replicate]; omega)]
  by_cases e : k = 0
  · rw [if_pos e]
    refine ⟨fun i => ?_, fun i hi => ?_⟩
    · rw [Fk, cnt_cons, cnt_nil, Nat.zero_add]
      simp only []
      by_cases hi : i = 0
      · rw [if_pos ⟨e, hi⟩, hi]; rfl
      · rw [if_neg (by omega), gD_ge _ _ (by simp; omega)]; rfl
    · have hi0 : i = 0 := by simpa using hi.symm
      rw [Fk, cnt_cons, cnt_nil, e, hi0]; simp
  · rw [if_neg e, gD_lt _ _ (by rw [List.length_replicate]; omega), List.getElem_replicate]
    refine RepC.nil.congr (fun i => ?_)
    rw [Fk, cnt_cons, cnt_nil]
    simp only []
    rw [if_neg (by omega)]
end Go.Proofs.Ytadkkcdhgepbkaa.WeAllK
end
section
namespace Go.Proofs.Ytadkkcdhgepbkaa.WValK
set_option linter.unusedVariables false
open Go.RowKit Go.Proofs.Ytadkkcdhgepbkaa.Q Go.Proofs.YtadkkcdhgepbkaaW.PrintWords Go.Proofs.YtadkkcdhgepbkaaW.PrintLast Go.Proofs.YtadkkcdhgepbkaaW.PrintMore
open Go.Proofs.YtadkkcdhgepbkaaL Go.Proofs.Ytadkkcdhgepbkaa.LawK Go.Proofs.Ytadkkcdhgepbkaa.BagK Go.Proofs.Ytadkkcdhgepbkaa.LensK Go.Proofs.Ytadkkcdhgepbkaa.BoardK Go.Proofs.Ytadkkcdhgepbkaa.WeAllK
theorem withinR (a b c : Int) : impl_within.f a b c = some (inR b c a) := by
  unfold impl_within.f inR
  by_cases h : b ≤ a
  · rw [if_pos h]; simp [h]
  · rw [if_neg h]; congr 1; exact (decide_eq_false (by omega)).symm
theorem wtab_len {l : List Int} (h : lenB l = true) : (wtab l).length = l.length + 1 := (wtab_rep h).len
theorem wtab_row {l : List Int} (h : lenB l = true) (k : Nat) : ((wtab l).getD k []).length ≤ 64 := by
  obtain ⟨h1, h2, h3⟩ := len_of h
  by_cases hk : k ≤ l.length
  · refine RepC.short ((wtab_rep h).rep k hk) (fun i hi => ?_)
    have hm6 : ∀ i, (l.getD i 0).toNat ≤ 6 := by
      intro i
      by_cases hi : i < l.length
      · rw [gD_lt _ _ hi]; have := h3 i hi; omega
      · rw [gD_ge _ _ (by omega)]; exact Nat.zero_le _
    have := Fk_free hm6 l.length (k, i) (List.count_pos_iff.1 (Nat.pos_of_ne_zero hi))
    simp only [] at this
    omega
  · rw [gD_ge _ _ (by rw [wtab_len h]; omega)]; exact Nat.zero_le _
end Go.Proofs.Ytadkkcdhgepbkaa.WValK
end
section
namespace Go.Proofs.Ytadkkcdhgepbkaa.Pure
set_option linter.unusedVariables false
open Go.RowKit Go.Proofs.Ytadkkcdhgepbkaa.Q Go.Proofs.YtadkkcdhgepbkaaW.PrintWords Go.Proofs.YtadkkcdhgepbkaaW.PrintLast Go.Proofs.YtadkkcdhgepbkaaW.PrintMore
open Go.Proofs.YtadkkcdhgepbkaaL Go.Proofs.Ytadkkcdhgepbkaa.LawK Go.Proofs.Ytadkkcdhgepbkaa.BoardK Go.Proofs.Ytadkkcdhgepbkaa.LensK Go.Proofs.Ytadkkcdhgepbkaa.BagK Go.Proofs.Ytadkkcdhgepbkaa.WeAllK Go.Proofs.Ytadkkcdhgepbkaa.WValK
namespace RCK
def sm : List Int → Int
  | [] => 0
  | x :: t => x + sm t
theorem sm_bd : ∀ (l : List Int), (∀ x ∈ l, 0 ≤ x ∧ x ≤ 6) → 0 ≤ sm l ∧ sm l ≤ 6 * l.length
  | [], _ => by simp [sm]
  | x :: t, h => by
    have h1 := sm_bd t (fun y hy => h y (List.mem_cons_of_mem _ hy))
    have h2 := h x List.mem_cons_self
    simp only [sm, List.length_cons]
    omega
theorem sum_l0 {l : List Int} (h6 : l.length ≤ 6) (hx : ∀ x ∈ l, 0 ≤ x ∧ x ≤ 6) : ∀ (d i : Nat) (a : Int), i + d = l.length → 0 ≤ a ∧ a ≤ 6 * i → Ev (fun k => impl_sum.l0 k a l (l.length : Int) i) (a + sm (l.drop i))
  | 0, i, a, hi, ha => by
    rw [List.drop_eq_nil_of_le (by omega), sm, Int.add_zero]
    exact Ev.step (f := fun _ => some a) (fun k => by rw [impl_sum.l0, if_neg (by omega)]) (Ev.now _)
  | d + 1, i, a, hi, ha => by
    have hi2 : i < l.length := by omega
    have hb := hx l[i] (List.getElem_mem hi2)
    have w1 := Aside0.mk (show wrap64 ((i : Int) + 1) = ((i + 1 : Nat) : Int) from by rw [w64 (by omega) (by omega)]; rfl)
    have w2 := Aside0.mk (show wrap64 (a + l[i]) = a + l[i] from w64 (by omega) (by omega))
    have ih := sum_l0 h6 hx d (i + 1) (a + l[i]) (by omega) (by omega)
    rw [List.drop_eq_getElem_cons hi2, sm]
    exact Ev.step (fun k => by rw [impl_sum.l0, if_pos (by omega), if_pos (by omega), if_pos (by omega), rd_lt _ _ hi2, w2.out, w1.out]) (evEq ih (by omega))
theorem cells_l0 {l : List Int} (h6 : l.length ≤ 6) (hx : ∀ x ∈ l, 0 ≤ x ∧ x ≤ 6) : ∀ (d i : Nat) (a : Int), i + d = l.length → 0 ≤ a ∧ a ≤ 6 * i → Ev (fun k => spec_weCells.l0 k a l (l.length : Int) i) (a + sm (l.drop i))
  | 0, i, a, hi, ha => by
    rw [List.drop_eq_nil_of_le (by omega), sm, Int.add_zero]
    exact Ev.step (f := fun _ => some a) (fun k => by rw [spec_weCells.l0, if_neg (by omega)]) (Ev.now _)
  | d + 1, i, a, hi, ha => by
    have hi2 : i < l.length := by omega
    have hb := hx l[i] (List.getElem_mem hi2)
    have w1 := Aside0.mk (show wrap64 ((i : Int) + 1) = ((i + 1 : Nat) : Int) from by rw [w64 (by omega) (by omega)]; rfl)
    have w2 := Aside0.mk (show wrap64 (a + l[i]) = a + l[i] from w64 (by omega) (by omega))
    have ih := cells_l0 h6 hx d (i + 1) (a + l[i]) (by omega) (by omega)
    rw [List.drop_eq_getElem_cons hi2, sm]
    exact Ev.step (fun k => by rw [spec_weCells.l0, if_pos (by omega), if_pos (by omega), if_pos (by omega), rd_lt _ _ hi2, w2.out, w1.out]) (evEq ih (by omega))
theorem sum_f {l : List Int} (h6 : l.length ≤ 6) (hx : ∀ x ∈ l, 0 ≤ x ∧ x ≤ 6) : Ev (fun k => impl_sum.f k l) (sm l) := by
  have := sum_l0 h6 hx l.length 0 0 (by omega) (by omega)
  rw [List.drop_zero, Int.zero_add] at this
  exact this
theorem cells_f {l : List Int} (h6 : l.length ≤ 6) (hx : ∀ x ∈ l, 0 ≤ x ∧ x ≤ 6) : Ev (fun k => spec_weCells.f k l) (sm l) := by
  have := cells_l0 h6 hx l.length 0 0 (by omega) (by omega)
  rw [List.drop_zero, Int.zero_add] at this
  exact this
def cs (q S : Int) (k : Nat) (row : List Int) : Nat → Nat → Int → Int
  | 0, _, a => a
  | d + 1, e, a => cs q S k row d (e + 1) (if row.getD e 0 > 0 then wrap64 (a + wrap64 (row.getD e 0 * wpow q (S - k - e).toNat)) else a)
def counts (q S : Int) (T : List (List Int)) : Nat → Nat → List Int → List Int
  | 0, _, o => o
  | d + 1, k, o => counts q S T d (k + 1) (o ++ [wrap64 (cs q S k (T.getD k []) (T.getD k []).length 0 0 * wpow (wrap64 (q - 1)) k)])
theorem counts_len (q S : Int) (T : List (List Int)) : ∀ d k o, (counts q S T d k o).length = o.length + d
  | 0, k, o => rfl
  | d + 1, k, o => by rw [counts, counts_len, List.length_append, List.length_singleton]; omega
section
variable {l : List Int} {T : List (List Int)} {q : Int} (hl6 : l.length ≤ 6) (hx : ∀ x ∈ l, 0 ≤ x ∧ x ≤ 6) (hT : T.length = l.length + 1) (hr : ∀ k, (T.getD k []).length ≤ 64)
include hl6 hx hT hr
theorem impl_c : ∀ (d k : Nat) (o : List Int), k + d = l.length + 1 → o.length = k → Ev (fun n => impl_RankCounts.l0 n l q o T (T.length : Int) k) (counts q (sm l) T d k o, true)
  | 0, k, o, h, ho => Ev.step (f := fun _ => some (o, true)) (fun n => by rw [impl_RankCounts.l0, if_neg (by omega)]) (Ev.now _)
  | d + 1, k, o, h, ho => by
    have w1 := Aside0.mk (show wrap64 ((k : Int) + 1) = ((k + 1 : Nat) : Int) from by rw [w64 (by omega) (by omega)]; rfl)
    have hs := sm_bd l hx
    rw [counts]
    refine Ev.step (fun n => by rw [impl_RankCounts.l0, if_pos (by omega), if_pos (by omega), if_pos (by omega), rd1_nat]) ?_
    obtain ⟨row, hrow⟩ : ∃ row, row = T.getD k [] := ⟨_, rfl⟩
    have hrl := hr k
    rw [← hrow] at hrl ⊢
    have key : ∀ (f e : Nat) (a : Int), e + f = row.length → Ev (fun n => impl_RankCounts.l1 n l q o k a T (T.length : Int) k row (row.length : Int) e) (counts q (sm l) T d (k + 1) (o ++ [wrap64 (cs q (sm l) k row f e a * wpow (wrap64 (q - 1)) k)]), true) := by
      intro f
      induction f with
      | zero =>
        intro e a he
        refine Ev.step (fun n => by rw [impl_RankCounts.l1, if_neg (by omega)]) ?_
        refine Ev.bind (impl_pow (wrap64 (q - 1)) (n := (k : Int)) (by omega)) ?_
        rw [Int.toNat_natCast]
        refine Ev.congr (fun n => by rw [if_pos (by omega), w1.out]) ?_
        exact impl_c d (k + 1) _ (by omega) (by rw [List.length_append, List.length_singleton, ho])
      | succ f ih =>
        intro e a he
        have w3 := Aside0.mk (show wrap64 ((e : Int) + 1) = ((e + 1 : Nat) : Int) from by rw [w64 (by omega) (by omega)]; rfl)
        have w4 := Aside0.mk (show wrap64 (wrap64 (sm l - k) - e) = sm l - k - e from by rw [w64 (n := sm l - k) (by omega) (by omega), w64 (by omega) (by omega)])
        rw [cs]
        by_cases hw : row.getD e 0 > 0
        · rw [if_pos hw]
          refine Ev.step (fun n => by rw [impl_RankCounts.l1, if_pos (by omega), if_pos (by omega), if_pos (by omega), rd_nat, if_pos hw, w3.out]) ?_
          refine Ev.bind (sum_f hl6 hx) ?_
          refine Ev.congr (fun n => by rw [w4.out]) ?_
          refine Ev.bind (impl_pow q (n := sm l - k - e) (by omega)) ?_
          exact ih (e + 1) _ (by omega)
        · rw [if_neg hw]
          refine Ev.step (fun n => ?_) (ih (e + 1) a (by omega))
          rw [impl_RankCounts.l1, if_pos (by omega), if_pos (by omega), if_pos (by omega), rd_nat, if_neg hw, w3.out]
    exact key row.length 0 0 (by omega)
theorem spec_c : ∀ (d k : Nat) (o : List Int), k + d = l.length + 1 → o.length = k → Ev (fun n => spec_RankCounts.l0 n q o (sm l) T (T.length : Int) k) (counts q (sm l) T d k o, true)
  | 0, k, o, h, ho => Ev.step (f := fun _ => some (o, true)) (fun n => by rw [spec_RankCounts.l0, if_neg (by omega)]) (Ev.now _)
  | d + 1, k, o, h, ho => by
    have w1 := Aside0.mk (show wrap64 ((k : Int) + 1) = ((k + 1 : Nat) : Int) from by rw [w64 (by omega) (by omega)]; rfl)
    have hs := sm_bd l hx
    rw [counts]
    refine Ev.step (fun n => by rw [spec_RankCounts.l0, if_pos (by omega), if_pos (by omega), if_pos (by omega), rd1_nat]) ?_
    obtain ⟨row, hrow⟩ : ∃ row, row = T.getD k [] := ⟨_, rfl⟩
    have hrl := hr k
    rw [← hrow] at hrl ⊢
    have key : ∀ (f e : Nat) (a : Int), e + f = row.length → Ev (fun n => spec_RankCounts.l1 n q o (sm l) k a T (T.length : Int) k row (row.length : Int) e) (counts q (sm l) T d (k + 1) (o ++ [wrap64 (cs q (sm l) k row f e a * wpow (wrap64 (q - 1)) k)]), true) := by
      intro f
      induction f with
      | zero =>
        intro e a he
        refine Ev.step (fun n => by rw [spec_RankCounts.l1, if_neg (by omega)]) ?_
        refine Ev.bind (spec_pow (wrap64 (q - 1)) (n := (k : Int)) (by omega) (by omega)) ?_
        rw [Int.toNat_natCast]
        refine Ev.congr (fun n => by rw [if_pos (by omega), w1.out, Int.mul_comm]) ?_
        exact spec_c d (k + 1) _ (by omega) (by rw [List.length_append, List.length_singleton, ho])
      | succ f ih =>
        intro e a he
        have w3 := Aside0.mk (show wrap64 ((e : Int) + 1) = ((e + 1 : Nat) : Int) from by rw [w64 (by omega) (by omega)]; rfl)
        have w4 := Aside0.mk (show wrap64 (wrap64 (sm l - k) - e) = sm l - k - e from by rw [w64 (n := sm l - k) (by omega) (by omega), w64 (by omega) (by omega)])
        rw [cs]
        by_cases hw : row.getD e 0 > 0
        · rw [if_pos hw]
          refine Ev.step (fun n => by rw [spec_RankCounts.l1, if_pos (by omega), if_pos (by omega), if_pos (by omega), rd_nat, if_pos hw, w3.out, w4.out]) ?_
          refine Ev.bind (spec_pow q (n := sm l - k - e) (by omega) (by omega)) ?_
          exact ih (e + 1) _ (by omega)
        · rw [if_neg hw]
          refine Ev.step (fun n => ?_) (ih (e + 1) a (by omega))
          rw [spec_RankCounts.l1, if_pos (by omega), if_pos (by omega), if_pos (by omega), rd_nat, if_neg hw, w3.out]
    exact key row.length 0 0 (by omega)
end
def ans (l : List Int) (q : Int) : List Int × Bool := if lenB l = true then (if inR 2 3 q = true then (if sm l > 20 then ([], false) else (counts q (sm l) (wtab l) (l.length + 1) 0 [], true)) else ([], false)) else ([], false)
theorem ans_len (l : List Int) (q : Int) (hl : l.length ≤ 1048576) : (ans l q).1.length ≤ 2000000 := by
  unfold ans
  repeat' split
  all_goals first | (exact Nat.zero_le _) | (simp only []; rw [counts_len]; simp; omega)
theorem in6 {l : List Int} (h : lenB l = true) : ∀ x ∈ l, 0 ≤ x ∧ x ≤ 6 := by
  obtain ⟨h1, h2, h3⟩ := len_of h
  intro x hx
  obtain ⟨i, hi, rfl⟩ := List.mem_iff_getElem.1 hx
  have := h3 i hi
  omega
theorem impl_a {l : List Int} (q : Int) (hl : l.length ≤ 1048576) : Ev (fun k => impl_RankCounts.f k l q) (ans l q) := by
  unfold impl_RankCounts.f ans
  refine Ev.bind (impl_good hl) ?_
  have stop : ∀ n : Nat, impl_RankCounts.j0 (n + 1) l q true = some ([], false) := fun n => by rw [impl_RankCounts.j0, if_pos rfl]
  by_cases h : lenB l = true
  · rw [if_pos h]
    refine Ev.congr (fun k => by rw [if_pos h, impl_isQ.f, withinR, Option.bind_some, Option.bind_some]) ?_
    by_cases h2 : inR 2 3 q = true
    · rw [if_pos h2]
      have h6 := (len_of h).2.1
      refine Ev.congr (fun k => by rw [if_pos h2]) (Ev.bind (sum_f h6 (in6 h)) ?_)
      by_cases h3 : sm l > 20
      · rw [if_pos h3]
        exact Ev.step (fun n => by rw [decide_eq_true h3, stop]) (Ev.now _)
      · rw [if_neg h3]
        refine Ev.step (fun n => by rw [decide_eq_false h3, impl_RankCounts.j0, if_neg (by simp), impl_weights.f, if_pos h, Option.bind_some]) ?_
        exact impl_c h6 (in6 h) (wtab_len h) (wtab_row h) (l.length + 1) 0 [] (by omega) rfl
    · rw [if_neg h2]
      exact Ev.congr (fun k => by rw [if_neg h2]) (Ev.step (fun n => by rw [stop]) (Ev.now _))
  · rw [if_neg h]
    exact Ev.congr (fun k => by rw [if_neg h]) (Ev.step (fun n => by rw [stop]) (Ev.now _))
theorem spec_a {l : List Int} (q : Int) (hl : l.length ≤ 1048576) : Ev (fun k => spec_RankCounts.f k l q) (ans l q) := by
  unfold spec_RankCounts.f ans
  refine Ev.bind (spec_good hl) ?_
  have stop : ∀ n : Nat, spec_RankCounts.j0 (n + 1) l q true = some ([], false) := fun n => by rw [spec_RankCounts.j0, if_pos rfl]
  by_cases h : lenB l = true
  · rw [if_pos h]
    refine Ev.congr (fun k => by rw [if_pos h, spec_weBase.f, l1In_f, Option.bind_some, Option.bind_some]) ?_
    by_cases h2 : inR 2 3 q = true
    · rw [if_pos h2]
      have h6 := (len_of h).2.1
      refine Ev.congr (fun k => by rw [if_pos h2]) (Ev.bind (cells_f h6 (in6 h)) ?_)
      by_cases h3 : sm l > 20
      · rw [if_pos h3]
        exact Ev.step (fun n => by rw [decide_eq_true h3, stop]) (Ev.now _)
      · rw [if_neg h3]
        refine Ev.step (fun n => by rw [decide_eq_false h3, spec_RankCounts.j0, if_neg (by simp)]) ?_
        refine Ev.bind (cells_f h6 (in6 h)) (Ev.bind (weAll h) ?_)
        exact spec_c h6 (in6 h) (wtab_len h) (wtab_row h) (l.length + 1) 0 [] (by omega) rfl
    · rw [if_neg h2]
      exact Ev.congr (fun k => by rw [if_neg h2]) (Ev.step (fun n => by rw [stop]) (Ev.now _))
  · rw [if_neg h]
    exact Ev.congr (fun k => by rw [if_neg h]) (Ev.step (fun n => by rw [stop]) (Ev.now _))
end RCK
open RCK
end Go.Proofs.Ytadkkcdhgepbkaa.Pure
end
section
namespace Go.Proofs.Ytadkkcdhgepbkaa.Q
open Go.RowKit Go.Proofs.YtadkkcdhgepbkaaW.PrintWords Go.Proofs.YtadkkcdhgepbkaaW.PrintLast Go.Proofs.YtadkkcdhgepbkaaW.PrintMore
attribute [local go_sem] max2_int min2_int max_two min_two max_three min_three max_four min_four   -- for this text's walks alone
set_option linter.unusedVariables false
set_option linter.unusedSimpArgs false
end Go.Proofs.Ytadkkcdhgepbkaa.Q
end
section
namespace Go.Proofs.Ytadkkcdhgepbkaa.RankK
set_option linter.unusedVariables false
open Go.RowKit Go.Proofs.Ytadkkcdhgepbkaa.Q Go.Proofs.YtadkkcdhgepbkaaW.PrintWords Go.Proofs.YtadkkcdhgepbkaaW.PrintLast Go.Proofs.YtadkkcdhgepbkaaW.PrintMore
open Go.Proofs.YtadkkcdhgepbkaaL Go.Proofs.Ytadkkcdhgepbkaa.LawK Go.Proofs.Ytadkkcdhgepbkaa.BoardK Go.Proofs.Ytadkkcdhgepbkaa.RowsK Go.Proofs.Ytadkkcdhgepbkaa.LeadsK
theorem withinR (a b c : Int) : impl_within.f a b c = some (inR b c a) := by
  unfold impl_within.f inR
  by_cases h : b ≤ a
  · rw [if_pos h]; simp [h]
  · rw [if_neg h]; congr 1; exact (decide_eq_false (by omega)).symm
theorem leadsF_in {q : Int} (hq : 2 ≤ q ∧ q ≤ 3) {n : Nat} : ∀ (rows : List (List Int)) (done : List (List Int)) (out : List Int), (∀ r ∈ rows, Dig q n r) → WFs q n done out → (leadsF q n rows done out).length = out.length + rows.length ∧ ∀ e ∈ leadsF q n rows done out, e = -1 ∨ (0 ≤ e ∧ e < n)
  | [], done, out, _, h => ⟨rfl, h.lead⟩
  | row :: t, done, out, hd, h => by
    rw [leadsF]
    have := leadsF_in hq t _ _ (fun r hr => hd r (List.mem_cons_of_mem _ hr)) (h.snoc (Dig.red hq done out row h.dig (hd row List.mem_cons_self)))
    rw [this.1]
    exact ⟨by simp; omega, this.2⟩
def leadsOf (rows : List (List Int)) (q : Int) : List Int := leadsF q (rows.getD 0 []).length rows [] []
theorem leadsOf_in {rows : List (List Int)} {q : Int} (h : areRowsB rows q = true) : (leadsOf rows q).length = rows.length ∧ ∀ e ∈ leadsOf rows q, e = -1 ∨ 0 ≤ e := by
  obtain ⟨h1, h2, h3, h4, h5⟩ := areRows_out h
  have := leadsF_in h1 rows [] [] h5 ⟨rfl, by simp, by simp⟩
  exact ⟨by have h6 := this.1; rw [List.length_nil, Nat.zero_add] at h6; exact h6, fun e he => by have := this.2 e he; omega⟩
end Go.Proofs.Ytadkkcdhgepbkaa.RankK
end
section
namespace Go.Proofs.Ytadkkcdhgepbkaa.RankK
set_option linter.unusedVariables false
open Go.RowKit Go.Proofs.Ytadkkcdhgepbkaa.Q Go.Proofs.YtadkkcdhgepbkaaW.PrintWords Go.Proofs.YtadkkcdhgepbkaaW.PrintLast Go.Proofs.YtadkkcdhgepbkaaW.PrintMore
open Go.Proofs.YtadkkcdhgepbkaaL Go.Proofs.Ytadkkcdhgepbkaa.LawK Go.Proofs.Ytadkkcdhgepbkaa.BoardK Go.Proofs.Ytadkkcdhgepbkaa.RowsK Go.Proofs.Ytadkkcdhgepbkaa.LeadsK Go.Proofs.Ytadkkcdhgepbkaa.Walk
theorem impl_rank {rows : List (List Int)} {q : Int} (h : areRowsB rows q = true) : Ev (fun k => impl_rank.f k rows q) (rooksN (leadsOf rows q) : Int) := by
  unfold impl_rank.f
  obtain ⟨h1, h2⟩ := leadsOf_in h
  have h6 := (areRows_out h).2.1
  refine Ev.congr (fun k => by rw [impl_leads.f, if_pos h, Option.bind_some]) ?_
  have hr := rooks_l0 (l := leadsOf rows q) (by omega) (leadsOf rows q).length 0 0 (by omega) (by omega)
  rw [List.drop_zero, Nat.zero_add] at hr
  exact Ev.bind (a := (rooksN (leadsOf rows q) : Int)) hr (Ev.now _)
theorem spec_l0 {l : List Int} (hl : l.length ≤ 1048576) (hin : ∀ e ∈ l, e = -1 ∨ 0 ≤ e) : ∀ (d i n : Nat), i + d = l.length → n ≤ i → Ev (fun k => spec_weRank.l0 k n l (l.length : Int) i) ((n + rooksN (l.drop i) : Nat) : Int)
  | 0, i, n, hi, hn => by
    refine Ev.step (f := fun _ => some ((n + rooksN (l.drop i) : Nat) : Int)) (fun k => ?_) (Ev.now _)
    rw [spec_weRank.l0, if_neg (by omega), List.drop_eq_nil_of_le (by omega)]; rfl
  | d + 1, i, n, hi, hn => by
    have w1 := Aside0.mk (show wrap64 ((i : Int) + 1) = ((i + 1 : Nat) : Int) by rw [w64 (by omega) (by omega)]; rfl)
    have w2 := Aside0.mk (show wrap64 ((n : Int) + 1) = ((n + 1 : Nat) : Int) by rw [w64 (by omega) (by omega)]; rfl)
    have hi2 : i < l.length := by omega
    have hx := hin _ (List.getElem_mem hi2)
    rw [List.drop_eq_getElem_cons hi2, rooksN, List.countP_cons]
    by_cases h : l[i] = -1
    · have ih := spec_l0 hl hin d (i + 1) n (by omega) (by omega)
      rw [rooksN] at ih
      rw [if_neg (by simp [h]), Nat.add_zero]
      refine Ev.step (fun k => ?_) ih
      rw [spec_weRank.l0, if_pos (by omega), if_pos (by omega), if_pos (by omega), rd_lt _ _ hi2, if_neg (by omega), w1.out]
    · have ih := spec_l0 hl hin d (i + 1) (n + 1) (by omega) (by omega)
      rw [rooksN] at ih
      rw [if_pos (by simpa using h), show n + (List.countP (fun x => x != -1) (List.drop (i + 1) l) + 1) = n + 1 + List.countP (fun x => x != -1) (List.drop (i + 1) l) by omega]
      refine Ev.step (fun k => ?_) ih
      rw [spec_weRank.l0, if_pos (by omega), if_pos (by omega), if_pos (by omega), rd_lt _ _ hi2, if_pos (by omega), w1.out, w2.out]
theorem spec_rank {rows : List (List Int)} {q : Int} (h : areRowsB rows q = true) : Ev (fun k => spec_weRank.f k rows q) (rooksN (leadsOf rows q) : Int) := by
  unfold spec_weRank.f
  obtain ⟨h1, h2⟩ := leadsOf_in h
  have h6 := (areRows_out h).2.1
  refine Ev.congr (fun k => by rw [spec_weLeads.f, if_pos h, Option.bind_some]) ?_
  have hr := spec_l0 (l := leadsOf rows q) (by omega) h2 (leadsOf rows q).length 0 0 (by omega) (by omega)
  rw [List.drop_zero, Nat.zero_add] at hr
  exact hr
theorem rank_le {rows : List (List Int)} {q : Int} (h : areRowsB rows q = true) : rooksN (leadsOf rows q) ≤ rows.length := by
  have := List.countP_le_length (p := fun x => x != -1) (l := leadsOf rows q)
  rw [(leadsOf_in h).1] at this
  exact this
end Go.Proofs.Ytadkkcdhgepbkaa.RankK
end
section
namespace Go.Proofs.Ytadkkcdhgepbkaa.Pure
set_option linter.unusedVariables false
set_option linter.unusedSectionVars false
open Go.RowKit Go.Proofs.Ytadkkcdhgepbkaa.Q Go.Proofs.YtadkkcdhgepbkaaW.PrintWords Go.Proofs.YtadkkcdhgepbkaaW.PrintLast Go.Proofs.YtadkkcdhgepbkaaW.PrintMore
open Go.Proofs.YtadkkcdhgepbkaaL Go.Proofs.Ytadkkcdhgepbkaa.LawK Go.Proofs.Ytadkkcdhgepbkaa.BoardK Go.Proofs.Ytadkkcdhgepbkaa.RowsK Go.Proofs.Ytadkkcdhgepbkaa.LeadsK Go.Proofs.Ytadkkcdhgepbkaa.RankK Go.Proofs.Ytadkkcdhgepbkaa.Walk
namespace RCP
open Go.Proofs.Ytadkkcdhgepbkaa.MatK (sm sm_bd sum_f cells_f pw pw_bd power_f mats_l0 matR matR_length matR_row setD imat_f smat_f td)
theorem setD_dig {q : Int} (hq : 2 ≤ q ∧ q ≤ 3) : ∀ (d : Nat) (num : Int) (row : List Int) (c : Nat), 0 ≤ num ∧ num ≤ 10000 → (∀ x ∈ row, 0 ≤ x ∧ x ≤ q - 1) → ∀ x ∈ (setD q d num row c).1, 0 ≤ x ∧ x ≤ q - 1
  | 0, _, _, _, _, h => h
  | d + 1, num, row, c, hn, h => by
    rw [setD]
    refine setD_dig hq d _ _ _ (td hq hn) (fun x hx => ?_)
    rcases List.mem_or_eq_of_mem_set hx with hx | rfl
    · exact h x hx
    · have := mod_in hq (a := num) hn.1
      omega
theorem matR_dig {q : Int} (hq : 2 ≤ q ∧ q ≤ 3) (n : Nat) : ∀ (t : List Int) (num : Int), 0 ≤ num ∧ num ≤ 10000 → ∀ row ∈ matR q n t num, ∀ x ∈ row, 0 ≤ x ∧ x ≤ q - 1
  | [], _, _ => by intro row hr; simp [matR] at hr
  | m :: t, num, hn => by
    intro row hr
    rw [matR, List.mem_cons] at hr
    rcases hr with rfl | hr
    · exact setD_dig hq _ _ _ _ hn (fun x hx => by rw [(List.mem_replicate.1 hx).2]; omega)
    · exact matR_dig hq n t _ (MatK.setD_num hq _ _ _ _ hn) row hr
theorem matR_rows {q : Int} (hq : 2 ≤ q ∧ q ≤ 3) {l : List Int} (h1 : 1 ≤ l.length) (h6 : l.length ≤ 6) {num : Int} (hn : 0 ≤ num ∧ num ≤ 10000) : areRowsB (matR q l.length l num) q = true := by
  have e0 := matR_length q l.length l num
  have h0 : (matR q l.length l num).getD 0 [] ∈ matR q l.length l num := by rw [gD_lt _ _ (by omega)]; exact List.getElem_mem _
  have e1 := matR_row q l.length l num _ h0
  unfold areRowsB
  rw [decide_eq_true hq, Bool.true_and, e0, decide_eq_true (show 1 ≤ (l.length : Int) ∧ (l.length : Int) ≤ 6 by omega), Bool.true_and, List.all_eq_true]
  intro x hx
  unfold rowOk
  have e2 := matR_row q l.length l num x hx
  rw [e1, e2, decide_eq_true (show 1 ≤ (l.length : Int) ∧ (l.length : Int) ≤ 6 by omega), decide_eq_true rfl, Bool.true_and, Bool.true_and, List.all_eq_true]
  exact fun y hy => decide_eq_true (matR_dig hq l.length l num hn x hx y hy)
def rk (q : Int) (l : List Int) (i : Int) : Nat := rooksN (leadsOf (matR q l.length l i) q)
def cnts (q : Int) (l : List Int) : Nat → Nat → List Int → List Int
  | 0, _, o => o
  | d + 1, i, o => cnts q l d (i + 1) (o.set (rk q l i) (wrap64 (o.getD (rk q l i) 0 + 1)))
theorem cnts_len (q : Int) (l : List Int) : ∀ d i o, (cnts q l d i o).length = o.length
  | 0, i, o => rfl
  | d + 1, i, o => by rw [cnts, cnts_len, List.length_set]
section
variable {l : List Int} {q : Int} (hq : 2 ≤ q ∧ q ≤ 3) (h1 : 1 ≤ l.length) (h6 : l.length ≤ 6) (hx : ∀ i (hi : i < l.length), 0 ≤ l[i] ∧ l[i] ≤ l.length) (hx6 : ∀ x ∈ l, 0 ≤ x ∧ x ≤ 6) {N : Nat} (hN : N ≤ 6561)
include hq h1 h6 hx hx6 hN
theorem rk_lt {i : Nat} (hi : i ≤ N) : rk q l i ≤ l.length := by
  have := rank_le (matR_rows hq h1 h6 (num := (i : Int)) (by omega))
  rw [matR_length] at this
  exact this
theorem impl_c : ∀ (d i : Nat) (o : List Int), i + d = N → o.length = l.length + 1 → Ev (fun k => impl_RankCountsPlain.l0 k l q o (N : Int) i) (cnts q l d i o, true)
  | 0, i, o, hi, ho => Ev.step (f := fun _ => some (o, true)) (fun k => by rw [impl_RankCountsPlain.l0, if_neg (by omega)]) (Ev.now _)
  | d + 1, i, o, hi, ho => by
    have w1 := Aside0.mk (show wrap64 ((i : Int) + 1) = ((i + 1 : Nat) : Int) by rw [w64 (by omega) (by omega)]; rfl)
    have hr := rk_lt hq h1 h6 hx hx6 hN (i := i) (by omega)
    rw [cnts]
    refine Ev.step (fun k => by rw [impl_RankCountsPlain.l0, if_pos (by omega)]) ?_
    refine Ev.bind (imat_f h6 hq hx (num := (i : Int)) (by omega)) ?_
    refine Ev.bind (impl_rank (matR_rows hq h1 h6 (num := (i : Int)) (by omega))) ?_
    have hrr : rooksN (leadsOf (matR q l.length l i) q) = rk q l i := rfl
    rw [hrr]
    refine Ev.congr (fun k => by rw [if_pos (by omega), if_pos (by omega), Int.toNat_natCast, rd_nat, w1.out]) ?_
    exact impl_c d (i + 1) _ (by omega) (by rw [List.length_set]; exact ho)
theorem spec_c {S : Nat} (hS : sm l = S) (hS6 : S ≤ 36) (hp : pw q S = N) : ∀ (d i : Nat) (o : List Int), i + d = N → o.length = l.length + 1 → Ev (fun k => spec_RankCountsPlain.l0 k l q o i) (cnts q l d i o, true)
  | d, i, o, hi, ho => by
    have cf := cells_f h6 hx6
    rw [hS] at cf
    have pf := power_f hq hS6
    rw [hp] at pf
    cases d with
    | zero =>
      refine Ev.step (fun k => by rw [spec_RankCountsPlain.l0]) (Ev.bind cf (Ev.bind pf ?_))
      exact Ev.congr (fun k => by rw [if_neg (by omega)]; rfl) (Ev.now _)
    | succ d =>
      have w1 := Aside0.mk (show wrap64 ((i : Int) + 1) = ((i + 1 : Nat) : Int) by rw [w64 (by omega) (by omega)]; rfl)
      have hr := rk_lt hq h1 h6 hx hx6 hN (i := i) (by omega)
      rw [cnts]
      refine Ev.step (fun k => by rw [spec_RankCountsPlain.l0]) (Ev.bind cf (Ev.bind pf ?_))
      refine Ev.congr (fun k => by rw [if_pos (by omega)]) ?_
      refine Ev.bind (smat_f h6 hq hx (num := (i : Int)) (by omega)) ?_
      refine Ev.bind (spec_rank (matR_rows hq h1 h6 (num := (i : Int)) (by omega))) ?_
      have hrr : rooksN (leadsOf (matR q l.length l i) q) = rk q l i := rfl
      rw [hrr]
      refine Ev.congr (fun k => by rw [if_pos (by omega), if_pos (by omega), Int.toNat_natCast, rd_nat, w1.out]) ?_
      exact spec_c hS hS6 hp d (i + 1) _ (by omega) (by rw [List.length_set]; exact ho)
end
def ans (l : List Int) (q : Int) : List Int × Bool := if LensK.lenB l = true then (if inR 2 3 q = true then (if pw q (sm l).toNat ≤ 6561 then (cnts q l (pw q (sm l).toNat).toNat 0 (List.replicate (l.length + 1) 0), true) else ([], false)) else ([], false)) else ([], false)
theorem ans_len (l : List Int) (q : Int) (hl : l.length ≤ 1048576) : (ans l q).1.length ≤ 2000000 := by
  unfold ans
  repeat' split
  all_goals first | (exact Nat.zero_le _) | (simp only []; rw [cnts_len, List.length_replicate]; omega)
theorem impl_a {l : List Int} (q : Int) (hl : l.length ≤ 1048576) : Ev (fun k => impl_RankCountsPlain.f k l q) (ans l q) := by
  unfold impl_RankCountsPlain.f ans
  have stop : ∀ n : Nat, impl_RankCountsPlain.j0 (n + 1) l q true = some ([], false) := fun n => by rw [impl_RankCountsPlain.j0, if_pos rfl]
  refine Ev.bind (LensK.impl_good hl) ?_
  by_cases h : LensK.lenB l = true
  · rw [if_pos h]
    refine Ev.congr (fun k => by rw [if_pos h, impl_isQ.f, withinR, Option.bind_some, Option.bind_some]) ?_
    by_cases h2 : inR 2 3 q = true
    · rw [if_pos h2, h2]
      have hq : 2 ≤ q ∧ q ≤ 3 := of_decide_eq_true h2
      obtain ⟨h1, h6, hx⟩ := LensK.len_of h
      have hx6 : ∀ x ∈ l, 0 ≤ x ∧ x ≤ 6 := fun x hm => by obtain ⟨i, hi, rfl⟩ := List.mem_iff_getElem.1 hm; have := hx i hi; omega
      have hs := sm_bd l hx6
      have hp := pw_bd hq (n := (sm l).toNat) (by omega)
      have e1 := Aside0.mk (show wrap64 ((l.length : Int) + 1) = ((l.length + 1 : Nat) : Int) by rw [w64 (by omega) (by omega)]; rfl)
      refine Ev.step (fun k => by rw [impl_RankCountsPlain.j0, if_neg (by simp)]) ?_
      have hm : Ev (fun k => impl_matrices.f k l q) (if pw q (sm l).toNat ≤ 6561 then (pw q (sm l).toNat, true) else (0, false)) := by
        unfold impl_matrices.f
        have := mats_l0 hq (S := (sm l).toNat) (by omega) (sm l).toNat 0 (by omega) (by rw [show pw q 0 = 1 from rfl]; omega)
        rw [Int.toNat_of_nonneg hs.1] at this
        exact Ev.bind (sum_f h6 hx6) this
      refine Ev.bind hm ?_
      by_cases c : pw q (sm l).toNat ≤ 6561
      · rw [if_pos c, if_pos c]
        obtain ⟨N, hN⟩ : ∃ N : Nat, pw q (sm l).toNat = N := ⟨(pw q (sm l).toNat).toNat, by omega⟩
        refine Ev.congr (fun k => by rw [if_pos rfl, e1.out, if_pos (by omega), Int.toNat_natCast, if_pos (by omega)]) ?_
        rw [hN, Int.toNat_natCast]
        exact impl_c hq h1 h6 hx hx6 (N := N) (by omega) N 0 _ (by omega) (by rw [List.length_replicate])
      · rw [if_neg c, if_neg c]
        exact Ev.congr (fun k => by rw [if_neg (by simp)]) (Ev.now _)
    · rw [if_neg h2, show inR 2 3 q = false by simpa using h2]
      exact Ev.step (fun n => by rw [show (!false) = true from rfl, stop]) (Ev.now _)
  · rw [if_neg h]
    exact Ev.congr (fun k => by rw [if_neg h]) (Ev.step (fun n => by rw [stop]) (Ev.now _))
theorem spec_a {l : List Int} (q : Int) (hl : l.length ≤ 1048576) : Ev (fun k => spec_RankCountsPlain.f k l q) (ans l q) := by
  unfold spec_RankCountsPlain.f ans
  have hw : Ev (fun k => spec_weFew.f k l q) (LensK.lenB l && (inR 2 3 q && decide (pw q (sm l).toNat ≤ 6561))) := by
    unfold spec_weFew.f
    refine Ev.bind (LensK.spec_good hl) ?_
    by_cases h : LensK.lenB l = true
    · rw [h, Bool.true_and]
      refine Ev.congr (fun k => by rw [if_pos rfl, spec_weBase.f, l1In_f, Option.bind_some, Option.bind_some]) ?_
      by_cases hq : inR 2 3 q = true
      · rw [hq, Bool.true_and]
        have hq2 : 2 ≤ q ∧ q ≤ 3 := of_decide_eq_true hq
        obtain ⟨h1, h6, hx⟩ := LensK.len_of h
        have hx6 : ∀ x ∈ l, 0 ≤ x ∧ x ≤ 6 := fun x hm => by obtain ⟨i, hi, rfl⟩ := List.mem_iff_getElem.1 hm; have := hx i hi; omega
        have hs := sm_bd l hx6
        refine Ev.congr (fun k => if_pos rfl) (Ev.bind (cells_f h6 hx6) ?_)
        have := power_f hq2 (S := (sm l).toNat) (by omega)
        rw [Int.toNat_of_nonneg hs.1] at this
        exact Ev.bind this (Ev.now _)
      · rw [show inR 2 3 q = false by simpa using hq, Bool.false_and]
        exact Ev.congr (fun k => if_neg (by simp)) (Ev.now _)
    · rw [show LensK.lenB l = false by simpa using h, Bool.false_and]
      exact Ev.congr (fun k => if_neg (by simp)) (Ev.now _)
  refine Ev.bind hw ?_
  by_cases h : LensK.lenB l = true
  · rw [h, if_pos rfl, Bool.true_and]
    by_cases h2 : inR 2 3 q = true
    · rw [h2, if_pos rfl, Bool.true_and]
      have hq : 2 ≤ q ∧ q ≤ 3 := of_decide_eq_true h2
      obtain ⟨h1, h6, hx⟩ := LensK.len_of h
      have hx6 : ∀ x ∈ l, 0 ≤ x ∧ x ≤ 6 := fun x hm => by obtain ⟨i, hi, rfl⟩ := List.mem_iff_getElem.1 hm; have := hx i hi; omega
      have hs := sm_bd l hx6
      have hp := pw_bd hq (n := (sm l).toNat) (by omega)
      have e1 := Aside0.mk (show wrap64 ((l.length : Int) + 1) = ((l.length + 1 : Nat) : Int) by rw [w64 (by omega) (by omega)]; rfl)
      by_cases c : pw q (sm l).toNat ≤ 6561
      · rw [if_pos c]
        obtain ⟨N, hN⟩ : ∃ N : Nat, pw q (sm l).toNat = N := ⟨(pw q (sm l).toNat).toNat, by omega⟩
        refine Ev.congr (fun k => by rw [if_pos (decide_eq_true c), e1.out, if_pos (by omega), Int.toNat_natCast, if_pos (by omega)]) ?_
        have := spec_c hq h1 h6 hx hx6 (N := N) (by omega) (S := (sm l).toNat) (by omega) (by omega) hN N 0 (List.replicate (l.length + 1) 0) (by omega) (by rw [List.length_replicate])
        rw [hN, Int.toNat_natCast]
        exact this
      · rw [if_neg c]
        exact Ev.congr (fun k => if_neg (by simpa using c)) (Ev.now _)
    · rw [show inR 2 3 q = false by simpa using h2, Bool.false_and, if_neg (by simp)]
      exact Ev.congr (fun k => if_neg (by simp)) (Ev.now _)
  · rw [show LensK.lenB l = false by simpa using h, Bool.false_and, if_neg (by simp)]
    exact Ev.congr (fun k => if_neg (by simp)) (Ev.now _)
end RCP
open RCP
end Go.Proofs.Ytadkkcdhgepbkaa.Pure
end
section
namespace Go.Proofs.Ytadkkcdhgepbkaa.Hagl
set_option linter.unusedVariables false
set_option linter.unusedSectionVars false
open Go.RowKit Go.Proofs.YtadkkcdhgepbkaaW.PrintWords Go.Proofs.YtadkkcdhgepbkaaW.PrintLast Go.Proofs.YtadkkcdhgepbkaaW.PrintMore
open Go.Proofs.YtadkkcdhgepbkaaL Go.Proofs.Ytadkkcdhgepbkaa.LeadsK Go.Proofs.Ytadkkcdhgepbkaa.LinAlg Go.Proofs.Ytadkkcdhgepbkaa.LeadLaw Go.Proofs.Ytadkkcdhgepbkaa.Walk
open Go.Proofs.Ytadkkcdhgepbkaa.MatK (setD matR pw matR_row matR_length)
open Go.Proofs.Ytadkkcdhgepbkaa.BagK (Fk Fk_rooks rooksN_snoc cnt cnt_cons RepC RepT wtab wtab_rep)
open Go.Proofs.Ytadkkcdhgepbkaa.LensK (lenB len_of rise_le riseFrom)
open Go.Proofs.Ytadkkcdhgepbkaa.WValK (wpow)
open Go.Proofs.Ytadkkcdhgepbkaa.Pure.RCK (cs counts)
open Go.Proofs.Ytadkkcdhgepbkaa.Pure.RCP (cnts cnts_len rk rk_lt)
theorem sum_one (m v : Nat) : ∀ n, sumTo n (fun i => if m = i then v else 0) = if m < n then v else 0
  | 0 => by rw [sumTo, if_neg (by omega)]
  | n + 1 => by
    rw [sumTo, sum_one m v n]
    by_cases h : m = n
    · subst h; rw [if_neg (by omega), if_pos rfl, if_pos (by omega), Nat.zero_add]
    · rw [if_neg h, Nat.add_zero]
      by_cases h2 : m < n
      · rw [if_pos h2, if_pos (by omega)]
      · rw [if_neg h2, if_neg (by omega)]
theorem sum_mono (f : Nat → Nat) (m : Nat) : ∀ d, sumTo m f ≤ sumTo (m + d) f
  | 0 => Nat.le_refl _
  | d + 1 => Nat.le_trans (sum_mono f m d) (by rw [← Nat.add_assoc, sumTo]; omega)
theorem sum_at (f : Nat → Nat) {i n : Nat} (h : i < n) : f i ≤ sumTo n f := by
  have := sum_mono f (i + 1) (n - (i + 1))
  rw [show i + 1 + (n - (i + 1)) = n by omega, sumTo] at this
  omega
theorem Gm_low (Q : Nat) {z : Nat} : ∀ (t : List Int) (k : Nat), z < k → Gm Q t k z = 0
  | [], k, h => by rw [Gm, if_neg (by omega)]
  | m :: t, k, h => by rw [Gm, Gm_low Q t k h, Gm_low Q t (k + 1) (by omega), Nat.mul_zero, Nat.mul_zero]
theorem Gm_zero (Q : Nat) : ∀ t : List Int, Gm Q t 0 0 = 1
  | [] => rfl
  | m :: t => by rw [Gm, Gm_zero Q t, Gm_low Q t 1 (by omega), Nat.mul_zero, Nat.pow_zero]
theorem Gm_sum {Q : Nat} (hQ : 1 ≤ Q) : ∀ (t : List Int) (k K : Nat), (∀ x ∈ t, k ≤ x.toNat) → t.Pairwise (fun a b => a ≤ b) → k + t.length < K → sumTo K (fun z => Gm Q t k z) = Q ^ tot t
  | [], k, K, h, hp, hk => by
    rw [tot, Nat.pow_zero]
    have := sum_one k 1 K
    rw [if_pos (by simpa using hk)] at this
    exact this
  | m :: t, k, K, h, hp, hk => by
    have hp2 := List.pairwise_cons.1 hp
    rw [List.length_cons] at hk
    have hm := h m List.mem_cons_self
    have hle : Q ^ k ≤ Q ^ m.toNat := Nat.pow_le_pow_right hQ hm
    have i1 := Gm_sum hQ t k K (fun x hx => h x (List.mem_cons_of_mem _ hx)) hp2.2 (by omega)
    have e : sumTo K (fun z => Gm Q (m :: t) k z) = Q ^ k * sumTo K (fun z => Gm Q t k z) + (Q ^ m.toNat - Q ^ k) * sumTo K (fun z => Gm Q t (k + 1) z) := by
      rw [← sum_mul, ← sum_mul, ← sum_add]
      exact sum_congr (fun z _ => by rw [Gm])
    rw [e, i1, tot, Nat.pow_add]
    by_cases hlt : k < m.toNat
    · have i2 := Gm_sum hQ t (k + 1) K (fun x hx => by have := hp2.1 x hx; omega) hp2.2 (by omega)
      rw [i2, ← Nat.add_mul]
      congr 1
      omega
    · have : k = m.toNat := by omega
      rw [← this, Nat.sub_self, Nat.zero_mul, Nat.add_zero]
theorem tot_take {l : List Int} {r : Nat} (h : r < l.length) : tot (l.take (r + 1)) = tot (l.take r) + (l.getD r 0).toNat := by
  have app : ∀ a b : List Int, tot (a ++ b) = tot a + tot b := by
    intro a b
    induction a with
    | nil => rw [List.nil_append, tot, Nat.zero_add]
    | cons x a ih => rw [List.cons_append, tot, tot, ih, Nat.add_assoc]
  rw [List.take_add_one, app, List.getElem?_eq_getElem h, gD_lt _ _ h]
  rfl
theorem Fk_le {l : List Int} : ∀ r, r ≤ l.length → (∀ i j, i ≤ j → j < l.length → l.getD i 0 ≤ l.getD j 0) → ∀ x ∈ Fk l r, x.1 + x.2 ≤ tot (l.take r)
  | 0, hr, hi, x, hx => by
    rw [Fk, List.mem_singleton] at hx
    subst hx
    exact Nat.zero_le _
  | r + 1, hr, hi, x, hx => by
    rw [Fk, List.mem_flatMap] at hx
    obtain ⟨y, hy, hx⟩ := hx
    have q1 := Fk_le r (by omega) hi y hy
    have q2 := (Fk_rooks r y hy).2 (l.getD r 0).toNat (fun i h => by have := hi i r (by omega) (by omega); omega)
    rw [tot_take (by omega)]
    rw [BagK.step, List.mem_cons, List.mem_map] at hx
    rcases hx with rfl | ⟨i, hi2, rfl⟩
    · simp only []; omega
    · rw [List.mem_range] at hi2
      simp only []; omega
theorem val_run {Q : Nat} (hQ : 1 ≤ Q) (z : Nat) {l : List Int} (hi : ∀ i j, i ≤ j → j < l.length → l.getD i 0 ≤ l.getD j 0) : ∀ (d r : Nat), r + d = l.length → sumL (wt Q (tot (l.take r)) (fun k => Gm Q (l.drop r) k z)) (Fk l r) = sumL (wt Q (tot l) (fun k => if k = z then 1 else 0)) (Fk l l.length)
  | 0, r, hr => by
    have e : r = l.length := by omega
    subst e
    rw [List.take_length, List.drop_length]
    rfl
  | d + 1, r, hr => by
    have hrl : r < l.length := by omega
    have ih := val_run hQ z hi d (r + 1) (by omega)
    rw [← ih, Fk, sumL_flat, tot_take hrl]
    refine sumL_congr (fun x hx => ?_)
    rw [step_sum hQ _ ((Fk_rooks r x hx).2 _ (fun i h => by have := hi i r (by omega) hrl; omega)) (Fk_le r (by omega) hi x hx)]
    have e : Gm Q (l.drop r) x.1 z = Q ^ x.1 * Gm Q (l.drop (r + 1)) x.1 z + (Q ^ (l.getD r 0).toNat - Q ^ x.1) * Gm Q (l.drop (r + 1)) (x.1 + 1) z := by rw [List.drop_eq_getElem_cons hrl, Gm, gD_lt _ _ hrl]
    exact congrArg (fun v => (Q - 1) ^ x.1 * Q ^ (tot (l.take r) - x.1 - x.2) * v) e
theorem val_all {Q : Nat} (hQ : 1 ≤ Q) (z : Nat) {l : List Int} (hi : ∀ i j, i ≤ j → j < l.length → l.getD i 0 ≤ l.getD j 0) : Gm Q l 0 z = sumL (wt Q (tot l) (fun k => if k = z then 1 else 0)) (Fk l l.length) := by
  have := val_run hQ z hi l.length 0 (by omega)
  rw [← this, Fk, sumL, sumL, List.take_zero, List.drop_zero]
  unfold wt
  simp [tot]
theorem cnt_sum (k : Nat) (h : Nat → Nat) (L : Nat) : ∀ F : List (Nat × Nat), (∀ x ∈ F, x.1 = k → x.2 < L) → sumTo L (fun e => cnt F k e * h e) = sumL (fun x => if x.1 = k then h x.2 else 0) F
  | [], _ => by rw [sumL, sum_congr (g := fun _ => 0) (fun e _ => by rw [BagK.cnt_nil, Nat.zero_mul]), sum_zero]
  | x :: t, hx => by
    have ih := cnt_sum k h L t (fun y hy => hx y (List.mem_cons_of_mem _ hy))
    rw [sumL, ← ih, sum_congr (g := fun e => (if x.2 = e then (if x.1 = k then h x.2 else 0) else 0) + cnt t k e * h e) (fun e _ => by
      rw [cnt_cons, Nat.add_mul, Nat.add_comm]
      congr 1
      by_cases h1 : x.2 = e
      · rw [if_pos h1]
        by_cases h2 : x.1 = k
        · rw [if_pos h2, if_pos ⟨h2.symm, h1.symm⟩, Nat.one_mul, h1]
        · rw [if_neg h2, if_neg (fun h => h2 h.1.symm), Nat.zero_mul]
      · rw [if_neg h1, if_neg (fun h => h1 h.2.symm), Nat.zero_mul]), sum_add, sum_one]
    congr 1
    by_cases h2 : x.1 = k
    · rw [if_pos (hx x List.mem_cons_self h2)]
    · rw [if_neg h2]
      split <;> rfl
theorem wpow_all : ∀ n : Fin 37, wpow 2 n.val = ((2 ^ n.val : Nat) : Int) ∧ wpow 3 n.val = ((3 ^ n.val : Nat) : Int) := by decide +kernel
theorem wpow_one : ∀ n : Fin 37, wpow 1 n.val = 1 := by decide +kernel
theorem wpow_q {q : Int} (hq : 2 ≤ q ∧ q ≤ 3) {n : Nat} (h : n ≤ 36) : wpow q n = ((q.toNat ^ n : Nat) : Int) := by
  have hq2 : q = 2 ∨ q = 3 := by omega
  rcases hq2 with rfl | rfl
  · exact (wpow_all ⟨n, by omega⟩).1
  · exact (wpow_all ⟨n, by omega⟩).2
theorem wpow_q1 {q : Int} (hq : 2 ≤ q ∧ q ≤ 3) {n : Nat} (h : n ≤ 36) : wpow (wrap64 (q - 1)) n = (((q.toNat - 1) ^ n : Nat) : Int) := by
  have hq2 : q = 2 ∨ q = 3 := by omega
  rcases hq2 with rfl | rfl
  · have : wrap64 (2 - 1) = 1 := w64 (by omega) (by omega)
    rw [this, wpow_one ⟨n, by omega⟩]
    have : ((2 : Int).toNat - 1) = 1 := rfl
    rw [this, Nat.one_pow]
    rfl
  · have : wrap64 (3 - 1) = 2 := w64 (by omega) (by omega)
    rw [this]
    exact (wpow_all ⟨n, by omega⟩).1
section
variable {q : Int} (hq : 2 ≤ q ∧ q ≤ 3)
include hq
theorem cs_val {S k : Nat} (hS : S ≤ 36) {row : List Int} {c : Nat → Nat} (hr : RepC row c) (hB : sumTo row.length (fun e => c e * q.toNat ^ (S - k - e)) ≤ 4000000000) : ∀ (f e : Nat), e + f = row.length → cs q (S : Int) k row f e ((sumTo e (fun e => c e * q.toNat ^ (S - k - e)) : Nat) : Int) = ((sumTo row.length (fun e => c e * q.toNat ^ (S - k - e)) : Nat) : Int)
  | 0, e, he => by rw [cs, show row.length = e by omega]
  | f + 1, e, he => by
    have hm := sum_mono (fun e => c e * q.toNat ^ (S - k - e)) (e + 1) f
    rw [show e + 1 + f = row.length by omega] at hm
    have e1 : sumTo (e + 1) (fun e => c e * q.toNat ^ (S - k - e)) = sumTo e (fun e => c e * q.toNat ^ (S - k - e)) + c e * q.toNat ^ (S - k - e) := rfl
    have ih := cs_val hS hr hB f (e + 1) (by omega)
    have hg := hr.get e
    rw [cs]
    by_cases h0 : row.getD e 0 > 0
    · rw [if_pos h0, hg, show ((S : Int) - (k : Int) - (e : Int)).toNat = S - k - e by omega, wpow_q hq (by omega), ← Int.natCast_mul, w64 (n := ((c e * q.toNat ^ (S - k - e) : Nat) : Int)) (by omega) (by omega), ← Int.natCast_add, ← e1, w64 (by omega) (by omega)]
      exact ih
    · have hz : c e = 0 := by omega
      rw [if_neg h0, ← ih, e1, hz, Nat.zero_mul]
      rfl
end
theorem sumL_mul (a : Nat) (f : Nat × Nat → Nat) : ∀ l, sumL (fun x => a * f x) l = a * sumL f l
  | [] => rfl
  | x :: l => by rw [sumL, sumL, sumL_mul a f l, Nat.mul_add]
theorem rise_all {l : List Int} (h : lenB l = true) : ∀ i j, i ≤ j → j < l.length → l.getD i 0 ≤ l.getD j 0 := by
  have hr : riseFrom l 1 = true := by unfold lenB at h; rw [Bool.and_eq_true] at h; exact h.2
  intro i j hij hj
  obtain ⟨d, rfl⟩ : ∃ d, j = i + d := ⟨j - i, by omega⟩
  exact rise_le hr d i hj
theorem rise_pair {l : List Int} (h : lenB l = true) : l.Pairwise (fun a b => a ≤ b) := by
  rw [List.pairwise_iff_getElem]
  intro i j hi hj hij
  have := rise_all h i j (by omega) hj
  rwa [gD_lt _ _ hi, gD_lt _ _ hj] at this
def told (q : Int) (l : List Int) : List Int := (List.range (l.length + 1)).map (fun k => ((Gm q.toNat l 0 k : Nat) : Int))
section
variable {q : Int} (hq : 2 ≤ q ∧ q ≤ 3) {l : List Int} (h : lenB l = true)
include hq h
theorem told_sum : sumTo (l.length + 1) (fun z => Gm q.toNat l 0 z) = q.toNat ^ tot l := Gm_sum (by omega) l 0 (l.length + 1) (fun _ _ => Nat.zero_le _) (rise_pair h) (by omega)
theorem told_le (hS : tot l ≤ 20) {z : Nat} (hz : z ≤ l.length) : Gm q.toNat l 0 z ≤ 4000000000 := by
  have h1 := sum_at (fun z => Gm q.toNat l 0 z) (show z < l.length + 1 by omega)
  rw [told_sum hq h] at h1
  have h2 : q.toNat ^ tot l ≤ 3 ^ 20 := Nat.le_trans (Nat.pow_le_pow_left (show q.toNat ≤ 3 by omega) _) (Nat.pow_le_pow_right (by decide) hS)
  exact Nat.le_trans h1 (Nat.le_trans h2 (by decide))
theorem row_val (hS : tot l ≤ 20) {k : Nat} (hk : k ≤ l.length) : wrap64 (cs q (tot l : Int) k ((wtab l).getD k []) ((wtab l).getD k []).length 0 0 * wpow (wrap64 (q - 1)) k) = ((Gm q.toNat l 0 k : Nat) : Int) := by
  have h6 := (len_of h).2.1
  have hrep := (wtab_rep h).rep k hk
  obtain ⟨row, hrow⟩ : ∃ row, row = (wtab l).getD k [] := ⟨_, rfl⟩
  rw [← hrow] at hrep ⊢
  have hQ : 1 ≤ q.toNat := by omega
  have hlen : ∀ x ∈ Fk l l.length, x.1 = k → x.2 < row.length := by
    intro x hx he
    refine Nat.lt_of_not_le (fun hle => ?_)
    have hg := hrep.get x.2
    rw [List.getD_eq_getElem?_getD, List.getElem?_eq_none hle] at hg
    have hpos : 0 < cnt (Fk l l.length) k x.2 := by
      unfold cnt
      refine List.count_pos_iff.2 ?_
      rw [← he]
      exact hx
    have : (none : Option Int).getD 0 = 0 := rfl
    omega
  have hP := cnt_sum k (fun e => q.toNat ^ (tot l - k - e)) row.length (Fk l l.length) hlen
  have hG : Gm q.toNat l 0 k = (q.toNat - 1) ^ k * sumTo row.length (fun e => cnt (Fk l l.length) k e * q.toNat ^ (tot l - k - e)) := by
    rw [val_all hQ k (rise_all h), hP, ← sumL_mul]
    refine sumL_congr (fun x hx => ?_)
    show (q.toNat - 1) ^ x.1 * q.toNat ^ (tot l - x.1 - x.2) * (if x.1 = k then 1 else 0) = (q.toNat - 1) ^ k * (if x.1 = k then q.toNat ^ (tot l - k - x.2) else 0)
    by_cases e : x.1 = k
    · rw [if_pos e, if_pos e, e, Nat.mul_one]
    · rw [if_neg e, if_neg e, Nat.mul_zero, Nat.mul_zero]
  have hle := told_le hq h hS hk
  have hpos : 1 ≤ (q.toNat - 1) ^ k := Nat.one_le_pow _ _ (by omega)
  have hPB : sumTo row.length (fun e => cnt (Fk l l.length) k e * q.toNat ^ (tot l - k - e)) ≤ 4000000000 := by
    rw [hG] at hle
    exact Nat.le_trans (Nat.le_mul_of_pos_left _ hpos) hle
  have hc := cs_val hq (S := tot l) (k := k) (by omega) hrep hPB row.length 0 (by omega)
  have e0 : ((sumTo 0 (fun e => cnt (Fk l l.length) k e * q.toNat ^ (tot l - k - e)) : Nat) : Int) = 0 := rfl
  rw [e0] at hc
  rw [hc, wpow_q1 hq (by omega), ← Int.natCast_mul, Nat.mul_comm, ← hG, w64 (by omega) (by omega)]
theorem counts_run (hS : tot l ≤ 20) : ∀ (d k : Nat) (o : List Int), k + d = l.length + 1 → o = (List.range k).map (fun k => ((Gm q.toNat l 0 k : Nat) : Int)) → counts q (tot l : Int) (wtab l) d k o = told q l
  | 0, k, o, hk, ho => by
    rw [counts, ho, show k = l.length + 1 by omega]
    rfl
  | d + 1, k, o, hk, ho => by
    rw [counts, row_val hq h hS (by omega)]
    refine counts_run hS d (k + 1) _ (by omega) ?_
    rw [ho, List.range_succ, List.map_append]
    rfl
theorem counts_eq (hS : tot l ≤ 20) : counts q (tot l : Int) (wtab l) (l.length + 1) 0 [] = told q l := counts_run hq h hS (l.length + 1) 0 [] (by omega) rfl
end
end Go.Proofs.Ytadkkcdhgepbkaa.Hagl
end
section
namespace Go.Proofs.Ytadkkcdhgepbkaa.Hagl
set_option linter.unusedVariables false
set_option linter.unusedSectionVars false
open Go.RowKit Go.Proofs.YtadkkcdhgepbkaaW.PrintWords Go.Proofs.YtadkkcdhgepbkaaW.PrintLast Go.Proofs.YtadkkcdhgepbkaaW.PrintMore
open Go.Proofs.YtadkkcdhgepbkaaL Go.Proofs.Ytadkkcdhgepbkaa.LawK Go.Proofs.Ytadkkcdhgepbkaa.BoardK Go.Proofs.Ytadkkcdhgepbkaa.LeadsK Go.Proofs.Ytadkkcdhgepbkaa.LinAlg Go.Proofs.Ytadkkcdhgepbkaa.LeadLaw Go.Proofs.Ytadkkcdhgepbkaa.Walk
open Go.Proofs.Ytadkkcdhgepbkaa.MatK (setD matR pw matR_row matR_length)
open Go.Proofs.Ytadkkcdhgepbkaa.LensK (lenB len_of rise_le riseFrom)
open Go.Proofs.Ytadkkcdhgepbkaa.Pure.RCP (cnts cnts_len rk rk_lt)
theorem sm_tot : ∀ {l : List Int}, (∀ x ∈ l, 0 ≤ x) → MatK.sm l = (tot l : Int)
  | [], _ => rfl
  | x :: t, h => by
    have h1 := sm_tot (fun y hy => h y (List.mem_cons_of_mem _ hy))
    have h2 := h x List.mem_cons_self
    rw [MatK.sm, tot, h1]
    omega
theorem sm_tot2 : ∀ {l : List Int}, (∀ x ∈ l, 0 ≤ x) → Pure.RCK.sm l = (tot l : Int)
  | [], _ => rfl
  | x :: t, h => by
    have h1 := sm_tot2 (fun y hy => h y (List.mem_cons_of_mem _ hy))
    have h2 := h x List.mem_cons_self
    rw [Pure.RCK.sm, tot, h1]
    omega
theorem len_nonneg {l : List Int} (h : lenB l = true) : ∀ x ∈ l, 0 ≤ x ∧ x ≤ l.length := by
  intro x hx
  obtain ⟨i, hi, rfl⟩ := List.mem_iff_getElem.1 hx
  exact (len_of h).2.2 i hi
section
variable {q : Int} (hq : 2 ≤ q ∧ q ≤ 3)
include hq
theorem pw_nat : ∀ n, pw q n = ((q.toNat ^ n : Nat) : Int)
  | 0 => rfl
  | n + 1 => by
    rw [pw, pw_nat n, Nat.pow_succ, Int.natCast_mul, Int.toNat_of_nonneg (by omega)]
theorem cnts_run {l : List Int} {N : Nat} (hN : N ≤ 6561) (hrk : ∀ i, i < N → rk q l (i : Int) ≤ l.length) : ∀ (d i : Nat) (o : List Int), i + d = N → o.length = l.length + 1 → (∀ z, z ≤ l.length → o.getD z 0 = ((sumTo i (fun s => if rk q l (s : Int) = z then 1 else 0) : Nat) : Int)) → cnts q l d i o = (List.range (l.length + 1)).map (fun z => ((sumTo N (fun s => if rk q l (s : Int) = z then 1 else 0) : Nat) : Int))
  | 0, i, o, hi, ho, h => by
    rw [cnts]
    refine List.ext_getElem (by rw [ho]; simp) (fun z h1 h2 => ?_)
    have := h z (by omega)
    rw [gD_lt _ _ h1] at this
    rw [this, List.getElem_map, List.getElem_range, show i = N by omega]
  | d + 1, i, o, hi, ho, h => by
    have hr := hrk i (by omega)
    rw [cnts]
    refine cnts_run hN hrk d (i + 1) _ (by omega) (by rw [List.length_set]; exact ho) (fun z hz => ?_)
    have e : sumTo (i + 1) (fun s => if rk q l (s : Int) = z then 1 else 0) = sumTo i (fun s => if rk q l (s : Int) = z then 1 else 0) + if rk q l (i : Int) = z then 1 else 0 := rfl
    have hle : ∀ n, sumTo n (fun s => if rk q l (s : Int) = z then 1 else 0) ≤ n := by
      intro n
      induction n with
      | zero => exact Nat.le_refl _
      | succ n ih => rw [sumTo]; split <;> omega
    have hi2 := hle i
    rw [set_getD _ _ _ _ (by omega), e]
    by_cases hz2 : z = rk q l (i : Int)
    · rw [if_pos hz2, if_pos hz2.symm, h _ (by omega), ← hz2, w64 (by omega) (by omega)]
      omega
    · rw [if_neg hz2, if_neg (fun h => hz2 h.symm), h z hz]
      rfl
theorem rk_eq {l : List Int} (h1 : 1 ≤ l.length) (i : Int) : rk q l i = rooksN (leadsF q l.length (matR q l.length l i) [] []) := by
  have e0 := matR_length q l.length l i
  have h0 : (matR q l.length l i).getD 0 [] ∈ matR q l.length l i := by rw [gD_lt _ _ (by omega)]; exact List.getElem_mem _
  have e1 := matR_row q l.length l i _ h0
  unfold rk Go.Proofs.Ytadkkcdhgepbkaa.RankK.leadsOf
  rw [e1]
theorem plain_eq {l : List Int} (h : lenB l = true) (hN : q.toNat ^ tot l ≤ 6561) : cnts q l (q.toNat ^ tot l) 0 (List.replicate (l.length + 1) 0) = told q l := by
  obtain ⟨h1, h6, hx⟩ := len_of h
  have hx6 : ∀ x ∈ l, 0 ≤ x ∧ x ≤ 6 := fun x hm => by have := len_nonneg h x hm; omega
  rw [cnts_run hq hN (fun i hi => rk_lt hq h1 h6 hx hx6 hN (by omega)) (q.toNat ^ tot l) 0 _ (by omega) (by rw [List.length_replicate]) (fun z hz => by
    rw [sumTo, List.getD_eq_getElem?_getD, List.getElem?_replicate]
    split <;> rfl)]
  unfold told
  refine List.map_congr_left (fun z hz => ?_)
  have m := mat_count hq (n := l.length) z l 0 [] [] ⟨rfl, fun s h => absurd h (by simp), fun s h => absurd h (by simp), fun s t _ h => absurd h (by simp)⟩ (fun s h => absurd h (by simp)) (fun x hx => by have := len_nonneg h x hx; omega) (rise_pair h)
  have e : rooksN ([] : List Int) = 0 := rfl
  rw [e] at m
  rw [← m]
  congr 1
  exact sum_congr (fun s _ => by rw [rk_eq hq h1])
end
theorem told_ans {l : List Int} (q : Int) : Pure.RCK.ans l q = if lenB l = true then (if inR 2 3 q = true then (if (tot l : Int) > 20 then ([], false) else (told q l, true)) else ([], false)) else ([], false) := by
  unfold Pure.RCK.ans
  by_cases h : lenB l = true
  · rw [if_pos h, if_pos h]
    by_cases h2 : inR 2 3 q = true
    · have hq : 2 ≤ q ∧ q ≤ 3 := of_decide_eq_true h2
      rw [if_pos h2, if_pos h2, sm_tot2 (fun x hx => (len_nonneg h x hx).1)]
      by_cases h3 : (tot l : Int) > 20
      · rw [if_pos h3, if_pos h3]
      · rw [if_neg h3, if_neg h3, counts_eq hq h (by omega)]
    · rw [if_neg h2, if_neg h2]
  · rw [if_neg h, if_neg h]
theorem plain_ans {l : List Int} (q : Int) : Pure.RCP.ans l q = if lenB l = true then (if inR 2 3 q = true then (if q.toNat ^ tot l ≤ 6561 then (told q l, true) else ([], false)) else ([], false)) else ([], false) := by
  unfold Pure.RCP.ans
  by_cases h : lenB l = true
  · rw [if_pos h, if_pos h]
    by_cases h2 : inR 2 3 q = true
    · have hq : 2 ≤ q ∧ q ≤ 3 := of_decide_eq_true h2
      rw [if_pos h2, if_pos h2, sm_tot (fun x hx => (len_nonneg h x hx).1), Int.toNat_natCast, pw_nat hq, Int.toNat_natCast]
      by_cases h3 : q.toNat ^ tot l ≤ 6561
      · rw [if_pos (by omega), if_pos h3, plain_eq hq h h3]
      · rw [if_neg (by omega), if_neg h3]
    · rw [if_neg h2, if_neg h2]
  · rw [if_neg h, if_neg h]
theorem few_tot {q : Int} (hq : 2 ≤ q ∧ q ≤ 3) {n : Nat} (h : q.toNat ^ n ≤ 6561) : n ≤ 20 := by
  refine Nat.le_of_not_lt (fun hlt => ?_)
  have h1 : 2 ^ 13 ≤ q.toNat ^ n := Nat.le_trans (Nat.pow_le_pow_left (show 2 ≤ q.toNat by omega) 13) (Nat.pow_le_pow_right (by omega) (by omega))
  have h2 : (2 : Nat) ^ 13 = 8192 := by decide
  omega
end Go.Proofs.Ytadkkcdhgepbkaa.Hagl
end
section
namespace Go.Proofs.Ytadkkcdhgepbkaa.DrawK
set_option linter.unusedVariables false
open Go.RowKit Go.Proofs.Ytadkkcdhgepbkaa.Q Go.Proofs.YtadkkcdhgepbkaaW.PrintWords Go.Proofs.YtadkkcdhgepbkaaW.PrintLast Go.Proofs.YtadkkcdhgepbkaaW.PrintMore
open Go.Proofs.YtadkkcdhgepbkaaL Go.Proofs.Ytadkkcdhgepbkaa.LawK Go.Proofs.Ytadkkcdhgepbkaa.BoardK
def Run {α : Type} (g : Nat → Option α) (P : α → Prop) : Prop := ∃ a, Ev g a ∧ P a
theorem Run.now {α : Type} {a : α} {P : α → Prop} (h : P a) : Run (fun _ => some a) P := ⟨a, Ev.now a, h⟩
theorem Run.of {α : Type} {g : Nat → Option α} {a : α} {P : α → Prop} (h : Ev g a) (hp : P a) : Run g P := ⟨a, h, hp⟩
theorem Run.bind {α β : Type} {g : Nat → Option α} {h : Nat → α → Option β} {P : α → Prop} {Q : β → Prop} (h1 : Run g P) (h2 : ∀ a, P a → Run (fun k => h k a) Q) : Run (fun k => (g k).bind (h k)) Q := by
  obtain ⟨a, ha, hp⟩ := h1
  obtain ⟨b, hb, hq⟩ := h2 a hp
  exact ⟨b, Ev.bind ha hb, hq⟩
theorem Run.congr {α : Type} {g g' : Nat → Option α} {P : α → Prop} (e : ∀ k, g k = g' k) (h : Run g' P) : Run g P := by
  obtain ⟨a, ha, hp⟩ := h
  exact ⟨a, Ev.congr e ha, hp⟩
theorem Run.step {α : Type} {g f : Nat → Option α} {P : α → Prop} (e : ∀ k, g (k + 1) = f k) (h : Run f P) : Run g P := by
  obtain ⟨a, ha, hp⟩ := h
  exact ⟨a, Ev.step e ha, hp⟩
theorem Run.mono {α : Type} {g : Nat → Option α} {P Q : α → Prop} (h : Run g P) (hpq : ∀ a, P a → Q a) : Run g Q := by
  obtain ⟨a, ha, hp⟩ := h
  exact ⟨a, ha, hpq a hp⟩
theorem Run.ite {α : Type} {c : Prop} [Decidable c] {g g' : Nat → Option α} {P : α → Prop} (h1 : c → Run g P) (h2 : ¬ c → Run g' P) : Run (fun k => if c then g k else g' k) P := by
  by_cases h : c
  · exact Run.congr (fun k => if_pos h) (h1 h)
  · exact Run.congr (fun k => if_neg h) (h2 h)
def Bytes (l : List Int) : Prop := l.length ≤ 1048576 ∧ ∀ x ∈ l, 0 ≤ x ∧ x ≤ 255
def At (M : Nat) (a : Int) : Prop := 0 ≤ a ∧ a ≤ M ∧ M ≤ 1000000
theorem At.le {M N : Nat} {a : Int} (h : At M a) (hm : M ≤ N) (hn : N ≤ 1000000) : At N a := ⟨h.1, Int.le_trans h.2.1 (by omega), hn⟩
theorem wraps_u64 (n : Int) (h₀ : 0 ≤ n) (h₁ : n < 2 ^ 64) : IntKind.u64.wrap n = n := by rw [IntKind.wrap_u64]; omega
theorem wrap_u64_range (n : Int) : 0 ≤ IntKind.u64.wrap n ∧ IntKind.u64.wrap n < 2 ^ 64 := by rw [IntKind.wrap_u64]; omega
theorem and_255 {x : Int} (h0 : 0 ≤ x) (h1 : x < 2 ^ 64) : 0 ≤ Go.bits .and .u64 x 255 ∧ Go.bits .and .u64 x 255 ≤ 255 := by
  obtain ⟨a, rfl⟩ : ∃ a : Nat, x = a := ⟨x.toNat, by omega⟩
  have h := (bits_nat .u64 64 (by decide) wraps_u64 a 255 (by omega) (by decide)).1
  have h2 : Go.bits .and .u64 (a : Int) 255 = ((a &&& 255 : Nat) : Int) := h
  rw [h2]
  have : a &&& 255 ≤ 255 := Nat.and_le_right
  omega
theorem next_run {code : List Int} (hc : Bytes code) {M : Nat} {a s : Int} (ha : At M a) (hm : M + 1 ≤ 1000000) : ∃ v a' s', spec_l1Cur_next.f code a s = some (v, a', s') ∧ (0 ≤ v ∧ v ≤ 255) ∧ At (M + 1) a' := by
  obtain ⟨h0, h1, h2⟩ := ha
  have w1 := Aside0.mk (show wrap64 (a + 1) = a + 1 from w64 (by omega) (by omega))
  have hA : At (M + 1) (a + 1) := ⟨by omega, by omega, by omega⟩
  have hu : ∀ n : Int, (0 ≤ wrap64 (Go.bits .and .u64 (IntKind.u64.wrap n / 1099511627776) 255) ∧ wrap64 (Go.bits .and .u64 (IntKind.u64.wrap n / 1099511627776) 255) ≤ 255) := by
    intro n
    have h3 := wrap_u64_range n
    generalize IntKind.u64.wrap n = y at h3
    have h4 := and_255 (x := y / 1099511627776) (by omega) (by omega)
    generalize Go.bits .and .u64 (y / 1099511627776) 255 = z at h4
    rw [w64 (by omega) (by omega)]
    exact h4
  unfold spec_l1Cur_next.f
  rw [w1.out]
  by_cases c1 : a < (code.length : Int)
  · have hl := hc.1
    rw [if_pos c1, if_pos h0]
    have hx : 0 ≤ rd code a ∧ rd code a ≤ 255 := by
      unfold rd
      rw [gD_lt _ _ (by omega)]
      exact hc.2 _ (List.getElem_mem _)
    have hv : 0 ≤ wrap64 (rd code a) ∧ wrap64 (rd code a) ≤ 255 := by rw [w64 (by omega) (by omega)]; exact hx
    by_cases c2 : a + 1 ≤ (code.length : Int)
    · rw [if_pos c2]; exact ⟨_, _, _, rfl, hv, hA⟩
    · rw [if_neg c2]; exact ⟨_, _, _, rfl, hu _, hA⟩
  · rw [if_neg c1]
    by_cases c2 : a + 1 ≤ (code.length : Int)
    · rw [if_pos c2]; exact ⟨_, _, _, rfl, ⟨by omega, by omega⟩, hA⟩
    · rw [if_neg c2]; exact ⟨_, _, _, rfl, hu _, hA⟩
theorem pick_run {code : List Int} (hc : Bytes code) {M : Nat} {a s : Int} (ha : At M a) (hm : M + 2 ≤ 1000000) (n : Int) : ∃ v a' s', spec_l1Cur_pick.f code a s n = some (v, a', s') ∧ (0 ≤ v ∧ (v < n ∨ v = 0)) ∧ At (M + 2) a' := by
  unfold spec_l1Cur_pick.f
  by_cases c1 : n ≤ 1
  · rw [if_pos c1]; exact ⟨_, _, _, rfl, ⟨by omega, .inr rfl⟩, ha.le (by omega) hm⟩
  · rw [if_neg c1]
    obtain ⟨v, a1, s1, e1, hv, ha1⟩ := next_run hc (s := s) ha (by omega)
    rw [e1, Option.bind_some]
    by_cases c2 : n > 200
    · rw [if_pos c2]
      obtain ⟨v2, a2, s2, e2, hv2, ha2⟩ := next_run hc (s := s1) ha1 (by omega)
      try simp only []
      rw [e2, Option.bind_some, if_neg (by omega)]
      refine ⟨_, _, _, rfl, ?_, ha2⟩
      try simp only []
      rw [w64 (n := v * 256) (by omega) (by omega), w64 (by omega) (by omega)]
      exact ⟨Int.tmod_nonneg _ (by omega), .inl (Int.tmod_lt_of_pos _ (by omega))⟩
    · rw [if_neg c2, if_neg (by omega)]
      exact ⟨_, _, _, rfl, ⟨Int.tmod_nonneg _ hv.1, .inl (Int.tmod_lt_of_pos _ (by omega))⟩, ha1.le (by omega) (by omega)⟩
theorem one_run {code : List Int} (hc : Bytes code) {M : Nat} {a s : Int} (ha : At M a) (hm : M + 2 ≤ 1000000) (n : Int) : ∃ (v : Bool) (a' s' : Int), spec_l1Cur_one.f code a s n = some (v, a', s') ∧ At (M + 2) a' := by
  obtain ⟨v, a1, s1, e1, hv, ha1⟩ := pick_run hc (s := s) ha hm n
  unfold spec_l1Cur_one.f
  rw [e1, Option.bind_some]
  exact ⟨_, _, _, rfl, ha1⟩
theorem among_run {code : List Int} (hc : Bytes code) {M : Nat} {a s : Int} (ha : At M a) (hm : M + 2 ≤ 1000000) {l : List Int} (hl : l ≠ []) : ∃ v a' s', spec_l1Cur_among.f code a s l = some (v, a', s') ∧ v ∈ l ∧ At (M + 2) a' := by
  obtain ⟨v, a1, s1, e1, hv, ha1⟩ := pick_run hc (s := s) ha hm (l.length : Int)
  have hp : 0 < l.length := List.length_pos_iff.2 hl
  unfold spec_l1Cur_among.f
  rw [e1, Option.bind_some]
  try simp only []
  rw [if_pos hv.1, if_pos (by omega)]
  refine ⟨_, _, _, rfl, ?_, ha1⟩
  unfold rd
  rw [gD_lt _ _ (by omega)]
  exact List.getElem_mem _
theorem sides_run {code : List Int} (hc : Bytes code) {M : Nat} {a s : Int} (ha : At M a) (hm : M + 4 ≤ 1000000) : ∃ v a' s', spec_l1Cur_sides.f code a s = some (v, a', s') ∧ (1 ≤ v ∧ v ≤ 6) ∧ At (M + 4) a' := by
  unfold spec_l1Cur_sides.f
  obtain ⟨b, a1, s1, e1, ha1⟩ := one_run hc (s := s) ha (by omega) 8
  rw [e1, Option.bind_some]
  cases b with
  | true => exact ⟨_, _, _, rfl, ⟨by omega, by omega⟩, ha1.le (by omega) (by omega)⟩
  | false =>
    obtain ⟨v, a2, s2, e2, hv, ha2⟩ := pick_run hc (s := s1) ha1 (by omega) 5
    try simp only []
    rw [if_neg (by simp), e2, Option.bind_some]
    refine ⟨_, _, _, rfl, ?_, ha2⟩
    rw [w64 (by omega) (by omega)]
    omega
theorem pick_R {code : List Int} (hc : Bytes code) {M : Nat} {a s : Int} (ha : At M a) (hm : M + 2 ≤ 1000000) (n : Int) : Run (fun _ => spec_l1Cur_pick.f code a s n) (fun x => (0 ≤ x.1 ∧ (x.1 < n ∨ x.1 = 0)) ∧ At (M + 2) x.2.1) := by
  obtain ⟨v, a1, s1, e1, hv, ha1⟩ := pick_run hc (s := s) ha hm n
  exact ⟨_, Ev.congr (fun _ => e1) (Ev.now _), hv, ha1⟩
theorem one_R {code : List Int} (hc : Bytes code) {M : Nat} {a s : Int} (ha : At M a) (hm : M + 2 ≤ 1000000) (n : Int) : Run (fun _ => spec_l1Cur_one.f code a s n) (fun x => At (M + 2) x.2.1) := by
  obtain ⟨v, a1, s1, e1, ha1⟩ := one_run hc (s := s) ha hm n
  exact ⟨_, Ev.congr (fun _ => e1) (Ev.now _), ha1⟩
theorem among_R {code : List Int} (hc : Bytes code) {M : Nat} {a s : Int} (ha : At M a) (hm : M + 2 ≤ 1000000) {l : List Int} (hl : l ≠ []) : Run (fun _ => spec_l1Cur_among.f code a s l) (fun x => x.1 ∈ l ∧ At (M + 2) x.2.1) := by
  obtain ⟨v, a1, s1, e1, hv, ha1⟩ := among_run hc (s := s) ha hm hl
  exact ⟨_, Ev.congr (fun _ => e1) (Ev.now _), hv, ha1⟩
theorem sides_R {code : List Int} (hc : Bytes code) {M : Nat} {a s : Int} (ha : At M a) (hm : M + 4 ≤ 1000000) : Run (fun _ => spec_l1Cur_sides.f code a s) (fun x => (1 ≤ x.1 ∧ x.1 ≤ 6) ∧ At (M + 4) x.2.1) := by
  obtain ⟨v, a1, s1, e1, hv, ha1⟩ := sides_run hc (s := s) ha hm
  exact ⟨_, Ev.congr (fun _ => e1) (Ev.now _), hv, ha1⟩
end Go.Proofs.Ytadkkcdhgepbkaa.DrawK
end
section
namespace Go.Proofs.Ytadkkcdhgepbkaa.DrawK
set_option linter.unusedVariables false
set_option linter.unusedSectionVars false
open Go.RowKit Go.Proofs.Ytadkkcdhgepbkaa.Q Go.Proofs.YtadkkcdhgepbkaaW.PrintWords Go.Proofs.YtadkkcdhgepbkaaW.PrintLast Go.Proofs.YtadkkcdhgepbkaaW.PrintMore
open Go.Proofs.YtadkkcdhgepbkaaL Go.Proofs.Ytadkkcdhgepbkaa.LawK Go.Proofs.Ytadkkcdhgepbkaa.BoardK Go.Proofs.Ytadkkcdhgepbkaa.LensK
theorem own_l {l : List Int} (h : l.length ≤ 1000000) : spec_l1Own.f l = some l := WeAllK.own_f h
theorem sorted_l1 {x3 x8 : List Int} {v : Int} {n i : Nat} (h3 : x3.length ≤ 1000) (hi : i ≤ 1000) {P : List Int → Prop} (cont : ∀ y : List Int, y.length = x3.length + 1 → Run (fun k => spec_feSorted.l0 k y x8 n ((i + 1 : Nat) : Int)) P) : ∀ (d j : Nat), j + d = x3.length → Run (fun k => spec_feSorted.l1 k x3 v j x8 n i) P
  | d, j, hj => by
    have w1 := Aside0.mk (show wrap64 ((i : Int) + 1) = ((i + 1 : Nat) : Int) from by rw [w64 (by omega) (by omega)]; rfl)
    have hlen : ((x3.take j ++ [v]) ++ x3.drop j).length = x3.length + 1 := by simp only [List.length_append, List.length_take, List.length_drop, List.length_singleton]; omega
    have ht : (x3.take j).length ≤ 1000 := by rw [List.length_take]; omega
    have hs := hlen
    rw [List.length_append] at hs
    cases d with
    | zero =>
      refine Run.step (fun k => ?_) (cont _ hlen)
      rw [spec_feSorted.l1, if_neg (by omega), if_pos (by omega), if_pos (by omega), Int.toNat_natCast, own_l (by omega), Option.bind_some, if_pos (by omega), Option.bind_some, Option.bind_some, if_pos (by omega), w1.out]
    | succ d =>
      have w2 := Aside0.mk (show wrap64 ((j : Int) + 1) = ((j + 1 : Nat) : Int) from by rw [w64 (by omega) (by omega)]; rfl)
      refine Run.step (fun k => by rw [spec_feSorted.l1, if_pos (by omega), if_pos (by omega)]) ?_
      refine Run.ite (fun _ => ?_) (fun _ => ?_)
      · exact Run.congr (fun k => by rw [w2.out]) (sorted_l1 h3 hi cont d (j + 1) (by omega))
      · refine Run.congr (fun k => ?_) (cont _ hlen)
        rw [if_pos (by omega), Int.toNat_natCast, own_l (by omega), Option.bind_some, if_pos (by omega), Option.bind_some, Option.bind_some, if_pos (by omega), w1.out]
theorem sorted_l0 {l : List Int} (hl : l.length ≤ 100) : ∀ (d i : Nat) (x : List Int), i + d = l.length → x.length = i → Run (fun k => spec_feSorted.l0 k x l (l.length : Int) i) (fun y => y.length = l.length)
  | 0, i, x, hi, hx => Run.step (f := fun _ => some x) (fun k => by rw [spec_feSorted.l0, if_neg (by omega)]) (Run.now (by omega))
  | d + 1, i, x, hi, hx => by
    refine Run.step (fun k => by rw [spec_feSorted.l0, if_pos (by omega), if_pos (by omega), if_pos (by omega)]) ?_
    exact sorted_l1 (by omega) (by omega) (fun y hy => sorted_l0 hl d (i + 1) y (by omega) (by omega)) x.length 0 (by omega)
theorem sorted_run {l : List Int} (hl : l.length ≤ 100) : Run (fun k => spec_feSorted.f k l) (fun y => y.length = l.length) := by
  unfold spec_feSorted.f
  exact sorted_l0 hl l.length 0 [] (by omega) rfl
section
variable {code : List Int} (hc : Bytes code)
include hc
theorem lengths_l0 {n : Nat} (hn1 : 1 ≤ n) (hn : n ≤ 6) : ∀ (d i M : Nat) (a s : Int) (x : List Int), i + d = n → x.length = i → At M a → M + 2 * d + 40 ≤ 100000 → Run (fun k => spec_l1Cur_lengths.l0 k n x i code a s) (fun y => y.1.length ≤ 8 ∧ At (M + 2 * d + 10) y.2.1)
  | 0, i, M, a, s, x, hi, hx, ha, hm => by
    refine Run.step (fun k => by rw [spec_l1Cur_lengths.l0, if_neg (by omega)]) ?_
    refine Run.bind (sorted_run (l := x) (by omega)) ?_
    intro t ht
    refine Run.bind (pick_R hc ha (by omega) 14) ?_
    rintro ⟨v, a1, s1⟩ ⟨hv, ha1⟩
    refine Run.ite (fun _ => ?_) (fun _ => Run.ite (fun _ => ?_) (fun _ => Run.ite (fun _ => ?_) (fun _ => ?_)))
    · refine Run.bind (pick_R hc ha1 (by omega) n) ?_
      rintro ⟨v2, a2, s2⟩ ⟨hv2, ha2⟩
      simp only [] at hv2
      refine Run.bind (pick_R hc ha2 (by omega) (wrap64 ((n : Int) + 3))) ?_
      rintro ⟨v3, a3, s3⟩ ⟨hv3, ha3⟩
      exact Run.congr (fun k => (if_pos hv2.1).trans (if_pos (by omega))) (Run.now ⟨by simp only [List.length_set]; omega, ha3.le (by omega) (by omega)⟩)
    · exact Run.congr (fun k => if_pos (by omega)) (Run.now ⟨by simp only [List.length_append, List.length_singleton]; omega, ha1.le (by omega) (by omega)⟩)
    · refine Run.bind (pick_R hc ha1 (by omega) 2) ?_
      rintro ⟨v2, a2, s2⟩ ⟨hv2, ha2⟩
      simp only [] at hv2
      have w := Aside0.mk (show wrap64 (6 + v2) = 6 + v2 from w64 (by omega) (by omega))
      refine Run.congr (fun k => by rw [w.out, if_pos (by omega), if_pos (by omega)]) ?_
      exact Run.now ⟨by simp only [List.length_replicate]; omega, ha2.le (by omega) (by omega)⟩
    · exact Run.now ⟨by simp only []; omega, ha1.le (by omega) (by omega)⟩
  | d + 1, i, M, a, s, x, hi, hx, ha, hm => by
    have w1 := Aside0.mk (show wrap64 ((i : Int) + 1) = ((i + 1 : Nat) : Int) from by rw [w64 (by omega) (by omega)]; rfl)
    refine Run.step (fun k => by rw [spec_l1Cur_lengths.l0, if_pos (by omega)]) ?_
    refine Run.bind (pick_R hc ha (by omega) _) ?_
    rintro ⟨v, a1, s1⟩ ⟨hv, ha1⟩
    refine Run.congr (fun k => by rw [if_pos (by omega), w1.out]) ?_
    exact (lengths_l0 hn1 hn d (i + 1) (M + 2) a1 s1 (x ++ [v]) (by omega) (by rw [List.length_append, List.length_singleton]; omega) ha1 (by omega)).mono (fun y hy => ⟨hy.1, hy.2.le (by omega) (by omega)⟩)
theorem lengths_run {M : Nat} {a s : Int} (ha : At M a) (hm : M + 100 ≤ 100000) : Run (fun k => spec_l1Cur_lengths.f k code a s) (fun y => y.1.length ≤ 8 ∧ At (M + 40) y.2.1) := by
  unfold spec_l1Cur_lengths.f
  refine Run.bind (sides_R hc ha (by omega)) ?_
  rintro ⟨v, a1, s1⟩ ⟨hv, ha1⟩
  simp only [] at hv
  obtain ⟨n, rfl⟩ : ∃ n : Nat, v = n := ⟨v.toNat, by omega⟩
  exact (lengths_l0 hc (n := n) (by omega) (by omega) n 0 (M + 4) a1 s1 [] (by omega) rfl ha1 (by omega)).mono (fun y hy => ⟨hy.1, hy.2.le (by omega) (by omega)⟩)
theorem shorter_l0 {n : Nat} (hn : n ≤ 6) : ∀ (d i M : Nat) (a s : Int) (x : List Int), i + d = n → x.length = i → At M a → M + 2 * d + 200 ≤ 100000 → Run (fun k => spec_l1Cur_shorter.l0 k n x i code a s) (fun y => y.1.length ≤ 8 ∧ At (M + 2 * d + 50) y.2.1)
  | 0, i, M, a, s, x, hi, hx, ha, hm => by
    refine Run.step (fun k => by rw [spec_l1Cur_shorter.l0, if_neg (by omega)]) ?_
    refine Run.bind (one_R hc ha (by omega) 8) ?_
    rintro ⟨b, a1, s1⟩ ha1
    refine Run.ite (fun _ => ?_) (fun _ => ?_)
    · refine Run.bind (lengths_run hc ha1 (by omega)) ?_
      rintro ⟨y, a2, s2⟩ ⟨hy, ha2⟩
      exact Run.now ⟨hy, ha2.le (by omega) (by omega)⟩
    · refine Run.bind (sorted_run (l := x) (by omega)) ?_
      intro t ht
      exact Run.now ⟨by simp only []; omega, ha1.le (by omega) (by omega)⟩
  | d + 1, i, M, a, s, x, hi, hx, ha, hm => by
    have w1 := Aside0.mk (show wrap64 ((i : Int) + 1) = ((i + 1 : Nat) : Int) from by rw [w64 (by omega) (by omega)]; rfl)
    refine Run.step (fun k => by rw [spec_l1Cur_shorter.l0, if_pos (by omega)]) ?_
    refine Run.bind (P := fun _ => True) ?_ ?_
    · unfold spec_l1Least.f
      exact Run.ite (fun _ => Run.now trivial) (fun _ => Run.now trivial)
    intro t _
    refine Run.bind (pick_R hc ha (by omega) _) ?_
    rintro ⟨v, a1, s1⟩ ⟨hv, ha1⟩
    refine Run.congr (fun k => by rw [if_pos (by omega), w1.out]) ?_
    exact (shorter_l0 hn d (i + 1) (M + 2) a1 s1 (x ++ [v]) (by omega) (by rw [List.length_append, List.length_singleton]; omega) ha1 (by omega)).mono (fun y hy => ⟨hy.1, hy.2.le (by omega) (by omega)⟩)
theorem shorter_run {M : Nat} {a s : Int} (ha : At M a) (hm : M + 300 ≤ 100000) : Run (fun k => spec_l1Cur_shorter.f k code a s) (fun y => y.1.length ≤ 8 ∧ At (M + 100) y.2.1) := by
  unfold spec_l1Cur_shorter.f
  refine Run.bind (pick_R hc ha (by omega) 4) ?_
  rintro ⟨v, a1, s1⟩ ⟨hv, ha1⟩
  simp only [] at hv
  obtain ⟨n, hn⟩ : ∃ n : Nat, wrap64 (1 + v) = n := ⟨(wrap64 (1 + v)).toNat, by rw [w64 (by omega) (by omega)]; omega⟩
  have hn4 : n ≤ 6 := by rw [w64 (by omega) (by omega)] at hn; omega
  refine Run.congr (fun k => by rw [hn]) ?_
  exact (shorter_l0 hc (n := n) hn4 n 0 (M + 2) a1 s1 [] (by omega) rfl ha1 (by omega)).mono (fun y hy => ⟨hy.1, hy.2.le (by omega) (by omega)⟩)
theorem base_run {M : Nat} {a s : Int} (ha : At M a) (hm : M + 10 ≤ 100000) : Run (fun _ => spec_l1Cur_base.f code a s) (fun x => x.1 ∈ ([-1, 0, 1, 4, 2, 3] : List Int)) := by
  unfold spec_l1Cur_base.f
  refine Run.bind (one_R hc ha (by omega) 14) ?_
  rintro ⟨b, a1, s1⟩ ha1
  refine Run.ite (fun _ => ?_) (fun _ => ?_)
  · refine Run.bind (among_R hc ha1 (by omega) (by simp)) ?_
    rintro ⟨v, a2, s2⟩ ⟨hv, ha2⟩
    exact Run.now ((by decide : ∀ v ∈ ([-1, 0, 1, 4] : List Int), v ∈ ([-1, 0, 1, 4, 2, 3] : List Int)) v hv)
  · refine Run.bind (pick_R hc ha1 (by omega) 2) ?_
    rintro ⟨v, a2, s2⟩ ⟨hv, ha2⟩
    simp only [] at hv
    refine Run.now ?_
    simp only []
    rw [w64 (by omega) (by omega)]
    have : v = 0 ∨ v = 1 := by omega
    rcases this with rfl | rfl <;> decide
theorem draw_counts : Run (fun k => spec_DrawRankCounts.f k code) (fun x => x.1.length ≤ 8) := by
  unfold spec_DrawRankCounts.f
  refine Run.bind (shorter_run hc (M := 0) ⟨by omega, by omega, by omega⟩ (by omega)) ?_
  rintro ⟨l, a, s⟩ ⟨hl, ha⟩
  refine Run.bind (base_run hc ha (by omega)) ?_
  rintro ⟨q, a1, s1⟩ hq
  exact Run.now hl
theorem plain_l0 {M : Nat} {a s : Int} (ha : At M a) (hm : M + 10 ≤ 100000) : ∀ (d : Nat) (x : List Int), x.length ≤ d → d ≤ 8 → Run (fun k => spec_DrawRankCountsPlain.l0 k x code a s) (fun y => y.1.length ≤ 8)
  | d, x, hx, hd => by
    have stop : Run (fun k => spec_DrawRankCountsPlain.j1 k x false code a s) (fun y => y.1.length ≤ 8) := by
      refine Run.step (fun k => by rw [spec_DrawRankCountsPlain.j1, if_neg (by simp)]) ?_
      refine Run.bind (base_run hc ha (by omega)) ?_
      rintro ⟨q, a1, s1⟩ hq
      exact Run.now (by simp only []; omega)
    refine Run.step (fun k => by rw [spec_DrawRankCountsPlain.l0]) ?_
    refine Run.bind (P := fun t => t = lenB x) (Run.of (spec_good (l := x) (by omega)) rfl) ?_
    rintro t rfl
    refine Run.ite (fun hb => ?_) (fun _ => stop)
    obtain ⟨h1, h6, hxs⟩ := len_of hb
    refine Run.bind (P := fun _ => True) (Run.of (MatK.cells_f h6 (fun y hy => by obtain ⟨i, hi, rfl⟩ := List.mem_iff_getElem.1 hy; have := hxs i hi; omega)) trivial) ?_
    intro v _
    cases hv : decide (v > 8) with
    | false => exact stop
    | true =>
      cases d with
      | zero => omega
      | succ d =>
        have w1 := Aside0.mk (show wrap64 ((x.length : Int) - 1) = ((x.length - 1 : Nat) : Int) from by rw [w64 (by omega) (by omega)]; omega)
        refine Run.step (fun k => by rw [spec_DrawRankCountsPlain.j1, if_pos rfl, w1.out, if_pos (by omega), if_pos (by omega), Option.bind_some, Int.toNat_natCast]) ?_
        have hl : (x.take (x.length - 1)).length ≤ d := by rw [List.length_take]; omega
        have key : ∀ (e i : Nat) (y : List Int), i + e = y.length → y.length ≤ d → Run (fun k => spec_DrawRankCountsPlain.l1 k y (y.length : Int) i code a s) (fun y => y.1.length ≤ 8) := by
          intro e
          induction e with
          | zero =>
            intro i y hi hy
            exact Run.step (fun k => by rw [spec_DrawRankCountsPlain.l1, if_neg (by omega)]) (plain_l0 ha hm d y hy (by omega))
          | succ e ih =>
            intro i y hi hy
            have w2 := Aside0.mk (show wrap64 ((i : Int) + 1) = ((i + 1 : Nat) : Int) from by rw [w64 (by omega) (by omega)]; rfl)
            refine Run.step (fun k => by rw [spec_DrawRankCountsPlain.l1, if_pos (by omega), if_pos (by omega), if_pos (by omega)]) ?_
            refine Run.bind (P := fun _ => True) ?_ ?_
            · unfold spec_l1Least.f
              exact Run.ite (fun _ => Run.now trivial) (fun _ => Run.now trivial)
            intro t _
            have := ih (i + 1) (y.set (i : Int).toNat t) (by rw [List.length_set]; omega) (by rw [List.length_set]; exact hy)
            rw [List.length_set] at this
            exact Run.congr (fun k => by rw [w2.out]) this
        exact key (x.take (x.length - 1)).length 0 _ (by omega) hl
theorem draw_plain : Run (fun k => spec_DrawRankCountsPlain.f k code) (fun x => x.1.length ≤ 8) := by
  unfold spec_DrawRankCountsPlain.f
  refine Run.bind (shorter_run hc (M := 0) ⟨by omega, by omega, by omega⟩ (by omega)) ?_
  rintro ⟨l, a, s⟩ ⟨hl, ha⟩
  exact plain_l0 hc ha (by omega) 8 l hl (by omega)
theorem draw_inv : ∃ n b, spec_DrawInvertibleCount.f code = some (n, b) ∧ n ∈ ([-1, 0, 1, 2, 3, 4, 5, 6] : List Int) ∧ b ∈ ([-1, 0, 1, 4, 2, 3] : List Int) := by
  obtain ⟨v, a, s, e, hv, ha⟩ := pick_run hc (M := 0) (a := 0) (s := 0) ⟨by omega, by omega, by omega⟩ (by omega) 8
  obtain ⟨⟨b, a2, s2⟩, hb, hbm⟩ := base_run hc ha (s := s) (by omega)
  obtain ⟨k, hk⟩ := hb.rounds
  refine ⟨wrap64 (v - 1), b, ?_, ?_, hbm⟩
  · unfold spec_DrawInvertibleCount.f
    rw [e, Option.bind_some]
    try simp only []
    rw [hk]
    rfl
  · rw [w64 (by omega) (by omega)]
    have : v = 0 ∨ v = 1 ∨ v = 2 ∨ v = 3 ∨ v = 4 ∨ v = 5 ∨ v = 6 ∨ v = 7 := by omega
    rcases this with rfl | rfl | rfl | rfl | rfl | rfl | rfl | rfl <;> decide
end
end Go.Proofs.Ytadkkcdhgepbkaa.DrawK
end
section
namespace Go.Proofs.Ytadkkcdhgepbkaa.DrawK
set_option linter.unusedVariables false
open Go.RowKit Go.Proofs.Ytadkkcdhgepbkaa.Q Go.Proofs.YtadkkcdhgepbkaaW.PrintWords Go.Proofs.YtadkkcdhgepbkaaW.PrintLast Go.Proofs.YtadkkcdhgepbkaaW.PrintMore
open Go.Proofs.YtadkkcdhgepbkaaL Go.Proofs.Ytadkkcdhgepbkaa.LawK
theorem big_f (l0 l1 : List Int) (h1 : l1.length ≤ 4611686018427387904) : laws_big.f l0 l1 = some true ∨ laws_big.f l0 l1 = some false ∧ l0.length ≤ 1048576 ∧ l1.length ≤ 1048576 := by
  unfold laws_big.f
  by_cases h : (l0.length : Int) > 1048576
  · exact .inl (if_pos h)
  · rw [if_neg h, w64 (by omega) (by omega)]
    by_cases h2 : (l1.length : Int) > 1048576 - (l0.length : Int)
    · exact .inl (by rw [decide_eq_true h2])
    · exact .inr ⟨by rw [decide_eq_false h2], by omega, by omega⟩
theorem byte_of {x : Int} (h : (Lit.int .u8 x).wf = true) : 0 ≤ x ∧ x ≤ 255 := by
  simp [Lit.wf, IntKind.min, IntKind.max, IntKind.signed, IntKind.bits] at h
  omega
end Go.Proofs.Ytadkkcdhgepbkaa.DrawK
end
section
namespace Go.Proofs.Ytadkkcdhgepbkaa.Pure
set_option linter.unusedVariables false
set_option linter.unusedSectionVars false
open Go.RowKit Go.Proofs.Ytadkkcdhgepbkaa.Q Go.Proofs.YtadkkcdhgepbkaaW.PrintWords Go.Proofs.YtadkkcdhgepbkaaW.PrintLast Go.Proofs.YtadkkcdhgepbkaaW.PrintMore
open Go.Proofs.YtadkkcdhgepbkaaL Go.Proofs.Ytadkkcdhgepbkaa.LawK Go.Proofs.Ytadkkcdhgepbkaa.BoardK Go.Proofs.Ytadkkcdhgepbkaa.DrawK
open Go.Proofs.Ytadkkcdhgepbkaa.LensK (lenB len_of)
open Go.Proofs.Ytadkkcdhgepbkaa.Hagl (told told_ans plain_ans few_tot tot Gm sumTo told_sum told_le Gm_zero len_nonneg)
namespace MatRanksK
theorem rSame_l0 {a : List Int} (hl : a.length ≤ 1000000) : ∀ (d i : Nat), i + d = a.length → Ev (fun k => laws_rSame.l0 k a a (a.length : Int) i) true
  | 0, i, hi => Ev.step (f := fun _ => some true) (fun k => by rw [laws_rSame.l0, if_neg (by omega)]) (Ev.now _)
  | d + 1, i, hi => by
    have w1 := Aside0.mk (show wrap64 ((i : Int) + 1) = ((i + 1 : Nat) : Int) from by rw [w64 (by omega) (by omega)]; rfl)
    exact Ev.step (fun k => by rw [laws_rSame.l0, if_pos (by omega), if_pos (by omega), if_pos (by omega), if_pos (by omega), if_pos rfl, w1.out]) (rSame_l0 hl d (i + 1) (by omega))
theorem rSame_self {a : List Int} (hl : a.length ≤ 1000000) : Ev (fun k => laws_rSame.f k a a) true := by
  unfold laws_rSame.f
  exact Ev.congr (fun k => if_pos rfl) (rSame_l0 hl a.length 0 (by omega))
def sumZ : List Int → Int
  | [] => 0
  | x :: t => x + sumZ t
theorem sumZ_app : ∀ a b, sumZ (a ++ b) = sumZ a + sumZ b
  | [], b => by rw [List.nil_append, sumZ, Int.zero_add]
  | x :: a, b => by rw [List.cons_append, sumZ, sumZ, sumZ_app a b, Int.add_assoc]
theorem rSum_l0 {l : List Int} (hl : l.length ≤ 100) (hx : ∀ x ∈ l, 0 ≤ x ∧ x ≤ 4000000000) : ∀ (d i : Nat) (a : Int), i + d = l.length → 0 ≤ a ∧ a ≤ i * 4000000000 → Ev (fun k => laws_rSum.l0 k a l (l.length : Int) i) (a + sumZ (l.drop i))
  | 0, i, a, hi, ha => by
    rw [List.drop_eq_nil_of_le (by omega), sumZ, Int.add_zero]
    exact Ev.step (f := fun _ => some a) (fun k => by rw [laws_rSum.l0, if_neg (by omega)]) (Ev.now _)
  | d + 1, i, a, hi, ha => by
    have hi2 : i < l.length := by omega
    have hb := hx l[i] (List.getElem_mem hi2)
    have w1 := Aside0.mk (show wrap64 ((i : Int) + 1) = ((i + 1 : Nat) : Int) from by rw [w64 (by omega) (by omega)]; rfl)
    have w2 := Aside0.mk (show wrap64 (a + l[i]) = a + l[i] from w64 (by omega) (by omega))
    have ih := rSum_l0 hl hx d (i + 1) (a + l[i]) (by omega) (by omega)
    rw [List.drop_eq_getElem_cons hi2, sumZ, ← Int.add_assoc]
    exact Ev.step (fun k => by rw [laws_rSum.l0, if_pos (by omega), if_pos (by omega), if_pos (by omega), rd_lt _ _ hi2, w2.out, w1.out]) ih
theorem rSum {l : List Int} (hl : l.length ≤ 100) (hx : ∀ x ∈ l, 0 ≤ x ∧ x ≤ 4000000000) : Ev (fun k => laws_rSum.f k l) (sumZ l) := by
  have := rSum_l0 hl hx l.length 0 0 (by omega) (by omega)
  rw [List.drop_zero, Int.zero_add] at this
  exact this
theorem sum_tot : ∀ {l : List Int}, (∀ x ∈ l, 0 ≤ x) → sumZ l = (tot l : Int)
  | [], _ => rfl
  | x :: t, h => by
    have h1 := sum_tot (fun y hy => h y (List.mem_cons_of_mem _ hy))
    have h2 := h x List.mem_cons_self
    rw [sumZ, tot, h1]
    omega
theorem sum_range (f : Nat → Nat) : ∀ n, sumZ ((List.range n).map (fun k => ((f k : Nat) : Int))) = ((sumTo n f : Nat) : Int)
  | 0 => rfl
  | n + 1 => by
    rw [List.range_succ, List.map_append, sumZ_app, sum_range f n, sumTo, List.map_cons, List.map_nil, sumZ, sumZ]
    omega
def LNs : List Int := [-1, 0, 1, 2, 3, 4, 5, 6]
def LBs : List Int := [-1, 0, 1, 4, 2, 3]
def I (n b : Int) : Int × Bool := (impl_InvertibleCount.f 60 n b).getD (0, false)
theorem inv_fin : ∀ n ∈ LNs, ∀ b ∈ LBs, impl_InvertibleCount.f 60 n b = some (I n b) ∧ spec_InvertibleCount.f 60 n b = some (I n b) ∧ ((I n b).2 = true → 1 ≤ n ∧ n ≤ 5 ∧ 2 ≤ b ∧ b ≤ 3 ∧ (n ≤ 4 → lenB (List.replicate n.toNat n) = true ∧ tot (List.replicate n.toNat n) ≤ 20 ∧ ((Gm b.toNat (List.replicate n.toNat n) 0 n.toNat : Nat) : Int) = (I n b).1)) := by decide +kernel
theorem told_len (q : Int) (l : List Int) : (told q l).length = l.length + 1 := by unfold told; simp
theorem told_get (q : Int) (l : List Int) {z : Nat} (hz : z ≤ l.length) : rd (told q l) (z : Int) = ((Gm q.toNat l 0 z : Nat) : Int) := by
  rw [rd_lt _ _ (by rw [told_len]; omega)]
  unfold told
  rw [List.getElem_map, List.getElem_range]
theorem fill {n b c : Int} {R : Bool} (h1 : 1 ≤ n) (h4 : n ≤ 4) (hend : Ev (fun k => laws_FnMatricesOfRanks.l1 k n b c (List.replicate n.toNat n) n n) R) : ∀ (d i : Nat), i + d = n.toNat → Ev (fun k => laws_FnMatricesOfRanks.l1 k n b c (List.replicate i n ++ List.replicate d 0) n i) R
  | 0, i, hi => by
    have e : (i : Int) = n := by omega
    have e2 : i = n.toNat := by omega
    rw [e, e2]
    simpa using hend
  | d + 1, i, hi => by
    have w1 := Aside0.mk (show wrap64 ((i : Int) + 1) = ((i + 1 : Nat) : Int) from by rw [w64 (by omega) (by omega)]; rfl)
    have hlen : (List.replicate i n ++ List.replicate (d + 1) (0 : Int)).length = i + (d + 1) := by simp
    have e : (List.replicate i n ++ List.replicate (d + 1) (0 : Int)).set i n = List.replicate (i + 1) n ++ List.replicate d 0 := by
      rw [List.set_append_right _ _ (by simp), List.length_replicate, Nat.sub_self, List.replicate_succ, List.set_cons_zero, List.replicate_succ', List.append_assoc]
      rfl
    refine Ev.step (fun k => ?_) (fill h1 h4 hend d (i + 1) (by omega))
    rw [laws_FnMatricesOfRanks.l1, if_pos (by omega), if_pos (by omega), if_pos (by omega), Int.toNat_natCast, e, w1.out]
theorem j3 {more : List Int} (hc : Bytes more) : Ev (fun k => laws_FnMatricesOfRanks.j3 k more) true := by
  obtain ⟨n, b, e, hn, hb⟩ := draw_inv hc
  obtain ⟨i1, i2, i3⟩ := inv_fin n hn b hb
  refine Ev.step (fun k => by rw [laws_FnMatricesOfRanks.j3, e, Option.bind_some]) ?_
  refine Ev.bind (Ev.of (fun k => impl_InvertibleCount.mono _ _ k) i1) (Ev.bind (Ev.of (fun k => spec_InvertibleCount.mono _ _ k) i2) ?_)
  refine Ev.congr (fun k => by rw [if_neg (by simp), show ((I n b).1 != (I n b).1) = false from by simp]) ?_
  have stop : Ev (fun k => laws_FnMatricesOfRanks.j5 k n b (I n b).1 true) true := Ev.step (f := fun _ => some true) (fun k => by rw [laws_FnMatricesOfRanks.j5, if_pos rfl]) (Ev.now _)
  refine Ev.step (fun k => by rw [laws_FnMatricesOfRanks.j4, if_neg (by simp)]) ?_
  by_cases hok : (I n b).2 = true
  · refine Ev.congr (fun k => if_pos hok) ?_
    obtain ⟨h1, h5, b1, b3, h6⟩ := i3 hok
    by_cases h4 : n > 4
    · rw [decide_eq_true h4]; exact stop
    · obtain ⟨g1, g2, g3⟩ := h6 (by omega)
      rw [decide_eq_false h4]
      refine Ev.step (fun k => by rw [laws_FnMatricesOfRanks.j5, if_neg (by simp), if_pos (by omega), if_pos (by omega), Option.bind_some]) ?_
      have hend : Ev (fun k => laws_FnMatricesOfRanks.l1 k n b (I n b).1 (List.replicate n.toNat n) n n) true := by
        refine Ev.step (fun k => by rw [laws_FnMatricesOfRanks.l1, if_neg (by omega)]) ?_
        refine Ev.bind (RCK.impl_a b (l := List.replicate n.toNat n) (by rw [List.length_replicate]; omega)) ?_
        have hln : (List.replicate n.toNat n).length = n.toNat := List.length_replicate ..
        have ht : RCK.ans (List.replicate n.toNat n) b = (told b (List.replicate n.toNat n), true) := by
          rw [told_ans, if_pos g1, if_pos (show inR 2 3 b = true from decide_eq_true ⟨b1, b3⟩), if_neg (by omega)]
        rw [ht]
        have hl := told_len b (List.replicate n.toNat n)
        have hg := told_get b (List.replicate n.toNat n) (z := n.toNat) (by omega)
        have hnn : ((n.toNat : Nat) : Int) = n := by omega
        rw [hnn] at hg
        refine Ev.congr (f := fun _ => some true) (fun k => ?_) (Ev.now _)
        rw [if_pos rfl, if_pos (by omega), if_pos (show n < ((told b (List.replicate n.toNat n)).length : Int) by omega), hg, g3, beq_self_eq_true]
      have := fill (b := b) (c := (I n b).1) h1 (by omega) hend n.toNat 0 (by omega)
      refine Ev.congr (fun k => ?_) this
      rw [List.length_replicate]
      congr 1
      omega
  · refine Ev.congr (fun k => if_neg hok) stop
section
variable {q : Int} (hq : 2 ≤ q ∧ q ≤ 3) {l : List Int} (h : lenB l = true) (hS : tot l ≤ 20) {more : List Int} (hc : Bytes more)
include hq h hS hc
theorem rounds : ∀ (d i : Nat), i + d = tot l → Ev (fun k => laws_FnMatricesOfRanks.l0 k more l q (told q l) ((q.toNat ^ i : Nat) : Int) i) true
  | 0, i, hi => by
    have e : i = tot l := by omega
    subst e
    obtain ⟨h1, h6, hx⟩ := len_of h
    have hs := rSum (l := l) (by omega) (fun x hx => by have := len_nonneg h x hx; omega)
    rw [sum_tot (fun x hx => (len_nonneg h x hx).1)] at hs
    have ht := rSum (l := told q l) (by rw [told_len]; omega) (fun x hx => by
      unfold told at hx
      obtain ⟨z, hz, rfl⟩ := List.mem_map.1 hx
      have := told_le hq h hS (z := z) (by have := List.mem_range.1 hz; omega)
      omega)
    unfold told at ht
    rw [sum_range, told_sum hq h] at ht
    have hl := told_len q l
    have hg := told_get q l (z := 0) (by omega)
    rw [Gm_zero] at hg
    refine Ev.step (fun k => by rw [laws_FnMatricesOfRanks.l0]) (Ev.bind hs ?_)
    refine Ev.congr (fun k => if_neg (by omega)) (Ev.bind ht ?_)
    exact Ev.congr (fun k => by rw [if_pos rfl, if_pos (by omega), if_pos (show rd (told q l) 0 = 1 from hg)]) (j3 hc)
  | d + 1, i, hi => by
    obtain ⟨h1, h6, hx⟩ := len_of h
    have hs := rSum (l := l) (by omega) (fun x hx => by have := len_nonneg h x hx; omega)
    rw [sum_tot (fun x hx => (len_nonneg h x hx).1)] at hs
    have w1 := Aside0.mk (show wrap64 ((i : Int) + 1) = ((i + 1 : Nat) : Int) from by rw [w64 (by omega) (by omega)]; rfl)
    have hb : q.toNat ^ (i + 1) ≤ 3 ^ 20 := Nat.le_trans (Nat.pow_le_pow_left (show q.toNat ≤ 3 by omega) _) (Nat.pow_le_pow_right (by decide) (by omega))
    have h320 : (3 : Nat) ^ 20 ≤ 4000000000 := by decide
    have e : ((q.toNat ^ i : Nat) : Int) * q = ((q.toNat ^ (i + 1) : Nat) : Int) := by rw [Nat.pow_succ, Int.natCast_mul, Int.toNat_of_nonneg (by omega)]
    have w2 := Aside0.mk (show wrap64 (((q.toNat ^ i : Nat) : Int) * q) = ((q.toNat ^ (i + 1) : Nat) : Int) from by rw [e, w64 (by omega) (by omega)])
    refine Ev.step (fun k => by rw [laws_FnMatricesOfRanks.l0]) (Ev.bind hs ?_)
    exact Ev.congr (fun k => by rw [if_pos (by omega), w1.out, w2.out]) (rounds d (i + 1) (by omega))
end
theorem j0 {more : List Int} (hc : Bytes more) : Ev (fun k => laws_FnMatricesOfRanks.j0 k more false) true := by
  obtain ⟨⟨l, q⟩, hd, hl⟩ := draw_counts hc
  simp only [] at hl
  have hn := RCK.ans_len l q (by omega)
  have hA := RCK.impl_a q (l := l) (by omega)
  have hB := RCK.spec_a q (l := l) (by omega)
  have ht := told_ans (l := l) q
  have hal : (RCK.ans l q).1.length ≤ 1000000 := by
    rw [ht]
    repeat' split
    all_goals first | (exact Nat.zero_le _) | (simp only []; rw [told_len]; omega)
  refine Ev.step (fun k => by rw [laws_FnMatricesOfRanks.j0, if_neg (by simp)]) ?_
  refine Ev.bind hd (Ev.bind hA (Ev.bind hB ?_))
  refine Ev.congr (fun k => by rw [if_neg (by simp)]) ?_
  refine Ev.bind (rSame_self hal) ?_
  refine Ev.step (fun k => by rw [laws_FnMatricesOfRanks.j1, if_neg (by simp)]) ?_
  by_cases hok : (RCK.ans l q).2 = true
  · refine Ev.congr (fun k => if_pos hok) ?_
    by_cases h : lenB l = true
    · by_cases h2 : inR 2 3 q = true
      · by_cases h3 : (tot l : Int) > 20
        · rw [ht, if_pos h, if_pos h2, if_pos h3] at hok; cases hok
        · rw [ht, if_pos h, if_pos h2, if_neg h3]
          exact rounds (of_decide_eq_true h2) h (by omega) hc (tot l) 0 (by omega)
      · rw [ht, if_pos h, if_neg h2] at hok; cases hok
    · rw [ht, if_neg h] at hok; cases hok
  · exact Ev.congr (fun k => if_neg hok) (j3 hc)
end MatRanksK
open MatRanksK
theorem FnMatricesOfRanks : laws_FnMatricesOfRanks.Pure := by
  intro code more hcl _ hcw hml hm8 hmw
  unfold laws_FnMatricesOfRanks.f
  refine ends ?_
  rcases big_f code more (by omega) with hbig | ⟨hbig, h1, h2⟩
  · exact Ev.congr (fun k => by rw [hbig, Option.bind_some, if_pos rfl]) (Ev.now _)
  have hc : Bytes code := ⟨h1, fun x hx => byte_of (hcw x hx)⟩
  have hm : Bytes more := ⟨h2, fun x hx => byte_of (hmw x hx)⟩
  refine Ev.congr (fun k => by rw [hbig, Option.bind_some, if_neg (by simp)]) ?_
  obtain ⟨⟨l, q⟩, hd, hl⟩ := draw_plain hc
  simp only [] at hl
  have hP := plain_ans (l := l) q
  have hT := told_ans (l := l) q
  have hal : (RCP.ans l q).1.length ≤ 1000000 := by
    rw [hP]
    repeat' split
    all_goals first | (exact Nat.zero_le _) | (simp only []; rw [told_len]; omega)
  refine Ev.bind hd (Ev.bind (RCP.impl_a q (l := l) (by omega)) (Ev.bind (RCP.spec_a q (l := l) (by omega)) (Ev.bind (RCK.impl_a q (l := l) (by omega)) ?_)))
  refine Ev.congr (fun k => by rw [if_neg (by simp)]) ?_
  refine Ev.bind (rSame_self hal) ?_
  refine Ev.congr (fun k => if_pos rfl) ?_
  by_cases hok : (RCP.ans l q).2 = true
  · refine Ev.congr (fun k => if_pos hok) ?_
    have hboth : RCP.ans l q = (told q l, true) ∧ RCK.ans l q = (told q l, true) := by
      by_cases h : lenB l = true
      · by_cases h3 : inR 2 3 q = true
        · by_cases h4 : q.toNat ^ tot l ≤ 6561
          · refine ⟨by rw [hP, if_pos h, if_pos h3, if_pos h4], ?_⟩
            have := few_tot (of_decide_eq_true h3) h4
            rw [hT, if_pos h, if_pos h3, if_neg (by omega)]
          · rw [hP, if_pos h, if_pos h3, if_neg h4] at hok; cases hok
        · rw [hP, if_pos h, if_neg h3] at hok; cases hok
      · rw [hP, if_neg h] at hok; cases hok
    rw [hboth.1, hboth.2]
    refine Ev.congr (fun k => if_pos rfl) ?_
    refine Ev.bind (rSame_self (a := told q l) (by rw [told_len]; omega)) ?_
    exact j0 hm
  · exact Ev.congr (fun k => if_neg hok) (j0 hm)
end Go.Proofs.Ytadkkcdhgepbkaa.Pure
end
