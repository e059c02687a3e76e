/- Texts of this claim put together (13): words, what the functions compute, and plain facts. No conditions. -/
import Derived.Test.YtiopnmgcajohfaaSFnPermutationsHit4
import Derived.Test.YtiopnmgcajohfaaSFnPermutationsHit5
import Derived.Test.YtiopnmgcajohfaaSFnPermutationsHit7
import Derived.Test.YtiopnmgcajohfaaSFnPermutationsHit10
import Derived.Test.YtiopnmgcajohfaaSFnPermutationsHit8
import Derived.Test.YtiopnmgcajohfaaSFnPermutationsHit9
import Derived.Test.YtiopnmgcajohfaaSFnPermutationsHit11
import Derived.OpenShut
import Derived.Test.YtiopnmgcajohfaaSFnPermutationsHit12
import Derived.Test.YtiopnmgcajohfaaSFnPermutationsHit0
section
namespace Go.Proofs.Ytiopnmgcajohfaa.Q
open Go.RowKit Go.Proofs.YtiopnmgcajohfaaW.PrintWords Go.Proofs.YtiopnmgcajohfaaW.PrintLast Go.Proofs.YtiopnmgcajohfaaW.PrintMore
attribute [local go_sem] max2_int min2_int max_two min_two max_three min_three max_four min_four   -- for this text's walks alone
set_option linter.unusedVariables false
set_option linter.unusedSimpArgs false
def laws_markBoard.f (k : Nat) (a0_0 : Int) (a0_1 : Int) (l0_2 : List Int) (a1 : Int) : Option (Int × List Int) := (laws_markIntS.f k l0_2 a1).bind fun bt102 => (some (bt102.1, bt102.2))
end Go.Proofs.Ytiopnmgcajohfaa.Q
end
section
namespace Go.Proofs.Ytiopnmgcajohfaa.Q
open Go.RowKit Go.Proofs.YtiopnmgcajohfaaW.PrintWords Go.Proofs.YtiopnmgcajohfaaW.PrintLast Go.Proofs.YtiopnmgcajohfaaW.PrintMore
attribute [local go_sem] max2_int min2_int max_two min_two max_three min_three max_four min_four   -- for this text's walks alone
set_option linter.unusedVariables false
set_option linter.unusedSimpArgs false
mutual
def laws_FnExactFirstHitting.j0 : Nat → Int → List Int → Bool → List Int → Bool → Bool → Int → Int → List Int → Int → Int → List Int → Option (Bool)
 | 0, _, _, _, _, _, _, _, _, _, _, _, _ => none
 | k + 1, x1, x6, x7, x9, x10, x44, x102000, x102001, x102002, x118000, x118001, x118002 => if x44 = true then (some false) else ((laws_toBoard.f k x102000 x102001 x102002).bind fun bt123 => ((laws_eqBoard.f k x118000 x118001 x118002 bt123.1 bt123.2.1 bt123.2.2).bind fun t128 => (if t128 = true then ((laws_markBoard.f k x118000 x118001 x118002 1).bind fun bt129 => (if bt129.1 < 0 then (laws_FnExactFirstHitting.j1 k x1 x6 x7 x9 true x102000 x102001 x102002) else ((laws_eqIntS.f k x9 x6).bind fun t131 => (if t131 = true then (laws_FnExactFirstHitting.j1 k x1 x6 x7 x9 (x10 != x7) x102000 x102001 x102002) else (laws_FnExactFirstHitting.j1 k x1 x6 x7 x9 true x102000 x102001 x102002))))) else (some false))))
def laws_FnExactFirstHitting.j1 : Nat → Int → List Int → Bool → List Int → Bool → Int → Int → List Int → Option (Bool)
 | 0, _, _, _, _, _, _, _, _ => none
 | k + 1, x1, x6, x7, x9, x65, x102000, x102001, x102002 => if x65 = true then (some false) else ((laws_markIntS.f k x9 1).bind fun bt132 => ((laws_heldIntS.f k bt132.2 1).bind fun t134 => (if t134 < 0 then (some false) else (if t134 = bt132.1 then ((laws_toBoard.f k x102000 x102001 x102002).bind fun bt135 => ((impl_FirstHitting.f bt135.1 bt135.2.1 bt135.2.2 x1).bind fun bt140 => ((laws_eqIntS.f k bt140.1 x6).bind fun t144 => (if t144 = true then (laws_FnExactFirstHitting.j2 k bt132.2 bt132.1 (bt140.2 != x7)) else (laws_FnExactFirstHitting.j2 k bt132.2 bt132.1 true))))) else (some false)))))
def laws_FnExactFirstHitting.j2 : Nat → List Int → Int → Bool → Option (Bool)
 | 0, _, _, _ => none
 | k + 1, x9, x12, x92 => if x92 = true then (some false) else ((laws_heldIntS.f k x9 1).bind fun t145 => (if t145 < 0 then (some false) else (if t145 = x12 then (some true) else (some false))))
end
def laws_FnExactFirstHitting.f (k : Nat) (a0_0 : Int) (a0_1 : Int) (l0_2 : List Int) (a1 : Int) : Option (Bool) := (laws_szBoard.f a0_0 a0_1 l0_2 1048576).bind fun t102 => (if t102 < 0 then (some true) else ((laws_toBoard.f k a0_0 a0_1 l0_2).bind fun bt103 => ((spec_FirstHitting.f k bt103.1 bt103.2.1 bt103.2.2 a1).bind fun bt108 => ((laws_toBoard.f k a0_0 a0_1 l0_2).bind fun bt112 => ((impl_FirstHitting.f bt112.1 bt112.2.1 bt112.2.2 a1).bind fun bt118 => ((laws_eqIntS.f k bt118.1 bt108.1).bind fun t122 => (if t122 = true then (laws_FnExactFirstHitting.j0 k a1 bt108.1 bt108.2 bt118.1 bt118.2 (bt118.2 != bt108.2) a0_0 a0_1 l0_2 bt112.1 bt112.2.1 bt112.2.2) else (laws_FnExactFirstHitting.j0 k a1 bt108.1 bt108.2 bt118.1 bt118.2 true a0_0 a0_1 l0_2 bt112.1 bt112.2.1 bt112.2.2))))))))
def laws_FnExactFirstHitting.Pure : Prop := ∀ (a0_0 : Int) (a0_1 : Int) (l0_2 : List Int) (a1 : Int), (Lit.int .i64 a0_0).wf = true → (Lit.int .i64 a0_1).wf = true → l0_2.length ≤ maxLen → l0_2.length * 8 ≤ 140737488351232 → (∀ x ∈ l0_2, (Lit.int .i64 x).wf = true) → (Lit.int .i64 a1).wf = true → ∃ k, laws_FnExactFirstHitting.f k a0_0 a0_1 l0_2 a1 = some true
end Go.Proofs.Ytiopnmgcajohfaa.Q
end
section
namespace Go.Proofs.Ytiopnmgcajohfaa.Q
open Go.RowKit Go.Proofs.YtiopnmgcajohfaaW.PrintWords Go.Proofs.YtiopnmgcajohfaaW.PrintLast Go.Proofs.YtiopnmgcajohfaaW.PrintMore
attribute [local go_sem] max2_int min2_int max_two min_two max_three min_three max_four min_four   -- for this text's walks alone
set_option linter.unusedVariables false
set_option linter.unusedSimpArgs false
def spec_hiNumbers.l0 : Nat → List Int → List (List Int) → Int → Int → Int → Int → List Int → Option (List Int)
 | 0, _, _, _, _, _, _, _ => none
 | k + 1, x3, x12, x13, x14, x102000, x102001, x102002 => if x14 < x13 then (if 0 ≤ x14 then (if x14 < (x12.length : Int) then ((spec_hiHits.f k x102000 x102001 x102002 (rd_L1 x12 x14)).bind fun t109 => (if 0 ≤ t109 then (if t109 < (x3.length : Int) then (spec_hiNumbers.l0 k (x3.set (t109 : Int).toNat (wrap64 ((rd x3 t109) + 1))) x12 x13 (wrap64 (x14 + 1)) x102000 x102001 x102002) else (none)) else (none))) else (none)) else (none)) else (some x3)
def spec_hiNumbers.f (k : Nat) (a0_0 : Int) (a0_1 : Int) (l0_2 : List Int) : Option (List Int) := if 0 ≤ (wrap64 (a0_0 + 1)) then (if (wrap64 (a0_0 + 1) : Int).toNat ≤ 35184372088832 then ((spec_hiAll.f k a0_0 ([] : List Int)).bind fun t105 => (spec_hiNumbers.l0 k (List.replicate (wrap64 (a0_0 + 1) : Int).toNat 0) t105 (t105.length : Int) 0 a0_0 a0_1 l0_2)) else (none)) else (none)
end Go.Proofs.Ytiopnmgcajohfaa.Q
end
section
namespace Go.Proofs.Ytiopnmgcajohfaa.HitAllK
set_option linter.unusedVariables false
open Go.RowKit Go.Proofs.Ytiopnmgcajohfaa.Q Go.Proofs.YtiopnmgcajohfaaW.PrintWords Go.Proofs.YtiopnmgcajohfaaW.PrintLast Go.Proofs.YtiopnmgcajohfaaW.PrintMore
open Go.Proofs.YtiopnmgcajohfaaL Go.Proofs.Ytiopnmgcajohfaa.LawK Go.Proofs.Ytiopnmgcajohfaa.BoardK Go.Proofs.Ytiopnmgcajohfaa.PermK Go.Proofs.Ytiopnmgcajohfaa.Walk Go.Proofs.Ytiopnmgcajohfaa.HN
theorem evEq {α : Type} {g : Nat → Option α} {a b : α} (h : Ev g a) (e : a = b) : Ev g b := e ▸ h
def nextOf (pre : List Int) (f : List Int → List (List Int)) (x : Int) : List (List Int) := if x ∈ pre then [] else f (pre ++ [x])
def allFrom (n : Nat) : Nat → List Int → List (List Int)
  | 0, pre => [pre]
  | d + 1, pre => (iota 0 n).flatMap (nextOf pre (allFrom n d))
theorem len_flat {α β : Type} (f : α → List β) (B : Nat) : ∀ (l : List α), (∀ x ∈ l, (f x).length ≤ B) → (l.flatMap f).length ≤ l.length * B
  | [], _ => by simp
  | a :: t, h => by
    rw [List.flatMap_cons, List.length_append, List.length_cons, Nat.succ_mul]
    have := len_flat f B t (fun x hx => h x (List.mem_cons_of_mem _ hx))
    have := h a List.mem_cons_self
    omega
theorem flat_congr {α β : Type} {f g : α → List β} : ∀ {l : List α}, (∀ x ∈ l, f x = g x) → l.flatMap f = l.flatMap g
  | [], _ => rfl
  | a :: t, h => by rw [List.flatMap_cons, List.flatMap_cons, h a List.mem_cons_self, flat_congr (fun x hx => h x (List.mem_cons_of_mem _ hx))]
theorem allFrom_len (n : Nat) : ∀ d pre, (allFrom n d pre).length ≤ n ^ d
  | 0, pre => by simp [allFrom]
  | d + 1, pre => by
    have := len_flat (nextOf pre (allFrom n d)) (n ^ d) (iota 0 n) (fun x _ => by
      unfold nextOf
      split
      · simp
      · exact allFrom_len n d _)
    rw [iota_length] at this
    rw [allFrom, Nat.pow_succ, Nat.mul_comm]
    exact this
theorem pow_le {n d : Nat} (hn : n ≤ 6) (hd : d ≤ 6) : n ^ d ≤ 46656 := by
  have h1 : n ^ d ≤ 6 ^ d := Nat.pow_le_pow_left hn d
  have h2 : 6 ^ d ≤ 6 ^ 6 := Nat.pow_le_pow_right (by decide) hd
  omega
theorem own_f {l : List Int} (h : l.length < 1000000) : spec_l1Own.f l = some l := by
  unfold spec_l1Own.f; rw [Option.bind_some, if_pos (by simp; omega)]; rfl
theorem iota_drop (n j : Nat) (hj : j < n) : (iota 0 n).drop j = (j : Int) :: (iota 0 n).drop (j + 1) := by
  rw [List.drop_eq_getElem_cons (by rw [iota_length]; exact hj), iota_get]; simp
theorem spec_all {n : Nat} (hn : n ≤ 6) : ∀ (d : Nat) (pre : List Int), pre.length + d = n → Ev (fun k => spec_hiAll.f k n pre) (allFrom n d pre)
  | 0, pre, h => by
    refine Ev.step (f := fun _ => some [pre]) (fun k => ?_) (Ev.now _)
    rw [spec_hiAll.f, if_pos (by omega), own_f (by omega), Option.bind_some]
  | d + 1, pre, h => by
    have key : ∀ (e j : Nat) (x : List (List Int)), j + e = n → x.length ≤ j * 46656 → Ev (fun k => spec_hiAll.l0 k n pre x j) (x ++ ((iota 0 n).drop j).flatMap (nextOf pre (allFrom n d))) := by
      intro e
      induction e with
      | zero =>
        intro j x hj hx
        refine Ev.step (f := fun _ => some x) (fun k => ?_) (evEq (Ev.now _) (by rw [List.drop_eq_nil_of_le (by rw [iota_length]; omega)]; simp))
        rw [spec_hiAll.l0, if_neg (by omega)]
      | succ e ih =>
        intro j x hj hx
        have h1 : wrap64 ((j : Int) + 1) = ((j + 1 : Nat) : Int) := by rw [w64 (by omega) (by omega)]; rfl
        rw [iota_drop n j (by omega), List.flatMap_cons]
        refine Ev.step (fun k => by rw [spec_hiAll.l0, if_pos (by omega)]) ?_
        refine Ev.bind (l1Has (j : Int) (by omega)) ?_
        by_cases hm : (j : Int) ∈ pre
        · refine Ev.congr (fun k => by rw [if_pos (by simpa using hm), h1]) ?_
          rw [show nextOf pre (allFrom n d) (j : Int) = [] by unfold nextOf; rw [if_pos hm], List.nil_append]
          exact ih (j + 1) x (by omega) (Nat.le_trans hx (Nat.mul_le_mul_right _ (by omega)))
        · rw [show nextOf pre (allFrom n d) (j : Int) = allFrom n d (pre ++ [(j : Int)]) by unfold nextOf; rw [if_neg hm]]
          have hlen := Nat.le_trans (allFrom_len n d (pre ++ [(j : Int)])) (pow_le hn (by omega))
          refine Ev.congr (fun k => by rw [if_neg (by simpa using hm), own_f (by omega), Option.bind_some, if_pos (by omega)]) ?_
          refine Ev.bind (spec_all hn d (pre ++ [(j : Int)]) (by simp; omega)) ?_
          refine Ev.congr (fun k => by rw [if_pos (by have : j ≤ 6 := by omega
                                                      have : j * 46656 ≤ 6 * 46656 := Nat.mul_le_mul_right _ this
                                                      omega), h1]) ?_
          rw [← List.append_assoc]
          exact ih (j + 1) _ (by omega) (by rw [List.length_append, Nat.add_mul, Nat.one_mul]; exact Nat.add_le_add hx hlen)
    have := key n 0 [] (by omega) (by simp)
    rw [List.drop_zero, List.nil_append] at this
    rw [allFrom]
    refine Ev.step (fun k => ?_) this
    rw [spec_hiAll.f, if_neg (by omega)]; rfl
theorem ways_shape (l : List Int) (C : Nat) : ∀ (d r t : Nat) (pre : List Int), ∀ q ∈ waysFrom l C d r t pre, ∃ s, q = pre ++ s ∧ s.length = d
  | 0, r, t, pre, q, hq => by rw [waysFrom, List.mem_singleton] at hq; exact ⟨[], by simp [hq], rfl⟩
  | d + 1, r, t, pre, q, hq => by
    rw [waysFrom, List.mem_flatMap] at hq
    obtain ⟨c, hc, hq⟩ := hq
    unfold colWays at hq
    split at hq
    · obtain ⟨s, h1, h2⟩ := ways_shape l C d (r + 1) _ _ q hq
      exact ⟨c :: s, by rw [h1]; simp, by simp [h2]⟩
    · split at hq
      · obtain ⟨s, h1, h2⟩ := ways_shape l C d (r + 1) _ _ q hq
        exact ⟨c :: s, by rw [h1]; simp, by simp [h2]⟩
      · cases hq
theorem cell_full {n r c : Nat} (hr : r < n) (hc : c < n) : cell (fullRows n) r c = true := by
  unfold cell fullRows
  rw [gD_lt _ _ (by simpa using hr), List.getElem_replicate]
  have e : ((2 : Int) ^ n - 1).toNat = 2 ^ n - 1 := by
    have : 0 < 2 ^ n := Nat.two_pow_pos n
    have e2 : ((2 ^ n : Nat) : Int) = 2 ^ n := by simp
    omega
  rw [e, Nat.testBit_two_pow_sub_one]
  simpa using hc
theorem filter_none {n d r t : Nat} {pre : List Int} (hp : pre.length + d = n) (h : (-1 : Int) ∈ pre) : (waysFrom (fullRows n) n d r t pre).filter (fun p => rooksN p == n) = [] := by
  rw [List.filter_eq_nil_iff]
  intro q hq
  obtain ⟨s, rfl, hs⟩ := ways_shape _ _ d r t pre q hq
  simp only [beq_iff_eq]
  intro he
  have h1 : rooksN (pre ++ s) = (pre ++ s).length := by rw [he, List.length_append]; omega
  have h2 := List.countP_eq_length.1 h1 (-1) (List.mem_append_left _ h)
  simp at h2
theorem ways_all {n : Nat} : ∀ (d r t : Nat) (pre : List Int), r + d = n → pre.length = r → (∀ x ∈ pre, 0 ≤ x) → (∀ c : Nat, t.testBit c = decide ((c : Int) ∈ pre)) →
    (waysFrom (fullRows n) n d r t pre).filter (fun p => rooksN p == n) = allFrom n d pre
  | 0, r, t, pre, hr, hp, hin, ht => by
    rw [waysFrom, allFrom, List.filter_cons, if_pos, List.filter_nil]
    rw [beq_iff_eq, show n = pre.length by omega]
    exact List.countP_eq_length.2 (fun x hx => by have := hin x hx; simp; omega)
  | d + 1, r, t, pre, hr, hp, hin, ht => by
    rw [waysFrom, allFrom, List.filter_flatMap]
    have e : iota (-1) (n + 1) = (-1) :: iota 0 n := rfl
    rw [e, List.flatMap_cons]
    have h1 : (colWays (fullRows n) r t pre (waysFrom (fullRows n) n d (r + 1)) (-1)).filter (fun p => rooksN p == n) = [] := by
      unfold colWays
      rw [if_pos (by omega)]
      exact filter_none (by simp; omega) (by simp)
    rw [h1, List.nil_append]
    apply flat_congr
    intro x hx
    obtain ⟨i, hi, e⟩ := List.mem_iff_getElem.1 hx
    rw [iota_get] at e
    rw [iota_length] at hi
    obtain rfl : (i : Int) = x := by omega
    unfold colWays nextOf
    rw [if_neg (by omega), Int.toNat_natCast, cell_full (by omega) hi, Bool.true_and, ht i]
    by_cases hm : (i : Int) ∈ pre
    · rw [if_neg (by simp [hm]), if_pos hm, List.filter_nil]
    · rw [if_pos (by simp [hm]), if_neg hm]
      refine ways_all d (r + 1) _ _ (by omega) (by simp; omega) (fun y hy => ?_) (fun c => ?_)
      · rcases List.mem_append.1 hy with hy | hy
        · exact hin y hy
        · rw [List.mem_singleton.1 hy]; omega
      · rw [Nat.testBit_or, ht c, Nat.testBit_two_pow, ← Bool.decide_or]
        apply decide_eq_decide.2
        rw [List.mem_append, List.mem_singleton]
        constructor
        · rintro (h | h)
          · exact .inl h
          · exact .inr (by omega)
        · rintro (h | h)
          · exact .inl h
          · exact .inr (by omega)
theorem permsOf_all (n : Nat) : permsOf n = allFrom n n [] := ways_all n 0 0 [] (by omega) rfl (by simp) (by simp)
theorem step_count (l : List Int) (o p : List Int) : o.set (hitsF l p 0 0).toNat (wrap64 (rd o (hitsF l p 0 0) + 1)) = o.set (hitsF l p 0 0).toNat (IntKind.i64.wrap (rdOf 0 o (hitsF l p 0 0) + 1)) := by rw [wrap_i64']; rfl
theorem spec_numbers {RI CI : Int} {l : List Int} (hs : squareB RI CI l = true) (L : List (List Int)) (hL : L.length ≤ 46656) (hin : ∀ p ∈ L, p.length = l.length ∧ ∀ x ∈ p, 0 ≤ x ∧ x < l.length) :
    ∀ (d i : Nat) (o : List Int), i + d = L.length → o.length = l.length + 1 → Ev (fun k => spec_hiNumbers.l0 k o L (L.length : Int) i RI CI l) ((L.drop i).foldl (fun o p => o.set (hitsF l p 0 0).toNat (IntKind.i64.wrap (rdOf 0 o (hitsF l p 0 0) + 1))) o)
  | 0, i, o, hi, ho => by
    refine Ev.step (f := fun _ => some o) (fun k => ?_) (evEq (Ev.now _) (by rw [List.drop_eq_nil_of_le (by omega)]; rfl))
    rw [spec_hiNumbers.l0, if_neg (by omega)]
  | d + 1, i, o, hi, ho => by
    obtain ⟨q1, q2, q3, q4, q5⟩ := board_bits hs
    have h1 : wrap64 ((i : Int) + 1) = ((i + 1 : Nat) : Int) := by rw [w64 (by omega) (by omega)]; rfl
    have hi2 : i < L.length := by omega
    obtain ⟨p1, p2⟩ := hin L[i] (List.getElem_mem hi2)
    have hb := hitsF_bound l L[i] 0 0
    have hh : Ev (fun k => spec_hiHits.f k RI CI l L[i]) (hitsF l L[i] 0 0) := by
      have := spec_hits (l := l) (p := L[i]) RI CI p1 q1 q5 (fun x hx => by have := p2 x hx; omega) L[i].length 0 0 (by omega) (by omega) (by omega)
      rw [List.drop_zero] at this
      exact this
    have hrd : rd_L1 L (i : Int) = L[i] := by unfold rd_L1; simp [hi2]
    rw [List.drop_eq_getElem_cons hi2, List.foldl_cons]
    refine Ev.step (fun k => by rw [spec_hiNumbers.l0, if_pos (by omega), if_pos (by omega), if_pos (by omega), hrd]) ?_
    refine Ev.bind hh ?_
    refine Ev.congr (fun k => by rw [if_pos (by omega), if_pos (by omega), h1, step_count]) ?_
    exact spec_numbers hs L hL hin d (i + 1) _ (by omega) (by simp [ho])
theorem spec_hiNumbers {RI CI : Int} {l : List Int} (hs : squareB RI CI l = true) : Ev (fun k => spec_hiNumbers.f k RI CI l) (countsF l (l.length + 1) (permsOf l.length)) := by
  obtain ⟨q1, q2, q3, q4, q5⟩ := board_bits hs
  unfold spec_hiNumbers.f
  have e : wrap64 (RI + 1) = ((l.length + 1 : Nat) : Int) := by rw [w64 (by omega) (by omega)]; omega
  refine Ev.congr (fun k => by rw [e, if_pos (by omega), if_pos (by omega), Int.toNat_natCast, ← q2]) ?_
  refine Ev.bind (spec_all q1 l.length [] (by simp)) ?_
  rw [← permsOf_all]
  have hlen : (permsOf l.length).length ≤ 46656 := by rw [permsOf_all]; exact Nat.le_trans (allFrom_len _ _ _) (pow_le q1 q1)
  have := spec_numbers hs (permsOf l.length) hlen (fun p hp => by
    obtain ⟨s, h1, h2⟩ := ways_shape _ _ _ _ _ _ p (List.mem_filter.1 hp).1
    have hp2 : p.length = l.length := by rw [h1]; simpa using h2
    exact ⟨hp2, perms_in hp hp2⟩) (permsOf l.length).length 0 (List.replicate (l.length + 1) 0) (by omega) (by simp)
  rw [List.drop_zero, ← q4, ← q2] at this
  rw [q2] at this
  refine Ev.congr (fun k => ?_) this
  rw [← q4, q2]; rfl
end Go.Proofs.Ytiopnmgcajohfaa.HitAllK
end
section
namespace Go.Proofs.Ytiopnmgcajohfaa.PermHitK
set_option linter.unusedVariables false
open Go.RowKit Go.Proofs.Ytiopnmgcajohfaa.Q Go.Proofs.YtiopnmgcajohfaaW.PrintWords Go.Proofs.YtiopnmgcajohfaaW.PrintLast Go.Proofs.YtiopnmgcajohfaaW.PrintMore
open Go.Proofs.YtiopnmgcajohfaaL Go.Proofs.Ytiopnmgcajohfaa.LawK Go.Proofs.Ytiopnmgcajohfaa.BoardK Go.Proofs.Ytiopnmgcajohfaa.PermK Go.Proofs.Ytiopnmgcajohfaa.Walk Go.Proofs.Ytiopnmgcajohfaa.HN Go.Proofs.Ytiopnmgcajohfaa.HitAllK
def ans (r c : Int) (l : List Int) (k : Int) : List (List Int) × Bool := if (squareB r c l && inR 0 6 k) = true then (hitting l k (permsOf l.length), true) else ([], false)
theorem impl_f (r c : Int) (l : List Int) (k : Int) : impl_PermutationsHitting.f r c l k = some (ans r c l k) := by
  unfold impl_PermutationsHitting.f ans
  cases squareB r c l <;> cases inR 0 6 k <;> rfl
theorem perms_shape {n : Nat} {p : List Int} (h : p ∈ permsOf n) : p.length = n ∧ ∀ x ∈ p, 0 ≤ x ∧ x < n := by
  obtain ⟨s, h1, h2⟩ := ways_shape _ _ _ _ _ _ p (List.mem_filter.1 h).1
  have hp2 : p.length = n := by rw [h1]; simpa using h2
  exact ⟨hp2, perms_in h hp2⟩
theorem spec_l0 {RI CI : Int} {l : List Int} (hs : squareB RI CI l = true) (kI : Int) (L : List (List Int)) (hL : L.length ≤ 117649) (hin : ∀ p ∈ L, p.length = l.length ∧ ∀ x ∈ p, 0 ≤ x ∧ x < l.length) :
    ∀ (d i : Nat) (o : List (List Int)), i + d = L.length → o.length ≤ i → Ev (fun k => spec_PermutationsHitting.l0 k kI o L (L.length : Int) i RI CI l) (o ++ hitting l kI (L.drop i), true)
  | 0, i, o, hi, ho => by
    refine Ev.step (f := fun _ => some (o, true)) (fun k => ?_) (evEq (Ev.now _) (by rw [List.drop_eq_nil_of_le (by omega)]; simp [hitting]))
    rw [spec_PermutationsHitting.l0, if_neg (by omega)]
  | d + 1, i, o, hi, ho => by
    obtain ⟨q1, q2, q3, q4, q5⟩ := board_bits hs
    have h1 : wrap64 ((i : Int) + 1) = ((i + 1 : Nat) : Int) := by rw [w64 (by omega) (by omega)]; rfl
    have hi2 : i < L.length := by omega
    obtain ⟨p1, p2⟩ := hin L[i] (List.getElem_mem hi2)
    have hh : Ev (fun k => spec_hiHits.f k RI CI l L[i]) (hitsF l L[i] 0 0) := by
      have := spec_hits (l := l) (p := L[i]) RI CI p1 q1 q5 (fun x hx => by have := p2 x hx; omega) L[i].length 0 0 (by omega) (by omega) (by omega)
      rw [List.drop_zero] at this
      exact this
    have hrd : rd_L1 L (i : Int) = L[i] := by unfold rd_L1; rw [Int.toNat_natCast]; exact gD_lt _ _ hi2
    rw [List.drop_eq_getElem_cons hi2]
    refine Ev.step (fun k => by rw [spec_PermutationsHitting.l0, if_pos (by omega), if_pos (by omega), if_pos (by omega), hrd]) ?_
    refine Ev.bind hh ?_
    by_cases e : hitsF l L[i] 0 0 = kI
    · have ih := spec_l0 hs kI L hL hin d (i + 1) (o ++ [L[i]]) (by omega) (by rw [List.length_append, List.length_singleton]; omega)
      refine Ev.congr (fun k => by rw [if_pos e, if_pos (by omega), h1]) (evEq ih ?_)
      unfold hitting
      rw [List.filter_cons, if_pos (decide_eq_true e), List.append_assoc]; rfl
    · have ih := spec_l0 hs kI L hL hin d (i + 1) o (by omega) (by omega)
      refine Ev.congr (fun k => by rw [if_neg e, h1]) (evEq ih ?_)
      unfold hitting
      rw [List.filter_cons, if_neg (by simpa using e)]
theorem spec_answer {r c : Int} {l : List Int} (k : Int) (hl : l.length ≤ 1048576) : Ev (fun n => spec_PermutationsHitting.f n r c l k) (ans r c l k) := by
  unfold spec_PermutationsHitting.f ans
  have no : Ev (fun n => spec_PermutationsHitting.j0 n k true r c l) ([], false) := Ev.step (f := fun _ => some ([], false)) (fun n => by rw [spec_PermutationsHitting.j0, if_pos rfl]) (Ev.now _)
  refine Ev.bind (hiGood r c (by omega)) ?_
  by_cases hs : squareB r c l = true
  · rw [hs, Bool.true_and]
    refine Ev.congr (fun n => by rw [if_pos rfl, l1In_f, Option.bind_some]) ?_
    by_cases hk : inR 0 6 k = true
    · rw [if_pos hk, hk]
      obtain ⟨q1, q2, q3, q4, q5⟩ := board_bits hs
      refine Ev.step (fun n => by rw [spec_PermutationsHitting.j0, if_neg (by simp)]) ?_
      rw [← q2]
      refine Ev.bind (spec_all q1 l.length [] (by simp)) ?_
      rw [← permsOf_all]
      have := spec_l0 hs k (permsOf l.length) (perms_len q1) (fun p hp => perms_shape hp) (permsOf l.length).length 0 [] (by omega) (by simp)
      rw [List.drop_zero, List.nil_append] at this
      rw [q2]
      exact this
    · rw [if_neg hk, show inR 0 6 k = false by simpa using hk]
      exact no
  · rw [show squareB r c l = false by simpa using hs, Bool.false_and, if_neg (by simp)]
    exact Ev.congr (fun n => if_neg (by simp)) no
theorem ans_in {r c : Int} {l : List Int} {k : Int} : (ans r c l k).1.length ≤ 117649 ∧ ∀ p ∈ (ans r c l k).1, p.length ≤ 6 := by
  unfold ans
  by_cases h : (squareB r c l && inR 0 6 k) = true
  · rw [if_pos h]
    rw [Bool.and_eq_true] at h
    obtain ⟨q1, q2, q3, q4, q5⟩ := board_bits h.1
    have h1 := perms_len q1
    have h2 : (hitting l k (permsOf l.length)).length ≤ (permsOf l.length).length := List.length_filter_le _ _
    exact ⟨by simp only []; omega, fun p hp => by have := perms_shape (List.mem_filter.1 hp).1; omega⟩
  · rw [if_neg h]; simp
end Go.Proofs.Ytiopnmgcajohfaa.PermHitK
end
section
namespace Go.Proofs.Ytiopnmgcajohfaa.Pure
set_option linter.unusedVariables false
open Go.RowKit Go.Proofs.Ytiopnmgcajohfaa.Q Go.Proofs.YtiopnmgcajohfaaW.PrintWords Go.Proofs.YtiopnmgcajohfaaW.PrintLast Go.Proofs.YtiopnmgcajohfaaW.PrintMore
open Go.Proofs.YtiopnmgcajohfaaL Go.Proofs.Ytiopnmgcajohfaa.LawK Go.Proofs.Ytiopnmgcajohfaa.BoardK
namespace FirstHitK
open Go.Proofs.Ytiopnmgcajohfaa.PermHitK
def first (r c : Int) (l : List Int) (k : Int) : List Int × Bool := match (ans r c l k).1 with
  | [] => ([], false)
  | p :: _ => (p, true)
theorem ans_false {r c : Int} {l : List Int} {k : Int} (h : (ans r c l k).2 = false) : (ans r c l k).1 = [] := by
  unfold ans at h ⊢
  split
  · rename_i h2; rw [if_pos h2] at h; cases h
  · rfl
theorem impl_answer (r c : Int) (l : List Int) (k : Int) : impl_FirstHitting.f r c l k = some (first r c l k) := by
  unfold impl_FirstHitting.f first
  rw [impl_f, Option.bind_some]
  have hin := @ans_in r c l k
  by_cases h : (ans r c l k).2 = true
  · rw [if_pos h]
    cases e : (ans r c l k).1 with
    | nil => simp
    | cons p t =>
      rw [e] at hin
      have hp := hin.2 p (by simp)
      rw [if_neg (by rw [List.length_cons]; omega), if_pos (by rw [List.length_cons]; omega)]
      show (slices_Clone_int_int.f p).bind _ = _
      rw [slices_Clone_int_int.f, if_pos (by omega), Option.bind_some]
  · rw [if_neg h, ans_false (by simpa using h)]
theorem spec_first {r c : Int} {l : List Int} (k : Int) (hl : l.length ≤ 1048576) : Ev (fun n => spec_FirstHitting.f n r c l k) (first r c l k) := by
  unfold spec_FirstHitting.f first
  refine Ev.bind (spec_answer k hl) ?_
  by_cases h : (ans r c l k).2 = true
  · refine Ev.congr (fun n => if_pos h) ?_
    cases e : (ans r c l k).1 with
    | nil => exact Ev.congr (fun n => if_pos (by simp)) (Ev.now _)
    | cons p t => exact Ev.congr (fun n => by rw [if_neg (by rw [List.length_cons]; omega), if_pos (by rw [List.length_cons]; omega)]; rfl) (Ev.now _)
  · rw [ans_false (by simpa using h)]
    exact Ev.congr (fun n => if_neg h) (Ev.now _)
theorem first_len (r c : Int) (l : List Int) (k : Int) : (first r c l k).1.length ≤ 6 := by
  have hin := @ans_in r c l k
  unfold first
  cases e : (ans r c l k).1 with
  | nil => simp
  | cons p t => rw [e] at hin; exact hin.2 p (by simp)
end FirstHitK
open FirstHitK
theorem FnExactFirstHitting : laws_FnExactFirstHitting.Pure := by
  intro r c l q _ _ _ hl8 _ _
  unfold laws_FnExactFirstHitting.f
  refine ends ?_
  refine Ev.congr (fun k => by rw [szBoard_f r c l hl8, Option.bind_some]) ?_
  by_cases hlb : l.length ≤ 1048576
  · have hn := first_len r c l q
    have im : Ev (fun _ => impl_FirstHitting.f r c l q) (first r c l q) := Ev.congr (fun _ => impl_answer r c l q) (Ev.now _)
    refine Ev.congr (fun k => by rw [if_pos hlb, if_neg (by omega)]) ?_
    refine Ev.bind (toBoard r c hlb) (Ev.bind (spec_first q hlb) (Ev.bind (toBoard r c hlb) (Ev.bind im ?_)))
    refine Ev.bind (eqIntS (by (try simp only []); omega)) ?_
    refine Ev.congr (fun k => by rw [if_pos (by simp)]) ?_
    refine Ev.step (fun k => by rw [laws_FnExactFirstHitting.j0, if_neg (by simp)]) ?_
    refine Ev.bind (toBoard r c hlb) (Ev.bind (eqBoard r c (by simp; omega)) ?_)
    refine Ev.congr (fun k => by rw [if_pos rfl]) ?_
    refine Ev.bind (a := (1 + (l.length : Int), iota 1 l.length)) (show Ev (fun k => laws_markBoard.f k r c l 1) (1 + (l.length : Int), iota 1 l.length) by unfold laws_markBoard.f; exact Ev.bind (markIntS l (by omega) (by omega)) (Ev.now _)) ?_
    refine Ev.congr (fun k => by rw [if_neg (by simp; omega)]) ?_
    refine Ev.bind (eqIntS (by (try simp only []); omega)) ?_
    refine Ev.congr (fun k => by rw [if_pos (by simp)]) ?_
    refine Ev.step (fun k => by rw [laws_FnExactFirstHitting.j1, if_neg (by simp)]) ?_
    refine Ev.bind (markIntS _ (by omega) (by (try simp only []); omega)) ?_
    refine Ev.bind (heldIntS _ (by omega) (by (try simp only []); omega)) ?_
    refine Ev.congr (fun k => by rw [if_neg (by omega), if_pos rfl]) ?_
    refine Ev.bind (toBoard r c hlb) (Ev.bind im ?_)
    refine Ev.bind (eqIntS (by (try simp only []); omega)) ?_
    refine Ev.congr (fun k => by rw [if_pos (by simp)]) ?_
    refine Ev.step (fun k => by rw [laws_FnExactFirstHitting.j2, if_neg (by simp)]) ?_
    refine Ev.bind (heldIntS _ (by omega) (by (try simp only []); omega)) ?_
    exact Ev.congr (fun k => by rw [if_neg (by omega), if_pos rfl]) (Ev.now _)
  · exact Ev.congr (fun k => by rw [if_neg hlb, if_pos (by omega)]) (Ev.now _)
end Go.Proofs.Ytiopnmgcajohfaa.Pure
end
section
namespace Go.Proofs.Ytiopnmgcajohfaa.HitLawK
set_option linter.unusedVariables false
open Go.RowKit Go.Proofs.Ytiopnmgcajohfaa.Q Go.Proofs.YtiopnmgcajohfaaW.PrintWords Go.Proofs.YtiopnmgcajohfaaW.PrintLast Go.Proofs.YtiopnmgcajohfaaW.PrintMore
open Go.Proofs.YtiopnmgcajohfaaL Go.Proofs.Ytiopnmgcajohfaa.LawK Go.Proofs.Ytiopnmgcajohfaa.BoardK Go.Proofs.Ytiopnmgcajohfaa.PermK Go.Proofs.Ytiopnmgcajohfaa.Walk Go.Proofs.Ytiopnmgcajohfaa.HN Go.Proofs.Ytiopnmgcajohfaa.HitAllK Go.Proofs.Ytiopnmgcajohfaa.PermHitK
def lexB : List Int → List Int → Bool
  | a :: s, b :: t => if a = b then lexB s t else decide (a < b)
  | _, _ => false
theorem lex_app (pre : List Int) {s t : List Int} : lexB (pre ++ s) (pre ++ t) = lexB s t := by
  induction pre with
  | nil => rfl
  | cons c p ih => rw [List.cons_append, List.cons_append, lexB, if_pos rfl, ih]
theorem lex_head {a b : Int} {s t : List Int} (h : a < b) : lexB (a :: s) (b :: t) = true := by
  rw [lexB, if_neg (by omega), decide_eq_true h]
theorem iota_sorted : ∀ (n : Nat) (m : Int), (iota m n).Pairwise (fun a b => a < b)
  | 0, m => by simp [iota]
  | n + 1, m => by
    rw [iota, List.pairwise_cons]
    refine ⟨fun x hx => ?_, iota_sorted n (m + 1)⟩
    obtain ⟨i, hi, e⟩ := List.mem_iff_getElem.1 hx
    rw [iota_get] at e
    omega
theorem all_form (n : Nat) : ∀ (d : Nat) (pre : List Int), ∀ q ∈ allFrom n d pre, ∃ s, q = pre ++ s ∧ s.length = d ∧ permI n s pre = true
  | 0, pre, q, hq => by
    rw [allFrom, List.mem_singleton] at hq
    exact ⟨[], by rw [hq, List.append_nil], rfl, rfl⟩
  | d + 1, pre, q, hq => by
    rw [allFrom, List.mem_flatMap] at hq
    obtain ⟨x, hx, hq⟩ := hq
    unfold nextOf at hq
    split at hq
    · cases hq
    · rename_i hn
      obtain ⟨s, e, h1, h2⟩ := all_form n d (pre ++ [x]) q hq
      have hxr : inR 0 ((n : Int) - 1) x = true := by
        obtain ⟨i, hi, e⟩ := List.mem_iff_getElem.1 hx
        rw [iota_get] at e
        rw [iota_length] at hi
        exact decide_eq_true ⟨by omega, by omega⟩
      refine ⟨x :: s, by rw [e, List.append_assoc]; rfl, by rw [List.length_cons, h1], ?_⟩
      rw [permI, hxr, h2, decide_eq_false hn]
      rfl
theorem all_sorted (n : Nat) : ∀ (d : Nat) (pre : List Int), (allFrom n d pre).Pairwise (fun a b => lexB a b = true)
  | 0, pre => by rw [allFrom]; simp
  | d + 1, pre => by
    rw [allFrom, List.pairwise_flatMap]
    refine ⟨fun x hx => ?_, (iota_sorted n 0).imp ?_⟩
    · unfold nextOf
      split
      · exact List.Pairwise.nil
      · exact all_sorted n d _
    · intro x y hxy a ha b hb
      unfold nextOf at ha hb
      split at ha
      · cases ha
      · split at hb
        · cases hb
        · obtain ⟨s, rfl, _, _⟩ := all_form n d _ a ha
          obtain ⟨t, rfl, _, _⟩ := all_form n d _ b hb
          rw [List.append_assoc, List.append_assoc, lex_app]
          exact lex_head hxy
theorem perms_perm {n : Nat} {p : List Int} (h : p ∈ permsOf n) : permB n p = true := by
  rw [permsOf_all] at h
  obtain ⟨s, e, h1, h2⟩ := all_form n n [] p h
  rw [List.nil_append] at e
  subst e
  unfold permB
  rw [h2, decide_eq_true (by omega)]
  rfl
theorem hitting_sorted (l : List Int) (k : Int) (n : Nat) : (hitting l k (permsOf n)).Pairwise (fun a b => lexB a b = true) := by
  unfold hitting
  rw [permsOf_all]
  exact (all_sorted n n []).filter _
theorem counts_fold (l : List Int) (m : Nat) : ∀ (vis : List (List Int)) (out : List Int) (f : Nat → Nat), out.length = m → (∀ n, n < m → out[n]? = some ((f n : Nat) : Int)) → (∀ p ∈ vis, hitsF l p 0 0 < m) → (∀ n, f n + vis.length ≤ 4611686018427387904) →
    (vis.foldl (fun o p => o.set (hitsF l p 0 0).toNat (IntKind.i64.wrap (rdOf 0 o (hitsF l p 0 0) + 1))) out).length = m ∧ ∀ n, n < m → (vis.foldl (fun o p => o.set (hitsF l p 0 0).toNat (IntKind.i64.wrap (rdOf 0 o (hitsF l p 0 0) + 1))) out)[n]? = some ((f n + vis.countP (fun p => hitsF l p 0 0 == (n : Int)) : Nat) : Int)
  | [], out, f, h1, h2, _, _ => ⟨h1, fun n hn => by rw [List.foldl_nil, h2 n hn]; simp⟩
  | p :: t, out, f, h1, h2, h3, h4 => by
    have hp := h3 p (by simp)
    have h0 := (hitsF_bound l p 0 0).1
    obtain ⟨x, hx⟩ : ∃ x : Nat, hitsF l p 0 0 = x := ⟨(hitsF l p 0 0).toNat, by omega⟩
    rw [hx] at hp
    have e : rdOf 0 out (x : Int) = ((f x : Nat) : Int) := by
      unfold rdOf
      rw [Int.toNat_natCast, List.getD_eq_getElem?_getD, h2 _ (by omega)]
      rfl
    have h5 := h4 x
    rw [List.length_cons] at h5
    have ew : IntKind.i64.wrap (((f x : Nat) : Int) + 1) = ((f x + 1 : Nat) : Int) := by rw [wrap_i64', w64 (by omega) (by omega)]; rfl
    rw [List.foldl_cons, hx, e, ew, Int.toNat_natCast]
    obtain ⟨g1, g2⟩ := counts_fold l m t (out.set x ((f x + 1 : Nat) : Int)) (fun n => f n + if x = n then 1 else 0) (by rw [List.length_set]; exact h1) (fun n hn => by
      rw [List.getElem?_set]
      by_cases c : x = n
      · subst c
        rw [if_pos rfl, if_pos (by omega), if_pos rfl]
      · rw [if_neg c, if_neg c, h2 n hn]; rfl) (fun q hq => h3 q (by simp [hq])) (fun n => by
      have := h4 n
      rw [List.length_cons] at this
      split <;> omega)
    refine ⟨g1, fun n hn => ?_⟩
    rw [g2 n hn, List.countP_cons, hx]
    congr 2
    by_cases c : x = n
    · rw [if_pos c, if_pos (beq_iff_eq.2 (by omega))]; omega
    · rw [if_neg c, if_neg (fun h => c (by have := beq_iff_eq.1 h; omega))]; omega
theorem counts_get {l : List Int} {m : Nat} {vis : List (List Int)} (h3 : ∀ p ∈ vis, hitsF l p 0 0 < m) (h4 : vis.length ≤ 4611686018427387904) : (countsF l m vis).length = m ∧ ∀ n, n < m → (countsF l m vis)[n]? = some ((vis.countP (fun p => hitsF l p 0 0 == (n : Int)) : Nat) : Int) := by
  have h := counts_fold l m vis (List.replicate m 0) (fun _ => 0) (by simp) (fun n hn => by rw [List.getElem?_replicate, if_pos hn]; rfl) h3 (fun n => by omega)
  simp only [Nat.zero_add] at h
  exact h
theorem hitting_len (l : List Int) (n : Nat) (vis : List (List Int)) : (hitting l (n : Int) vis).length = vis.countP (fun p => hitsF l p 0 0 == (n : Int)) := by
  unfold hitting
  rw [List.countP_eq_length_filter]
  congr 1
theorem hit_count {l : List Int} (hl : l.length ≤ 6) : (countsF l (l.length + 1) (permsOf l.length)).length = l.length + 1 ∧ ∀ n, n < l.length + 1 → (countsF l (l.length + 1) (permsOf l.length)).getD n 0 = ((hitting l (n : Int) (permsOf l.length)).length : Int) := by
  have hb : ∀ p ∈ permsOf l.length, hitsF l p 0 0 < ((l.length + 1 : Nat) : Int) := fun p hp => by
    have := (hitsF_bound l p 0 0).2
    have := (perms_shape hp).1
    omega
  have h := counts_get hb (Nat.le_trans (perms_len hl) (by omega))
  refine ⟨h.1, fun n hn => ?_⟩
  rw [List.getD_eq_getElem?_getD, h.2 n hn, hitting_len]
  rfl
theorem hit_far {l : List Int} (hl : l.length ≤ 6) {k : Int} (hk : (l.length : Int) < k) : hitting l k (permsOf l.length) = [] := by
  unfold hitting
  rw [List.filter_eq_nil_iff]
  intro p hp
  have := (hitsF_bound l p 0 0).2
  have := (perms_shape hp).1
  simp
  omega
end Go.Proofs.Ytiopnmgcajohfaa.HitLawK
end
section
namespace Go.Proofs.Ytiopnmgcajohfaa.Q
open Go.RowKit Go.Proofs.YtiopnmgcajohfaaW.PrintWords Go.Proofs.YtiopnmgcajohfaaW.PrintLast Go.Proofs.YtiopnmgcajohfaaW.PrintMore
attribute [local go_sem] max2_int min2_int max_two min_two max_three min_three max_four min_four   -- for this text's walks alone
set_option linter.unusedVariables false
set_option linter.unusedSimpArgs false
def spec_HitNumbers.f (k : Nat) (a0_0 : Int) (a0_1 : Int) (l0_2 : List Int) : Option (List Int × Bool) := (spec_hiGood.f k a0_0 a0_1 l0_2).bind fun t102 => (if t102 = true then ((spec_hiNumbers.f k a0_0 a0_1 l0_2).bind fun t103 => (some (t103, true))) else (some (([] : List Int), false)))
end Go.Proofs.Ytiopnmgcajohfaa.Q
end
section
namespace Go.Proofs.Ytiopnmgcajohfaa.Pure
set_option linter.unusedVariables false
open Go.RowKit Go.Proofs.Ytiopnmgcajohfaa.Q Go.Proofs.YtiopnmgcajohfaaW.PrintWords Go.Proofs.YtiopnmgcajohfaaW.PrintLast Go.Proofs.YtiopnmgcajohfaaW.PrintMore
open Go.Proofs.YtiopnmgcajohfaaL Go.Proofs.Ytiopnmgcajohfaa.LawK Go.Proofs.Ytiopnmgcajohfaa.BoardK Go.Proofs.Ytiopnmgcajohfaa.PermK Go.Proofs.Ytiopnmgcajohfaa.Walk Go.Proofs.Ytiopnmgcajohfaa.HN Go.Proofs.Ytiopnmgcajohfaa.HitAllK
def hitNumbers (r c : Int) (l : List Int) : List Int × Bool := if squareB r c l = true then (countsF l (l.length + 1) (permsOf l.length), true) else ([], false)
theorem spec_answer {r c : Int} {l : List Int} (hl : l.length ≤ 1048576) : Ev (fun k => spec_HitNumbers.f k r c l) (hitNumbers r c l) := by
  unfold spec_HitNumbers.f hitNumbers
  refine Ev.bind (hiGood r c (by omega)) ?_
  by_cases hs : squareB r c l = true
  · rw [if_pos hs]
    exact Ev.congr (fun k => by rw [if_pos hs]) (Ev.bind (spec_hiNumbers hs) (Ev.now _))
  · rw [if_neg hs]
    exact Ev.congr (fun k => by rw [if_neg hs]) (Ev.now _)
theorem impl_answer_f (r c : Int) (l : List Int) : impl_HitNumbers.f r c l = some (hitNumbers r c l) := by
  unfold impl_HitNumbers.f hitNumbers impl_Board_hitNumbers.f
  rw [isSquare_f, Option.bind_some]
  by_cases hs : squareB r c l = true
  · rw [if_pos hs, if_pos hs, Option.bind_some, if_pos hs]
  · rw [if_neg hs, if_neg hs]
theorem impl_answer {r c : Int} {l : List Int} : Ev (fun k => impl_HitNumbers.f r c l) (hitNumbers r c l) := Ev.congr (fun k => by rw [impl_answer_f]) (Ev.now _)
end Go.Proofs.Ytiopnmgcajohfaa.Pure
end
section
namespace Go.Proofs.Ytiopnmgcajohfaa.DrawK
set_option linter.unusedVariables false
open Go.RowKit Go.Proofs.Ytiopnmgcajohfaa.Q Go.Proofs.YtiopnmgcajohfaaW.PrintWords Go.Proofs.YtiopnmgcajohfaaW.PrintLast Go.Proofs.YtiopnmgcajohfaaW.PrintMore
open Go.Proofs.YtiopnmgcajohfaaL Go.Proofs.Ytiopnmgcajohfaa.LawK Go.Proofs.Ytiopnmgcajohfaa.BoardK
def Run {α : Type} (g : Nat → Option α) (P : α → Prop) : Prop := ∃ a, Ev g a ∧ P a
theorem Run.now {α : Type} {a : α} {P : α → Prop} (h : P a) : Run (fun _ => some a) P := ⟨a, Ev.now a, h⟩
theorem Run.of {α : Type} {g : Nat → Option α} {a : α} {P : α → Prop} (h : Ev g a) (hp : P a) : Run g P := ⟨a, h, hp⟩
theorem Run.bind {α β : Type} {g : Nat → Option α} {h : Nat → α → Option β} {P : α → Prop} {Q : β → Prop} (h1 : Run g P) (h2 : ∀ a, P a → Run (fun k => h k a) Q) : Run (fun k => (g k).bind (h k)) Q := by
  obtain ⟨a, ha, hp⟩ := h1
  obtain ⟨b, hb, hq⟩ := h2 a hp
  exact ⟨b, Ev.bind ha hb, hq⟩
theorem Run.congr {α : Type} {g g' : Nat → Option α} {P : α → Prop} (e : ∀ k, g k = g' k) (h : Run g' P) : Run g P := by
  obtain ⟨a, ha, hp⟩ := h
  exact ⟨a, Ev.congr e ha, hp⟩
theorem Run.step {α : Type} {g f : Nat → Option α} {P : α → Prop} (e : ∀ k, g (k + 1) = f k) (h : Run f P) : Run g P := by
  obtain ⟨a, ha, hp⟩ := h
  exact ⟨a, Ev.step e ha, hp⟩
theorem Run.mono {α : Type} {g : Nat → Option α} {P Q : α → Prop} (h : Run g P) (hpq : ∀ a, P a → Q a) : Run g Q := by
  obtain ⟨a, ha, hp⟩ := h
  exact ⟨a, ha, hpq a hp⟩
theorem Run.ite {α : Type} {c : Prop} [Decidable c] {g g' : Nat → Option α} {P : α → Prop} (h1 : c → Run g P) (h2 : ¬ c → Run g' P) : Run (fun k => if c then g k else g' k) P := by
  by_cases h : c
  · exact Run.congr (fun k => if_pos h) (h1 h)
  · exact Run.congr (fun k => if_neg h) (h2 h)
def Bytes (l : List Int) : Prop := l.length ≤ 1048576 ∧ ∀ x ∈ l, 0 ≤ x ∧ x ≤ 255
def At (M : Nat) (a : Int) : Prop := 0 ≤ a ∧ a ≤ M ∧ M ≤ 1000000
theorem At.le {M N : Nat} {a : Int} (h : At M a) (hm : M ≤ N) (hn : N ≤ 1000000) : At N a := ⟨h.1, Int.le_trans h.2.1 (by omega), hn⟩
theorem wraps_u64 (n : Int) (h₀ : 0 ≤ n) (h₁ : n < 2 ^ 64) : IntKind.u64.wrap n = n := by rw [IntKind.wrap_u64]; omega
theorem wrap_u64_range (n : Int) : 0 ≤ IntKind.u64.wrap n ∧ IntKind.u64.wrap n < 2 ^ 64 := by rw [IntKind.wrap_u64]; omega
theorem and_255 {x : Int} (h0 : 0 ≤ x) (h1 : x < 2 ^ 64) : 0 ≤ Go.bits .and .u64 x 255 ∧ Go.bits .and .u64 x 255 ≤ 255 := by
  obtain ⟨a, rfl⟩ : ∃ a : Nat, x = a := ⟨x.toNat, by omega⟩
  have h := (bits_nat .u64 64 (by decide) wraps_u64 a 255 (by omega) (by decide)).1
  have h2 : Go.bits .and .u64 (a : Int) 255 = ((a &&& 255 : Nat) : Int) := h
  rw [h2]
  have : a &&& 255 ≤ 255 := Nat.and_le_right
  omega
theorem next_run {code : List Int} (hc : Bytes code) {M : Nat} {a s : Int} (ha : At M a) (hm : M + 1 ≤ 1000000) : ∃ v a' s', spec_l1Cur_next.f code a s = some (v, a', s') ∧ (0 ≤ v ∧ v ≤ 255) ∧ At (M + 1) a' := by
  obtain ⟨h0, h1, h2⟩ := ha
  have w1 := Aside0.mk (show wrap64 (a + 1) = a + 1 from w64 (by omega) (by omega))
  have hA : At (M + 1) (a + 1) := ⟨by omega, by omega, by omega⟩
  have hu : ∀ n : Int, (0 ≤ wrap64 (Go.bits .and .u64 (IntKind.u64.wrap n / 1099511627776) 255) ∧ wrap64 (Go.bits .and .u64 (IntKind.u64.wrap n / 1099511627776) 255) ≤ 255) := by
    intro n
    have h3 := wrap_u64_range n
    generalize IntKind.u64.wrap n = y at h3
    have h4 := and_255 (x := y / 1099511627776) (by omega) (by omega)
    generalize Go.bits .and .u64 (y / 1099511627776) 255 = z at h4
    rw [w64 (by omega) (by omega)]
    exact h4
  unfold spec_l1Cur_next.f
  rw [w1.out]
  by_cases c1 : a < (code.length : Int)
  · have hl := hc.1
    rw [if_pos c1, if_pos h0]
    have hx : 0 ≤ rd code a ∧ rd code a ≤ 255 := by
      unfold rd
      rw [gD_lt _ _ (by omega)]
      exact hc.2 _ (List.getElem_mem _)
    have hv : 0 ≤ wrap64 (rd code a) ∧ wrap64 (rd code a) ≤ 255 := by rw [w64 (by omega) (by omega)]; exact hx
    by_cases c2 : a + 1 ≤ (code.length : Int)
    · rw [if_pos c2]; exact ⟨_, _, _, rfl, hv, hA⟩
    · rw [if_neg c2]; exact ⟨_, _, _, rfl, hu _, hA⟩
  · rw [if_neg c1]
    by_cases c2 : a + 1 ≤ (code.length : Int)
    · rw [if_pos c2]; exact ⟨_, _, _, rfl, ⟨by omega, by omega⟩, hA⟩
    · rw [if_neg c2]; exact ⟨_, _, _, rfl, hu _, hA⟩
theorem pick_run {code : List Int} (hc : Bytes code) {M : Nat} {a s : Int} (ha : At M a) (hm : M + 2 ≤ 1000000) (n : Int) : ∃ v a' s', spec_l1Cur_pick.f code a s n = some (v, a', s') ∧ (0 ≤ v ∧ (v < n ∨ v = 0)) ∧ At (M + 2) a' := by
  unfold spec_l1Cur_pick.f
  by_cases c1 : n ≤ 1
  · rw [if_pos c1]; exact ⟨_, _, _, rfl, ⟨by omega, .inr rfl⟩, ha.le (by omega) hm⟩
  · rw [if_neg c1]
    obtain ⟨v, a1, s1, e1, hv, ha1⟩ := next_run hc (s := s) ha (by omega)
    rw [e1, Option.bind_some]
    by_cases c2 : n > 200
    · rw [if_pos c2]
      obtain ⟨v2, a2, s2, e2, hv2, ha2⟩ := next_run hc (s := s1) ha1 (by omega)
      try simp only []
      rw [e2, Option.bind_some, if_neg (by omega)]
      refine ⟨_, _, _, rfl, ?_, ha2⟩
      try simp only []
      rw [w64 (n := v * 256) (by omega) (by omega), w64 (by omega) (by omega)]
      exact ⟨Int.tmod_nonneg _ (by omega), .inl (Int.tmod_lt_of_pos _ (by omega))⟩
    · rw [if_neg c2, if_neg (by omega)]
      exact ⟨_, _, _, rfl, ⟨Int.tmod_nonneg _ hv.1, .inl (Int.tmod_lt_of_pos _ (by omega))⟩, ha1.le (by omega) (by omega)⟩
theorem one_run {code : List Int} (hc : Bytes code) {M : Nat} {a s : Int} (ha : At M a) (hm : M + 2 ≤ 1000000) (n : Int) : ∃ (v : Bool) (a' s' : Int), spec_l1Cur_one.f code a s n = some (v, a', s') ∧ At (M + 2) a' := by
  obtain ⟨v, a1, s1, e1, hv, ha1⟩ := pick_run hc (s := s) ha hm n
  unfold spec_l1Cur_one.f
  rw [e1, Option.bind_some]
  exact ⟨_, _, _, rfl, ha1⟩
theorem among_run {code : List Int} (hc : Bytes code) {M : Nat} {a s : Int} (ha : At M a) (hm : M + 2 ≤ 1000000) {l : List Int} (hl : l ≠ []) : ∃ v a' s', spec_l1Cur_among.f code a s l = some (v, a', s') ∧ v ∈ l ∧ At (M + 2) a' := by
  obtain ⟨v, a1, s1, e1, hv, ha1⟩ := pick_run hc (s := s) ha hm (l.length : Int)
  have hp : 0 < l.length := List.length_pos_iff.2 hl
  unfold spec_l1Cur_among.f
  rw [e1, Option.bind_some]
  try simp only []
  rw [if_pos hv.1, if_pos (by omega)]
  refine ⟨_, _, _, rfl, ?_, ha1⟩
  unfold rd
  rw [gD_lt _ _ (by omega)]
  exact List.getElem_mem _
theorem sides_run {code : List Int} (hc : Bytes code) {M : Nat} {a s : Int} (ha : At M a) (hm : M + 4 ≤ 1000000) : ∃ v a' s', spec_l1Cur_sides.f code a s = some (v, a', s') ∧ (1 ≤ v ∧ v ≤ 6) ∧ At (M + 4) a' := by
  unfold spec_l1Cur_sides.f
  obtain ⟨b, a1, s1, e1, ha1⟩ := one_run hc (s := s) ha (by omega) 8
  rw [e1, Option.bind_some]
  cases b with
  | true => exact ⟨_, _, _, rfl, ⟨by omega, by omega⟩, ha1.le (by omega) (by omega)⟩
  | false =>
    obtain ⟨v, a2, s2, e2, hv, ha2⟩ := pick_run hc (s := s1) ha1 (by omega) 5
    try simp only []
    rw [if_neg (by simp), e2, Option.bind_some]
    refine ⟨_, _, _, rfl, ?_, ha2⟩
    rw [w64 (by omega) (by omega)]
    omega
def Drawn (n M : Nat) (x : Int × Int × List Int × Int × Int) : Prop := x.2.2.1.length ≤ n ∧ At M x.2.2.2.1
def DrawnN (n M : Nat) (x : Int × Int × List Int × Int × Int) : Prop := x.2.2.1.length = n ∧ At M x.2.2.2.1
theorem boardOf_l0 {code : List Int} (hc : Bytes code) {C : Nat} (hC : C ≤ 6) (n : Nat) (hn : n ≤ 8) (r0 c0 : Int) : ∀ (d i M : Nat) (a s : Int) (l : List Int), i + d = n → l.length = n → At M a → M + 6 * d ≤ 1000000 → Run (fun k => spec_l1Cur_boardOf.l0 k (C : Int) (n : Int) (i : Int) code a s r0 c0 l) (DrawnN n (M + 6 * d))
  | 0, i, M, a, s, l, hi, hl, ha, hm => by
    refine Run.step (f := fun _ => some (r0, c0, l, a, s)) (fun k => ?_) (Run.now ⟨hl, by simpa using ha⟩)
    rw [spec_l1Cur_boardOf.l0, if_neg (by omega)]
  | d + 1, i, M, a, s, l, hi, hl, ha, hm => by
    have w1 := Aside0.mk (show wrap64 ((i : Int) + 1) = ((i + 1 : Nat) : Int) from by rw [w64 (by omega) (by omega)]; rfl)
    obtain ⟨v, a1, s1, e1, hv, ha1⟩ := pick_run hc (s := s) ha (by omega) (shl .i64 1 (C : Int))
    obtain ⟨b, a2, s2, e2, ha2⟩ := one_run hc (s := s1) ha1 (by omega) 3
    cases b with
    | true =>
      obtain ⟨v3, a3, s3, e3, hv3, ha3⟩ := pick_run hc (s := s2) ha2 (by omega) (wrap64 ((C : Int) + 1))
      refine Run.step (fun k => ?_) ((boardOf_l0 hc hC n hn r0 c0 d (i + 1) (M + 6) a3 s3 ((l.set (i : Int).toNat v).set (i : Int).toNat (wrap64 (shl .i64 1 v3 - 1))) (by omega) (by rw [List.length_set, List.length_set]; exact hl) ha3 (by omega)).mono (fun x hx => ⟨hx.1, hx.2.le (by omega) (by omega)⟩))
      rw [spec_l1Cur_boardOf.l0, if_pos (by omega), if_pos (by omega), e1, Option.bind_some, if_pos (by omega), if_pos (by omega), Option.bind_some, e2, Option.bind_some, if_pos rfl, e3, Option.bind_some, if_pos hv3.1, w1.out]
    | false =>
      refine Run.step (fun k => ?_) ((boardOf_l0 hc hC n hn r0 c0 d (i + 1) (M + 6) a2 s2 (l.set (i : Int).toNat v) (by omega) (by rw [List.length_set]; exact hl) (ha2.le (by omega) (by omega)) (by omega)).mono (fun x hx => ⟨hx.1, hx.2.le (by omega) (by omega)⟩))
      rw [spec_l1Cur_boardOf.l0, if_pos (by omega), if_pos (by omega), e1, Option.bind_some, if_pos (by omega), if_pos (by omega), Option.bind_some, e2, Option.bind_some, if_neg (by simp), w1.out]
theorem boardOf_run {code : List Int} (hc : Bytes code) {M : Nat} {a s r c : Int} (ha : At M a) (hm : M + 36 ≤ 1000000) (hr : 1 ≤ r ∧ r ≤ 6) (hcc : 1 ≤ c ∧ c ≤ 6) : Run (fun k => spec_l1Cur_boardOf.f k code a s r c) (fun x => (1 ≤ x.2.2.1.length ∧ x.2.2.1.length ≤ 6) ∧ At (M + 36) x.2.2.2.1) := by
  obtain ⟨R, rfl⟩ : ∃ R : Nat, r = R := ⟨r.toNat, by omega⟩
  obtain ⟨C, rfl⟩ : ∃ C : Nat, c = C := ⟨c.toNat, by omega⟩
  have he : spec_boEmpty.f (R : Int) (C : Int) = some ((R : Int), (C : Int), List.replicate R 0) := by unfold spec_boEmpty.f; rw [if_pos (by omega), if_pos (by omega), Int.toNat_natCast]
  unfold spec_l1Cur_boardOf.f
  have h := boardOf_l0 hc (C := C) (by omega) R (by omega) R C R 0 M a s (List.replicate R 0) (by omega) (by simp) ha (by omega)
  refine Run.congr (fun k => ?_) (h.mono (Q := fun x => (1 ≤ x.2.2.1.length ∧ x.2.2.1.length ≤ 6) ∧ At (M + 36) x.2.2.2.1) (fun x hx => ⟨by have := hx.1; omega, hx.2.le (by omega) (by omega)⟩))
  rw [he, Option.bind_some]
  try simp only [List.length_replicate]
  try rfl
theorem pick_R {code : List Int} (hc : Bytes code) {M : Nat} {a s : Int} (ha : At M a) (hm : M + 2 ≤ 1000000) (n : Int) : Run (fun _ => spec_l1Cur_pick.f code a s n) (fun x => (0 ≤ x.1 ∧ (x.1 < n ∨ x.1 = 0)) ∧ At (M + 2) x.2.1) := by
  obtain ⟨v, a1, s1, e1, hv, ha1⟩ := pick_run hc (s := s) ha hm n
  exact ⟨_, Ev.congr (fun _ => e1) (Ev.now _), hv, ha1⟩
theorem one_R {code : List Int} (hc : Bytes code) {M : Nat} {a s : Int} (ha : At M a) (hm : M + 2 ≤ 1000000) (n : Int) : Run (fun _ => spec_l1Cur_one.f code a s n) (fun x => At (M + 2) x.2.1) := by
  obtain ⟨v, a1, s1, e1, ha1⟩ := one_run hc (s := s) ha hm n
  exact ⟨_, Ev.congr (fun _ => e1) (Ev.now _), ha1⟩
theorem among_R {code : List Int} (hc : Bytes code) {M : Nat} {a s : Int} (ha : At M a) (hm : M + 2 ≤ 1000000) {l : List Int} (hl : l ≠ []) : Run (fun _ => spec_l1Cur_among.f code a s l) (fun x => x.1 ∈ l ∧ At (M + 2) x.2.1) := by
  obtain ⟨v, a1, s1, e1, hv, ha1⟩ := among_run hc (s := s) ha hm hl
  exact ⟨_, Ev.congr (fun _ => e1) (Ev.now _), hv, ha1⟩
theorem sides_R {code : List Int} (hc : Bytes code) {M : Nat} {a s : Int} (ha : At M a) (hm : M + 4 ≤ 1000000) : Run (fun _ => spec_l1Cur_sides.f code a s) (fun x => (1 ≤ x.1 ∧ x.1 ≤ 6) ∧ At (M + 4) x.2.1) := by
  obtain ⟨v, a1, s1, e1, hv, ha1⟩ := sides_run hc (s := s) ha hm
  exact ⟨_, Ev.congr (fun _ => e1) (Ev.now _), hv, ha1⟩
theorem board_run {code : List Int} (hc : Bytes code) {M : Nat} {a s : Int} (ha : At M a) (hm : M + 50 ≤ 1000000) : Run (fun k => spec_l1Cur_board.f k code a s) (Drawn 7 (M + 50)) := by
  unfold spec_l1Cur_board.f
  refine Run.bind (sides_R hc ha (by omega)) ?_
  rintro ⟨r, a1, s1⟩ ⟨hr, ha1⟩
  refine Run.bind (sides_R hc ha1 (by omega)) ?_
  rintro ⟨c, a2, s2⟩ ⟨hcc, ha2⟩
  refine Run.bind (boardOf_run hc ha2 (by omega) hr hcc) ?_
  rintro ⟨r1, c1, l, a3, s3⟩ ⟨hl, ha3⟩
  simp only [] at hl
  refine Run.bind (pick_R hc ha3 (by omega) 18) ?_
  rintro ⟨v, a4, s4⟩ ⟨hv, ha4⟩
  refine Run.ite (fun _ => ?_) (fun _ => Run.ite (fun _ => ?_) (fun _ => Run.ite (fun _ => ?_) (fun _ => Run.ite (fun _ => ?_) (fun _ => ?_))))
  · refine Run.bind (among_R hc ha4 (by omega) (by simp)) ?_
    rintro ⟨x, a5, s5⟩ ⟨hx, ha5⟩
    exact Run.now ⟨by simp only []; omega, ha5.le (by omega) (by omega)⟩
  · refine Run.bind (among_R hc ha4 (by omega) (by simp)) ?_
    rintro ⟨x, a5, s5⟩ ⟨hx, ha5⟩
    exact Run.now ⟨by simp only []; omega, ha5.le (by omega) (by omega)⟩
  · refine Run.bind (pick_R hc ha4 (by omega) (l.length : Int)) ?_
    rintro ⟨v5, a5, s5⟩ ⟨hv5, ha5⟩
    refine Run.bind (among_R hc ha5 (by omega) (by simp)) ?_
    rintro ⟨x, a6, s6⟩ ⟨hx, ha6⟩
    simp only [] at hv5
    have hlt : v5 < (l.length : Int) := by omega
    refine Run.congr (fun k => (if_pos hv5.1).trans (if_pos hlt)) (Run.now ⟨by simp only [List.length_set]; omega, ha6.le (by omega) (by omega)⟩)
  · exact Run.congr (fun k => if_pos (by simp only []; omega)) (Run.now ⟨by simp only [List.length_append, List.length_singleton]; omega, ha4.le (by omega) (by omega)⟩)
  · exact Run.now ⟨by simp only []; omega, ha4.le (by omega) (by omega)⟩
end Go.Proofs.Ytiopnmgcajohfaa.DrawK
end
section
namespace Go.Proofs.Ytiopnmgcajohfaa.DrawK
set_option linter.unusedVariables false
open Go.RowKit Go.Proofs.Ytiopnmgcajohfaa.Q Go.Proofs.YtiopnmgcajohfaaW.PrintWords Go.Proofs.YtiopnmgcajohfaaW.PrintLast Go.Proofs.YtiopnmgcajohfaaW.PrintMore
open Go.Proofs.YtiopnmgcajohfaaL Go.Proofs.Ytiopnmgcajohfaa.LawK Go.Proofs.Ytiopnmgcajohfaa.BoardK
theorem square4_run {code : List Int} (hc : Bytes code) {M : Nat} {a s : Int} (ha : At M a) (hm : M + 60 ≤ 1000000) : Run (fun k => spec_l1Cur_square4.f k code a s) (Drawn 7 (M + 60)) := by
  unfold spec_l1Cur_square4.f
  refine Run.bind (one_R hc ha (by omega) 10) ?_
  rintro ⟨b, a1, s1⟩ ha1
  refine Run.ite (fun _ => ?_) (fun _ => ?_)
  · refine Run.bind (board_run hc ha1 (by omega)) ?_
    rintro ⟨r1, c1, l, a3, s3⟩ ⟨hl, ha3⟩
    exact Run.now ⟨hl, ha3.le (by omega) (by omega)⟩
  · refine Run.bind (pick_R hc ha1 (by omega) 5) ?_
    rintro ⟨v, a2, s2⟩ ⟨hv, ha2⟩
    simp only [] at hv
    have hw : 1 ≤ wrap64 (1 + v) ∧ wrap64 (1 + v) ≤ 6 := by rw [w64 (by omega) (by omega)]; omega
    refine Run.bind (boardOf_run hc ha2 (by omega) hw hw) ?_
    rintro ⟨r1, c1, l, a3, s3⟩ ⟨hl, ha3⟩
    simp only [] at hl
    exact Run.now ⟨by simp only []; omega, ha3.le (by omega) (by omega)⟩
theorem own4 {x : List Int} (h : x.length ≤ 1000) : spec_l1Own.f x = some x := by
  unfold spec_l1Own.f
  rw [Option.bind_some, List.length_nil, if_pos (by omega), List.nil_append]
theorem order4_j1 {code : List Int} (hc : Bytes code) {M : Nat} {a s n : Int} {x : List Int} (hx : x.length ≤ 6) (b : Bool) (hb : b = true → 0 < x.length) (ha : At M a) (hm : M + 10 ≤ 1000000) : Run (fun k => spec_l1Cur_order4.j1 k n x b code a s) (fun y => y.1.length ≤ 6 ∧ At (M + 10) y.2.1) := by
  cases b with
  | false =>
    refine Run.step (f := fun _ => some (x, a, s)) (fun k => ?_) (Run.now ⟨hx, ha.le (by omega) (by omega)⟩)
    rw [spec_l1Cur_order4.j1, if_neg (by simp)]
  | true =>
    have hp := hb rfl
    refine Run.step (fun k => by rw [spec_l1Cur_order4.j1, if_pos rfl]) ?_
    refine Run.bind (pick_R hc ha (by omega) (x.length : Int)) ?_
    rintro ⟨v, a1, s1⟩ ⟨hv, ha1⟩
    refine Run.bind (among_R hc ha1 (by omega) (by simp)) ?_
    rintro ⟨y, a2, s2⟩ ⟨hy, ha2⟩
    simp only [] at hv
    exact Run.congr (fun k => (if_pos hv.1).trans (if_pos (by omega))) (Run.now ⟨by simp only [List.length_set]; omega, ha2.le (by omega) (by omega)⟩)
theorem order4_l0 {code : List Int} (hc : Bytes code) {n : Nat} (hn : n ≤ 6) : ∀ (d i M : Nat) (a s : Int) (x : List Int), i + d = n → x.length = i → At M a → M + 2 * d + 20 ≤ 1000000 → Run (fun k => spec_l1Cur_order4.l0 k (n : Int) x (i : Int) code a s) (fun y => y.1.length ≤ 6)
  | 0, i, M, a, s, x, hi, hx, ha, hm => by
    refine Run.step (fun k => by rw [spec_l1Cur_order4.l0, if_neg (by omega)]) ?_
    refine Run.ite (fun hp => ?_) (fun _ => (order4_j1 hc (by omega) false (by simp) ha (by omega)).mono (fun y hy => hy.1))
    refine Run.bind (one_R hc ha (by omega) 15) ?_
    rintro ⟨b, a1, s1⟩ ha1
    exact (order4_j1 hc (by omega) b (fun _ => by omega) ha1 (by omega)).mono (fun y hy => hy.1)
  | d + 1, i, M, a, s, x, hi, hx, ha, hm => by
    have w1 := Aside0.mk (show wrap64 ((i : Int) + 1) = ((i + 1 : Nat) : Int) from by rw [w64 (by omega) (by omega)]; rfl)
    obtain ⟨v, a1, s1, e1, hv, ha1⟩ := pick_run hc (s := s) ha (by omega) (((i + 1 : Nat) : Int))
    have hvx : v ≤ (x.length : Int) := by omega
    have hl1 : (x.take v.toNat).length ≤ 6 := by rw [List.length_take]; omega
    have hl2 : ((x.take v.toNat ++ [(i : Int)]) ++ x.drop v.toNat).length = i + 1 := by simp only [List.length_append, List.length_take, List.length_drop, List.length_singleton]; omega
    have hl3 := hl2
    rw [List.length_append] at hl3
    refine Run.step (fun k => ?_) (order4_l0 hc hn d (i + 1) (M + 2) a1 s1 ((x.take v.toNat ++ [(i : Int)]) ++ x.drop v.toNat) (by omega) hl2 ha1 (by omega))
    rw [spec_l1Cur_order4.l0, if_pos (by omega), w1.out, e1, Option.bind_some, if_pos hv.1, if_pos hvx, own4 (x := x.take v.toNat) (by omega), Option.bind_some, if_pos (show (x.take v.toNat).length < 17592186044416 by omega), Option.bind_some, Option.bind_some, if_pos (show (x.take v.toNat ++ [(i : Int)]).length + (x.drop v.toNat).length < 17592186044416 by omega)]
theorem order4_run {code : List Int} (hc : Bytes code) {M : Nat} {a s n : Int} (h0 : 0 ≤ n) (h6 : n ≤ 6) (ha : At M a) (hm : M + 100 ≤ 1000000) : Run (fun k => spec_l1Cur_order4.f k code a s n) (fun y => y.1.length ≤ 6) := by
  obtain ⟨N, rfl⟩ : ∃ N : Nat, n = N := ⟨n.toNat, by omega⟩
  unfold spec_l1Cur_order4.f
  exact order4_l0 hc (by omega) N 0 M a s [] (by omega) rfl ha (by omega)
end Go.Proofs.Ytiopnmgcajohfaa.DrawK
end
section
namespace Go.Proofs.Ytiopnmgcajohfaa.DrawK
set_option linter.unusedVariables false
open Go.RowKit Go.Proofs.Ytiopnmgcajohfaa.Q Go.Proofs.YtiopnmgcajohfaaW.PrintWords Go.Proofs.YtiopnmgcajohfaaW.PrintLast Go.Proofs.YtiopnmgcajohfaaW.PrintMore
open Go.Proofs.YtiopnmgcajohfaaL Go.Proofs.Ytiopnmgcajohfaa.LawK
theorem kSame_l0 {a b : List Int} (hl : a.length ≤ 4611686018427387904) (h : a.length = b.length) : ∀ (d i : Nat), i + d = a.length → a.take i = b.take i → Ev (fun k => laws_kSame.l0 k a b (a.length : Int) i) (decide (a = b))
  | 0, i, hi, ht => by
    refine Ev.step (f := fun _ => some (decide (a = b))) (fun k => ?_) (Ev.now _)
    rw [laws_kSame.l0, if_neg (by omega)]
    rw [List.take_of_length_le (by omega), List.take_of_length_le (by omega)] at ht
    simp [ht]
  | d + 1, i, hi, ht => by
    have h1 : wrap64 ((i : Int) + 1) = ((i + 1 : Nat) : Int) := by rw [w64 (by omega) (by omega)]; rfl
    have hi2 : i < a.length := by omega
    by_cases e : a[i] = b[i]'(by omega)
    · refine Ev.step (fun k => ?_) (kSame_l0 hl h d (i + 1) (by omega) (by rw [List.take_succ_eq_append_getElem (by omega), List.take_succ_eq_append_getElem (by omega), ht, e]))
      rw [laws_kSame.l0, if_pos (by omega), if_pos (by omega), if_pos (by omega), if_pos (by omega), rd_lt _ _ hi2, rd_lt _ _ (by omega), if_pos e, h1]
    · have : a ≠ b := fun hab => e (by simp [hab])
      rw [decide_eq_false this]
      refine Ev.step (f := fun _ => some false) (fun k => ?_) (Ev.now _)
      rw [laws_kSame.l0, if_pos (by omega), if_pos (by omega), if_pos (by omega), if_pos (by omega), rd_lt _ _ hi2, rd_lt _ _ (by omega), if_neg e]
theorem kSame {a b : List Int} (hl : a.length ≤ 4611686018427387904) : Ev (fun k => laws_kSame.f k a b) (decide (a = b)) := by
  unfold laws_kSame.f
  by_cases h : a.length = b.length
  · exact Ev.congr (fun k => if_pos (by omega)) (kSame_l0 hl h a.length 0 (by omega) (by simp))
  · have : a ≠ b := fun hab => h (by simp [hab])
    rw [decide_eq_false this]
    exact Ev.congr (fun k => if_neg (by omega)) (Ev.now _)
theorem kSame_self {a : List Int} (hl : a.length ≤ 4611686018427387904) : Ev (fun k => laws_kSame.f k a a) true := by
  have := kSame (a := a) (b := a) hl
  rw [decide_eq_true rfl] at this
  exact this
theorem big_f (l0 l1 : List Int) (h1 : l1.length ≤ 4611686018427387904) : laws_big.f l0 l1 = some true ∨ laws_big.f l0 l1 = some false ∧ l0.length ≤ 1048576 ∧ l1.length ≤ 1048576 := by
  unfold laws_big.f
  by_cases h : (l0.length : Int) > 1048576
  · exact .inl (if_pos h)
  · rw [if_neg h, w64 (by omega) (by omega)]
    by_cases h2 : (l1.length : Int) > 1048576 - (l0.length : Int)
    · exact .inl (by rw [decide_eq_true h2])
    · exact .inr ⟨by rw [decide_eq_false h2], by omega, by omega⟩
theorem byte_of {x : Int} (h : (Lit.int .u8 x).wf = true) : 0 ≤ x ∧ x ≤ 255 := by
  simp [Lit.wf, IntKind.min, IntKind.max, IntKind.signed, IntKind.bits] at h
  omega
end Go.Proofs.Ytiopnmgcajohfaa.DrawK
end
section
namespace Go.Proofs.Ytiopnmgcajohfaa.Pure
set_option linter.unusedVariables false
open Go.RowKit Go.Proofs.Ytiopnmgcajohfaa.Q Go.Proofs.YtiopnmgcajohfaaW.PrintWords Go.Proofs.YtiopnmgcajohfaaW.PrintLast Go.Proofs.YtiopnmgcajohfaaW.PrintMore
open Go.Proofs.YtiopnmgcajohfaaL Go.Proofs.Ytiopnmgcajohfaa.LawK Go.Proofs.Ytiopnmgcajohfaa.BoardK Go.Proofs.Ytiopnmgcajohfaa.PermK Go.Proofs.Ytiopnmgcajohfaa.Walk Go.Proofs.Ytiopnmgcajohfaa.HN Go.Proofs.Ytiopnmgcajohfaa.HitAllK Go.Proofs.Ytiopnmgcajohfaa.PermHitK Go.Proofs.Ytiopnmgcajohfaa.HitLawK Go.Proofs.Ytiopnmgcajohfaa.DrawK
namespace PermsHitK
theorem rdR {xs : List (List Int)} {i : Nat} (h : i < xs.length) : rd_L1 xs (i : Int) = xs[i] := by unfold rd_L1; rw [Int.toNat_natCast]; exact gD_lt _ _ h
theorem kRows_l0 {a : List (List Int)} (hl : a.length ≤ 4611686018427387904) (hx : ∀ x ∈ a, x.length ≤ 4611686018427387904) : ∀ (d i : Nat), i + d = a.length → Ev (fun k => laws_kRows.l0 k a a (a.length : Int) i) true
  | 0, i, hi => Ev.step (f := fun _ => some true) (fun k => by rw [laws_kRows.l0, if_neg (by omega)]) (Ev.now _)
  | d + 1, i, hi => by
    have h1 : wrap64 ((i : Int) + 1) = ((i + 1 : Nat) : Int) := by rw [w64 (by omega) (by omega)]; rfl
    have hi2 : i < a.length := by omega
    refine Ev.step (f := fun k => (laws_kSame.f k a[i] a[i]).bind fun t => if t = true then laws_kRows.l0 k a a (a.length : Int) ((i + 1 : Nat) : Int) else some false) (fun k => ?_) ?_
    · rw [laws_kRows.l0, if_pos (by omega), if_pos (by omega), if_pos (by omega), if_pos (by omega), rdR hi2, h1]
    · exact Ev.bind (kSame_self (hx _ (List.getElem_mem hi2))) (Ev.congr (fun k => if_pos rfl) (kRows_l0 hl hx d (i + 1) (by omega)))
theorem kRows {a : List (List Int)} (hl : a.length ≤ 4611686018427387904) (hx : ∀ x ∈ a, x.length ≤ 4611686018427387904) : Ev (fun k => laws_kRows.f k a a) true := by
  unfold laws_kRows.f
  exact Ev.congr (fun k => if_pos rfl) (kRows_l0 hl hx a.length 0 (by omega))
theorem kLess_l0 {a b : List Int} (hl : a.length ≤ 4611686018427387904) (h : a.length = b.length) : ∀ (d i : Nat), i + d = a.length → Ev (fun k => laws_kLess.l0 k a b (a.length : Int) i) (lexB (a.drop i) (b.drop i))
  | 0, i, hi => by
    rw [List.drop_of_length_le (by omega), List.drop_of_length_le (by omega)]
    exact Ev.step (f := fun _ => some false) (fun k => by rw [laws_kLess.l0, if_neg (by omega)]) (Ev.now _)
  | d + 1, i, hi => by
    have h1 : wrap64 ((i : Int) + 1) = ((i + 1 : Nat) : Int) := by rw [w64 (by omega) (by omega)]; rfl
    have hi1 : i < a.length := by omega
    have hi2 : i < b.length := by omega
    rw [List.drop_eq_getElem_cons hi1, List.drop_eq_getElem_cons hi2, lexB]
    by_cases e : a[i] = b[i]
    · rw [if_pos e]
      refine Ev.step (fun k => ?_) (kLess_l0 hl h d (i + 1) (by omega))
      rw [laws_kLess.l0, if_pos (by omega), if_pos (by omega), if_pos (by omega), if_pos (by omega), rd_lt _ _ hi1, rd_lt _ _ hi2, if_pos e, h1]
    · rw [if_neg e]
      refine Ev.step (f := fun _ => some (decide (a[i] < b[i]))) (fun k => ?_) (Ev.now _)
      rw [laws_kLess.l0, if_pos (by omega), if_pos (by omega), if_pos (by omega), if_pos (by omega), rd_lt _ _ hi1, rd_lt _ _ hi2, if_neg e]
theorem kLess {a b : List Int} (hl : a.length ≤ 4611686018427387904) (h : a.length = b.length) : Ev (fun k => laws_kLess.f k a b) (lexB a b) := by
  have := kLess_l0 hl h a.length 0 (by omega)
  exact this
theorem zero_at : At 0 0 := ⟨by omega, by omega, by omega⟩
theorem draw_ph {code : List Int} (hc : Bytes code) : Run (fun k => spec_DrawPermutationsHitting.f k code) (fun x => x.2.2.1.length ≤ 7) := by
  unfold spec_DrawPermutationsHitting.f
  refine Run.bind (square4_run hc zero_at (by omega)) ?_
  rintro ⟨r, c, l, a, s⟩ ⟨hl, ha⟩
  refine Run.bind (among_R hc ha (by omega) (by simp)) ?_
  rintro ⟨v, a1, s1⟩ ⟨hv, ha1⟩
  exact Run.now hl
theorem draw_hits {code : List Int} (hc : Bytes code) : Run (fun k => spec_DrawHitsOf.f k code) (fun x => x.2.2.1.length ≤ 7 ∧ x.2.2.2.length ≤ 6) := by
  unfold spec_DrawHitsOf.f
  refine Run.bind (square4_run hc zero_at (by omega)) ?_
  rintro ⟨r, c, l, a, s⟩ ⟨hl, ha⟩
  simp only [] at hl
  refine Run.bind (P := fun t => t = isBoardB r c l) (Run.of (boGood (l := l) r c (by omega)) rfl) ?_
  rintro t rfl
  refine Run.ite (fun hb => ?_) (fun _ => ?_)
  · obtain ⟨R, C, rfl, rfl, hlR, h1R, hR, _⟩ := board_of hb
    refine Run.bind (order4_run hc (by omega) (by omega) ha (by omega)) ?_
    rintro ⟨p, a1, s1⟩ hp
    exact Run.now ⟨hl, hp⟩
  · refine Run.bind (order4_run hc (by omega) (by omega) ha (by omega)) ?_
    rintro ⟨p, a1, s1⟩ hp
    exact Run.now ⟨hl, hp⟩
theorem last {more : List Int} (hc : Bytes more) : Ev (fun k => (spec_DrawHitsOf.f k more).bind fun bt140 => ((impl_HitsOf.f k bt140.1 bt140.2.1 bt140.2.2.1 bt140.2.2.2).bind fun bt149 => ((spec_HitsOf.f k bt140.1 bt140.2.1 bt140.2.2.1 bt140.2.2.2).bind fun bt151 => (if (bt149.2 == bt151.2) = true then (some (bt149.1 == bt151.1)) else (some false))))) true := by
  obtain ⟨⟨r, c, l, p⟩, hd, hl, hp⟩ := draw_hits hc
  simp only [] at hl hp
  refine Ev.bind hd ?_
  refine Ev.bind (impl_hitsOf (by simp only []; omega)) (Ev.bind (spec_hitsOf (by simp only []; omega) (by simp only []; omega)) ?_)
  exact Ev.congr (fun k => by rw [if_pos (by simp), beq_self_eq_true]) (Ev.now _)
section
variable {l : List Int} {n : Int} (hs : squareB n n l = true) {k : Int} {more : List Int} (hc : Bytes more) {X : List (List Int)} (hX : X = hitting l k (permsOf l.length))
include hs hc hX
theorem rounds : ∀ (d i : Nat), i + d = X.length → Ev (fun g => laws_FnPermutationsHit.l0 g more k X X (X.length : Int) i n n l) true
  | 0, i, hi => by
    refine Ev.step (fun g => ?_) (last hc)
    rw [laws_FnPermutationsHit.l0, if_neg (by omega)]
  | d + 1, i, hi => by
    obtain ⟨q1, q2, q3, q4, q5⟩ := board_bits hs
    have hlen : X.length ≤ 117649 := by rw [hX]; exact Nat.le_trans (List.length_filter_le _ _) (perms_len q1)
    have h1 : wrap64 ((i : Int) + 1) = ((i + 1 : Nat) : Int) := by rw [w64 (by omega) (by omega)]; rfl
    have hi2 : i < X.length := by omega
    have hmem : X[i] ∈ hitting l k (permsOf l.length) := by rw [← hX]; exact List.getElem_mem hi2
    obtain ⟨hp1, hp2⟩ := List.mem_filter.1 hmem
    have hsh := perms_shape hp1
    have hans : hitsAnswer n n l X[i] = (k, true) := by
      unfold hitsAnswer
      rw [hs, ← q2, perms_perm hp1, Bool.true_and, if_pos rfl, of_decide_eq_true hp2]
    have hA := impl_hitsOf (r := n) (c := n) (l := l) (p := X[i]) (by omega)
    rw [hans] at hA
    have ih := rounds d (i + 1) (by omega)
    refine Ev.step (fun g => by rw [laws_FnPermutationsHit.l0, if_pos (by omega), if_pos (by omega), if_pos (by omega), rdR hi2, h1]) ?_
    refine Ev.bind hA ?_
    refine Ev.congr (fun g => by rw [if_pos rfl, if_pos rfl]) ?_
    by_cases h0 : (i : Int) > 0
    · have h2 : wrap64 ((i : Int) - 1) = ((i - 1 : Nat) : Int) := by rw [w64 (by omega) (by omega)]; omega
      have hj : i - 1 < X.length := by omega
      have hmj : X[i - 1] ∈ hitting l k (permsOf l.length) := by rw [← hX]; exact List.getElem_mem hj
      have hsj := perms_shape (List.mem_filter.1 hmj).1
      have hlt : lexB X[i - 1] X[i] = true := by
        have hp := hitting_sorted l k l.length
        rw [← hX, List.pairwise_iff_getElem] at hp
        exact hp (i - 1) i hj hi2 (by omega)
      have hK := kLess (a := X[i - 1]) (b := X[i]) (by omega) (by omega)
      rw [hlt] at hK
      refine Ev.congr (fun g => by rw [if_pos h0, h2, if_pos (by omega), if_pos (by omega), rdR hj]) ?_
      exact Ev.bind hK (Ev.congr (fun g => if_pos rfl) ih)
    · exact Ev.congr (fun g => if_neg h0) ih
end
end PermsHitK
open PermsHitK FirstHitK
theorem FnPermutationsHit : laws_FnPermutationsHit.Pure := by
  intro code more hcl _ hcw hml hm8 hmw
  unfold laws_FnPermutationsHit.f
  refine ends ?_
  rcases big_f code more (by omega) with hbig | ⟨hbig, h1, h2⟩
  · exact Ev.congr (fun k => by rw [hbig, Option.bind_some, if_pos rfl]) (Ev.now _)
  have hc : Bytes code := ⟨h1, fun x hx => byte_of (hcw x hx)⟩
  have hm : Bytes more := ⟨h2, fun x hx => byte_of (hmw x hx)⟩
  refine Ev.congr (fun k => by rw [hbig, Option.bind_some, if_neg (by simp)]) ?_
  obtain ⟨⟨r, c, l, q⟩, hd, hl⟩ := draw_ph hc
  simp only [] at hl
  refine Ev.bind hd ?_
  refine Ev.bind (show Ev (fun _ => impl_PermutationsHitting.f r c l q) (ans r c l q) from Ev.congr (fun _ => impl_f r c l q) (Ev.now _)) ?_
  refine Ev.bind (PermHitK.spec_answer (l := l) q (by omega)) ?_
  refine Ev.bind (show Ev (fun _ => impl_FirstHitting.f r c l q) (first r c l q) from Ev.congr (fun _ => FirstHitK.impl_answer r c l q) (Ev.now _)) ?_
  refine Ev.bind (spec_first (l := l) q (by omega)) ?_
  obtain ⟨hin1, hin2⟩ := @ans_in r c l q
  have hfl := first_len r c l q
  refine Ev.congr (fun k => by rw [if_neg (by simp)]) ?_
  refine Ev.bind (kRows (a := (ans r c l q).1) (by omega) (fun x hx => by have := hin2 x hx; omega)) ?_
  refine Ev.congr (fun k => by rw [if_pos rfl, if_neg (by simp)]) ?_
  refine Ev.bind (kSame_self (a := (first r c l q).1) (by omega)) ?_
  refine Ev.congr (fun k => if_pos rfl) ?_
  have hone : ((first r c l q).2 != decide ((((ans r c l q).1.length : Nat) : Int) > 0)) = false := by
    unfold first
    cases e : (ans r c l q).1 with
    | nil => simp
    | cons p t => simp
  simp only [] at hone ⊢
  rw [hone]
  refine Ev.step (fun k => by rw [laws_FnPermutationsHit.j0, if_neg (by simp)]) ?_
  by_cases ho : (ans r c l q).2 = true
  rotate_left
  · refine Ev.congr (fun k => if_neg ho) ?_
    exact last hm
  refine Ev.congr (fun k => if_pos ho) ?_
  have hsq : (squareB r c l && inR 0 6 q) = true := by
    unfold ans at ho
    by_cases h : (squareB r c l && inR 0 6 q) = true
    · exact h
    · rw [if_neg h] at ho; cases ho
  rw [Bool.and_eq_true] at hsq
  obtain ⟨q1, q2, q3, q4, q5⟩ := board_bits hsq.1
  have hq := of_decide_eq_true hsq.2
  have q4 : c = r := by omega
  subst q4
  obtain ⟨X, hX⟩ : ∃ X, X = hitting l q (permsOf l.length) := ⟨_, rfl⟩
  have hans : ans c c l q = (X, true) := by unfold ans; rw [hsq.1, hsq.2, Bool.true_and, if_pos rfl, hX]
  have hHN : (impl_HitNumbers.f c c l) = some (countsF l (l.length + 1) (permsOf l.length), true) := by
    rw [impl_answer_f, hitNumbers, if_pos hsq.1]
  obtain ⟨hcl2, hcg⟩ := hit_count q1
  obtain ⟨Q, rfl⟩ : ∃ Q : Nat, q = Q := ⟨q.toNat, by omega⟩
  rw [hans]
  simp only []
  have tail : ∀ (b : Bool), b = false → Ev (fun k => laws_FnPermutationsHit.j1 k more (Q : Int) X b c c l) true := by
    rintro b rfl
    refine Ev.step (fun k => by rw [laws_FnPermutationsHit.j1, if_neg (by simp)]) ?_
    exact rounds hsq.1 hm hX X.length 0 (by omega)
  have hXl : X.length ≤ 117649 := by rw [hans] at hin1; exact hin1
  have head : Ev (fun k => if (first c c l Q).2 = true then (if 0 < (X.length : Int) then ((laws_kSame.f k (first c c l Q).1 (rd_L1 X 0)).bind fun t133 => (laws_FnPermutationsHit.j1 k more (Q : Int) X (!t133) c c l)) else (none)) else (laws_FnPermutationsHit.j1 k more (Q : Int) X false c c l)) true := by
    unfold first
    rw [hans]
    simp only []
    cases e : X with
    | nil =>
      rw [e] at tail
      exact Ev.congr (fun k => if_neg (by simp)) (tail false rfl)
    | cons p t =>
      rw [e] at tail
      rw [hans, e] at hin2
      have hp := hin2 p (by simp)
      refine Ev.congr (fun k => (if_pos rfl).trans (if_pos (by simp))) ?_
      exact Ev.bind (kSame_self (a := p) (by omega)) (tail _ rfl)
  refine Ev.congr (fun k => by rw [hHN, Option.bind_some, if_pos rfl]) ?_
  simp only []
  by_cases hQ : Q < l.length + 1
  · refine Ev.congr (fun k => ?_) head
    have hrd : rd (countsF l (l.length + 1) (permsOf l.length)) (Q : Int) = (X.length : Int) := by
      rw [hX, ← hcg Q hQ]
      unfold rd
      rw [Int.toNat_natCast]
    rw [if_pos (by omega), if_pos (by omega), if_pos hrd, if_neg (by omega)]
  · have hXn : X = [] := by rw [hX]; exact hit_far q1 (by omega)
    refine Ev.congr (fun k => ?_) head
    rw [if_neg (by omega), if_pos (by omega), if_neg (by rw [hXn]; simp)]
end Go.Proofs.Ytiopnmgcajohfaa.Pure
end
