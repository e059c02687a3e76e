/- The reference's list of all permutations is that which the program's walk tells; its hit numbers count the same. No conditions. -/
import Derived.Test.YtiopnmgcajohfaaHNK
import Derived.Test.YtiopnmgcajohfaaQspechiNumbers
import Derived.Test.YtiopnmgcajohfaaQspechiAll
namespace Go.Proofs.Ytiopnmgcajohfaa.HitAllK
set_option linter.unusedVariables false
open Go.RowKit Go.Proofs.Ytiopnmgcajohfaa.Q Go.Proofs.YtiopnmgcajohfaaW.PrintWords Go.Proofs.YtiopnmgcajohfaaW.PrintLast Go.Proofs.YtiopnmgcajohfaaW.PrintMore
open Go.Proofs.YtiopnmgcajohfaaL Go.Proofs.Ytiopnmgcajohfaa.LawK Go.Proofs.Ytiopnmgcajohfaa.BoardK Go.Proofs.Ytiopnmgcajohfaa.PermK Go.Proofs.Ytiopnmgcajohfaa.Walk Go.Proofs.Ytiopnmgcajohfaa.HN

theorem evEq {α : Type} {g : Nat → Option α} {a b : α} (h : Ev g a) (e : a = b) : Ev g b := e ▸ h
def nextOf (pre : List Int) (f : List Int → List (List Int)) (x : Int) : List (List Int) := if x ∈ pre then [] else f (pre ++ [x])
/-- All ways to put d more of the numbers below n behind pre. -/
def allFrom (n : Nat) : Nat → List Int → List (List Int)
  | 0, pre => [pre]
  | d + 1, pre => (iota 0 n).flatMap (nextOf pre (allFrom n d))
theorem len_flat {α β : Type} (f : α → List β) (B : Nat) : ∀ (l : List α), (∀ x ∈ l, (f x).length ≤ B) → (l.flatMap f).length ≤ l.length * B
  | [], _ => by simp
  | a :: t, h => by
    rw [List.flatMap_cons, List.length_append, List.length_cons, Nat.succ_mul]
    have := len_flat f B t (fun x hx => h x (List.mem_cons_of_mem _ hx))
    have := h a List.mem_cons_self
    omega
theorem flat_congr {α β : Type} {f g : α → List β} : ∀ {l : List α}, (∀ x ∈ l, f x = g x) → l.flatMap f = l.flatMap g
  | [], _ => rfl
  | a :: t, h => by rw [List.flatMap_cons, List.flatMap_cons, h a List.mem_cons_self, flat_congr (fun x hx => h x (List.mem_cons_of_mem _ hx))]
theorem allFrom_len (n : Nat) : ∀ d pre, (allFrom n d pre).length ≤ n ^ d
  | 0, pre => by simp [allFrom]
  | d + 1, pre => by
    have := len_flat (nextOf pre (allFrom n d)) (n ^ d) (iota 0 n) (fun x _ => by
      unfold nextOf
      split
      · simp
      · exact allFrom_len n d _)
    rw [iota_length] at this
    rw [allFrom, Nat.pow_succ, Nat.mul_comm]
    exact this
theorem pow_le {n d : Nat} (hn : n ≤ 6) (hd : d ≤ 6) : n ^ d ≤ 46656 := by
  have h1 : n ^ d ≤ 6 ^ d := Nat.pow_le_pow_left hn d
  have h2 : 6 ^ d ≤ 6 ^ 6 := Nat.pow_le_pow_right (by decide) hd
  omega
theorem own_f {l : List Int} (h : l.length < 1000000) : spec_l1Own.f l = some l := by
  unfold spec_l1Own.f; rw [Option.bind_some, if_pos (by simp; omega)]; rfl
theorem iota_drop (n j : Nat) (hj : j < n) : (iota 0 n).drop j = (j : Int) :: (iota 0 n).drop (j + 1) := by
  rw [List.drop_eq_getElem_cons (by rw [iota_length]; exact hj), iota_get]; simp
theorem spec_all {n : Nat} (hn : n ≤ 6) : ∀ (d : Nat) (pre : List Int), pre.length + d = n → Ev (fun k => spec_hiAll.f k n pre) (allFrom n d pre)
  | 0, pre, h => by
    refine Ev.step (f := fun _ => some [pre]) (fun k => ?_) (Ev.now _)
    rw [spec_hiAll.f, if_pos (by omega), own_f (by omega), Option.bind_some]
  | d + 1, pre, h => by
    have key : ∀ (e j : Nat) (x : List (List Int)), j + e = n → x.length ≤ j * 46656 → Ev (fun k => spec_hiAll.l0 k n pre x j) (x ++ ((iota 0 n).drop j).flatMap (nextOf pre (allFrom n d))) := by
      intro e
      induction e with
      | zero =>
        intro j x hj hx
        refine Ev.step (f := fun _ => some x) (fun k => ?_) (evEq (Ev.now _) (by rw [List.drop_eq_nil_of_le (by rw [iota_length]; omega)]; simp))
        rw [spec_hiAll.l0, if_neg (by omega)]
      | succ e ih =>
        intro j x hj hx
        have h1 : wrap64 ((j : Int) + 1) = ((j + 1 : Nat) : Int) := by rw [w64 (by omega) (by omega)]; rfl
        rw [iota_drop n j (by omega), List.flatMap_cons]
        refine Ev.step (fun k => by rw [spec_hiAll.l0, if_pos (by omega)]) ?_
        refine Ev.bind (l1Has (j : Int) (by omega)) ?_
        by_cases hm : (j : Int) ∈ pre
        · refine Ev.congr (fun k => by rw [if_pos (by simpa using hm), h1]) ?_
          rw [show nextOf pre (allFrom n d) (j : Int) = [] by unfold nextOf; rw [if_pos hm], List.nil_append]
          exact ih (j + 1) x (by omega) (Nat.le_trans hx (Nat.mul_le_mul_right _ (by omega)))
        · rw [show nextOf pre (allFrom n d) (j : Int) = allFrom n d (pre ++ [(j : Int)]) by unfold nextOf; rw [if_neg hm]]
          have hlen := Nat.le_trans (allFrom_len n d (pre ++ [(j : Int)])) (pow_le hn (by omega))
          refine Ev.congr (fun k => by rw [if_neg (by simpa using hm), own_f (by omega), Option.bind_some, if_pos (by omega)]) ?_
          refine Ev.bind (spec_all hn d (pre ++ [(j : Int)]) (by simp; omega)) ?_
          refine Ev.congr (fun k => by rw [if_pos (by have : j ≤ 6 := by omega
                                                      have : j * 46656 ≤ 6 * 46656 := Nat.mul_le_mul_right _ this
                                                      omega), h1]) ?_
          rw [← List.append_assoc]
          exact ih (j + 1) _ (by omega) (by rw [List.length_append, Nat.add_mul, Nat.one_mul]; exact Nat.add_le_add hx hlen)
    have := key n 0 [] (by omega) (by simp)
    rw [List.drop_zero, List.nil_append] at this
    rw [allFrom]
    refine Ev.step (fun k => ?_) this
    rw [spec_hiAll.f, if_neg (by omega)]; rfl
theorem ways_shape (l : List Int) (C : Nat) : ∀ (d r t : Nat) (pre : List Int), ∀ q ∈ waysFrom l C d r t pre, ∃ s, q = pre ++ s ∧ s.length = d
  | 0, r, t, pre, q, hq => by rw [waysFrom, List.mem_singleton] at hq; exact ⟨[], by simp [hq], rfl⟩
  | d + 1, r, t, pre, q, hq => by
    rw [waysFrom, List.mem_flatMap] at hq
    obtain ⟨c, hc, hq⟩ := hq
    unfold colWays at hq
    split at hq
    · obtain ⟨s, h1, h2⟩ := ways_shape l C d (r + 1) _ _ q hq
      exact ⟨c :: s, by rw [h1]; simp, by simp [h2]⟩
    · split at hq
      · obtain ⟨s, h1, h2⟩ := ways_shape l C d (r + 1) _ _ q hq
        exact ⟨c :: s, by rw [h1]; simp, by simp [h2]⟩
      · cases hq
theorem cell_full {n r c : Nat} (hr : r < n) (hc : c < n) : cell (fullRows n) r c = true := by
  unfold cell fullRows
  rw [gD_lt _ _ (by simpa using hr), List.getElem_replicate]
  have e : ((2 : Int) ^ n - 1).toNat = 2 ^ n - 1 := by
    have : 0 < 2 ^ n := Nat.two_pow_pos n
    have e2 : ((2 ^ n : Nat) : Int) = 2 ^ n := by simp
    omega
  rw [e, Nat.testBit_two_pow_sub_one]
  simpa using hc
theorem filter_none {n d r t : Nat} {pre : List Int} (hp : pre.length + d = n) (h : (-1 : Int) ∈ pre) : (waysFrom (fullRows n) n d r t pre).filter (fun p => rooksN p == n) = [] := by
  rw [List.filter_eq_nil_iff]
  intro q hq
  obtain ⟨s, rfl, hs⟩ := ways_shape _ _ d r t pre q hq
  simp only [beq_iff_eq]
  intro he
  have h1 : rooksN (pre ++ s) = (pre ++ s).length := by rw [he, List.length_append]; omega
  have h2 := List.countP_eq_length.1 h1 (-1) (List.mem_append_left _ h)
  simp at h2
theorem ways_all {n : Nat} : ∀ (d r t : Nat) (pre : List Int), r + d = n → pre.length = r → (∀ x ∈ pre, 0 ≤ x) → (∀ c : Nat, t.testBit c = decide ((c : Int) ∈ pre)) →
    (waysFrom (fullRows n) n d r t pre).filter (fun p => rooksN p == n) = allFrom n d pre
  | 0, r, t, pre, hr, hp, hin, ht => by
    rw [waysFrom, allFrom, List.filter_cons, if_pos, List.filter_nil]
    rw [beq_iff_eq, show n = pre.length by omega]
    exact List.countP_eq_length.2 (fun x hx => by have := hin x hx; simp; omega)
  | d + 1, r, t, pre, hr, hp, hin, ht => by
    rw [waysFrom, allFrom, List.filter_flatMap]
    have e : iota (-1) (n + 1) = (-1) :: iota 0 n := rfl
    rw [e, List.flatMap_cons]
    have h1 : (colWays (fullRows n) r t pre (waysFrom (fullRows n) n d (r + 1)) (-1)).filter (fun p => rooksN p == n) = [] := by
      unfold colWays
      rw [if_pos (by omega)]
      exact filter_none (by simp; omega) (by simp)
    rw [h1, List.nil_append]
    apply flat_congr
    intro x hx
    obtain ⟨i, hi, e⟩ := List.mem_iff_getElem.1 hx
    rw [iota_get] at e
    rw [iota_length] at hi
    obtain rfl : (i : Int) = x := by omega
    unfold colWays nextOf
    rw [if_neg (by omega), Int.toNat_natCast, cell_full (by omega) hi, Bool.true_and, ht i]
    by_cases hm : (i : Int) ∈ pre
    · rw [if_neg (by simp [hm]), if_pos hm, List.filter_nil]
    · rw [if_pos (by simp [hm]), if_neg hm]
      refine ways_all d (r + 1) _ _ (by omega) (by simp; omega) (fun y hy => ?_) (fun c => ?_)
      · rcases List.mem_append.1 hy with hy | hy
        · exact hin y hy
        · rw [List.mem_singleton.1 hy]; omega
      · rw [Nat.testBit_or, ht c, Nat.testBit_two_pow, ← Bool.decide_or]
        apply decide_eq_decide.2
        rw [List.mem_append, List.mem_singleton]
        constructor
        · rintro (h | h)
          · exact .inl h
          · exact .inr (by omega)
        · rintro (h | h)
          · exact .inl h
          · exact .inr (by omega)
theorem permsOf_all (n : Nat) : permsOf n = allFrom n n [] := ways_all n 0 0 [] (by omega) rfl (by simp) (by simp)

theorem step_count (l : List Int) (o p : List Int) : o.set (hitsF l p 0 0).toNat (wrap64 (rd o (hitsF l p 0 0) + 1)) = o.set (hitsF l p 0 0).toNat (IntKind.i64.wrap (rdOf 0 o (hitsF l p 0 0) + 1)) := by rw [wrap_i64']; rfl
theorem spec_numbers {RI CI : Int} {l : List Int} (hs : squareB RI CI l = true) (L : List (List Int)) (hL : L.length ≤ 46656) (hin : ∀ p ∈ L, p.length = l.length ∧ ∀ x ∈ p, 0 ≤ x ∧ x < l.length) :
    ∀ (d i : Nat) (o : List Int), i + d = L.length → o.length = l.length + 1 → Ev (fun k => spec_hiNumbers.l0 k o L (L.length : Int) i RI CI l) ((L.drop i).foldl (fun o p => o.set (hitsF l p 0 0).toNat (IntKind.i64.wrap (rdOf 0 o (hitsF l p 0 0) + 1))) o)
  | 0, i, o, hi, ho => by
    refine Ev.step (f := fun _ => some o) (fun k => ?_) (evEq (Ev.now _) (by rw [List.drop_eq_nil_of_le (by omega)]; rfl))
    rw [spec_hiNumbers.l0, if_neg (by omega)]
  | d + 1, i, o, hi, ho => by
    obtain ⟨q1, q2, q3, q4, q5⟩ := board_bits hs
    have h1 : wrap64 ((i : Int) + 1) = ((i + 1 : Nat) : Int) := by rw [w64 (by omega) (by omega)]; rfl
    have hi2 : i < L.length := by omega
    obtain ⟨p1, p2⟩ := hin L[i] (List.getElem_mem hi2)
    have hb := hitsF_bound l L[i] 0 0
    have hh : Ev (fun k => spec_hiHits.f k RI CI l L[i]) (hitsF l L[i] 0 0) := by
      have := spec_hits (l := l) (p := L[i]) RI CI p1 q1 q5 (fun x hx => by have := p2 x hx; omega) L[i].length 0 0 (by omega) (by omega) (by omega)
      rw [List.drop_zero] at this
      exact this
    have hrd : rd_L1 L (i : Int) = L[i] := by unfold rd_L1; simp [hi2]
    rw [List.drop_eq_getElem_cons hi2, List.foldl_cons]
    refine Ev.step (fun k => by rw [spec_hiNumbers.l0, if_pos (by omega), if_pos (by omega), if_pos (by omega), hrd]) ?_
    refine Ev.bind hh ?_
    refine Ev.congr (fun k => by rw [if_pos (by omega), if_pos (by omega), h1, step_count]) ?_
    exact spec_numbers hs L hL hin d (i + 1) _ (by omega) (by simp [ho])
theorem spec_hiNumbers {RI CI : Int} {l : List Int} (hs : squareB RI CI l = true) : Ev (fun k => spec_hiNumbers.f k RI CI l) (countsF l (l.length + 1) (permsOf l.length)) := by
  obtain ⟨q1, q2, q3, q4, q5⟩ := board_bits hs
  unfold spec_hiNumbers.f
  have e : wrap64 (RI + 1) = ((l.length + 1 : Nat) : Int) := by rw [w64 (by omega) (by omega)]; omega
  refine Ev.congr (fun k => by rw [e, if_pos (by omega), if_pos (by omega), Int.toNat_natCast, ← q2]) ?_
  refine Ev.bind (spec_all q1 l.length [] (by simp)) ?_
  rw [← permsOf_all]
  have hlen : (permsOf l.length).length ≤ 46656 := by rw [permsOf_all]; exact Nat.le_trans (allFrom_len _ _ _) (pow_le q1 q1)
  have := spec_numbers hs (permsOf l.length) hlen (fun p hp => by
    obtain ⟨s, h1, h2⟩ := ways_shape _ _ _ _ _ _ p (List.mem_filter.1 hp).1
    have hp2 : p.length = l.length := by rw [h1]; simpa using h2
    exact ⟨hp2, perms_in hp hp2⟩) (permsOf l.length).length 0 (List.replicate (l.length + 1) 0) (by omega) (by simp)
  rw [List.drop_zero, ← q4, ← q2] at this
  rw [q2] at this
  refine Ev.congr (fun k => ?_) this
  rw [← q4, q2]; rfl

end Go.Proofs.Ytiopnmgcajohfaa.HitAllK
