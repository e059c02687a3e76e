/- The program's CountCouples returns what the reference's returns, for all arguments. No conditions. -/
import Derived.Test.YtljcbimhdoklbaaR2
import Derived.Test.YtljcbimhdoklbaaCouples
namespace Go.Proofs.Ytljcbimhdoklbaa.Pure
open Go.RowKit Go.Proofs.Ytljcbimhdoklbaa.R Go.Proofs.YtljcbimhdoklbaaW.PrintWords Go.Proofs.YtljcbimhdoklbaaW.PrintLast Go.Proofs.YtljcbimhdoklbaaW.PrintMore
open Go.Proofs.YtljcbimhdoklbaaL Go.Proofs.Ytljcbimhdoklbaa.Couples

theorem pow_small {n : Nat} (hn : n ≤ 10) : 2 ^ n ≤ 1024 := by
  have : 2 ^ n ≤ 2 ^ 10 := Nat.pow_le_pow_right (by decide) hn
  omega
theorem l2_run {n r m : Nat} (hn : n ≤ 10) (hr : r < n) (hm : m < 2 ^ n) (w a b e f : Int) (ways : List Int) : ∀ (d c K : Nat) (x : List Int), c + d = n → x.length = 2 ^ n →
    impl_CountCouples.l2 (K + d + 1) n r x m w a b ways e f n c = impl_CountCouples.l1 K n r (cols n r m w d c x) a b ways e (wrap64 (f + 1))
  | 0, c, K, x, hc, _ => by
    rw [impl_CountCouples.l2, cols]
    rw [if_neg (by omega)]
  | d + 1, c, K, x, hc, hx => by
    have hs := pow_small hn
    have hcn : c < n := by omega
    have hmc := or_lt hm hcn
    have h2c : 2 ^ c ≤ 1024 := pow_small (by omega)
    have hw1 : wrap64 ((c : Int) + 1) = ((c + 1 : Nat) : Int) := by rw [w64 (by omega) (by omega)]; rfl
    have ih := l2_run hn hr hm w a b e f ways d (c + 1) K
    have hb : Go.bits .and .i64 (shr .i64 (m : Int) (c : Int)) 1 = if m.testBit c then 1 else 0 := bit_and m c (by omega) (by omega)
    have ho : Go.bits .or .i64 (m : Int) (shl .i64 1 (c : Int)) = ((m ||| 2 ^ c : Nat) : Int) := by
      rw [shl_one c (by omega)]; exact or_nat _ _ (by omega) (by omega)
    have hr1 : Int.tmod (wrap64 ((r : Int) + 1)) (n : Int) = (((r + 1) % n : Nat) : Int) := by
      rw [w64 (by omega) (by omega)]; exact tmod_nat (r + 1) n
    rw [show K + (d + 1) + 1 = (K + d + 1) + 1 by omega]
    rw [impl_CountCouples.l2, cols]
    rw [if_pos (by omega)]
    by_cases hw : w > 0
    · rw [if_pos hw, if_pos (by omega), hb]
      by_cases ht : m.testBit c = true
      · have ea : upd n r m w c x = x := by unfold upd; rw [if_neg (by unfold allowed; simp [ht])]
        rw [if_pos ht, if_neg (by decide), hw1, ea]
        exact ih x (by omega) hx
      · have ht' : m.testBit c = false := by simpa using ht
        rw [if_neg ht, if_pos rfl]
        by_cases h1 : c = r
        · have ea : upd n r m w c x = x := by unfold upd; rw [if_neg (by unfold allowed; simp [h1])]
          rw [if_pos (by omega), hw1, ea]
          exact ih x (by omega) hx
        · rw [if_neg (by omega), if_neg (by omega), hr1]
          by_cases h3 : c = (r + 1) % n
          · have ea : upd n r m w c x = x := by unfold upd; rw [if_neg (by unfold allowed; simp [← h3])]
            rw [if_pos (by omega), hw1, ea]
            exact ih x (by omega) hx
          · have ea : upd n r m w c x = x.set (m ||| 2 ^ c) (wrap64 (x.getD (m ||| 2 ^ c) 0 + w)) := by
              unfold upd; rw [if_pos ⟨hw, by unfold allowed; simp [ht', h1, h3]⟩]
            rw [if_neg (by omega), ho, if_pos (by omega), if_pos (by omega), hw1, rd_nat, Int.toNat_natCast, ea]
            exact ih _ (by omega) (by simpa using hx)
    · have ea : upd n r m w c x = x := by unfold upd; rw [if_neg (fun h => hw h.1)]
      rw [if_neg hw, hw1, ea]
      exact ih x (by omega) hx
theorem l1_run {n r : Nat} (hn : n ≤ 10) (hr : r < n) (a : Int) (ways : List Int) (hl : ways.length = 2 ^ n) : ∀ (d m K : Nat) (x : List Int), m + d = 2 ^ n → x.length = 2 ^ n →
    impl_CountCouples.l1 (K + d * (n + 2) + 1) n r x a r ways (ways.length : Int) m = impl_CountCouples.l0 K n (rowsF n r ways d m x) a (wrap64 ((r : Int) + 1))
  | 0, m, K, x, hm, _ => by
    rw [Nat.zero_mul, Nat.add_zero]
    rw [impl_CountCouples.l1, rowsF]
    rw [if_neg (by omega)]
  | d + 1, m, K, x, hm, hx => by
    have hs := pow_small hn
    have hw1 : wrap64 ((m : Int) + 1) = ((m + 1 : Nat) : Int) := by rw [w64 (by omega) (by omega)]; rfl
    rw [show K + (d + 1) * (n + 2) + 1 = ((K + d * (n + 2) + 1) + n + 1) + 1 by rw [Nat.add_mul]; omega]
    rw [impl_CountCouples.l1, rowsF]
    rw [if_pos (by omega), if_pos (by omega), if_pos (by omega), rd_nat]
    have := l2_run hn hr (by omega : m < 2 ^ n) (ways.getD m 0) a r (ways.length : Int) m ways n 0 (K + d * (n + 2) + 1) x (by omega) hx
    rw [show ((0 : Nat) : Int) = 0 from rfl] at this
    rw [this, hw1]
    exact l1_run hn hr a ways hl d (m + 1) K _ (by omega) (by rw [cols_length]; exact hx)
theorem l0_run {n : Nat} (hn : n ≤ 10) (h0 : 0 < n) : ∀ (d r K : Nat) (ways : List Int), r + d = n → ways.length = 2 ^ n →
    impl_CountCouples.l0 (K + d * (2 ^ n * (n + 2) + 2) + 1) n ways n r = some ((allF n d r ways).getD (2 ^ n - 1) 0, true)
  | 0, r, K, ways, hr, hl => by
    have hs := pow_small hn
    have hp : 0 < 2 ^ n := Nat.two_pow_pos n
    rw [Nat.zero_mul, Nat.add_zero]
    rw [impl_CountCouples.l0, allF]
    have e : wrap64 (shl .i64 1 (n : Int) - 1) = ((2 ^ n - 1 : Nat) : Int) := by rw [shl_one n (by omega), w64 (by omega) (by omega)]; omega
    rw [if_neg (by omega), if_pos (by omega), e, if_pos (by omega), if_pos (by omega), rd_nat]
  | d + 1, r, K, ways, hr, hl => by
    have hs := pow_small hn
    have hw1 : wrap64 ((r : Int) + 1) = ((r + 1 : Nat) : Int) := by rw [w64 (by omega) (by omega)]; rfl
    rw [show K + (d + 1) * (2 ^ n * (n + 2) + 2) + 1 = ((K + d * (2 ^ n * (n + 2) + 2) + 1) + 2 ^ n * (n + 2) + 1) + 1 by rw [Nat.add_mul]; omega]
    rw [impl_CountCouples.l0, allF]
    have e : shl .i64 1 (n : Int) = ((2 ^ n : Nat) : Int) := shl_one n (by omega)
    rw [if_pos (by omega), if_pos (by omega), e, if_pos (by omega), Int.toNat_natCast, if_pos (by omega)]
    have := l1_run hn (by omega : r < n) n ways hl (2 ^ n) 0 (K + d * (2 ^ n * (n + 2) + 2) + 1) (List.replicate (2 ^ n) 0) (by omega) (by simp)
    rw [show ((0 : Nat) : Int) = 0 from rfl] at this
    rw [this, hw1]
    exact l0_run hn h0 d (r + 1) K _ (by omega) (by rw [rowsF_length]; simp)
def rounds (n : Nat) : Nat := n * (2 ^ n * (n + 2) + 2) + 1
theorem impl_run {n : Nat} (h2 : 2 ≤ n) (hn : n ≤ 10) (K : Nat) : impl_CountCouples.f (K + rounds n) n = some ((Couples.look (tab n (2 ^ n - 1) 1) 0 : Int), true) := by
  have hs := pow_small hn
  have hp : 0 < 2 ^ n := Nat.two_pow_pos n
  have e : shl .i64 1 (n : Int) = ((2 ^ n : Nat) : Int) := shl_one n (by omega)
  unfold impl_CountCouples.f impl_within.f rounds
  rw [if_pos (by omega), Option.bind_some, if_pos (by simp; omega), if_pos (by omega), e, if_pos (by omega), Int.toNat_natCast, if_pos (by omega), Option.bind_some, if_pos (by rw [List.length_replicate]; omega)]
  rw [show (0 : Int).toNat = 0 from rfl, ← Nat.add_assoc]
  have := l0_run hn (by omega) n 0 K ((List.replicate (2 ^ n) 0).set 0 1) (by omega) (by simp)
  rw [show ((0 : Nat) : Int) = 0 from rfl] at this
  rw [this, value_law hn]
theorem spec_run : ∀ i : Fin 9, spec_CountCouples.f 40 ((i.val + 2 : Nat) : Int) = some ((([1, 0, 0, 1, 2, 13, 80, 579, 4738, 43387, 439792].getD (i.val + 2) 0 : Nat) : Int), true) := by
  decide +kernel
theorem spec_more (n : Int) (r : Int × Bool) (h : spec_CountCouples.f 40 n = some r) : ∀ j, spec_CountCouples.f (40 + j) n = some r
  | 0 => h
  | j + 1 => spec_CountCouples.mono n (40 + j) r (spec_more n r h j)

theorem FnExactCountCouples : laws_FnExactCountCouples.Pure := by
  intro n _
  by_cases h : 2 ≤ n ∧ n ≤ 10
  · obtain ⟨m, rfl⟩ : ∃ m : Nat, n = m := ⟨n.toNat, by omega⟩
    have h1 := spec_run ⟨m - 2, by omega⟩
    simp only at h1
    rw [show m - 2 + 2 = m by omega] at h1
    have h2 := spec_more _ _ h1 (rounds m)
    have h3 := impl_run (by omega : 2 ≤ m) (by omega) 40
    rw [values ⟨m, by omega⟩] at h3
    refine ⟨40 + rounds m, ?_⟩
    unfold laws_FnExactCountCouples.f
    rw [h2, h3]
    simp
  · refine ⟨1, ?_⟩
    unfold laws_FnExactCountCouples.f spec_CountCouples.f impl_CountCouples.f spec_l1In.f impl_within.f
    by_cases h1 : 2 ≤ n <;> by_cases h2 : n ≤ 10 <;> first
      | (exfalso; exact h ⟨h1, h2⟩)
      | simp [h1, h2]

end Go.Proofs.Ytljcbimhdoklbaa.Pure
