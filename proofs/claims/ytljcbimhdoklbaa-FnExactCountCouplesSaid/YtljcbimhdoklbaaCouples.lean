/- How many ways couples can be seated, counted row by row over sets of columns, as a recursion; no program in sight. -/
import Derived.Test.YtljcbimhdoklbaaL
namespace Go.Proofs.Ytljcbimhdoklbaa.Couples
open Go.RowKit Go.Proofs.YtljcbimhdoklbaaL

def allowed (n r m c : Nat) : Bool := !m.testBit c && (c != r && c != (r + 1) % n)
/-- One column's step of the table. -/
def upd (n r m : Nat) (w : Int) (c : Nat) (x : List Int) : List Int :=
  if w > 0 ∧ allowed n r m c = true then x.set (m ||| 2 ^ c) (wrap64 (x.getD (m ||| 2 ^ c) 0 + w)) else x
def cols (n r m : Nat) (w : Int) : Nat → Nat → List Int → List Int
  | 0, _, x => x
  | d + 1, c, x => cols n r m w d (c + 1) (upd n r m w c x)
def rowsF (n r : Nat) (ways : List Int) : Nat → Nat → List Int → List Int
  | 0, _, x => x
  | d + 1, m, x => rowsF n r ways d (m + 1) (cols n r m (ways.getD m 0) n 0 x)
def allF (n : Nat) : Nat → Nat → List Int → List Int
  | 0, _, ways => ways
  | d + 1, r, ways => allF n d (r + 1) (rowsF n r ways (2 ^ n) 0 (List.replicate (2 ^ n) 0))

theorem upd_length (n r m : Nat) (w : Int) (c : Nat) (x : List Int) : (upd n r m w c x).length = x.length := by
  unfold upd; split <;> simp
theorem cols_length (n r m : Nat) (w : Int) : ∀ d c x, (cols n r m w d c x).length = x.length
  | 0, _, _ => rfl
  | d + 1, c, x => by rw [cols, cols_length, upd_length]
theorem rowsF_length (n r : Nat) (ways : List Int) : ∀ d m x, (rowsF n r ways d m x).length = x.length
  | 0, _, _ => rfl
  | d + 1, m, x => by rw [rowsF, rowsF_length, cols_length]

/-- A sum of entries times weights. -/
def wsum (f : Nat → Int) : Nat → List Int → Int
  | _, [] => 0
  | i, v :: t => v * f i + wsum f (i + 1) t
theorem wsum_set (f : Nat → Int) : ∀ (x : List Int) (i j : Nat) (v : Int), j < x.length → wsum f i (x.set j v) = wsum f i x + (v - x.getD j 0) * f (i + j)
  | [], _, _, _, h => by simp at h
  | a :: t, i, 0, v, _ => by simp [wsum, Int.sub_mul]; omega
  | a :: t, i, j + 1, v, h => by
    have := wsum_set f t (i + 1) j v (by simpa using h)
    simp only [List.set_cons_succ, wsum, this, List.getD_cons_succ]
    rw [show i + 1 + j = i + (j + 1) by omega]; omega
def Pos (x : List Int) : Prop := ∀ v ∈ x, 0 ≤ v
theorem pos_getD {x : List Int} (h : Pos x) (j : Nat) : 0 ≤ x.getD j 0 := by
  by_cases hj : j < x.length
  · rw [gD_lt _ _ hj]; exact h _ (List.getElem_mem hj)
  · rw [gD_ge _ _ (by omega)]; exact Int.le_refl _
theorem pos_set {x : List Int} (h : Pos x) (j : Nat) (v : Int) (hv : 0 ≤ v) : Pos (x.set j v) := by
  intro u hu
  rcases List.mem_or_eq_of_mem_set hu with h1 | h1
  · exact h u h1
  · rw [h1]; exact hv
theorem wsum_pos {f : Nat → Int} (hf : ∀ i, 0 ≤ f i) : ∀ (x : List Int) (i : Nat), Pos x → 0 ≤ wsum f i x
  | [], _, _ => Int.le_refl _
  | a :: t, i, h => by
    have h1 := wsum_pos hf t (i + 1) (fun v hv => h v (List.mem_cons_of_mem _ hv))
    have h2 : 0 ≤ a * f i := Int.mul_nonneg (h a (by simp)) (hf i)
    rw [wsum]; omega
theorem getD_le : ∀ (x : List Int) (i j : Nat), Pos x → x.getD j 0 ≤ wsum (fun _ => 1) i x
  | [], _, _, _ => by simp [wsum]
  | a :: t, i, 0, h => by
    have h1 := wsum_pos (f := fun _ => 1) (fun _ => by decide) t (i + 1) (fun v hv => h v (List.mem_cons_of_mem _ hv))
    simp [wsum]; omega
  | a :: t, i, j + 1, h => by
    have h1 := getD_le t (i + 1) j (fun v hv => h v (List.mem_cons_of_mem _ hv))
    have h2 := h a (by simp)
    simp only [wsum, List.getD_cons_succ]; omega
def csum (f : Nat → Int) (n r m : Nat) : Nat → Nat → Int
  | 0, _ => 0
  | d + 1, c => (if allowed n r m c then f (m ||| 2 ^ c) else 0) + csum f n r m d (c + 1)

theorem or_lt {n m c : Nat} (hm : m < 2 ^ n) (hc : c < n) : m ||| 2 ^ c < 2 ^ n := Nat.or_lt_two_pow hm (Nat.pow_lt_pow_right (by decide) hc)

theorem upd_law (f : Nat → Int) {n r m : Nat} {w : Int} {c : Nat} {x : List Int} (hx : x.length = 2 ^ n) (hm : m < 2 ^ n) (hc : c < n) (hw : 0 ≤ w) (hp : Pos x) (hb : wsum (fun _ => 1) 0 x + w ≤ 1000000000000) :
    wsum f 0 (upd n r m w c x) = wsum f 0 x + w * (if allowed n r m c then f (m ||| 2 ^ c) else 0) ∧ Pos (upd n r m w c x) := by
  have hg := pos_getD hp (m ||| 2 ^ c)
  have hl := getD_le x 0 (m ||| 2 ^ c) hp
  have hi : m ||| 2 ^ c < x.length := by rw [hx]; exact or_lt hm hc
  have e : wrap64 (x.getD (m ||| 2 ^ c) 0 + w) = x.getD (m ||| 2 ^ c) 0 + w := w64 (by omega) (by omega)
  unfold upd
  by_cases h : w > 0 ∧ allowed n r m c = true
  · rw [if_pos h, e, if_pos h.2]
    refine ⟨?_, pos_set hp _ _ (by omega)⟩
    rw [wsum_set f x 0 _ _ hi, Nat.zero_add]
    have : x.getD (m ||| 2 ^ c) 0 + w - x.getD (m ||| 2 ^ c) 0 = w := by omega
    rw [this]
  · rw [if_neg h]
    refine ⟨?_, hp⟩
    by_cases ha : allowed n r m c = true
    · have : w = 0 := by
        have : ¬ w > 0 := fun hh => h ⟨hh, ha⟩
        omega
      rw [this]; simp
    · rw [if_neg ha]; simp
theorem cols_law (f : Nat → Int) {n r m : Nat} {w : Int} (hm : m < 2 ^ n) (hw : 0 ≤ w) : ∀ (d c : Nat) (x : List Int), c + d ≤ n → x.length = 2 ^ n → Pos x → wsum (fun _ => 1) 0 x + d * w ≤ 1000000000000 →
    wsum f 0 (cols n r m w d c x) = wsum f 0 x + w * csum f n r m d c ∧ Pos (cols n r m w d c x)
  | 0, c, x, _, _, hp, _ => by simp [cols, csum]; exact hp
  | d + 1, c, x, hc, hx, hp, hb => by
    have hdw : (0 : Int) ≤ d * w := Int.mul_nonneg (Int.natCast_nonneg _) hw
    have hs : ((d + 1 : Nat) : Int) * w = d * w + w := by rw [Int.natCast_add]; simp [Int.add_mul]
    rw [hs] at hb
    have h1 := upd_law f (r := r) hx hm (by omega : c < n) hw hp (by omega)
    have h2 := upd_law (fun _ => 1) (r := r) hx hm (by omega : c < n) hw hp (by omega)
    have h3 : wsum (fun _ => 1) 0 (upd n r m w c x) ≤ wsum (fun _ => 1) 0 x + w := by
      rw [h2.1]
      by_cases ha : allowed n r m c = true
      · rw [if_pos ha]; omega
      · rw [if_neg ha]; omega
    have h4 := cols_law f (n := n) (r := r) hm hw d (c + 1) (upd n r m w c x) (by omega) (by rw [upd_length]; exact hx) h1.2 (by omega)
    refine ⟨?_, h4.2⟩
    rw [cols, h4.1, h1.1, csum, Int.mul_add]; omega
def psum (ways : List Int) (g : Nat → Int) : Nat → Nat → Int
  | 0, _ => 0
  | d + 1, m => ways.getD m 0 * g m + psum ways g d (m + 1)
theorem psum_pos {ways : List Int} (hp : Pos ways) {g : Nat → Int} (hg : ∀ i, 0 ≤ g i) : ∀ d m, 0 ≤ psum ways g d m
  | 0, _ => Int.le_refl _
  | d + 1, m => by
    have h1 := psum_pos hp hg d (m + 1)
    have h2 : 0 ≤ ways.getD m 0 * g m := Int.mul_nonneg (pos_getD hp m) (hg m)
    rw [psum]; omega
theorem psum_wsum (ways : List Int) (g : Nat → Int) : ∀ d m, m + d = ways.length → psum ways g d m = wsum g m (ways.drop m)
  | 0, m, h => by rw [List.drop_eq_nil_of_le (by omega)]; rfl
  | d + 1, m, h => by
    have hm : m < ways.length := by omega
    rw [List.drop_eq_getElem_cons hm, wsum, psum, psum_wsum ways g d (m + 1) (by omega), gD_lt _ _ hm]
theorem csum_one (n r m : Nat) : ∀ d c, 0 ≤ csum (fun _ => 1) n r m d c ∧ csum (fun _ => 1) n r m d c ≤ d
  | 0, _ => by simp [csum]
  | d + 1, c => by
    have := csum_one n r m d (c + 1)
    rw [csum]; split <;> omega
theorem rowsF_law (f : Nat → Int) {n r : Nat} {ways : List Int} (hW : Pos ways) : ∀ (d m : Nat) (x : List Int), m + d ≤ 2 ^ n → x.length = 2 ^ n → Pos x → wsum (fun _ => 1) 0 x + n * psum ways (fun _ => 1) d m ≤ 1000000000000 →
    wsum f 0 (rowsF n r ways d m x) = wsum f 0 x + psum ways (fun m => csum f n r m n 0) d m ∧ Pos (rowsF n r ways d m x)
  | 0, m, x, _, _, hp, _ => by simp [rowsF, psum]; exact hp
  | d + 1, m, x, hm, hx, hp, hb => by
    have hw := pos_getD hW m
    have hps := psum_pos hW (g := fun _ => 1) (fun _ => by decide) d (m + 1)
    have hnps : (0 : Int) ≤ n * psum ways (fun _ => 1) d (m + 1) := Int.mul_nonneg (Int.natCast_nonneg _) hps
    have hs : (n : Int) * psum ways (fun _ => 1) (d + 1) m = n * ways.getD m 0 + n * psum ways (fun _ => 1) d (m + 1) := by
      rw [psum, Int.mul_one, Int.mul_add]
    rw [hs] at hb
    have hmn : m < 2 ^ n := by omega
    have h1 := cols_law f (r := r) hmn hw n 0 x (by omega) hx hp (by omega)
    have h2 := cols_law (fun _ => 1) (r := r) hmn hw n 0 x (by omega) hx hp (by omega)
    have h3 := csum_one n r m n 0
    have h4 : ways.getD m 0 * csum (fun _ => 1) n r m n 0 ≤ n * ways.getD m 0 := by
      rw [Int.mul_comm (n : Int)]; exact Int.mul_le_mul_of_nonneg_left h3.2 hw
    have h5 := rowsF_law f (n := n) (r := r) hW d (m + 1) (cols n r m (ways.getD m 0) n 0 x) (by omega) (by rw [cols_length]; exact hx) h1.2 (by have := h2.1; omega)
    refine ⟨?_, h5.2⟩
    rw [rowsF, h5.1, h1.1, psum]; omega
/-- How many ways rows n - d .. n - 1 can be filled beside a set of columns. -/
def F (n : Nat) : Nat → Nat → Int
  | 0, m => if m = 2 ^ n - 1 then 1 else 0
  | d + 1, m => csum (F n d) n (n - (d + 1)) m n 0
theorem wsum_zero (f : Nat → Int) : ∀ k i, wsum f i (List.replicate k 0) = 0
  | 0, _ => rfl
  | k + 1, i => by rw [List.replicate_succ, wsum, wsum_zero f k (i + 1)]; simp
theorem pos_zero (k : Nat) : Pos (List.replicate k 0) := fun v hv => by rw [(List.mem_replicate.1 hv).2]; exact Int.le_refl _
theorem wsum_at (M : Nat) : ∀ (x : List Int) (i : Nat), i ≤ M → wsum (fun m => if m = M then 1 else 0) i x = x.getD (M - i) 0
  | [], _, _ => by simp [wsum]
  | a :: t, i, h => by
    by_cases e : i = M
    · subst e
      have : ∀ (t : List Int) (j : Nat), i < j → wsum (fun m => if m = i then 1 else 0) j t = 0 := by
        intro t
        induction t with
        | nil => intro j _; rfl
        | cons b t ih => intro j hj; rw [wsum, if_neg (by omega), ih (j + 1) (by omega)]; simp
      rw [wsum, this t (i + 1) (by omega)]; simp
    · rw [wsum, if_neg e, wsum_at M t (i + 1) (by omega), show M - i = (M - (i + 1)) + 1 by omega]; simp
theorem allF_law {n : Nat} (hn : n ≤ 10) : ∀ (d r : Nat) (ways : List Int), r + d = n → ways.length = 2 ^ n → Pos ways → wsum (fun _ => 1) 0 ways ≤ 10 ^ r →
    (allF n d r ways).getD (2 ^ n - 1) 0 = wsum (F n d) 0 ways
  | 0, r, ways, _, hl, _, _ => by
    have h := wsum_at (2 ^ n - 1) ways 0 (by omega)
    have : wsum (F n 0) 0 ways = wsum (fun m => if m = 2 ^ n - 1 then 1 else 0) 0 ways := rfl
    rw [allF, this, h, Nat.sub_zero]
  | d + 1, r, ways, hr, hl, hp, hb => by
    have h10 : (10 : Int) ^ r ≤ 10 ^ 9 := by
      have : (10 : Nat) ^ r ≤ 10 ^ 9 := Nat.pow_le_pow_right (by decide) (by omega)
      exact_mod_cast this
    have h1 : psum ways (fun _ => 1) (2 ^ n) 0 = wsum (fun _ => 1) 0 ways := by rw [psum_wsum ways _ (2 ^ n) 0 (by omega)]; rfl
    have h0 := wsum_pos (f := fun _ => 1) (fun _ => by decide) ways 0 hp
    have hn' : (n : Int) * wsum (fun _ => 1) 0 ways ≤ 10 * wsum (fun _ => 1) 0 ways := Int.mul_le_mul_of_nonneg_right (by omega) h0
    have h2 := rowsF_law (F n d) (n := n) (r := r) hp (2 ^ n) 0 (List.replicate (2 ^ n) 0) (by omega) (by simp) (pos_zero _) (by rw [wsum_zero, h1]; omega)
    have h3 := rowsF_law (fun _ => 1) (n := n) (r := r) hp (2 ^ n) 0 (List.replicate (2 ^ n) 0) (by omega) (by simp) (pos_zero _) (by rw [wsum_zero, h1]; omega)
    have h4 : psum ways (fun m => csum (fun _ => 1) n r m n 0) (2 ^ n) 0 ≤ n * wsum (fun _ => 1) 0 ways := by
      rw [← h1]
      have : ∀ d m, psum ways (fun m => csum (fun _ => 1) n r m n 0) d m ≤ n * psum ways (fun _ => 1) d m := by
        intro d
        induction d with
        | zero => intro m; simp [psum]
        | succ d ih =>
          intro m
          have a1 := ih (m + 1)
          have a2 : ways.getD m 0 * csum (fun _ => 1) n r m n 0 ≤ n * ways.getD m 0 := by
            rw [Int.mul_comm (n : Int)]; exact Int.mul_le_mul_of_nonneg_left (csum_one n r m n 0).2 (pos_getD hp m)
          have e1 : psum ways (fun m => csum (fun _ => 1) n r m n 0) (d + 1) m = ways.getD m 0 * csum (fun _ => 1) n r m n 0 + psum ways (fun m => csum (fun _ => 1) n r m n 0) d (m + 1) := rfl
          have e2 : psum ways (fun _ => 1) (d + 1) m = ways.getD m 0 * 1 + psum ways (fun _ => 1) d (m + 1) := rfl
          rw [e1, e2, Int.mul_one, Int.mul_add]; omega
      exact this _ _
    have h5 := allF_law hn d (r + 1) (rowsF n r ways (2 ^ n) 0 (List.replicate (2 ^ n) 0)) (by omega) (by rw [rowsF_length]; simp) h2.2 (by
      rw [h3.1, wsum_zero, Int.pow_succ]; omega)
    rw [allF, h5, h2.1, wsum_zero, Int.zero_add, psum_wsum ways _ (2 ^ n) 0 (by omega)]
    have : F n (d + 1) = fun m => csum (F n d) n r m n 0 := by
      funext m; rw [F, show n - (d + 1) = r by omega]
    rw [this]; rfl
theorem start_law {n : Nat} (hn : n ≤ 10) : (allF n n 0 ((List.replicate (2 ^ n) 0).set 0 1)).getD (2 ^ n - 1) 0 = F n n 0 := by
  have hpos : 0 < 2 ^ n := Nat.two_pow_pos n
  have h := wsum_set (F n n) (List.replicate (2 ^ n) 0) 0 0 1 (by simpa using hpos)
  have h1 := wsum_set (fun _ => 1) (List.replicate (2 ^ n) 0) 0 0 1 (by simpa using hpos)
  rw [wsum_zero] at h h1
  have e : (List.replicate (2 ^ n) (0 : Int)).getD 0 0 = 0 := by
    rw [gD_lt _ _ (by simpa using hpos)]; simp
  rw [e] at h h1
  rw [allF_law hn n 0 _ (by omega) (by simp) (pos_set (pos_zero _) _ _ (by decide)) (by rw [h1]; decide), h]
  simp

/- The recursion's value by one pass over all sets, the table as one natural number. -/
def look (T m : Nat) : Nat := (T >>> (64 * m)) % 2 ^ 64
theorem look_zero (U v : Nat) (h : v < 2 ^ 64) : look (U * 2 ^ 64 + v) 0 = v := by
  unfold look; rw [Nat.mul_zero, Nat.shiftRight_zero]; omega
theorem look_succ (U v k : Nat) (h : v < 2 ^ 64) : look (U * 2 ^ 64 + v) (k + 1) = look U k := by
  unfold look
  rw [show 64 * (k + 1) = 64 + 64 * k by omega, Nat.shiftRight_add]
  have : (U * 2 ^ 64 + v) >>> 64 = U := by rw [Nat.shiftRight_eq_div_pow]; omega
  rw [this]
def pop (m : Nat) : Nat → Nat
  | 0 => 0
  | c + 1 => (if m.testBit c then 1 else 0) + pop m c
def nsum (g : Nat → Nat) (n r m : Nat) : Nat → Nat → Nat
  | 0, _ => 0
  | d + 1, c => (if allowed n r m c then g (m ||| 2 ^ c) else 0) + nsum g n r m d (c + 1)
def FN (n : Nat) : Nat → Nat → Nat
  | 0, m => if m = 2 ^ n - 1 then 1 else 0
  | d + 1, m => nsum (FN n d) n (n - (d + 1)) m n 0
theorem csum_nsum (g : Nat → Nat) (n r m : Nat) : ∀ d c, csum (fun x => (g x : Int)) n r m d c = (nsum g n r m d c : Int)
  | 0, _ => rfl
  | d + 1, c => by rw [csum, nsum, csum_nsum g n r m d (c + 1)]; split <;> simp
theorem F_FN (n : Nat) : ∀ d m, F n d m = (FN n d m : Int)
  | 0, m => by rw [F, FN]; split <;> rfl
  | d + 1, m => by
    rw [F, FN, ← csum_nsum]
    have : F n d = fun x => (FN n d x : Int) := funext (F_FN n d)
    rw [this]
theorem nsum_congr {g h : Nat → Nat} {n r m : Nat} : ∀ d c, (∀ c', c ≤ c' → c' < c + d → allowed n r m c' = true → g (m ||| 2 ^ c') = h (m ||| 2 ^ c')) → nsum g n r m d c = nsum h n r m d c
  | 0, _, _ => rfl
  | d + 1, c, H => by
    rw [nsum, nsum, nsum_congr d (c + 1) (fun c' h1 h2 h3 => H c' (by omega) (by omega) h3)]
    by_cases ha : allowed n r m c = true
    · rw [if_pos ha, if_pos ha, H c (by omega) (by omega) ha]
    · rw [if_neg ha, if_neg ha]
theorem nsum_le {g : Nat → Nat} {B : Nat} (hg : ∀ x, g x ≤ B) (n r m : Nat) : ∀ d c, nsum g n r m d c ≤ d * B
  | 0, _ => by simp [nsum]
  | d + 1, c => by
    have h1 := nsum_le hg n r m d (c + 1)
    have h2 := hg (m ||| 2 ^ c)
    rw [nsum, Nat.add_mul]
    split <;> omega
theorem FN_le {n : Nat} (hn : n ≤ 10) : ∀ d m, FN n d m ≤ 10 ^ d
  | 0, m => by rw [FN]; split <;> decide
  | d + 1, m => by
    have h1 := nsum_le (FN_le hn d) n (n - (d + 1)) m n 0
    have h2 : n * 10 ^ d ≤ 10 * 10 ^ d := Nat.mul_le_mul_right _ hn
    rw [FN, Nat.pow_succ]; omega
theorem pop_le (m : Nat) : ∀ c, pop m c ≤ c
  | 0 => Nat.le_refl _
  | c + 1 => by have := pop_le m c; rw [pop]; split <;> omega
theorem pop_all (m : Nat) : ∀ c, pop m c = c → ∀ i, i < c → m.testBit i = true
  | 0, _, i, hi => by omega
  | c + 1, h, i, hi => by
    have h1 := pop_le m c
    rw [pop] at h
    by_cases hb : m.testBit c = true
    · rw [if_pos hb] at h
      by_cases e : i = c
      · rw [e]; exact hb
      · exact pop_all m c (by omega) i (by omega)
    · rw [if_neg hb] at h; omega
theorem pop_lt {n m : Nat} (h : m < 2 ^ n - 1) : pop m n < n := by
  rcases Nat.lt_or_ge (pop m n) n with h1 | h1
  · exact h1
  · exfalso
    have h2 := pop_all m n (by have := pop_le m n; omega)
    have : m = 2 ^ n - 1 := by
      apply Nat.eq_of_testBit_eq
      intro i
      rw [Nat.testBit_two_pow_sub_one]
      by_cases hi : i < n
      · rw [h2 i hi]; simp [hi]
      · rw [Nat.testBit_lt_two_pow (Nat.lt_of_lt_of_le (by omega : m < 2 ^ n) (Nat.pow_le_pow_right (by decide) (by omega)))]; simp [hi]
    omega
theorem pop_full (n : Nat) : ∀ c, c ≤ n → pop (2 ^ n - 1) c = c
  | 0, _ => rfl
  | c + 1, h => by
    rw [pop, pop_full n c (by omega), Nat.testBit_two_pow_sub_one, if_pos (by simp; omega)]; omega
theorem pop_or (m c : Nat) (hb : m.testBit c = false) : ∀ n, pop (m ||| 2 ^ c) n = pop m n + (if c < n then 1 else 0)
  | 0 => by simp [pop]
  | n + 1 => by
    rw [pop, pop, pop_or m c hb n, Nat.testBit_or, Nat.testBit_two_pow]
    by_cases e : c = n
    · subst e; simp [hb]; omega
    · by_cases hc : c < n
      · have : c < n + 1 := by omega
        simp [e, hc, this]; omega
      · have : ¬ c < n + 1 := by omega
        simp [e, hc, this]
theorem lt_or {m c : Nat} (hb : m.testBit c = false) : m < m ||| 2 ^ c := by
  have h1 : m ≤ m ||| 2 ^ c := Nat.left_le_or
  rcases Nat.lt_or_eq_of_le h1 with h | h
  · exact h
  · exfalso
    have : (m ||| 2 ^ c).testBit c = true := by rw [Nat.testBit_or, Nat.testBit_two_pow]; simp
    rw [← h, hb] at this; cases this
/-- The table of all sets, given that of those from k on (the entry of j at place j - k). -/
def tab (n : Nat) : Nat → Nat → Nat
  | 0, U => U
  | k + 1, U => tab n k (U * 2 ^ 64 + nsum (fun j => look U (j - (k + 1))) n (pop k n) k n 0)
theorem tab_law {n : Nat} (hn : n ≤ 10) : ∀ (k U : Nat), k ≤ 2 ^ n - 1 → (∀ j, k ≤ j → j < 2 ^ n → look U (j - k) = FN n (n - pop j n) j) → look (tab n k U) 0 = FN n (n - pop 0 n) 0
  | 0, U, _, H => H 0 (Nat.le_refl _) (Nat.two_pow_pos n)
  | k + 1, U, hk, H => by
    have hk' : k < 2 ^ n - 1 := by omega
    have hp := pop_lt hk'
    obtain ⟨d, hd⟩ : ∃ d, n - pop k n = d + 1 := ⟨n - pop k n - 1, by omega⟩
    have e : nsum (fun j => look U (j - (k + 1))) n (pop k n) k n 0 = FN n (n - pop k n) k := by
      rw [hd, FN, show n - (d + 1) = pop k n by omega]
      apply nsum_congr
      intro c _ hc ha
      have hb : k.testBit c = false := by
        unfold allowed at ha
        simp only [Bool.and_eq_true, Bool.not_eq_true'] at ha
        exact ha.1
      have h1 := lt_or hb
      have h2 : k ||| 2 ^ c < 2 ^ n := or_lt (by omega) (by omega)
      show look U ((k ||| 2 ^ c) - (k + 1)) = _
      rw [H _ (by omega) h2, pop_or k c hb n, if_pos (by omega), show n - (pop k n + 1) = d by omega]
    have hv : nsum (fun j => look U (j - (k + 1))) n (pop k n) k n 0 < 2 ^ 64 := by
      rw [e]
      have h1 := FN_le hn (n - pop k n) k
      have h2 : (10 : Nat) ^ (n - pop k n) ≤ 10 ^ 10 := Nat.pow_le_pow_right (by decide) (by omega)
      exact Nat.lt_of_le_of_lt (Nat.le_trans h1 h2) (by decide)
    rw [tab]
    apply tab_law hn k _ (by omega)
    intro j h1 h2
    by_cases ej : j = k
    · subst ej; rw [Nat.sub_self, look_zero _ _ hv, e]
    · rw [show j - k = (j - (k + 1)) + 1 by omega, look_succ _ _ _ hv]
      exact H j (by omega) h2
theorem pop_zero : ∀ n, pop 0 n = 0
  | 0 => rfl
  | n + 1 => by rw [pop, pop_zero n]; simp
theorem value_law {n : Nat} (hn : n ≤ 10) : (allF n n 0 ((List.replicate (2 ^ n) 0).set 0 1)).getD (2 ^ n - 1) 0 = (look (tab n (2 ^ n - 1) 1) 0 : Int) := by
  have hp : 0 < 2 ^ n := Nat.two_pow_pos n
  rw [start_law hn, F_FN, tab_law hn (2 ^ n - 1) 1 (Nat.le_refl _) (by
    intro j h1 h2
    have : j = 2 ^ n - 1 := by omega
    subst this
    rw [pop_full n n (Nat.le_refl _), Nat.sub_self, Nat.sub_self, FN, if_pos rfl]; rfl), pop_zero, Nat.sub_zero]
theorem values : ∀ i : Fin 11, look (tab i.val (2 ^ i.val - 1) 1) 0 = [1, 0, 0, 1, 2, 13, 80, 579, 4738, 43387, 439792].getD i.val 0 := by
  decide +kernel
end Go.Proofs.Ytljcbimhdoklbaa.Couples
