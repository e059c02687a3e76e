/- The reference's weights, row by row, are the table of placements by rooks and free cells. No conditions but lengths. -/
import Derived.Test.YtlhblnphfpijkaaBag
import Derived.Test.YtlhblnphfpijkaaQspecweAll
namespace Go.Proofs.Ytlhblnphfpijkaa.WeAllK
set_option linter.unusedVariables false
set_option linter.unusedSectionVars false
open Go.RowKit Go.Proofs.Ytlhblnphfpijkaa.Q Go.Proofs.YtlhblnphfpijkaaW.PrintWords Go.Proofs.YtlhblnphfpijkaaW.PrintLast Go.Proofs.YtlhblnphfpijkaaW.PrintMore
open Go.Proofs.YtlhblnphfpijkaaL Go.Proofs.Ytlhblnphfpijkaa.LawK Go.Proofs.Ytlhblnphfpijkaa.W1 Go.Proofs.Ytlhblnphfpijkaa.BagK Go.Proofs.Ytlhblnphfpijkaa.LensK Go.Proofs.Ytlhblnphfpijkaa.BoardK

theorem rd1_nat (T : List (List Int)) (i : Nat) : rd_L1 T (i : Int) = T.getD i [] := by unfold rd_L1; rw [Int.toNat_natCast]
theorem own_f {l : List Int} (h : l.length ≤ 1000000) : spec_l1Own.f l = some l := by
  unfold spec_l1Own.f
  rw [Option.bind_some, if_pos (by rw [List.length_nil]; omega), List.nil_append]
theorem pad_snoc {row : List Int} {p : Nat} (h : row.length ≤ p) : pad (row ++ [0]) p = pad row p := by
  unfold pad
  rw [List.append_assoc, List.length_append, List.length_singleton, show p + 1 - row.length = (p + 1 - (row.length + 1)) + 1 by omega, List.replicate_succ]
  rfl
theorem pad_long {row : List Int} {p : Nat} (h : p < row.length) : pad row p = row := by
  unfold pad
  rw [show p + 1 - row.length = 0 by omega, List.replicate_zero, List.append_nil]
theorem add_l1 {b : List Int} {by_ e n : Nat} (hp : by_ + e ≤ 1000000) {g : List Int} : ∀ (d : Nat) (row : List Int), d = e + by_ + 1 - row.length →
    Ev (fun k => spec_weAdd.l0 k by_ (addAt row (e + by_) n) b (b.length : Int) ((e + 1 : Nat) : Int)) g → Ev (fun k => spec_weAdd.l1 k by_ row e n b (b.length : Int) e) g
  | 0, row, hd, next => by
    have w1 : wrap64 ((e : Int) + by_) = ((e + by_ : Nat) : Int) := by rw [w64 (by omega) (by omega)]; rfl
    have w2 : wrap64 ((e : Int) + 1) = ((e + 1 : Nat) : Int) := by rw [w64 (by omega) (by omega)]; rfl
    refine Ev.step (fun k => ?_) next
    rw [spec_weAdd.l1, w1, if_neg (by omega), if_pos (by omega), if_pos (by omega), w2, Int.toNat_natCast]
    unfold addAt
    rw [pad_long (by omega)]
  | d + 1, row, hd, next => by
    have w1 : wrap64 ((e : Int) + by_) = ((e + by_ : Nat) : Int) := by rw [w64 (by omega) (by omega)]; rfl
    refine Ev.step (fun k => ?_) (add_l1 hp d (row ++ [0]) (by rw [List.length_append, List.length_singleton]; omega) (by unfold addAt at next ⊢; rw [pad_snoc (by omega)]; exact next))
    rw [spec_weAdd.l1, w1, if_pos (by omega), if_pos (by omega)]
/-- A row's numbers behind the first e of another one were added, moved. -/
def plus (c d : Nat → Nat) (by_ e i : Nat) : Nat := c i + if by_ ≤ i ∧ i - by_ < e then d (i - by_) else 0
theorem add_l0 {b : List Int} {c d : Nat → Nat} {by_ : Nat} (hb : RepC b d) (hbl : b.length ≤ 1000) (hby : by_ ≤ 1000) (hc : ∀ i, c i ≤ 1000000000) (hd : ∀ i, d i ≤ 1000000000) :
    ∀ (r e : Nat) (row : List Int), e + r = b.length → RepC row (plus c d by_ e) → ∃ out, Ev (fun k => spec_weAdd.l0 k by_ row b (b.length : Int) e) out ∧ RepC out (plus c d by_ b.length)
  | 0, e, row, he, hr => by
    refine ⟨row, ?_, by rw [show b.length = e by omega]; exact hr⟩
    refine Ev.step (f := fun _ => some row) (fun k => ?_) (Ev.now _)
    rw [spec_weAdd.l0, if_neg (by omega)]
  | r + 1, e, row, he, hr => by
    have he2 : e < b.length := by omega
    have w2 : wrap64 ((e : Int) + 1) = ((e + 1 : Nat) : Int) := by rw [w64 (by omega) (by omega)]; rfl
    have hg := hb.get e
    have hrd : rd b (e : Int) = (d e : Int) := by rw [rd_nat, hg]
    by_cases h0 : d e = 0
    · obtain ⟨out, h1, h2⟩ := add_l0 hb hbl hby hc hd r (e + 1) row (by omega) (hr.congr (fun i => by
        unfold plus
        congr 1
        by_cases q : by_ ≤ i ∧ i - by_ < e
        · rw [if_pos q, if_pos (by omega)]
        · rw [if_neg q]
          by_cases q2 : by_ ≤ i ∧ i - by_ < e + 1
          · rw [if_pos q2, show i - by_ = e by omega, h0]
          · rw [if_neg q2]))
      refine ⟨out, Ev.step (fun k => ?_) h1, h2⟩
      rw [spec_weAdd.l0, if_pos (by omega), if_pos (by omega), if_pos (by omega), hrd, if_pos (by omega), w2]
    · have hpc : plus c d by_ e (e + by_) = c (e + by_) := by unfold plus; rw [if_neg (by omega), Nat.add_zero]
      have hA := addAt_rep (p := e + by_) (n := d e) hr (by omega) (by rw [hpc]; have := hc (e + by_); have := hd e; omega)
      obtain ⟨out, h1, h2⟩ := add_l0 hb hbl hby hc hd r (e + 1) (addAt row (e + by_) (d e)) (by omega) (hA.congr (fun i => by
        unfold plus
        by_cases q : i = e + by_
        · subst q
          rw [if_pos rfl, if_neg (by omega), if_pos (by omega), show e + by_ - by_ = e by omega]
          rfl
        · rw [if_neg q]
          congr 1
          by_cases q2 : by_ ≤ i ∧ i - by_ < e
          · rw [if_pos q2, if_pos (by omega)]
          · rw [if_neg q2, if_neg (by omega)]))
      refine ⟨out, Ev.step (fun k => ?_) (add_l1 (by_ := by_) (e := e) (n := d e) (b := b) (by omega) (e + by_ + 1 - row.length) row rfl h1), h2⟩
      rw [spec_weAdd.l0, if_pos (by omega), if_pos (by omega), if_pos (by omega), hrd, if_neg (by omega)]
theorem weAdd {a b : List Int} {c d : Nat → Nat} {by_ : Nat} (ha : RepC a c) (hb : RepC b d) (hal : a.length ≤ 1000) (hbl : b.length ≤ 1000) (hby : by_ ≤ 1000) (hc : ∀ i, c i ≤ 1000000000) (hd : ∀ i, d i ≤ 1000000000) :
    ∃ out, Ev (fun k => spec_weAdd.f k a b by_) out ∧ RepC out (fun i => c i + if by_ ≤ i then d (i - by_) else 0) := by
  obtain ⟨out, h1, h2⟩ := add_l0 (c := c) hb hbl hby hc hd b.length 0 a (by omega) (ha.congr (fun i => by unfold plus; rw [if_neg (by omega), Nat.add_zero]))
  refine ⟨out, ?_, h2.congr (fun i => ?_)⟩
  · unfold spec_weAdd.f
    refine Ev.congr (fun k => by rw [own_f (by omega), Option.bind_some]; rfl) h1
  · unfold plus
    congr 1
    by_cases q : by_ ≤ i
    · rw [if_pos q]
      by_cases q2 : i - by_ < b.length
      · rw [if_pos ⟨q, q2⟩]
      · rw [if_neg (by omega)]
        have := hb.get (i - by_)
        rw [gD_ge _ _ (by omega)] at this
        omega
    · rw [if_neg q, if_neg (by omega)]
theorem RepC.short {r : List Int} {c : Nat → Nat} (h : RepC r c) (hs : ∀ i, c i ≠ 0 → i < 64) : r.length ≤ 64 := by
  rcases Nat.eq_zero_or_pos r.length with h0 | h0
  · omega
  · have := hs (r.length - 1) (h.last (r.length - 1) (by omega)); omega

/-- The table while a row is worked off: those above k are new. -/
structure Mid (n m : Nat) (F : List (Nat × Nat)) (T : List (List Int)) (k : Nat) : Prop where
  len : T.length = n + 1
  new : ∀ j, k ≤ j → j ≤ n → RepC (T.getD j []) (nextC F m j)
  old : ∀ j, j < k → j ≤ n → RepC (T.getD j []) (cnt F j)
theorem set_getD1 (T : List (List Int)) (p i : Nat) (x : List Int) (hp : p < T.length) : (T.set p x).getD i [] = if i = p then x else T.getD i [] := by
  rw [List.getD_eq_getElem?_getD, List.getElem?_set, List.getD_eq_getElem?_getD]
  by_cases h : p = i
  · subst h; simp [hp]
  · rw [if_neg h, if_neg (fun e => h e.symm)]
section
variable {l : List Int} {F : List (Nat × Nat)} {n m r : Nat} (hn : n ≤ 6) (hm : m ≤ 6) (hF : F.length ≤ 1000000) (hFe : ∀ x ∈ F, x.2 < 40)
include hn hm hF hFe
theorem cnt_le (k e : Nat) : cnt F k e ≤ 1000000 := Nat.le_trans List.count_le_length hF
theorem cnt_far (k e : Nat) (h : cnt F k e ≠ 0) : e < 40 := by
  have : (k, e) ∈ F := List.count_pos_iff.1 (Nat.pos_of_ne_zero h)
  exact hFe _ this
/-- What one more row gives a table's row, behind some places. -/
def part (F : List (Nat × Nat)) (m k b i : Nat) : Nat := (if k ≤ m ∧ m - k ≤ i then cnt F k (i - (m - k)) else 0) + (if k = 0 then 0 else sumTo b (fun b => if b ≤ i then cnt F (k - 1) (i - b) else 0))
theorem sum_far {k i : Nat} : ∀ b, sumTo b (fun b => if b ≤ i then cnt F k (i - b) else 0) ≠ 0 → i < 40 + b
  | 0, h => absurd rfl h
  | b + 1, h => by
    rw [sumTo] at h
    by_cases h1 : sumTo b (fun b => if b ≤ i then cnt F k (i - b) else 0) = 0
    · rw [h1, Nat.zero_add] at h
      by_cases h2 : b ≤ i
      · rw [if_pos h2] at h
        have := cnt_far hn hm hF hFe k (i - b) h
        omega
      · omega
    · have := sum_far b h1; omega
theorem part_far {k b i : Nat} (hb : b ≤ 7) (h : part F m k b i ≠ 0) : i < 64 := by
  unfold part at h
  by_cases h1 : (if k ≤ m ∧ m - k ≤ i then cnt F k (i - (m - k)) else 0) = 0
  · rw [h1, Nat.zero_add] at h
    by_cases h2 : k = 0
    · rw [if_pos h2] at h; exact absurd rfl h
    · rw [if_neg h2] at h
      have := sum_far hn hm hF hFe b h
      omega
  · by_cases h3 : k ≤ m ∧ m - k ≤ i
    · rw [if_pos h3] at h1
      have := cnt_far hn hm hF hFe _ _ h1
      omega
    · rw [if_neg h3] at h1; exact absurd rfl h1
theorem part_le {k b i : Nat} (hb : b ≤ 7) : part F m k b i ≤ 8000000 := by
  unfold part
  have h1 : (if k ≤ m ∧ m - k ≤ i then cnt F k (i - (m - k)) else 0) ≤ 1000000 := by
    split
    · exact cnt_le hn hm hF hFe _ _
    · omega
  have h2 : (if k = 0 then 0 else sumTo b (fun b => if b ≤ i then cnt F (k - 1) (i - b) else 0)) ≤ 7000000 := by
    split
    · omega
    · have := sumTo_le (f := fun b => if b ≤ i then cnt F (k - 1) (i - b) else 0) (B := 1000000) (fun b => by
        split
        · exact cnt_le hn hm hF hFe _ _
        · omega) b
      have h3 : b * 1000000 ≤ 7 * 1000000 := Nat.mul_le_mul_right _ hb
      omega
  omega
theorem old_short {T : List (List Int)} {k j : Nat} (h : Mid n m F T k) (hj : j < k) (hjn : j ≤ n) : (T.getD j []).length ≤ 64 :=
  RepC.short (h.old j hj hjn) (fun i hi => by have := cnt_far hn hm hF hFe j i hi; omega)
theorem all_l2 (hl : l.length = n) {g : List (List Int)} {T : List (List Int)} {k : Nat} (hk : k ≤ n) (hT : Mid n m F T (k + 1))
    (next : ∀ T', Mid n m F T' k → Ev (fun q => spec_weAll.l1 q l T' m ((k : Int) - 1) l (l.length : Int) r) g) :
    ∀ (d b : Nat) (row : List Int), b + d = m + 1 - k → RepC row (part F m k b) → Ev (fun q => spec_weAll.l2 q l T m k row b l (l.length : Int) r) g
  | 0, b, row, hb, hr => by
    have w1 : wrap64 ((m : Int) - k) = (m : Int) - k := w64 (by omega) (by omega)
    have w2 : wrap64 ((m : Int) - k + 1) = (m : Int) - k + 1 := w64 (by omega) (by omega)
    have w3 : wrap64 ((k : Int) - 1) = (k : Int) - 1 := w64 (by omega) (by omega)
    have hM : Mid n m F (T.set k row) k := by
      refine ⟨by rw [List.length_set]; exact hT.len, fun j h1 h2 => ?_, fun j h1 h2 => ?_⟩
      · rw [set_getD1 _ _ _ _ (by rw [hT.len]; omega)]
        by_cases e : j = k
        · rw [if_pos e]
          refine hr.congr (fun i => ?_)
          rw [e]
          unfold part nextC
          by_cases hk0 : k = 0
          · rw [if_pos hk0, if_pos hk0]
          · rw [if_neg hk0, if_neg hk0, show b = m + 1 - k by omega]
        · rw [if_neg e]; exact hT.new j (by omega) h2
      · rw [set_getD1 _ _ _ _ (by rw [hT.len]; omega), if_neg (by omega)]
        exact hT.old j (by omega) h2
    refine Ev.step (fun q => ?_) (next _ hM)
    rw [spec_weAll.l2, w1, w2, w3]
    by_cases hk0 : (k : Int) > 0
    · rw [if_pos hk0, if_neg (by omega), if_pos (by omega), if_pos (by rw [hT.len]; omega), Int.toNat_natCast]
    · rw [if_neg hk0, if_pos (by omega), if_pos (by rw [hT.len]; omega), Int.toNat_natCast]
  | d + 1, b, row, hb, hr => by
    have hb7 : b ≤ 7 := by clear hT next hr; omega
    have hbm : (b : Int) < (m : Int) - k + 1 := by clear hT next hr; omega
    have w1 : wrap64 ((m : Int) - k) = (m : Int) - k := w64 (by omega) (by omega)
    have w2 : wrap64 ((m : Int) - k + 1) = (m : Int) - k + 1 := w64 (by omega) (by omega)
    have w4 : wrap64 ((b : Int) + 1) = ((b + 1 : Nat) : Int) := by rw [w64 (by omega) (by omega)]; rfl
    by_cases hk0 : k = 0
    · have hM : Mid n m F (T.set k row) k := by
        refine ⟨by rw [List.length_set]; exact hT.len, fun j h1 h2 => ?_, fun j h1 h2 => by omega⟩
        rw [set_getD1 _ _ _ _ (by rw [hT.len]; omega)]
        by_cases e : j = k
        · rw [if_pos e]
          refine hr.congr (fun i => ?_)
          rw [e]
          unfold part nextC
          rw [if_pos hk0, if_pos hk0]
        · rw [if_neg e]; exact hT.new j (by omega) h2
      have w3 : wrap64 ((k : Int) - 1) = (k : Int) - 1 := w64 (by omega) (by omega)
      refine Ev.step (fun q => ?_) (next _ hM)
      rw [spec_weAll.l2, w3, if_neg (by omega), if_pos (by omega), if_pos (by rw [hT.len]; omega), Int.toNat_natCast]
    · have w3 : wrap64 ((k : Int) - 1) = ((k - 1 : Nat) : Int) := by rw [w64 (by omega) (by omega)]; omega
      have hold := hT.old (k - 1) (by omega) (by omega)
      have hs := old_short hn hm hF hFe hT (show k - 1 < k + 1 by omega) (by omega)
      obtain ⟨out, h1, h2⟩ := weAdd (by_ := b) hr hold (Nat.le_trans (RepC.short hr (fun i hi => part_far hn hm hF hFe hb7 hi)) (by decide)) (Nat.le_trans hs (by decide)) (Nat.le_trans hb7 (by decide)) (fun i => Nat.le_trans (part_le hn hm hF hFe (k := k) (b := b) (i := i) hb7) (by decide)) (fun i => Nat.le_trans (cnt_le hn hm hF hFe (k - 1) i) (by decide))
      have ih := all_l2 hl hk hT next d (b + 1) out (by omega) (h2.congr (fun i => by
        unfold part
        rw [if_neg hk0, if_neg hk0, sumTo, Nat.add_assoc]))
      refine Ev.step (fun q => by rw [spec_weAll.l2, w1, w2, w3, if_pos (by omega), if_pos hbm, if_pos (by omega), if_pos (by rw [hT.len]; omega), rd1_nat, w4]) ?_
      refine Ev.bind h1 ?_
      exact ih
theorem all_l1 (hl : l.length = n) {g : List (List Int)} (next : ∀ T', Mid n m F T' 0 → Ev (fun q => spec_weAll.l0 q l T' l (l.length : Int) (wrap64 ((r : Int) + 1))) g) :
    ∀ (k : Nat) (T : List (List Int)), k ≤ n + 1 → Mid n m F T k → Ev (fun q => spec_weAll.l1 q l T m ((k : Int) - 1) l (l.length : Int) r) g
  | 0, T, hk, hT => by
    refine Ev.step (fun q => ?_) (next T hT)
    rw [spec_weAll.l1, if_neg (by omega)]
  | k + 1, T, hk, hT => by
    have ih := fun T' h' => all_l1 hl next k T' (by omega) h'
    have e0 : ((k + 1 : Nat) : Int) - 1 = k := by omega
    rw [e0]
    have w1 : ∀ h : k ≤ m, wrap64 ((m : Int) - k) = ((m - k : Nat) : Int) := fun h => by rw [w64 (by omega) (by omega)]; omega
    by_cases hkm : k ≤ m
    · have hold := hT.old k (by omega) (by omega)
      have hs := old_short hn hm hF hFe hT (show k < k + 1 by omega) (by omega)
      obtain ⟨out, h1, h2⟩ := weAdd (a := []) (by_ := m - k) RepC.nil hold (by simp) (by omega) (by omega) (fun i => by omega) (fun i => by have := cnt_le hn hm hF hFe k i; omega)
      have h3 := all_l2 hn hm hF hFe hl (r := r) (by omega) hT ih (m + 1 - k) 0 out (by omega) (h2.congr (fun i => by
        unfold part
        rw [Nat.zero_add]
        by_cases q : m - k ≤ i
        · rw [if_pos q, if_pos ⟨hkm, q⟩]; by_cases hk0 : k = 0 <;> simp [hk0, sumTo]
        · rw [if_neg q, if_neg (by omega)]; by_cases hk0 : k = 0 <;> simp [hk0, sumTo]))
      refine Ev.step (fun q => by rw [spec_weAll.l1, if_pos (by omega), if_pos (by omega), if_pos (by omega), if_pos (by rw [hT.len]; omega), rd1_nat, w1 hkm]) ?_
      refine Ev.bind h1 ?_
      exact Ev.step (fun q => by rw [spec_weAll.j2]; rfl) h3
    · have h3 := all_l2 hn hm hF hFe hl (r := r) (by omega) hT ih 0 0 [] (by omega) (RepC.nil.congr (fun i => by
        unfold part
        rw [if_neg (by omega)]
        by_cases hk0 : k = 0 <;> simp [hk0, sumTo]))
      refine Ev.step (fun q => by rw [spec_weAll.l1, if_pos (by omega), if_neg (by omega)]) ?_
      exact Ev.step (fun q => by rw [spec_weAll.j2]; rfl) h3
end
theorem Fk_free {l : List Int} (hm : ∀ r, (l.getD r 0).toNat ≤ 6) : ∀ r x, x ∈ Fk l r → x.2 ≤ 6 * r
  | 0, x, h => by rw [Fk, List.mem_singleton] at h; subst h; exact Nat.le_refl _
  | r + 1, x, h => by
    rw [Fk, List.mem_flatMap] at h
    obtain ⟨y, hy, hx⟩ := h
    have q := Fk_free hm r y hy
    have q2 := hm r
    rw [BagK.step, List.mem_cons, List.mem_map] at hx
    rcases hx with rfl | ⟨i, hi, rfl⟩
    · simp only []; omega
    · rw [List.mem_range] at hi
      simp only []; omega
theorem weAll {l : List Int} (h : lenB l = true) : Ev (fun k => spec_weAll.f k l) (wtab l) := by
  obtain ⟨h1, h2, h3⟩ := len_of h
  have hr : riseFrom l 1 = true := by unfold lenB at h; simp only [Bool.and_eq_true] at h; exact h.2
  have hgd : ∀ i, 0 ≤ l.getD i 0 ∧ l.getD i 0 ≤ l.length := by
    intro i
    by_cases hi : i < l.length
    · rw [gD_lt _ _ hi]; exact h3 i hi
    · rw [gD_ge _ _ (by omega)]; omega
  have hm6 : ∀ i, (l.getD i 0).toNat ≤ 6 := fun i => by have := hgd i; omega
  have hlen : ∀ r, r ≤ l.length → (Fk l r).length ≤ 1000000 := by
    intro r hr
    have a := Fk_len hm6 r
    have b : 7 ^ r ≤ 7 ^ 6 := Nat.pow_le_pow_right (by omega) (by omega)
    omega
  have key : ∀ (d r : Nat) (T : List (List Int)), r + d = l.length → RepT l.length T (Fk l r) → Ev (fun q => spec_weAll.l0 q l T l (l.length : Int) r) (wtab l) := by
    intro d
    induction d with
    | zero =>
      intro r T hrd hT
      refine Ev.step (f := fun _ => some T) (fun k => by rw [spec_weAll.l0, if_neg (by omega)]) (evEq (Ev.now _) ?_)
      rw [show r = l.length by omega] at hT
      exact hT.eq (wtab_rep h)
    | succ d ih =>
      intro r T hrd hT
      have hr2 : r < l.length := by omega
      have w2 : wrap64 ((r : Int) + 1) = ((r + 1 : Nat) : Int) := by rw [w64 (by omega) (by omega)]; rfl
      obtain ⟨m, hm⟩ : ∃ m, m = (l.getD r 0).toNat := ⟨_, rfl⟩
      have hmi : rd l (r : Int) = (m : Int) := by rw [rd_nat, hm]; have := hgd r; omega
      have hm62 := hm6 r
      have hle : ∀ x ∈ Fk l r, x.1 ≤ m := by
        intro x hx
        refine (Fk_rooks r x hx).2 m (fun i hi => ?_)
        have := rise_le hr (r - i) i (by omega)
        rw [show i + (r - i) = r by omega] at this
        omega
      have hfe : ∀ x ∈ Fk l r, x.2 < 40 := fun x hx => by have := Fk_free hm6 r x hx; omega
      have e0 : ((l.length + 1 : Nat) : Int) - 1 = (l.length : Int) := by omega
      have := all_l1 (l := l) (r := r) (m := m) (n := l.length) h2 (by omega) (hlen r (by omega)) hfe rfl (fun T' hT' => by
        rw [w2]
        refine ih (r + 1) T' (by omega) ⟨hT'.len, fun k hk => (hT'.new k (by omega) hk).congr (fun i => ?_)⟩
        rw [Fk, ← hm, cnt_step m k i _ hle]) (l.length + 1) T (Nat.le_refl _) ⟨hT.len, fun j h1 h2 => by omega, fun j h1 h2 => hT.rep j h2⟩
      rw [e0] at this
      refine Ev.step (fun q => ?_) this
      rw [spec_weAll.l0, if_pos (by omega), if_pos (by omega), if_pos (by omega), hmi]
  have e1 : wrap64 ((l.length : Int) + 1) = ((l.length + 1 : Nat) : Int) := by rw [w64 (by omega) (by omega)]; rfl
  unfold spec_weAll.f
  refine Ev.congr (fun k => by rw [e1, if_pos (by omega), Int.toNat_natCast, if_pos (by omega), Option.bind_some, if_pos (by rw [List.length_replicate]; omega)]) ?_
  refine key l.length 0 _ (by omega) ⟨by rw [List.length_set, List.length_replicate], fun k hk => ?_⟩
  rw [show ((0 : Int)).toNat = 0 from rfl, set_getD1 _ _ _ _ (by rw [List.length_replicate]; omega)]
  by_cases e : k = 0
  · rw [if_pos e]
    refine ⟨fun i => ?_, fun i hi => ?_⟩
    · rw [Fk, cnt_cons, cnt_nil, Nat.zero_add]
      simp only []
      by_cases hi : i = 0
      · rw [if_pos ⟨e, hi⟩, hi]; rfl
      · rw [if_neg (by omega), gD_ge _ _ (by simp; omega)]; rfl
    · have hi0 : i = 0 := by simpa using hi.symm
      rw [Fk, cnt_cons, cnt_nil, e, hi0]; simp
  · rw [if_neg e, gD_lt _ _ (by rw [List.length_replicate]; omega), List.getElem_replicate]
    refine RepC.nil.congr (fun i => ?_)
    rw [Fk, cnt_cons, cnt_nil]
    simp only []
    rw [if_neg (by omega)]
end Go.Proofs.Ytlhblnphfpijkaa.WeAllK
