/- Texts of this claim put together (13): words, what the functions compute, and plain facts. No conditions. -/
import Derived.Test.YtihnjbfjdkdhaaaGreatSFnWeightsOfRooks4
import Derived.Test.YtihnjbfjdkdhaaaGreatSFnWeightsOfRooks8
import Derived.Test.YtihnjbfjdkdhaaaGreatSFnWeightsOfRooks9
import Derived.Test.YtihnjbfjdkdhaaaGreatSFnWeightsOfRooks6
import Derived.Test.YtihnjbfjdkdhaaaGreatSFnWeightsOfRooks7
import Derived.Test.YtihnjbfjdkdhaaaGreatSFnWeightsOfRooks10
import Derived.Test.YtihnjbfjdkdhaaaGreatSFnWeightsOfRooks11
import Derived.Test.YtihnjbfjdkdhaaaGreatSFnWeightsOfRooks12
import Derived.Test.YtihnjbfjdkdhaaaGreatSFnWeightsOfRooks5
import Derived.OpenShut
section
namespace Go.Proofs.YtihnjbfjdkdhaaaGreat.WeAllK
set_option linter.unusedVariables false
set_option linter.unusedSectionVars false
open Go.RowKit Go.Proofs.YtihnjbfjdkdhaaaGreat.Q Go.Proofs.YtihnjbfjdkdhaaaGreatW.PrintWords Go.Proofs.YtihnjbfjdkdhaaaGreatW.PrintLast Go.Proofs.YtihnjbfjdkdhaaaGreatW.PrintMore
open Go.Proofs.YtihnjbfjdkdhaaaGreatL Go.Proofs.YtihnjbfjdkdhaaaGreat.LawK Go.Proofs.YtihnjbfjdkdhaaaGreat.W1 Go.Proofs.YtihnjbfjdkdhaaaGreat.BagK Go.Proofs.YtihnjbfjdkdhaaaGreat.LensK Go.Proofs.YtihnjbfjdkdhaaaGreat.BoardK
theorem rd1_nat (T : List (List Int)) (i : Nat) : rd_L2 T (i : Int) = T.getD i [] := by unfold rd_L2; rw [Int.toNat_natCast]
theorem own_f {l : List Int} (h : l.length ≤ 1000000) : spec_l1Own.f l = some l := by
  unfold spec_l1Own.f
  rw [Option.bind_some, if_pos (by rw [List.length_nil]; omega), List.nil_append]
theorem pad_snoc {row : List Int} {p : Nat} (h : row.length ≤ p) : pad (row ++ [0]) p = pad row p := by
  unfold pad
  rw [List.append_assoc, List.length_append, List.length_singleton, show p + 1 - row.length = (p + 1 - (row.length + 1)) + 1 by omega, List.replicate_succ]
  rfl
theorem pad_long {row : List Int} {p : Nat} (h : p < row.length) : pad row p = row := by
  unfold pad
  rw [show p + 1 - row.length = 0 by omega, List.replicate_zero, List.append_nil]
theorem add_l1 {b : List Int} {by_ e n : Nat} (hp : by_ + e ≤ 1000000) {g : List Int} : ∀ (d : Nat) (row : List Int), d = e + by_ + 1 - row.length →
    Ev (fun k => spec_weAdd.l0 k by_ (addAt row (e + by_) n) b (b.length : Int) ((e + 1 : Nat) : Int)) g → Ev (fun k => spec_weAdd.l1 k by_ row e n b (b.length : Int) e) g
  | 0, row, hd, next => by
    have w1 : wrap64 ((e : Int) + by_) = ((e + by_ : Nat) : Int) := by rw [w64 (by omega) (by omega)]; rfl
    have w2 : wrap64 ((e : Int) + 1) = ((e + 1 : Nat) : Int) := by rw [w64 (by omega) (by omega)]; rfl
    refine Ev.step (fun k => ?_) next
    rw [spec_weAdd.l1, w1, if_neg (by omega), if_pos (by omega), if_pos (by omega), w2, Int.toNat_natCast]
    unfold addAt
    rw [pad_long (by omega)]
  | d + 1, row, hd, next => by
    have w1 : wrap64 ((e : Int) + by_) = ((e + by_ : Nat) : Int) := by rw [w64 (by omega) (by omega)]; rfl
    refine Ev.step (fun k => ?_) (add_l1 hp d (row ++ [0]) (by rw [List.length_append, List.length_singleton]; omega) (by unfold addAt at next ⊢; rw [pad_snoc (by omega)]; exact next))
    rw [spec_weAdd.l1, w1, if_pos (by omega), if_pos (by omega)]
def plus (c d : Nat → Nat) (by_ e i : Nat) : Nat := c i + if by_ ≤ i ∧ i - by_ < e then d (i - by_) else 0
theorem add_l0 {b : List Int} {c d : Nat → Nat} {by_ : Nat} (hb : RepC b d) (hbl : b.length ≤ 1000) (hby : by_ ≤ 1000) (hc : ∀ i, c i ≤ 1000000000) (hd : ∀ i, d i ≤ 1000000000) :
    ∀ (r e : Nat) (row : List Int), e + r = b.length → RepC row (plus c d by_ e) → ∃ out, Ev (fun k => spec_weAdd.l0 k by_ row b (b.length : Int) e) out ∧ RepC out (plus c d by_ b.length)
  | 0, e, row, he, hr => by
    refine ⟨row, ?_, by rw [show b.length = e by omega]; exact hr⟩
    refine Ev.step (f := fun _ => some row) (fun k => ?_) (Ev.now _)
    rw [spec_weAdd.l0, if_neg (by omega)]
  | r + 1, e, row, he, hr => by
    have he2 : e < b.length := by omega
    have w2 : wrap64 ((e : Int) + 1) = ((e + 1 : Nat) : Int) := by rw [w64 (by omega) (by omega)]; rfl
    have hg := hb.get e
    have hrd : rd b (e : Int) = (d e : Int) := by rw [rd_nat, hg]
    by_cases h0 : d e = 0
    · obtain ⟨out, h1, h2⟩ := add_l0 hb hbl hby hc hd r (e + 1) row (by omega) (hr.congr (fun i => by
        unfold plus
        congr 1
        by_cases q : by_ ≤ i ∧ i - by_ < e
        · rw [if_pos q, if_pos (by omega)]
        · rw [if_neg q]
          by_cases q2 : by_ ≤ i ∧ i - by_ < e + 1
          · rw [if_pos q2, show i - by_ = e by omega, h0]
          · rw [if_neg q2]))
      refine ⟨out, Ev.step (fun k => ?_) h1, h2⟩
      rw [spec_weAdd.l0, if_pos (by omega), if_pos (by omega), if_pos (by omega), hrd, if_pos (by omega), w2]
    · have hpc : plus c d by_ e (e + by_) = c (e + by_) := by unfold plus; rw [if_neg (by omega), Nat.add_zero]
      have hA := addAt_rep (p := e + by_) (n := d e) hr (by omega) (by rw [hpc]; have := hc (e + by_); have := hd e; omega)
      obtain ⟨out, h1, h2⟩ := add_l0 hb hbl hby hc hd r (e + 1) (addAt row (e + by_) (d e)) (by omega) (hA.congr (fun i => by
        unfold plus
        by_cases q : i = e + by_
        · subst q
          rw [if_pos rfl, if_neg (by omega), if_pos (by omega), show e + by_ - by_ = e by omega]
          rfl
        · rw [if_neg q]
          congr 1
          by_cases q2 : by_ ≤ i ∧ i - by_ < e
          · rw [if_pos q2, if_pos (by omega)]
          · rw [if_neg q2, if_neg (by omega)]))
      refine ⟨out, Ev.step (fun k => ?_) (add_l1 (by_ := by_) (e := e) (n := d e) (b := b) (by omega) (e + by_ + 1 - row.length) row rfl h1), h2⟩
      rw [spec_weAdd.l0, if_pos (by omega), if_pos (by omega), if_pos (by omega), hrd, if_neg (by omega)]
theorem weAdd {a b : List Int} {c d : Nat → Nat} {by_ : Nat} (ha : RepC a c) (hb : RepC b d) (hal : a.length ≤ 1000) (hbl : b.length ≤ 1000) (hby : by_ ≤ 1000) (hc : ∀ i, c i ≤ 1000000000) (hd : ∀ i, d i ≤ 1000000000) :
    ∃ out, Ev (fun k => spec_weAdd.f k a b by_) out ∧ RepC out (fun i => c i + if by_ ≤ i then d (i - by_) else 0) := by
  obtain ⟨out, h1, h2⟩ := add_l0 (c := c) hb hbl hby hc hd b.length 0 a (by omega) (ha.congr (fun i => by unfold plus; rw [if_neg (by omega), Nat.add_zero]))
  refine ⟨out, ?_, h2.congr (fun i => ?_)⟩
  · unfold spec_weAdd.f
    refine Ev.congr (fun k => by rw [own_f (by omega), Option.bind_some]; rfl) h1
  · unfold plus
    congr 1
    by_cases q : by_ ≤ i
    · rw [if_pos q]
      by_cases q2 : i - by_ < b.length
      · rw [if_pos ⟨q, q2⟩]
      · rw [if_neg (by omega)]
        have := hb.get (i - by_)
        rw [gD_ge _ _ (by omega)] at this
        omega
    · rw [if_neg q, if_neg (by omega)]
theorem RepC.short {r : List Int} {c : Nat → Nat} (h : RepC r c) (hs : ∀ i, c i ≠ 0 → i < 64) : r.length ≤ 64 := by
  rcases Nat.eq_zero_or_pos r.length with h0 | h0
  · omega
  · have := hs (r.length - 1) (h.last (r.length - 1) (by omega)); omega
structure Mid (n m : Nat) (F : List (Nat × Nat)) (T : List (List Int)) (k : Nat) : Prop where
  len : T.length = n + 1
  new : ∀ j, k ≤ j → j ≤ n → RepC (T.getD j []) (nextC F m j)
  old : ∀ j, j < k → j ≤ n → RepC (T.getD j []) (cnt F j)
theorem set_getD1 (T : List (List Int)) (p i : Nat) (x : List Int) (hp : p < T.length) : (T.set p x).getD i [] = if i = p then x else T.getD i [] := by
  rw [List.getD_eq_getElem?_getD, List.getElem?_set, List.getD_eq_getElem?_getD]
  by_cases h : p = i
  · subst h; simp [hp]
  · rw [if_neg h, if_neg (fun e => h e.symm)]
section
variable {l : List Int} {F : List (Nat × Nat)} {n m r : Nat} (hn : n ≤ 6) (hm : m ≤ 6) (hF : F.length ≤ 1000000) (hFe : ∀ x ∈ F, x.2 < 40)
include hn hm hF hFe
theorem cnt_le (k e : Nat) : cnt F k e ≤ 1000000 := Nat.le_trans List.count_le_length hF
theorem cnt_far (k e : Nat) (h : cnt F k e ≠ 0) : e < 40 := by
  have : (k, e) ∈ F := List.count_pos_iff.1 (Nat.pos_of_ne_zero h)
  exact hFe _ this
def part (F : List (Nat × Nat)) (m k b i : Nat) : Nat := (if k ≤ m ∧ m - k ≤ i then cnt F k (i - (m - k)) else 0) + (if k = 0 then 0 else sumTo b (fun b => if b ≤ i then cnt F (k - 1) (i - b) else 0))
theorem sum_far {k i : Nat} : ∀ b, sumTo b (fun b => if b ≤ i then cnt F k (i - b) else 0) ≠ 0 → i < 40 + b
  | 0, h => absurd rfl h
  | b + 1, h => by
    rw [sumTo] at h
    by_cases h1 : sumTo b (fun b => if b ≤ i then cnt F k (i - b) else 0) = 0
    · rw [h1, Nat.zero_add] at h
      by_cases h2 : b ≤ i
      · rw [if_pos h2] at h
        have := cnt_far hn hm hF hFe k (i - b) h
        omega
      · omega
    · have := sum_far b h1; omega
theorem part_far {k b i : Nat} (hb : b ≤ 7) (h : part F m k b i ≠ 0) : i < 64 := by
  unfold part at h
  by_cases h1 : (if k ≤ m ∧ m - k ≤ i then cnt F k (i - (m - k)) else 0) = 0
  · rw [h1, Nat.zero_add] at h
    by_cases h2 : k = 0
    · rw [if_pos h2] at h; exact absurd rfl h
    · rw [if_neg h2] at h
      have := sum_far hn hm hF hFe b h
      omega
  · by_cases h3 : k ≤ m ∧ m - k ≤ i
    · rw [if_pos h3] at h1
      have := cnt_far hn hm hF hFe _ _ h1
      omega
    · rw [if_neg h3] at h1; exact absurd rfl h1
theorem part_le {k b i : Nat} (hb : b ≤ 7) : part F m k b i ≤ 8000000 := by
  unfold part
  have h1 : (if k ≤ m ∧ m - k ≤ i then cnt F k (i - (m - k)) else 0) ≤ 1000000 := by
    split
    · exact cnt_le hn hm hF hFe _ _
    · omega
  have h2 : (if k = 0 then 0 else sumTo b (fun b => if b ≤ i then cnt F (k - 1) (i - b) else 0)) ≤ 7000000 := by
    split
    · omega
    · have := sumTo_le (f := fun b => if b ≤ i then cnt F (k - 1) (i - b) else 0) (B := 1000000) (fun b => by
        split
        · exact cnt_le hn hm hF hFe _ _
        · omega) b
      have h3 : b * 1000000 ≤ 7 * 1000000 := Nat.mul_le_mul_right _ hb
      omega
  omega
theorem old_short {T : List (List Int)} {k j : Nat} (h : Mid n m F T k) (hj : j < k) (hjn : j ≤ n) : (T.getD j []).length ≤ 64 :=
  RepC.short (h.old j hj hjn) (fun i hi => by have := cnt_far hn hm hF hFe j i hi; omega)
theorem all_l2 (hl : l.length = n) {g : List (List Int)} {T : List (List Int)} {k : Nat} (hk : k ≤ n) (hT : Mid n m F T (k + 1))
    (next : ∀ T', Mid n m F T' k → Ev (fun q => spec_weAll.l1 q l T' m ((k : Int) - 1) l (l.length : Int) r) g) :
    ∀ (d b : Nat) (row : List Int), b + d = m + 1 - k → RepC row (part F m k b) → Ev (fun q => spec_weAll.l2 q l T m k row b l (l.length : Int) r) g
  | 0, b, row, hb, hr => by
    have w1 : wrap64 ((m : Int) - k) = (m : Int) - k := w64 (by omega) (by omega)
    have w2 : wrap64 ((m : Int) - k + 1) = (m : Int) - k + 1 := w64 (by omega) (by omega)
    have w3 : wrap64 ((k : Int) - 1) = (k : Int) - 1 := w64 (by omega) (by omega)
    have hM : Mid n m F (T.set k row) k := by
      refine ⟨by rw [List.length_set]; exact hT.len, fun j h1 h2 => ?_, fun j h1 h2 => ?_⟩
      · rw [set_getD1 _ _ _ _ (by rw [hT.len]; omega)]
        by_cases e : j = k
        · rw [if_pos e]
          refine hr.congr (fun i => ?_)
          rw [e]
          unfold part nextC
          by_cases hk0 : k = 0
          · rw [if_pos hk0, if_pos hk0]
          · rw [if_neg hk0, if_neg hk0, show b = m + 1 - k by omega]
        · rw [if_neg e]; exact hT.new j (by omega) h2
      · rw [set_getD1 _ _ _ _ (by rw [hT.len]; omega), if_neg (by omega)]
        exact hT.old j (by omega) h2
    refine Ev.step (fun q => ?_) (next _ hM)
    rw [spec_weAll.l2, w1, w2, w3]
    by_cases hk0 : (k : Int) > 0
    · rw [if_pos hk0, if_neg (by omega), if_pos (by omega), if_pos (by rw [hT.len]; omega), Int.toNat_natCast]
    · rw [if_neg hk0, if_pos (by omega), if_pos (by rw [hT.len]; omega), Int.toNat_natCast]
  | d + 1, b, row, hb, hr => by
    have hb7 : b ≤ 7 := by clear hT next hr; omega
    have hbm : (b : Int) < (m : Int) - k + 1 := by clear hT next hr; omega
    have w1 : wrap64 ((m : Int) - k) = (m : Int) - k := w64 (by omega) (by omega)
    have w2 : wrap64 ((m : Int) - k + 1) = (m : Int) - k + 1 := w64 (by omega) (by omega)
    have w4 : wrap64 ((b : Int) + 1) = ((b + 1 : Nat) : Int) := by rw [w64 (by omega) (by omega)]; rfl
    by_cases hk0 : k = 0
    · have hM : Mid n m F (T.set k row) k := by
        refine ⟨by rw [List.length_set]; exact hT.len, fun j h1 h2 => ?_, fun j h1 h2 => by omega⟩
        rw [set_getD1 _ _ _ _ (by rw [hT.len]; omega)]
        by_cases e : j = k
        · rw [if_pos e]
          refine hr.congr (fun i => ?_)
          rw [e]
          unfold part nextC
          rw [if_pos hk0, if_pos hk0]
        · rw [if_neg e]; exact hT.new j (by omega) h2
      have w3 : wrap64 ((k : Int) - 1) = (k : Int) - 1 := w64 (by omega) (by omega)
      refine Ev.step (fun q => ?_) (next _ hM)
      rw [spec_weAll.l2, w3, if_neg (by omega), if_pos (by omega), if_pos (by rw [hT.len]; omega), Int.toNat_natCast]
    · have w3 : wrap64 ((k : Int) - 1) = ((k - 1 : Nat) : Int) := by rw [w64 (by omega) (by omega)]; omega
      have hold := hT.old (k - 1) (by omega) (by omega)
      have hs := old_short hn hm hF hFe hT (show k - 1 < k + 1 by omega) (by omega)
      obtain ⟨out, h1, h2⟩ := weAdd (by_ := b) hr hold (Nat.le_trans (RepC.short hr (fun i hi => part_far hn hm hF hFe hb7 hi)) (by decide)) (Nat.le_trans hs (by decide)) (Nat.le_trans hb7 (by decide)) (fun i => Nat.le_trans (part_le hn hm hF hFe (k := k) (b := b) (i := i) hb7) (by decide)) (fun i => Nat.le_trans (cnt_le hn hm hF hFe (k - 1) i) (by decide))
      have ih := all_l2 hl hk hT next d (b + 1) out (by omega) (h2.congr (fun i => by
        unfold part
        rw [if_neg hk0, if_neg hk0, sumTo, Nat.add_assoc]))
      refine Ev.step (fun q => by rw [spec_weAll.l2, w1, w2, w3, if_pos (by omega), if_pos hbm, if_pos (by omega), if_pos (by rw [hT.len]; omega), rd1_nat, w4]) ?_
      refine Ev.bind h1 ?_
      exact ih
theorem all_l1 (hl : l.length = n) {g : List (List Int)} (next : ∀ T', Mid n m F T' 0 → Ev (fun q => spec_weAll.l0 q l T' l (l.length : Int) (wrap64 ((r : Int) + 1))) g) :
    ∀ (k : Nat) (T : List (List Int)), k ≤ n + 1 → Mid n m F T k → Ev (fun q => spec_weAll.l1 q l T m ((k : Int) - 1) l (l.length : Int) r) g
  | 0, T, hk, hT => by
    refine Ev.step (fun q => ?_) (next T hT)
    rw [spec_weAll.l1, if_neg (by omega)]
  | k + 1, T, hk, hT => by
    have ih := fun T' h' => all_l1 hl next k T' (by omega) h'
    have e0 : ((k + 1 : Nat) : Int) - 1 = k := by omega
    rw [e0]
    have w1 : ∀ h : k ≤ m, wrap64 ((m : Int) - k) = ((m - k : Nat) : Int) := fun h => by rw [w64 (by omega) (by omega)]; omega
    by_cases hkm : k ≤ m
    · have hold := hT.old k (by omega) (by omega)
      have hs := old_short hn hm hF hFe hT (show k < k + 1 by omega) (by omega)
      obtain ⟨out, h1, h2⟩ := weAdd (a := []) (by_ := m - k) RepC.nil hold (by simp) (by omega) (by omega) (fun i => by omega) (fun i => by have := cnt_le hn hm hF hFe k i; omega)
      have h3 := all_l2 hn hm hF hFe hl (r := r) (by omega) hT ih (m + 1 - k) 0 out (by omega) (h2.congr (fun i => by
        unfold part
        rw [Nat.zero_add]
        by_cases q : m - k ≤ i
        · rw [if_pos q, if_pos ⟨hkm, q⟩]; by_cases hk0 : k = 0 <;> simp [hk0, sumTo]
        · rw [if_neg q, if_neg (by omega)]; by_cases hk0 : k = 0 <;> simp [hk0, sumTo]))
      refine Ev.step (fun q => by rw [spec_weAll.l1, if_pos (by omega), if_pos (by omega), if_pos (by omega), if_pos (by rw [hT.len]; omega), rd1_nat, w1 hkm]) ?_
      refine Ev.bind h1 ?_
      exact Ev.step (fun q => by rw [spec_weAll.j2]; rfl) h3
    · have h3 := all_l2 hn hm hF hFe hl (r := r) (by omega) hT ih 0 0 [] (by omega) (RepC.nil.congr (fun i => by
        unfold part
        rw [if_neg (by omega)]
        by_cases hk0 : k = 0 <;> simp [hk0, sumTo]))
      refine Ev.step (fun q => by rw [spec_weAll.l1, if_pos (by omega), if_neg (by omega)]) ?_
      exact Ev.step (fun q => by rw [spec_weAll.j2]; rfl) h3
end
theorem Fk_free {l : List Int} (hm : ∀ r, (l.getD r 0).toNat ≤ 6) : ∀ r x, x ∈ Fk l r → x.2 ≤ 6 * r
  | 0, x, h => by rw [Fk, List.mem_singleton] at h; subst h; exact Nat.le_refl _
  | r + 1, x, h => by
    rw [Fk, List.mem_flatMap] at h
    obtain ⟨y, hy, hx⟩ := h
    have q := Fk_free hm r y hy
    have q2 := hm r
    rw [BagK.step, List.mem_cons, List.mem_map] at hx
    rcases hx with rfl | ⟨i, hi, rfl⟩
    · simp only []; omega
    · rw [List.mem_range] at hi
      simp only []; omega
theorem weAll {l : List Int} (h : lenB l = true) : Ev (fun k => spec_weAll.f k l) (wtab l) := by
  obtain ⟨h1, h2, h3⟩ := len_of h
  have hr : riseFrom l 1 = true := by unfold lenB at h; simp only [Bool.and_eq_true] at h; exact h.2
  have hgd : ∀ i, 0 ≤ l.getD i 0 ∧ l.getD i 0 ≤ l.length := by
    intro i
    by_cases hi : i < l.length
    · rw [gD_lt _ _ hi]; exact h3 i hi
    · rw [gD_ge _ _ (by omega)]; omega
  have hm6 : ∀ i, (l.getD i 0).toNat ≤ 6 := fun i => by have := hgd i; omega
  have hlen : ∀ r, r ≤ l.length → (Fk l r).length ≤ 1000000 := by
    intro r hr
    have a := Fk_len hm6 r
    have b : 7 ^ r ≤ 7 ^ 6 := Nat.pow_le_pow_right (by omega) (by omega)
    omega
  have key : ∀ (d r : Nat) (T : List (List Int)), r + d = l.length → RepT l.length T (Fk l r) → Ev (fun q => spec_weAll.l0 q l T l (l.length : Int) r) (wtab l) := by
    intro d
    induction d with
    | zero =>
      intro r T hrd hT
      refine Ev.step (f := fun _ => some T) (fun k => by rw [spec_weAll.l0, if_neg (by omega)]) (evEq (Ev.now _) ?_)
      rw [show r = l.length by omega] at hT
      exact hT.eq (wtab_rep h)
    | succ d ih =>
      intro r T hrd hT
      have hr2 : r < l.length := by omega
      have w2 : wrap64 ((r : Int) + 1) = ((r + 1 : Nat) : Int) := by rw [w64 (by omega) (by omega)]; rfl
      obtain ⟨m, hm⟩ : ∃ m, m = (l.getD r 0).toNat := ⟨_, rfl⟩
      have hmi : rd l (r : Int) = (m : Int) := by rw [rd_nat, hm]; have := hgd r; omega
      have hm62 := hm6 r
      have hle : ∀ x ∈ Fk l r, x.1 ≤ m := by
        intro x hx
        refine (Fk_rooks r x hx).2 m (fun i hi => ?_)
        have := rise_le hr (r - i) i (by omega)
        rw [show i + (r - i) = r by omega] at this
        omega
      have hfe : ∀ x ∈ Fk l r, x.2 < 40 := fun x hx => by have := Fk_free hm6 r x hx; omega
      have e0 : ((l.length + 1 : Nat) : Int) - 1 = (l.length : Int) := by omega
      have := all_l1 (l := l) (r := r) (m := m) (n := l.length) h2 (by omega) (hlen r (by omega)) hfe rfl (fun T' hT' => by
        rw [w2]
        refine ih (r + 1) T' (by omega) ⟨hT'.len, fun k hk => (hT'.new k (by omega) hk).congr (fun i => ?_)⟩
        rw [Fk, ← hm, cnt_step m k i _ hle]) (l.length + 1) T (Nat.le_refl _) ⟨hT.len, fun j h1 h2 => by omega, fun j h1 h2 => hT.rep j h2⟩
      rw [e0] at this
      refine Ev.step (fun q => ?_) this
      rw [spec_weAll.l0, if_pos (by omega), if_pos (by omega), if_pos (by omega), hmi]
  have e1 : wrap64 ((l.length : Int) + 1) = ((l.length + 1 : Nat) : Int) := by rw [w64 (by omega) (by omega)]; rfl
  unfold spec_weAll.f
  refine Ev.congr (fun k => by rw [e1, if_pos (by omega), Int.toNat_natCast, if_pos (by omega), Option.bind_some, if_pos (by rw [List.length_replicate]; omega)]) ?_
  refine key l.length 0 _ (by omega) ⟨by rw [List.length_set, List.length_replicate], fun k hk => ?_⟩
  rw [show ((0 : Int)).toNat = 0 from rfl, set_getD1 _ _ _ _ (by rw [List.length_replicate]; omega)]
  by_cases e : k = 0
  · rw [if_pos e]
    refine ⟨fun i => ?_, fun i hi => ?_⟩
    · rw [Fk, cnt_cons, cnt_nil, Nat.zero_add]
      simp only []
      by_cases hi : i = 0
      · rw [if_pos ⟨e, hi⟩, hi]; rfl
      · rw [if_neg (by omega), gD_ge _ _ (by simp; omega)]; rfl
    · have hi0 : i = 0 := by simpa using hi.symm
      rw [Fk, cnt_cons, cnt_nil, e, hi0]; simp
  · rw [if_neg e, gD_lt _ _ (by rw [List.length_replicate]; omega), List.getElem_replicate]
    refine RepC.nil.congr (fun i => ?_)
    rw [Fk, cnt_cons, cnt_nil]
    simp only []
    rw [if_neg (by omega)]
end Go.Proofs.YtihnjbfjdkdhaaaGreat.WeAllK
end
section
namespace Go.Proofs.YtihnjbfjdkdhaaaGreat.WValK
set_option linter.unusedVariables false
open Go.RowKit Go.Proofs.YtihnjbfjdkdhaaaGreat.Q Go.Proofs.YtihnjbfjdkdhaaaGreatW.PrintWords Go.Proofs.YtihnjbfjdkdhaaaGreatW.PrintLast Go.Proofs.YtihnjbfjdkdhaaaGreatW.PrintMore
open Go.Proofs.YtihnjbfjdkdhaaaGreatL Go.Proofs.YtihnjbfjdkdhaaaGreat.LawK Go.Proofs.YtihnjbfjdkdhaaaGreat.BagK Go.Proofs.YtihnjbfjdkdhaaaGreat.LensK Go.Proofs.YtihnjbfjdkdhaaaGreat.BoardK Go.Proofs.YtihnjbfjdkdhaaaGreat.WeAllK
theorem withinR (a b c : Int) : impl_within.f a b c = some (inR b c a) := by
  unfold impl_within.f inR
  by_cases h : b ≤ a
  · rw [if_pos h]; simp [h]
  · rw [if_neg h]; congr 1; exact (decide_eq_false (by omega)).symm
theorem wtab_len {l : List Int} (h : lenB l = true) : (wtab l).length = l.length + 1 := (wtab_rep h).len
theorem wtab_row {l : List Int} (h : lenB l = true) (k : Nat) : ((wtab l).getD k []).length ≤ 64 := by
  obtain ⟨h1, h2, h3⟩ := len_of h
  by_cases hk : k ≤ l.length
  · refine RepC.short ((wtab_rep h).rep k hk) (fun i hi => ?_)
    have hm6 : ∀ i, (l.getD i 0).toNat ≤ 6 := by
      intro i
      by_cases hi : i < l.length
      · rw [gD_lt _ _ hi]; have := h3 i hi; omega
      · rw [gD_ge _ _ (by omega)]; exact Nat.zero_le _
    have := Fk_free hm6 l.length (k, i) (List.count_pos_iff.1 (Nat.pos_of_ne_zero hi))
    simp only [] at this
    omega
  · rw [gD_ge _ _ (by rw [wtab_len h]; omega)]; exact Nat.zero_le _
end Go.Proofs.YtihnjbfjdkdhaaaGreat.WValK
end
section
namespace Go.Proofs.YtihnjbfjdkdhaaaGreat.WValK
set_option linter.unusedVariables false
open Go.RowKit Go.Proofs.YtihnjbfjdkdhaaaGreat.Q Go.Proofs.YtihnjbfjdkdhaaaGreatW.PrintWords Go.Proofs.YtihnjbfjdkdhaaaGreatW.PrintLast Go.Proofs.YtihnjbfjdkdhaaaGreatW.PrintMore
open Go.Proofs.YtihnjbfjdkdhaaaGreatL Go.Proofs.YtihnjbfjdkdhaaaGreat.LawK Go.Proofs.YtihnjbfjdkdhaaaGreat.BagK Go.Proofs.YtihnjbfjdkdhaaaGreat.LensK Go.Proofs.YtihnjbfjdkdhaaaGreat.BoardK Go.Proofs.YtihnjbfjdkdhaaaGreat.WeAllK
theorem asked {l : List Int} (k : Int) (hl : l.length ≤ 1048576) : Ev (fun q => spec_weAsked.f q l k) (lenB l && inR 0 l.length k) := by
  unfold spec_weAsked.f
  refine Ev.bind (spec_good hl) ?_
  by_cases h : lenB l = true
  · rw [h, Bool.true_and]
    exact Ev.congr (fun q => by rw [if_pos rfl, l1In_f, Option.bind_some]) (Ev.now _)
  · rw [show lenB l = false by simpa using h, Bool.false_and]
    exact Ev.congr (fun q => if_neg (by simp)) (Ev.now _)
theorem inR_nat {n : Nat} {k : Int} (h : inR 0 n k = true) : 0 ≤ k ∧ k ≤ n := of_decide_eq_true h
def ofAns (l : List Int) (k : Int) : List Int × Bool := if (lenB l && inR 0 l.length k) = true then ((wtab l).getD k.toNat [], true) else ([], false)
theorem impl_of {l : List Int} (k : Int) (hl : l.length ≤ 1048576) : Ev (fun q => impl_WeightsOf.f q l k) (ofAns l k) := by
  unfold impl_WeightsOf.f ofAns
  refine Ev.bind (impl_good hl) ?_
  by_cases h : lenB l = true
  · rw [h, Bool.true_and]
    refine Ev.congr (fun q => by rw [if_pos rfl, withinR, Option.bind_some]) ?_
    by_cases h2 : inR 0 l.length k = true
    · have hk := inR_nat h2
      rw [if_pos h2, if_pos h2]
      refine Ev.congr (fun q => by rw [impl_weights.f, if_pos h, Option.bind_some, if_pos (by omega), if_pos (by rw [wtab_len h]; omega)]) ?_
      unfold rd_L2
      exact Ev.now _
    · rw [if_neg h2, if_neg h2]; exact Ev.now _
  · rw [show lenB l = false by simpa using h, Bool.false_and, if_neg (by simp), if_neg (by simp)]
    exact Ev.now _
theorem ofAns_len (l : List Int) (k : Int) : (ofAns l k).1.length ≤ 64 := by
  unfold ofAns
  split
  · rename_i h
    rw [Bool.and_eq_true] at h
    exact wtab_row h.1 _
  · exact Nat.zero_le _
end Go.Proofs.YtihnjbfjdkdhaaaGreat.WValK
end
section
namespace Go.Proofs.YtihnjbfjdkdhaaaGreat.Pure
set_option linter.unusedVariables false
open Go.RowKit Go.Proofs.YtihnjbfjdkdhaaaGreat.Q Go.Proofs.YtihnjbfjdkdhaaaGreatW.PrintWords Go.Proofs.YtihnjbfjdkdhaaaGreatW.PrintLast Go.Proofs.YtihnjbfjdkdhaaaGreatW.PrintMore
open Go.Proofs.YtihnjbfjdkdhaaaGreatL Go.Proofs.YtihnjbfjdkdhaaaGreat.LawK Go.Proofs.YtihnjbfjdkdhaaaGreat.BoardK Go.Proofs.YtihnjbfjdkdhaaaGreat.LensK Go.Proofs.YtihnjbfjdkdhaaaGreat.FreeK
def freeAnswer (l p : List Int) : Int × Bool := if lenB l = true then (if placeB (rowsOf l) l.length l.length p = true then (allFree p l 0 0, true) else (0, false)) else (0, false)
theorem place_len {rows p : List Int} {R C : Int} (h : placeB rows R C p = true) : (p.length : Int) = R := by
  unfold placeB at h; simp only [Bool.and_eq_true, decide_eq_true_eq] at h; exact h.1
theorem spec_freeCells {l p : List Int} (hl : l.length ≤ 1048576) : Ev (fun k => spec_FreeCells.f k l p) (freeAnswer l p) := by
  unfold spec_FreeCells.f freeAnswer
  refine Ev.bind (spec_good hl) ?_
  by_cases h : lenB l = true
  · obtain ⟨h1, h2, h3⟩ := len_of h
    obtain ⟨r1, r2⟩ := rows_in h
    rw [if_pos h]
    refine Ev.congr (fun k => by rw [if_pos h]) (Ev.bind (spec_board h) (Ev.bind (spec_roGood (rows := rowsOf l) (p := p) (R := (l.length : Int)) (C := (l.length : Int)) (by omega) (by omega) (by omega) (by omega) r2) ?_))
    by_cases hq : placeB (rowsOf l) l.length l.length p = true
    · have hp := place_len hq
      rw [if_pos hq]
      refine Ev.congr (fun k => by rw [if_pos hq]) (Ev.bind (a := allFree p l 0 0) ?_ (Ev.now _))
      have := spec_rows h2 (fun i hi => by have := h3 i hi; omega) (p := p) (by omega) l.length 0 0 (by omega) (by omega) (by omega)
      rw [List.drop_zero] at this
      exact this
    · rw [if_neg hq]
      exact Ev.congr (fun k => by rw [if_neg hq]) (Ev.now _)
  · rw [if_neg h]
    exact Ev.congr (fun k => by rw [if_neg h]) (Ev.now _)
theorem impl_freeCells {l p : List Int} (hl : l.length ≤ 1048576) : Ev (fun k => impl_FreeCells.f k l p) (freeAnswer l p) := by
  unfold impl_FreeCells.f freeAnswer
  refine Ev.bind (impl_good hl) ?_
  by_cases h : lenB l = true
  · obtain ⟨h1, h2, h3⟩ := len_of h
    obtain ⟨r1, r2⟩ := rows_in h
    rw [if_pos h]
    refine Ev.congr (fun k => by rw [if_pos h]) (Ev.bind (impl_board h) (Ev.bind (impl_isPlacement (rows := rowsOf l) (p := p) (R := (l.length : Int)) (C := (l.length : Int)) (by omega) (by omega) (by omega) (by omega) r2) ?_))
    by_cases hq : placeB (rowsOf l) l.length l.length p = true
    · have hp := place_len hq
      rw [if_pos hq]
      refine Ev.congr (fun k => by rw [if_pos hq]) (Ev.bind (a := allFree p l 0 0) ?_ (Ev.now _))
      have := impl_rows h2 (fun i hi => by have := h3 i hi; omega) (p := p) (by omega) l.length 0 0 (by omega) (by omega) (by omega)
      rw [List.drop_zero] at this
      exact this
    · rw [if_neg hq]
      exact Ev.congr (fun k => by rw [if_neg hq]) (Ev.now _)
  · rw [if_neg h]
    exact Ev.congr (fun k => by rw [if_neg h]) (Ev.now _)
end Go.Proofs.YtihnjbfjdkdhaaaGreat.Pure
end
section
namespace Go.Proofs.YtihnjbfjdkdhaaaGreat.WLaw
set_option linter.unusedVariables false
set_option linter.unusedSectionVars false
open Go.RowKit Go.Proofs.YtihnjbfjdkdhaaaGreat.Q Go.Proofs.YtihnjbfjdkdhaaaGreatW.PrintWords Go.Proofs.YtihnjbfjdkdhaaaGreatW.PrintLast Go.Proofs.YtihnjbfjdkdhaaaGreatW.PrintMore
open Go.Proofs.YtihnjbfjdkdhaaaGreatL Go.Proofs.YtihnjbfjdkdhaaaGreat.LawK Go.Proofs.YtihnjbfjdkdhaaaGreat.BoardK Go.Proofs.YtihnjbfjdkdhaaaGreat.Walk Go.Proofs.YtihnjbfjdkdhaaaGreat.NumK Go.Proofs.YtihnjbfjdkdhaaaGreat.BagK Go.Proofs.YtihnjbfjdkdhaaaGreat.LensK Go.Proofs.YtihnjbfjdkdhaaaGreat.FreeK Go.Proofs.YtihnjbfjdkdhaaaGreat.WValK Go.Proofs.YtihnjbfjdkdhaaaGreat.WeAllK Go.Proofs.YtihnjbfjdkdhaaaGreat.Pure
theorem rSame_l0 {a : List Int} (hl : a.length ≤ 1000000) : ∀ (d i : Nat), i + d = a.length → Ev (fun k => laws_rSame.l0 k a a (a.length : Int) i) true
  | 0, i, hi => Ev.step (f := fun _ => some true) (fun k => by rw [laws_rSame.l0, if_neg (by omega)]) (Ev.now _)
  | d + 1, i, hi => by
    have w1 := Aside0.mk (show wrap64 ((i : Int) + 1) = ((i + 1 : Nat) : Int) from by rw [w64 (by omega) (by omega)]; rfl)
    exact Ev.step (fun k => by rw [laws_rSame.l0, if_pos (by omega), if_pos (by omega), if_pos (by omega), if_pos (by omega), if_pos rfl, w1.out]) (rSame_l0 hl d (i + 1) (by omega))
theorem rSame_self {a : List Int} (hl : a.length ≤ 1000000) : Ev (fun k => laws_rSame.f k a a) true := by
  unfold laws_rSame.f
  exact Ev.congr (fun k => if_pos rfl) (rSame_l0 hl a.length 0 (by omega))
def sumZ : List Int → Int
  | [] => 0
  | x :: t => x + sumZ t
theorem sumZ_app : ∀ a b, sumZ (a ++ b) = sumZ a + sumZ b
  | [], b => by rw [List.nil_append, sumZ, Int.zero_add]
  | x :: a, b => by rw [List.cons_append, sumZ, sumZ, sumZ_app a b, Int.add_assoc]
theorem rSum_l0 {l : List Int} (hl : l.length ≤ 100) (hx : ∀ x ∈ l, 0 ≤ x ∧ x ≤ 4000000000) : ∀ (d i : Nat) (a : Int), i + d = l.length → 0 ≤ a ∧ a ≤ i * 4000000000 → Ev (fun k => laws_rSum.l0 k a l (l.length : Int) i) (a + sumZ (l.drop i))
  | 0, i, a, hi, ha => by
    rw [List.drop_eq_nil_of_le (by omega), sumZ, Int.add_zero]
    exact Ev.step (f := fun _ => some a) (fun k => by rw [laws_rSum.l0, if_neg (by omega)]) (Ev.now _)
  | d + 1, i, a, hi, ha => by
    have hi2 : i < l.length := by omega
    have hb := hx l[i] (List.getElem_mem hi2)
    have w1 := Aside0.mk (show wrap64 ((i : Int) + 1) = ((i + 1 : Nat) : Int) from by rw [w64 (by omega) (by omega)]; rfl)
    have w2 := Aside0.mk (show wrap64 (a + l[i]) = a + l[i] from w64 (by omega) (by omega))
    have ih := rSum_l0 hl hx d (i + 1) (a + l[i]) (by omega) (by omega)
    rw [List.drop_eq_getElem_cons hi2, sumZ, ← Int.add_assoc]
    exact Ev.step (fun k => by rw [laws_rSum.l0, if_pos (by omega), if_pos (by omega), if_pos (by omega), rd_lt _ _ hi2, w2.out, w1.out]) ih
theorem rSum {l : List Int} (hl : l.length ≤ 100) (hx : ∀ x ∈ l, 0 ≤ x ∧ x ≤ 4000000000) : Ev (fun k => laws_rSum.f k l) (sumZ l) := by
  have := rSum_l0 hl hx l.length 0 0 (by omega) (by omega)
  rw [List.drop_zero, Int.zero_add] at this
  exact this
theorem nums_fold (m : Nat) : ∀ (vis : List (List Int)) (out : List Int) (f : Nat → Nat), out.length = m → (∀ n, n < m → out[n]? = some ((f n : Nat) : Int)) → (∀ p ∈ vis, rooksN p < m) → (∀ n, f n + vis.length ≤ 4611686018427387904) →
    (vis.foldl (fun o p => o.set ((rooksN p : Nat) : Int).toNat (IntKind.i64.wrap (rdOf 0 o ((rooksN p : Nat) : Int) + 1))) out).length = m ∧ ∀ n, n < m → (vis.foldl (fun o p => o.set ((rooksN p : Nat) : Int).toNat (IntKind.i64.wrap (rdOf 0 o ((rooksN p : Nat) : Int) + 1))) out)[n]? = some ((f n + vis.countP (fun p => rooksN p == n) : Nat) : Int)
  | [], out, f, h1, h2, _, _ => ⟨h1, fun n hn => by rw [List.foldl_nil, h2 n hn]; simp⟩
  | p :: t, out, f, h1, h2, h3, h4 => by
    have hp := h3 p (by simp)
    have e : rdOf 0 out ((rooksN p : Nat) : Int) = ((f (rooksN p) : Nat) : Int) := by
      unfold rdOf
      rw [Int.toNat_natCast, List.getD_eq_getElem?_getD, h2 _ hp]
      rfl
    have h5 := h4 (rooksN p)
    rw [List.length_cons] at h5
    have ew : IntKind.i64.wrap (((f (rooksN p) : Nat) : Int) + 1) = ((f (rooksN p) + 1 : Nat) : Int) := by rw [wrap_i64', w64 (by omega) (by omega)]; rfl
    rw [List.foldl_cons, e, ew, Int.toNat_natCast]
    obtain ⟨g1, g2⟩ := nums_fold m t (out.set (rooksN p) ((f (rooksN p) + 1 : Nat) : Int)) (fun n => f n + if rooksN p = n then 1 else 0) (by rw [List.length_set]; exact h1) (fun n hn => by
      rw [List.getElem?_set]
      by_cases c : rooksN p = n
      · subst c
        rw [if_pos rfl, if_pos (by omega), if_pos rfl]
      · rw [if_neg c, if_neg c, h2 n hn]; rfl) (fun q hq => h3 q (by simp [hq])) (fun n => by
      have := h4 n
      rw [List.length_cons] at this
      split <;> omega)
    refine ⟨g1, fun n hn => ?_⟩
    rw [g2 n hn, List.countP_cons]
    congr 2
    by_cases c : rooksN p = n
    · rw [if_pos c, if_pos (by simpa using c)]; omega
    · rw [if_neg c, if_neg (by simpa using c)]; omega
theorem nums_get {m : Nat} {vis : List (List Int)} (h3 : ∀ p ∈ vis, rooksN p < m) (h4 : vis.length ≤ 4611686018427387904) : (numsF m vis).length = m ∧ ∀ n, n < m → (numsF m vis)[n]? = some ((vis.countP (fun p => rooksN p == n) : Nat) : Int) := by
  have h := nums_fold m vis (List.replicate m 0) (fun _ => 0) (by simp) (fun n hn => by rw [List.getElem?_replicate, if_pos hn]; rfl) h3 (fun n => by omega)
  simp only [Nat.zero_add] at h
  exact h
theorem sumTo_ind (k : Nat) (x : Nat × Nat) : ∀ N, (x.1 = k → x.2 < N) → sumTo N (fun e => if k = x.1 ∧ e = x.2 then 1 else 0) = if x.1 = k then 1 else 0 := by
  have key : ∀ N, sumTo N (fun e => if k = x.1 ∧ e = x.2 then 1 else 0) = if k = x.1 ∧ x.2 < N then 1 else 0 := by
    intro N
    induction N with
    | zero => rw [sumTo, if_neg (by omega)]
    | succ N ih =>
      rw [sumTo, ih]
      by_cases h1 : k = x.1
      · by_cases h2 : x.2 < N
        · rw [if_pos ⟨h1, h2⟩, if_neg (by omega), if_pos ⟨h1, by omega⟩]
        · by_cases h3 : N = x.2
          · rw [if_neg (by omega), if_pos ⟨h1, h3⟩, if_pos ⟨h1, by omega⟩]
          · rw [if_neg (by omega), if_neg (by omega), if_neg (by omega)]
      · rw [if_neg (by omega), if_neg (by omega), if_neg (by omega)]
  intro N hN
  rw [key N]
  by_cases h : x.1 = k
  · rw [if_pos h, if_pos ⟨h.symm, hN h⟩]
  · rw [if_neg h, if_neg (by omega)]
theorem cnt_sum (k N : Nat) : ∀ F : List (Nat × Nat), (∀ x ∈ F, x.1 = k → x.2 < N) → sumTo N (fun e => cnt F k e) = F.countP (fun x => x.1 == k)
  | [], _ => by
    rw [List.countP_nil, ← sumTo_zero N]
    exact sumTo_congr N (fun b _ => cnt_nil k b)
  | x :: t, h => by
    have ih := cnt_sum k N t (fun y hy => h y (List.mem_cons_of_mem _ hy))
    rw [List.countP_cons, ← ih, sumTo_congr N (fun b _ => cnt_cons x t k b), sumTo_add, sumTo_ind k x N (h x List.mem_cons_self)]
    congr 1
    by_cases hx : x.1 = k
    · rw [if_pos hx, if_pos (by simpa using hx)]
    · rw [if_neg hx, if_neg (by simpa using hx)]
theorem row_sum {row : List Int} {c : Nat → Nat} (h : RepC row c) : sumZ row = ((sumTo row.length c : Nat) : Int) := by
  have key : ∀ m, m ≤ row.length → sumZ (row.take m) = ((sumTo m c : Nat) : Int) := by
    intro m
    induction m with
    | zero => intro _; rfl
    | succ m ih =>
      intro hm
      have hg := h.get m
      rw [gD_lt _ _ (by omega)] at hg
      rw [List.take_succ_eq_append_getElem (by omega), sumZ_app, ih (by omega), sumZ, sumZ, hg, sumTo]
      omega
  have := key row.length (Nat.le_refl _)
  rwa [List.take_length] at this
section
variable {l : List Int} (h : lenB l = true)
include h
theorem in_row {k : Nat} (hk : k ≤ l.length) : ∀ x ∈ Fk l l.length, x.1 = k → x.2 < ((wtab l).getD k []).length := by
  intro x hx hxk
  have hr := (wtab_rep h).rep k hk
  have h1 : 0 < cnt (Fk l l.length) k x.2 := by
    unfold cnt
    exact List.count_pos_iff.2 (by rw [← hxk]; exact hx)
  rcases Nat.lt_or_ge x.2 ((wtab l).getD k []).length with h2 | h2
  · exact h2
  · have h3 := hr.get x.2
    rw [List.getD_eq_getElem?_getD, List.getElem?_eq_none h2] at h3
    have h4 : (0 : Int) = (cnt (Fk l l.length) k x.2 : Int) := h3
    omega
theorem F_count (p : Nat × Nat → Bool) : (Fk l l.length).countP p = (waysFrom (rowsOf l) l.length l.length 0 0 []).countP (fun q => p (keyFrom l 0 0 q)) := by
  rw [← ways_keys h, List.countP_map]
  rfl
theorem weights_sum {k : Nat} (hk : k ≤ l.length) : sumZ ((wtab l).getD k []) = (((waysFrom (rowsOf l) l.length l.length 0 0 []).countP (fun q => rooksN q == k) : Nat) : Int) := by
  rw [row_sum ((wtab_rep h).rep k hk), cnt_sum k _ _ (in_row h hk), F_count h]
  rfl
theorem entry {k : Nat} (hk : k ≤ l.length) : ∀ x ∈ (wtab l).getD k [], 0 ≤ x ∧ x ≤ 4000000000 := by
  intro x hx
  obtain ⟨i, hi, rfl⟩ := List.mem_iff_getElem.1 hx
  have h1 := ((wtab_rep h).rep k hk).get i
  rw [gD_lt _ _ hi] at h1
  have h2 : cnt (Fk l l.length) k i ≤ (Fk l l.length).length := List.count_le_length
  have h3 : (Fk l l.length).length = (waysFrom (rowsOf l) l.length l.length 0 0 []).length := by rw [← ways_keys h, List.length_map]
  have h4 := ways_len6 h
  omega
theorem board_ok : isBoardB l.length l.length (rowsOf l) = true := by
  obtain ⟨h1, h2, h3⟩ := len_of h
  obtain ⟨r1, r2⟩ := rows_in h
  unfold isBoardB
  rw [Bool.and_eq_true, decide_eq_true_eq, List.all_eq_true]
  refine ⟨by omega, fun m hm => ?_⟩
  obtain ⟨i, hi, rfl⟩ := List.mem_iff_getElem.1 hm
  unfold rowIn
  rw [decide_eq_true_eq, Int.toNat_natCast]
  have hi2 : i < l.length := by rw [← r1]; exact hi
  have h4 := h3 i hi2
  have e : (rowsOf l)[i] = 2 ^ l[i].toNat - 1 := by simp [rowsOf]
  have h5 : 2 ^ l[i].toNat ≤ 2 ^ l.length := Nat.pow_le_pow_right (by decide) (by omega)
  have h6 : 0 < 2 ^ l[i].toNat := Nat.two_pow_pos _
  have h7 : ((2 ^ l[i].toNat : Nat) : Int) = 2 ^ l[i].toNat := by simp
  have h8 : ((2 ^ l.length : Nat) : Int) = 2 ^ l.length := by simp
  rw [e]
  omega
theorem numbers_at : Ev (fun q => impl_NumbersOfLengths.f q l) (numsF (l.length + 1) (waysFrom (rowsOf l) l.length l.length 0 0 []), true) := by
  unfold impl_NumbersOfLengths.f
  obtain ⟨h1, h2, h3⟩ := len_of h
  refine Ev.bind (impl_good (by omega)) ?_
  refine Ev.congr (fun q => if_pos h) (Ev.bind (impl_board h) ?_)
  refine Ev.congr (fun q => by rw [impl_Board_numbers.f, if_pos (board_ok h), Option.bind_some]) ?_
  rw [(rows_in h).1, show (min (l.length : Int) (l.length : Int) + 1).toNat = l.length + 1 by omega, Int.toNat_natCast]
  exact Ev.now _
theorem numbers_get : (numsF (l.length + 1) (waysFrom (rowsOf l) l.length l.length 0 0 [])).length = l.length + 1 ∧ ∀ k, k ≤ l.length → rd (numsF (l.length + 1) (waysFrom (rowsOf l) l.length l.length 0 0 [])) (k : Int) = sumZ ((wtab l).getD k []) := by
  obtain ⟨g1, g2⟩ := nums_get (m := l.length + 1) (vis := waysFrom (rowsOf l) l.length l.length 0 0 []) (fun p hp => by
    obtain ⟨s, h3, h4⟩ := ways_pre _ _ _ _ _ _ p hp
    have h5 := rooksN_le p
    rw [h3, List.nil_append, h4] at h5
    rw [h3, List.nil_append]
    omega) (by have := ways_len6 h; omega)
  refine ⟨g1, fun k hk => ?_⟩
  have := g2 k (by omega)
  rw [rd_lt _ _ (by omega), weights_sum h hk]
  rw [List.getElem?_eq_getElem (by omega)] at this
  exact Option.some.inj this
end
theorem ways_place {rows : List Int} {C : Nat} : ∀ (d r t : Nat) (pre : List Int), (∀ c : Nat, t.testBit c = true ↔ (c : Int) ∈ pre) → pre.length = r → ∀ q ∈ waysFrom rows C d r t pre, ∃ s, q = pre ++ s ∧ s.length = d ∧ placeF rows C q s r = true
  | 0, r, t, pre, ht, hp, q, hq => by rw [waysFrom, List.mem_singleton] at hq; exact ⟨[], by simp [hq], rfl, rfl⟩
  | d + 1, r, t, pre, ht, hp, q, hq => by
    rw [waysFrom, List.mem_flatMap] at hq
    obtain ⟨c, hc, hq⟩ := hq
    have hc2 := MostK.in_iota _ _ hc
    unfold colWays at hq
    split at hq
    · rename_i hneg
      have e : c = -1 := by omega
      subst e
      obtain ⟨s, h1, h2, h3⟩ := ways_place d (r + 1) t (pre ++ [-1]) (fun c => by rw [ht c, List.mem_append, List.mem_singleton]; constructor <;> intro hh; (· exact .inl hh); (· rcases hh with hh | hh; (· exact hh); (· omega))) (by simp [hp]) q hq
      refine ⟨-1 :: s, by rw [h1]; simp, by simp [h2], ?_⟩
      rw [placeF, h3]; rfl
    · rename_i hneg
      split at hq
      · rename_i h2
        rw [Bool.and_eq_true] at h2
        obtain ⟨cn, hcn⟩ : ∃ cn : Nat, c = (cn : Int) := ⟨c.toNat, by omega⟩
        subst hcn
        rw [Int.toNat_natCast] at h2 hq
        have hbit : t.testBit cn = false := by simpa using h2.2
        obtain ⟨s, g1, g2, g3⟩ := ways_place d (r + 1) (t ||| 2 ^ cn) (pre ++ [(cn : Int)]) (fun c => by
          rw [Nat.testBit_or, Bool.or_eq_true, ht c, Nat.testBit_two_pow, decide_eq_true_eq, List.mem_append, List.mem_singleton]
          constructor
          · rintro (hh | hh)
            · exact .inl hh
            · exact .inr (by omega)
          · rintro (hh | hh)
            · exact .inl hh
            · exact .inr (by omega)) (by simp [hp]) q hq
        refine ⟨(cn : Int) :: s, by rw [g1]; simp, by simp [g2], ?_⟩
        have htk : q.take r = pre := by rw [g1, List.append_assoc, ← hp, List.take_left']; rfl
        have hin : inR 0 ((C : Int) - 1) (cn : Int) = true := decide_eq_true (by omega)
        have hnot : decide ((cn : Int) ∈ pre) = false := decide_eq_false (fun hh => by rw [(ht cn).2 hh] at hbit; cases hbit)
        rw [placeF, g3, htk, hin, Int.toNat_natCast, h2.1, hnot]
        simp
      · cases hq
theorem ways_placeB {l : List Int} {q : List Int} (hq : q ∈ waysFrom (rowsOf l) l.length l.length 0 0 []) : placeB (rowsOf l) l.length l.length q = true := by
  obtain ⟨s, h1, h2, h3⟩ := ways_place l.length 0 0 [] (fun c => by simp) rfl q hq
  unfold placeB
  rw [List.nil_append] at h1
  subst h1
  rw [Bool.and_eq_true, decide_eq_true_eq]
  exact ⟨by omega, h3⟩
end Go.Proofs.YtihnjbfjdkdhaaaGreat.WLaw
end
section
namespace Go.Proofs.YtihnjbfjdkdhaaaGreat.WValK
set_option linter.unusedVariables false
open Go.RowKit Go.Proofs.YtihnjbfjdkdhaaaGreat.Q Go.Proofs.YtihnjbfjdkdhaaaGreatW.PrintWords Go.Proofs.YtihnjbfjdkdhaaaGreatW.PrintLast Go.Proofs.YtihnjbfjdkdhaaaGreatW.PrintMore
open Go.Proofs.YtihnjbfjdkdhaaaGreatL
theorem evEq1 {α : Type} {g : Nat → Option α} {a b : α} (h : Ev g a) (e : a = b) : Ev g b := e ▸ h
def wpow (q : Int) : Nat → Int
  | 0 => 1
  | n + 1 => wrap64 (wpow q n * q)
theorem impl_pow (q : Int) {n : Int} (hn : n ≤ 1000) : Ev (fun k => impl_power.f k q n) (wpow q n.toNat) := by
  have key : ∀ (d j : Nat), j + d = n.toNat → Ev (fun k => impl_power.l0 k q (wpow q j) n j) (wpow q n.toNat) := by
    intro d
    induction d with
    | zero => intro j hj; exact Ev.step (f := fun _ => some (wpow q j)) (fun k => by rw [impl_power.l0, if_neg (by omega)]) (evEq1 (Ev.now _) (by rw [show j = n.toNat by omega]))
    | succ d ih =>
      intro j hj
      have w1 : wrap64 ((j : Int) + 1) = ((j + 1 : Nat) : Int) := by rw [w64 (by omega) (by omega)]; rfl
      refine Ev.step (fun k => ?_) (ih (j + 1) (by omega))
      rw [impl_power.l0, if_pos (by omega), w1, wpow]
  exact key n.toNat 0 (by omega)
end Go.Proofs.YtihnjbfjdkdhaaaGreat.WValK
end
section
namespace Go.Proofs.YtihnjbfjdkdhaaaGreat.WValK
set_option linter.unusedVariables false
open Go.RowKit Go.Proofs.YtihnjbfjdkdhaaaGreat.Q Go.Proofs.YtihnjbfjdkdhaaaGreatW.PrintWords Go.Proofs.YtihnjbfjdkdhaaaGreatW.PrintLast Go.Proofs.YtihnjbfjdkdhaaaGreatW.PrintMore
open Go.Proofs.YtihnjbfjdkdhaaaGreatL
def rsum (q : Int) (row : List Int) : Nat → Nat → Int → Int
  | 0, _, s => s
  | d + 1, e, s => rsum q row d (e + 1) (wrap64 (s + wrap64 (row.getD e 0 * wpow q e)))
theorem impl_at (q : Int) {row : List Int} (hl : row.length ≤ 64) : Ev (fun k => impl_at.f k row q) (rsum q row row.length 0 0) := by
  have key : ∀ (d e : Nat) (s : Int), e + d = row.length → Ev (fun k => impl_at.l0 k q s row (row.length : Int) e) (rsum q row d e s) := by
    intro d
    induction d with
    | zero => intro e s h; exact Ev.step (f := fun _ => some s) (fun k => by rw [impl_at.l0, if_neg (by omega)]) (Ev.now _)
    | succ d ih =>
      intro e s h
      have w1 : wrap64 ((e : Int) + 1) = ((e + 1 : Nat) : Int) := by rw [w64 (by omega) (by omega)]; rfl
      rw [rsum]
      refine Ev.step (fun k => by rw [impl_at.l0, if_pos (by omega), if_pos (by omega), if_pos (by omega), rd_nat, w1]) ?_
      refine Ev.bind (impl_pow q (n := (e : Int)) (by omega)) ?_
      rw [Int.toNat_natCast]
      exact ih (e + 1) _ (by omega)
  exact key row.length 0 0 (by omega)
theorem spec_at (q : Int) {row : List Int} (hl : row.length ≤ 64) : Ev (fun k => spec_weAt.f k row q) (rsum q row row.length 0 0) := by
  have key : ∀ (d e : Nat) (s : Int), e + d = row.length → Ev (fun k => spec_weAt.l0 k q s (wpow q e) row (row.length : Int) e) (rsum q row d e s) := by
    intro d
    induction d with
    | zero => intro e s h; exact Ev.step (f := fun _ => some s) (fun k => by rw [spec_weAt.l0, if_neg (by omega)]) (Ev.now _)
    | succ d ih =>
      intro e s h
      have w1 : wrap64 ((e : Int) + 1) = ((e + 1 : Nat) : Int) := by rw [w64 (by omega) (by omega)]; rfl
      rw [rsum]
      refine Ev.step (fun k => ?_) (ih (e + 1) _ (by omega))
      rw [spec_weAt.l0, if_pos (by omega), if_pos (by omega), if_pos (by omega), rd_nat, w1, wpow]
  exact key row.length 0 0 (by omega)
end Go.Proofs.YtihnjbfjdkdhaaaGreat.WValK
end
section
namespace Go.Proofs.YtihnjbfjdkdhaaaGreat.Pure
set_option linter.unusedVariables false
open Go.RowKit Go.Proofs.YtihnjbfjdkdhaaaGreat.Q Go.Proofs.YtihnjbfjdkdhaaaGreatW.PrintWords Go.Proofs.YtihnjbfjdkdhaaaGreatW.PrintLast Go.Proofs.YtihnjbfjdkdhaaaGreatW.PrintMore
open Go.Proofs.YtihnjbfjdkdhaaaGreatL Go.Proofs.YtihnjbfjdkdhaaaGreat.LawK Go.Proofs.YtihnjbfjdkdhaaaGreat.BoardK Go.Proofs.YtihnjbfjdkdhaaaGreat.LensK Go.Proofs.YtihnjbfjdkdhaaaGreat.BagK Go.Proofs.YtihnjbfjdkdhaaaGreat.WeAllK Go.Proofs.YtihnjbfjdkdhaaaGreat.WValK
namespace WSK
def brk (q m : Int) : Int := (spec_weBracket.f 40 m q).getD 0
theorem brk0 : ∀ m : Fin 9, (impl_bracket.f 40 (m.val : Int) 2 = some (brk 2 m.val) ∧ spec_weBracket.f 40 (m.val : Int) 2 = some (brk 2 m.val)) ∧ (impl_bracket.f 40 (m.val : Int) 3 = some (brk 3 m.val) ∧ spec_weBracket.f 40 (m.val : Int) 3 = some (brk 3 m.val)) := by decide +kernel
theorem brk_f {q m : Int} (hq : 2 ≤ q ∧ q ≤ 3) (h0 : 0 ≤ m) (h8 : m ≤ 8) : Ev (fun k => impl_bracket.f k m q) (brk q m) ∧ Ev (fun k => spec_weBracket.f k m q) (brk q m) := by
  obtain ⟨n, rfl⟩ : ∃ n : Nat, m = n := ⟨m.toNat, by omega⟩
  have h := brk0 ⟨n, by omega⟩
  obtain rfl | rfl : q = 2 ∨ q = 3 := by omega
  · exact ⟨Ev.of (fun k => impl_bracket.mono _ _ k) h.1.1, Ev.of (fun k => spec_weBracket.mono _ _ k) h.1.2⟩
  · exact ⟨Ev.of (fun k => impl_bracket.mono _ _ k) h.2.1, Ev.of (fun k => spec_weBracket.mono _ _ k) h.2.2⟩
def prod (q x : Int) : Nat → Nat → Int → Int
  | 0, _, o => o
  | d + 1, i, o => prod q x d (i + 1) (wrap64 (o * brk q (x - i)))
def tot (q x : Int) (n : Nat) (T : List (List Int)) : Nat → Nat → Int → Int
  | 0, _, s => s
  | d + 1, k, s => tot q x n T d (k + 1) (wrap64 (s + prod q x (n - k) 0 (rsum q (T.getD k []) (T.getD k []).length 0 0)))
section
variable {l : List Int} {T : List (List Int)} {q x : Int} (hl6 : l.length ≤ 6) (hT : T.length = l.length + 1) (hr : ∀ k, (T.getD k []).length ≤ 64) (hq : 2 ≤ q ∧ q ≤ 3) (hx : l.length ≤ x ∧ x ≤ 8)
include hl6 hT hr hq hx
theorem impl_tot : ∀ (d k : Nat) (s : Int), k + d = l.length + 1 → Ev (fun n => impl_WeightedSumAt.l0 n l q x s T (T.length : Int) k) (tot q x l.length T d k s, true)
  | 0, k, s, h => Ev.step (f := fun _ => some (s, true)) (fun n => by rw [impl_WeightedSumAt.l0, if_neg (by omega)]) (Ev.now _)
  | d + 1, k, s, h => by
    have w1 := Aside0.mk (show wrap64 ((k : Int) + 1) = ((k + 1 : Nat) : Int) from by rw [w64 (by omega) (by omega)]; rfl)
    have w2 := Aside0.mk (show wrap64 ((l.length : Int) - k) = ((l.length - k : Nat) : Int) from by rw [w64 (by omega) (by omega)]; omega)
    rw [tot]
    refine Ev.step (fun n => by rw [impl_WeightedSumAt.l0, if_pos (by omega), if_pos (by omega), if_pos (by omega), rd1_nat, w2.out]) ?_
    refine Ev.bind (impl_at q (hr k)) ?_
    have key : ∀ (e i : Nat) (o : Int), i + e = l.length - k → Ev (fun n => impl_WeightedSumAt.l1 n l q x s o T (T.length : Int) k ((l.length - k : Nat) : Int) i) (tot q x l.length T d (k + 1) (wrap64 (s + prod q x e i o)), true) := by
      intro e
      induction e with
      | zero =>
        intro i o hi
        refine Ev.step (fun n => ?_) (impl_tot d (k + 1) _ (by omega))
        rw [impl_WeightedSumAt.l1, if_neg (by omega), w1.out, prod]
      | succ e ih =>
        intro i o hi
        have w3 := Aside0.mk (show wrap64 ((i : Int) + 1) = ((i + 1 : Nat) : Int) from by rw [w64 (by omega) (by omega)]; rfl)
        have w4 := Aside0.mk (show wrap64 (x - i) = x - i from w64 (by omega) (by omega))
        rw [prod]
        refine Ev.step (fun n => by rw [impl_WeightedSumAt.l1, if_pos (by omega), w4.out, w3.out]) ?_
        refine Ev.bind (brk_f hq (by omega) (by omega)).1 ?_
        exact ih (i + 1) _ (by omega)
    exact key (l.length - k) 0 _ (by omega)
theorem spec_tot : ∀ (d k : Nat) (s : Int), k + d = l.length + 1 → Ev (fun n => spec_WeightedSumAt.l0 n l q x s T (T.length : Int) k) (tot q x l.length T d k s, true)
  | 0, k, s, h => Ev.step (f := fun _ => some (s, true)) (fun n => by rw [spec_WeightedSumAt.l0, if_neg (by omega)]) (Ev.now _)
  | d + 1, k, s, h => by
    have w1 := Aside0.mk (show wrap64 ((k : Int) + 1) = ((k + 1 : Nat) : Int) from by rw [w64 (by omega) (by omega)]; rfl)
    have w2 := Aside0.mk (show wrap64 ((l.length : Int) - k) = ((l.length - k : Nat) : Int) from by rw [w64 (by omega) (by omega)]; omega)
    rw [tot]
    refine Ev.step (fun n => by rw [spec_WeightedSumAt.l0, if_pos (by omega), if_pos (by omega), if_pos (by omega), rd1_nat]) ?_
    refine Ev.bind (spec_at q (hr k)) ?_
    have key : ∀ (e i : Nat) (o : Int), i + e = l.length - k → Ev (fun n => spec_WeightedSumAt.l1 n l q x s k o i T (T.length : Int) k) (tot q x l.length T d (k + 1) (wrap64 (s + prod q x e i o)), true) := by
      intro e
      induction e with
      | zero =>
        intro i o hi
        refine Ev.step (fun n => ?_) (spec_tot d (k + 1) _ (by omega))
        rw [spec_WeightedSumAt.l1, w2.out, if_neg (by omega), w1.out, prod]
      | succ e ih =>
        intro i o hi
        have w3 := Aside0.mk (show wrap64 ((i : Int) + 1) = ((i + 1 : Nat) : Int) from by rw [w64 (by omega) (by omega)]; rfl)
        have w4 := Aside0.mk (show wrap64 (x - i) = x - i from w64 (by omega) (by omega))
        rw [prod]
        refine Ev.step (fun n => by rw [spec_WeightedSumAt.l1, w2.out, if_pos (by omega), w4.out, w3.out]) ?_
        refine Ev.bind (brk_f hq (by omega) (by omega)).2 ?_
        exact ih (i + 1) _ (by omega)
    exact key (l.length - k) 0 _ (by omega)
end
def wB (l : List Int) (q x : Int) : Bool := LensK.lenB l && (decide ((l.length : Int) ≤ 4) && (inR 2 3 q && inR (l.length : Int) 8 x))
theorem impl_w {l : List Int} (q x : Int) (hl : l.length ≤ 1048576) : Ev (fun k => impl_isWeighted.f k l q x) (wB l q x) := by
  unfold impl_isWeighted.f wB
  refine Ev.bind (LensK.impl_good hl) ?_
  by_cases h : LensK.lenB l = true
  · rw [h, Bool.true_and]
    refine Ev.congr (fun k => if_pos rfl) ?_
    by_cases c : (l.length : Int) ≤ 4
    · rw [decide_eq_true c, Bool.true_and]
      refine Ev.congr (fun k => by rw [if_pos c, impl_isQ.f, withinR, Option.bind_some, Option.bind_some, withinR, Option.bind_some]) ?_
      cases inR 2 3 q
      · exact Ev.congr (fun k => if_neg (by simp)) (Ev.now _)
      · exact Ev.congr (fun k => if_pos rfl) (Ev.now _)
    · rw [decide_eq_false c, Bool.false_and]
      exact Ev.congr (fun k => if_neg c) (Ev.now _)
  · rw [show LensK.lenB l = false by simpa using h, Bool.false_and]
    exact Ev.congr (fun k => if_neg (by simp)) (Ev.now _)
theorem spec_w {l : List Int} (q x : Int) (hl : l.length ≤ 1048576) : Ev (fun k => spec_weArgument.f k l q x) (wB l q x) := by
  unfold spec_weArgument.f wB
  refine Ev.bind (LensK.spec_good hl) ?_
  by_cases h : LensK.lenB l = true
  · rw [h, Bool.true_and]
    refine Ev.congr (fun k => if_pos rfl) ?_
    by_cases c : (l.length : Int) ≤ 4
    · rw [decide_eq_true c, Bool.true_and]
      refine Ev.congr (fun k => by rw [if_pos c, spec_weBase.f, l1In_f, Option.bind_some, Option.bind_some, l1In_f, Option.bind_some]) ?_
      cases inR 2 3 q
      · exact Ev.congr (fun k => if_neg (by simp)) (Ev.now _)
      · exact Ev.congr (fun k => if_pos rfl) (Ev.now _)
    · rw [decide_eq_false c, Bool.false_and]
      exact Ev.congr (fun k => if_neg c) (Ev.now _)
  · rw [show LensK.lenB l = false by simpa using h, Bool.false_and]
    exact Ev.congr (fun k => if_neg (by simp)) (Ev.now _)
theorem wB_out {l : List Int} {q x : Int} (h : wB l q x = true) : lenB l = true ∧ (2 ≤ q ∧ q ≤ 3) ∧ ((l.length : Int) ≤ x ∧ x ≤ 8) := by
  unfold wB at h
  rw [Bool.and_eq_true, Bool.and_eq_true, Bool.and_eq_true] at h
  obtain ⟨h1, h2, h3, h4⟩ := h
  exact ⟨h1, of_decide_eq_true h3, of_decide_eq_true h4⟩
def ans (l : List Int) (q x : Int) : Int × Bool := if wB l q x = true then (tot q x l.length (wtab l) (l.length + 1) 0 0, true) else (0, false)
theorem spec_a {l : List Int} (q x : Int) (hl : l.length ≤ 1048576) : Ev (fun k => spec_WeightedSumAt.f k l q x) (ans l q x) := by
  unfold spec_WeightedSumAt.f ans
  refine Ev.bind (spec_w q x hl) ?_
  by_cases h : wB l q x = true
  · obtain ⟨h1, h2, h3⟩ := wB_out h
    rw [h, if_pos rfl]
    refine Ev.congr (fun k => if_pos rfl) (Ev.bind (weAll h1) ?_)
    exact spec_tot (len_of h1).2.1 (wtab_len h1) (wtab_row h1) h2 h3 (l.length + 1) 0 0 (by omega)
  · rw [show wB l q x = false by simpa using h, if_neg (by simp)]
    exact Ev.congr (fun k => if_neg (by simp)) (Ev.now _)
theorem impl_a {l : List Int} (q x : Int) (hl : l.length ≤ 1048576) : Ev (fun k => impl_WeightedSumAt.f k l q x) (ans l q x) := by
  unfold impl_WeightedSumAt.f ans
  refine Ev.bind (impl_w q x hl) ?_
  by_cases h : wB l q x = true
  · obtain ⟨h1, h2, h3⟩ := wB_out h
    rw [h, if_pos rfl]
    refine Ev.congr (fun k => by rw [if_pos rfl, impl_weights.f, if_pos h1, Option.bind_some]) ?_
    exact impl_tot (len_of h1).2.1 (wtab_len h1) (wtab_row h1) h2 h3 (l.length + 1) 0 0 (by omega)
  · rw [show wB l q x = false by simpa using h, if_neg (by simp)]
    exact Ev.congr (fun k => if_neg (by simp)) (Ev.now _)
end WSK
open WSK
end Go.Proofs.YtihnjbfjdkdhaaaGreat.Pure
end
section
namespace Go.Proofs.YtihnjbfjdkdhaaaGreat.ProdA
set_option linter.unusedVariables false
open Go.RowKit Go.Proofs.YtihnjbfjdkdhaaaGreat.Q Go.Proofs.YtihnjbfjdkdhaaaGreatW.PrintWords Go.Proofs.YtihnjbfjdkdhaaaGreatW.PrintLast Go.Proofs.YtihnjbfjdkdhaaaGreatW.PrintMore
open Go.Proofs.YtihnjbfjdkdhaaaGreatL Go.Proofs.YtihnjbfjdkdhaaaGreat.LawK Go.Proofs.YtihnjbfjdkdhaaaGreat.BoardK Go.Proofs.YtihnjbfjdkdhaaaGreat.LensK Go.Proofs.YtihnjbfjdkdhaaaGreat.BagK Go.Proofs.YtihnjbfjdkdhaaaGreat.WeAllK Go.Proofs.YtihnjbfjdkdhaaaGreat.WValK Go.Proofs.YtihnjbfjdkdhaaaGreat.Pure.WSK
def tup (m : Nat) : Nat → List (List Int)
  | 0 => [[]]
  | d + 1 => (tup m d).flatMap fun t => (List.range (m + 1)).map fun i => ((i : Nat) : Int) :: t
theorem tup_mem (m : Nat) : ∀ (l : List Int), (∀ x ∈ l, 0 ≤ x ∧ x ≤ m) → l ∈ tup m l.length
  | [], _ => by simp [tup]
  | x :: t, h => by
    have h1 := tup_mem m t (fun y hy => h y (List.mem_cons_of_mem _ hy))
    have h2 := h x List.mem_cons_self
    rw [List.length_cons, tup, List.mem_flatMap]
    refine ⟨t, h1, ?_⟩
    rw [List.mem_map]
    exact ⟨x.toNat, by rw [List.mem_range]; omega, by rw [Int.toNat_of_nonneg h2.1]⟩
def chk (l : List Int) (q x : Int) : Bool := match impl_WeightedProductAt.f 100 l q x with
  | some a => a == (tot q x l.length (wtab l) (l.length + 1) 0 0, true)
  | none => false
theorem fin : ∀ n : Fin 5, ((tup n.val n.val).all fun l => !LensK.lenB l || (chk l 2 4 && chk l 2 5 && chk l 2 6 && chk l 2 7 && chk l 2 8 && chk l 3 4 && chk l 3 5 && chk l 3 6 && chk l 3 7 && chk l 3 8 && (decide (4 ≤ l.length) || (chk l 2 3 && chk l 3 3 && (decide (3 ≤ l.length) || (chk l 2 2 && chk l 3 2 && (decide (2 ≤ l.length) || (chk l 2 1 && chk l 3 1)))))))) = true := by decide +kernel
theorem of_chk {l : List Int} {q x : Int} (h : chk l q x = true) : Ev (fun k => impl_WeightedProductAt.f k l q x) (tot q x l.length (wtab l) (l.length + 1) 0 0, true) := by
  unfold chk at h
  cases h1 : impl_WeightedProductAt.f 100 l q x with
  | none => rw [h1] at h; simp at h
  | some a =>
    rw [h1] at h
    simp only [beq_iff_eq] at h
    exact Ev.of (fun k => impl_WeightedProductAt.mono _ _ _ k) (by rw [h1, h])
theorem prod_a {l : List Int} (q x : Int) (hl : l.length ≤ 1048576) : Ev (fun k => impl_WeightedProductAt.f k l q x) (ans l q x) := by
  unfold ans
  by_cases h : wB l q x = true
  · rw [if_pos h]
    unfold wB at h
    rw [Bool.and_eq_true, Bool.and_eq_true, Bool.and_eq_true, decide_eq_true_eq] at h
    obtain ⟨h1, h2, h3, h4⟩ := h
    have hq : 2 ≤ q ∧ q ≤ 3 := of_decide_eq_true h3
    have hx : (l.length : Int) ≤ x ∧ x ≤ 8 := of_decide_eq_true h4
    have hL := LensK.len_of h1
    have hm := tup_mem l.length l (fun y hy => by obtain ⟨i, hi, rfl⟩ := List.mem_iff_getElem.1 hy; exact hL.2.2 i hi)
    have hf := List.all_eq_true.1 (fin ⟨l.length, by omega⟩) l hm
    rw [h1] at hf
    simp only [Bool.not_true, Bool.false_or, Bool.and_eq_true, Bool.or_eq_true, decide_eq_true_eq] at hf
    obtain ⟨⟨⟨⟨⟨⟨⟨⟨⟨⟨a1, a2⟩, a3⟩, a4⟩, a5⟩, b1⟩, b2⟩, b3⟩, b4⟩, b5⟩, c⟩ := hf
    obtain rfl | rfl : q = 2 ∨ q = 3 := by omega
    · obtain rfl | rfl | rfl | rfl | rfl | rfl | rfl | rfl : x = 8 ∨ x = 7 ∨ x = 6 ∨ x = 5 ∨ x = 4 ∨ x = 3 ∨ x = 2 ∨ x = 1 := by omega
      · exact of_chk a5
      · exact of_chk a4
      · exact of_chk a3
      · exact of_chk a2
      · exact of_chk a1
      · rcases c with c | ⟨⟨c1, c2⟩, c⟩
        · omega
        · exact of_chk c1
      · rcases c with c | ⟨⟨c1, c2⟩, c⟩
        · omega
        · rcases c with c | ⟨⟨c3, c4⟩, c⟩
          · omega
          · exact of_chk c3
      · rcases c with c | ⟨⟨c1, c2⟩, c⟩
        · omega
        · rcases c with c | ⟨⟨c3, c4⟩, c⟩
          · omega
          · rcases c with c | ⟨c5, c6⟩
            · omega
            · exact of_chk c5
    · obtain rfl | rfl | rfl | rfl | rfl | rfl | rfl | rfl : x = 8 ∨ x = 7 ∨ x = 6 ∨ x = 5 ∨ x = 4 ∨ x = 3 ∨ x = 2 ∨ x = 1 := by omega
      · exact of_chk b5
      · exact of_chk b4
      · exact of_chk b3
      · exact of_chk b2
      · exact of_chk b1
      · rcases c with c | ⟨⟨c1, c2⟩, c⟩
        · omega
        · exact of_chk c2
      · rcases c with c | ⟨⟨c1, c2⟩, c⟩
        · omega
        · rcases c with c | ⟨⟨c3, c4⟩, c⟩
          · omega
          · exact of_chk c4
      · rcases c with c | ⟨⟨c1, c2⟩, c⟩
        · omega
        · rcases c with c | ⟨⟨c3, c4⟩, c⟩
          · omega
          · rcases c with c | ⟨c5, c6⟩
            · omega
            · exact of_chk c6
  · rw [if_neg h]
    unfold impl_WeightedProductAt.f
    refine Ev.bind (impl_w q x hl) ?_
    exact Ev.congr (fun k => if_neg h) (Ev.now _)
end Go.Proofs.YtihnjbfjdkdhaaaGreat.ProdA
end
section
namespace Go.Proofs.YtihnjbfjdkdhaaaGreat.WLaw
set_option linter.unusedVariables false
set_option linter.unusedSectionVars false
open Go.RowKit Go.Proofs.YtihnjbfjdkdhaaaGreat.Q Go.Proofs.YtihnjbfjdkdhaaaGreatW.PrintWords Go.Proofs.YtihnjbfjdkdhaaaGreatW.PrintLast Go.Proofs.YtihnjbfjdkdhaaaGreatW.PrintMore
open Go.Proofs.YtihnjbfjdkdhaaaGreatL Go.Proofs.YtihnjbfjdkdhaaaGreat.LawK Go.Proofs.YtihnjbfjdkdhaaaGreat.BoardK Go.Proofs.YtihnjbfjdkdhaaaGreat.Walk Go.Proofs.YtihnjbfjdkdhaaaGreat.NumK Go.Proofs.YtihnjbfjdkdhaaaGreat.BagK Go.Proofs.YtihnjbfjdkdhaaaGreat.LensK Go.Proofs.YtihnjbfjdkdhaaaGreat.FreeK Go.Proofs.YtihnjbfjdkdhaaaGreat.WValK Go.Proofs.YtihnjbfjdkdhaaaGreat.WeAllK Go.Proofs.YtihnjbfjdkdhaaaGreat.Pure
open Go.Proofs.YtihnjbfjdkdhaaaGreat.ProdA (tup tup_mem)
theorem few_fin : ∀ n : Fin 5, ((tup n.val n.val).all fun l => !lenB l || decide ((Fk l l.length).length ≤ 500)) = true := by decide +kernel
section
variable {l : List Int} (h : lenB l = true)
include h
theorem few_ways (h4 : l.length ≤ 4) : (waysFrom (rowsOf l) l.length l.length 0 0 []).length ≤ 500 := by
  have hL := len_of h
  have hm := tup_mem l.length l (fun y hy => by obtain ⟨i, hi, rfl⟩ := List.mem_iff_getElem.1 hy; exact hL.2.2 i hi)
  have hf := List.all_eq_true.1 (few_fin ⟨l.length, by omega⟩) l hm
  rw [h] at hf
  simp only [Bool.not_true, Bool.false_or, decide_eq_true_eq] at hf
  rw [← ways_keys h, List.length_map] at hf
  exact hf
theorem places_at (h4 : l.length ≤ 4) {k : Int} (h0 : 0 ≤ k) (hk : k ≤ l.length) : Ev (fun q => impl_PlacementsOf.f q l.length l.length (rowsOf l) k) (withs k (waysFrom (rowsOf l) l.length l.length 0 0 []), true) := by
  have hw : impl_Board_with.f l.length l.length (rowsOf l) k = some (withs k (waysFrom (rowsOf l) l.length l.length 0 0 [])) := by
    rw [impl_Board_with.f, if_pos (board_ok h), (rows_in h).1, Int.toNat_natCast]
  have hlen : (withs k (waysFrom (rowsOf l) l.length l.length 0 0 [])).length ≤ 500 := Nat.le_trans (List.length_filter_le _ _) (few_ways h h4)
  unfold impl_PlacementsOf.f
  refine Ev.congr (fun q => by rw [impl_IsBoard.f, Option.bind_some, if_pos (board_ok h), withinR, Option.bind_some, show inR 0 6 k = true from decide_eq_true ⟨h0, by omega⟩]) ?_
  refine Ev.step (fun q => by rw [impl_PlacementsOf.j0, if_neg (by simp), hw, Option.bind_some, if_neg (by omega)]) (Ev.now _)
end
def cF (l : List Int) (V : List (List Int)) (L : Nat) : List Int := (List.range L).map (fun e => ((V.countP (fun q => (allFree q l 0 0).toNat == e) : Nat) : Int))
theorem cF_len (l : List Int) (V : List (List Int)) (L : Nat) : (cF l V L).length = L := by unfold cF; simp
theorem cF_at (l : List Int) (V : List (List Int)) {L e : Nat} (he : e < (cF l V L).length) : (cF l V L)[e] = ((V.countP (fun q => (allFree q l 0 0).toNat == e) : Nat) : Int) := by
  have h2 : e < ((List.range L).map (fun e => ((V.countP (fun q => (allFree q l 0 0).toNat == e) : Nat) : Int))).length := he
  exact (List.getElem_map _ (h := h2)).trans (by rw [List.getElem_range])
theorem cF_snoc (l : List Int) (V : List (List Int)) (q : List Int) {L e : Nat} (hq : (allFree q l 0 0).toNat = e) (he : e < L) : cF l (V ++ [q]) L = (cF l V L).set e (((V.countP (fun q => (allFree q l 0 0).toNat == e) + 1 : Nat)) : Int) := by
  refine List.ext_getElem (by rw [List.length_set, cF_len, cF_len]) (fun i h1 h2 => ?_)
  rw [cF_at, List.getElem_set]
  by_cases c : e = i
  · subst c
    rw [if_pos rfl, List.countP_append, List.countP_singleton, if_pos (by simpa using hq)]
  · rw [if_neg c, cF_at, List.countP_append, List.countP_singleton, if_neg (by rw [hq]; simpa using c), Nat.add_zero]
section
variable {l : List Int} (h : lenB l = true) {kN : Nat} (hk : kN ≤ l.length)
include h hk
theorem cF_end : cF l (withs kN (waysFrom (rowsOf l) l.length l.length 0 0 [])) ((wtab l).getD kN []).length = (wtab l).getD kN [] := by
  refine List.ext_getElem (by rw [cF_len]) (fun e h1 h2 => ?_)
  have hg := ((wtab_rep h).rep kN hk).get e
  rw [gD_lt _ _ h2] at hg
  rw [cF_at, hg]
  congr 1
  have h3 : cnt (Fk l l.length) kN e = (Fk l l.length).countP (fun x => x == (kN, e)) := by unfold cnt; rw [List.count_eq_countP]
  rw [h3, F_count h]
  unfold withs
  rw [List.countP_filter]
  congr 1
  funext q
  unfold keyFrom
  rw [List.drop_zero]
  rw [Bool.eq_iff_iff, Bool.and_eq_true, beq_iff_eq, beq_iff_eq, decide_eq_true_eq, Prod.mk.injEq]
  constructor
  · rintro ⟨a, b⟩; exact ⟨by omega, a⟩
  · rintro ⟨a, b⟩; exact ⟨b, by omega⟩
theorem counts {x0 x1 : List Int} {R : Bool} (hV : (withs kN (waysFrom (rowsOf l) l.length l.length 0 0 [])).length ≤ 500) (hend : Ev (fun q => laws_FnWeightsOfRooks.j8 q x0 x1) R) : ∀ (d i : Nat), i + d = (withs kN (waysFrom (rowsOf l) l.length l.length 0 0 [])).length →
    Ev (fun q => laws_FnWeightsOfRooks.l1 q x0 x1 l ((wtab l).getD kN []) true true (cF l ((withs kN (waysFrom (rowsOf l) l.length l.length 0 0 [])).take i) ((wtab l).getD kN []).length) (withs kN (waysFrom (rowsOf l) l.length l.length 0 0 [])) ((withs kN (waysFrom (rowsOf l) l.length l.length 0 0 [])).length : Int) i) R
  | 0, i, hi => by
    have hw := wtab_row h kN
    rw [List.take_of_length_le (by omega), cF_end h hk]
    refine Ev.step (fun q => by rw [laws_FnWeightsOfRooks.l1, if_neg (by omega), if_pos rfl, if_pos rfl]) (Ev.bind (rSame_self (by omega)) ?_)
    exact Ev.congr (fun q => if_pos rfl) hend
  | d + 1, i, hi => by
    obtain ⟨V, hVV⟩ : ∃ V, V = withs kN (waysFrom (rowsOf l) l.length l.length 0 0 []) := ⟨_, rfl⟩
    have ih := counts hV hend d (i + 1) (by omega)
    have hi2 : i < (withs kN (waysFrom (rowsOf l) l.length l.length 0 0 [])).length := by omega
    have hmem := List.getElem_mem hi2
    rw [List.take_succ_eq_append_getElem hi2] at ih
    obtain ⟨q0, hq0⟩ : ∃ q0, q0 = (withs kN (waysFrom (rowsOf l) l.length l.length 0 0 []))[i] := ⟨_, rfl⟩
    have hrd : rd_L2 (withs kN (waysFrom (rowsOf l) l.length l.length 0 0 [])) (i : Int) = q0 := by unfold rd_L2; rw [Int.toNat_natCast, hq0]; exact gD_lt _ _ hi2
    rw [← hq0] at hmem ih
    unfold withs at hmem
    rw [List.mem_filter, decide_eq_true_eq] at hmem
    obtain ⟨hw1, hw2⟩ := hmem
    have hrk : rooksN q0 = kN := by omega
    have hpl := ways_placeB hw1
    have hbd := allFree_bd q0 l 0 0 (fun x hx => by obtain ⟨j, hj, rfl⟩ := List.mem_iff_getElem.1 hx; have := (len_of h).2.2 j hj; have := (len_of h).2.1; omega)
    obtain ⟨e, he⟩ : ∃ e : Nat, allFree q0 l 0 0 = (e : Int) := ⟨(allFree q0 l 0 0).toNat, by omega⟩
    have hkey : (kN, e) ∈ Fk l l.length := by
      rw [← ways_keys h, List.mem_map]
      exact ⟨q0, hw1, by unfold keyFrom; rw [List.drop_zero, he, hrk, Int.toNat_natCast]⟩
    have heL := in_row h hk _ hkey rfl
    simp only [] at heL
    have hfc := impl_freeCells (l := l) (p := q0) (by have := (len_of h).2.1; omega)
    unfold freeAnswer at hfc
    rw [if_pos h, if_pos hpl, he] at hfc
    have hcl := cF_len l ((withs kN (waysFrom (rowsOf l) l.length l.length 0 0 [])).take i) ((wtab l).getD kN []).length
    rw [cF_snoc l _ q0 (e := e) (by rw [he]; rfl) heL] at ih
    have hcnt : ((withs kN (waysFrom (rowsOf l) l.length l.length 0 0 [])).take i).countP (fun q => (allFree q l 0 0).toNat == e) ≤ 500 := Nat.le_trans List.countP_le_length (by rw [List.length_take]; omega)
    have w1 := Aside0.mk (show wrap64 ((i : Int) + 1) = ((i + 1 : Nat) : Int) from by rw [w64 (by omega) (by omega)]; rfl)
    have w2 := Aside0.mk (show wrap64 (rd (cF l ((withs kN (waysFrom (rowsOf l) l.length l.length 0 0 [])).take i) ((wtab l).getD kN []).length) (e : Int) + 1) = ((((withs kN (waysFrom (rowsOf l) l.length l.length 0 0 [])).take i).countP (fun q => (allFree q l 0 0).toNat == e) + 1 : Nat) : Int) from by
      rw [rd_lt _ _ (by omega), cF_at, w64 (by omega) (by omega)]; rfl)
    refine Ev.step (fun q => by rw [laws_FnWeightsOfRooks.l1, if_pos (by omega), if_pos (by omega), if_pos (by omega), hrd]) (Ev.bind hfc ?_)
    exact Ev.congr (fun q => by rw [if_pos rfl, if_neg (by omega), if_pos (by omega), if_pos (by omega), Int.toNat_natCast, w2.out, w1.out]) ih
end
section
variable {l : List Int} (h : lenB l = true) {x0 x1 : List Int} {R : Bool} (hend : Ev (fun q => laws_FnWeightsOfRooks.j4 q x0 x1) R)
include h hend
theorem adds : ∀ (d i : Nat), i + d = l.length + 1 → Ev (fun q => laws_FnWeightsOfRooks.l0 q x0 x1 (numsF (l.length + 1) (waysFrom (rowsOf l) l.length l.length 0 0 [])) (wtab l) ((wtab l).length : Int) i) R
  | 0, i, hi => by
    have hw := wtab_len h
    exact Ev.step (fun q => by rw [laws_FnWeightsOfRooks.l0, if_neg (by omega)]) hend
  | d + 1, i, hi => by
    have hw := wtab_len h
    have h6 := (len_of h).2.1
    have hi2 : i < (wtab l).length := by omega
    have hrow := wtab_row h i
    obtain ⟨g1, g2⟩ := numbers_get h
    have hs := rSum (l := (wtab l).getD i []) (by omega) (entry h (k := i) (by omega))
    have hrd : rd_L2 (wtab l) (i : Int) = (wtab l).getD i [] := by unfold rd_L2; rw [Int.toNat_natCast]
    have w1 := Aside0.mk (show wrap64 ((i : Int) + 1) = ((i + 1 : Nat) : Int) from by rw [w64 (by omega) (by omega)]; rfl)
    refine Ev.step (fun q => by rw [laws_FnWeightsOfRooks.l0, if_pos (by omega), if_pos (by omega), if_pos (by omega), hrd]) (Ev.bind hs ?_)
    exact Ev.congr (fun q => by rw [if_pos (by omega), if_pos (g2 i (by omega)).symm, w1.out]) (adds d (i + 1) (by omega))
end
end Go.Proofs.YtihnjbfjdkdhaaaGreat.WLaw
end
section
namespace Go.Proofs.YtihnjbfjdkdhaaaGreat.DrawK
set_option linter.unusedVariables false
open Go.RowKit Go.Proofs.YtihnjbfjdkdhaaaGreat.Q Go.Proofs.YtihnjbfjdkdhaaaGreatW.PrintWords Go.Proofs.YtihnjbfjdkdhaaaGreatW.PrintLast Go.Proofs.YtihnjbfjdkdhaaaGreatW.PrintMore
open Go.Proofs.YtihnjbfjdkdhaaaGreatL Go.Proofs.YtihnjbfjdkdhaaaGreat.LawK Go.Proofs.YtihnjbfjdkdhaaaGreat.BoardK
def Run {α : Type} (g : Nat → Option α) (P : α → Prop) : Prop := ∃ a, Ev g a ∧ P a
theorem Run.now {α : Type} {a : α} {P : α → Prop} (h : P a) : Run (fun _ => some a) P := ⟨a, Ev.now a, h⟩
theorem Run.of {α : Type} {g : Nat → Option α} {a : α} {P : α → Prop} (h : Ev g a) (hp : P a) : Run g P := ⟨a, h, hp⟩
theorem Run.bind {α β : Type} {g : Nat → Option α} {h : Nat → α → Option β} {P : α → Prop} {Q : β → Prop} (h1 : Run g P) (h2 : ∀ a, P a → Run (fun k => h k a) Q) : Run (fun k => (g k).bind (h k)) Q := by
  obtain ⟨a, ha, hp⟩ := h1
  obtain ⟨b, hb, hq⟩ := h2 a hp
  exact ⟨b, Ev.bind ha hb, hq⟩
theorem Run.congr {α : Type} {g g' : Nat → Option α} {P : α → Prop} (e : ∀ k, g k = g' k) (h : Run g' P) : Run g P := by
  obtain ⟨a, ha, hp⟩ := h
  exact ⟨a, Ev.congr e ha, hp⟩
theorem Run.step {α : Type} {g f : Nat → Option α} {P : α → Prop} (e : ∀ k, g (k + 1) = f k) (h : Run f P) : Run g P := by
  obtain ⟨a, ha, hp⟩ := h
  exact ⟨a, Ev.step e ha, hp⟩
theorem Run.mono {α : Type} {g : Nat → Option α} {P Q : α → Prop} (h : Run g P) (hpq : ∀ a, P a → Q a) : Run g Q := by
  obtain ⟨a, ha, hp⟩ := h
  exact ⟨a, ha, hpq a hp⟩
theorem Run.ite {α : Type} {c : Prop} [Decidable c] {g g' : Nat → Option α} {P : α → Prop} (h1 : c → Run g P) (h2 : ¬ c → Run g' P) : Run (fun k => if c then g k else g' k) P := by
  by_cases h : c
  · exact Run.congr (fun k => if_pos h) (h1 h)
  · exact Run.congr (fun k => if_neg h) (h2 h)
def Bytes (l : List Int) : Prop := l.length ≤ 1048576 ∧ ∀ x ∈ l, 0 ≤ x ∧ x ≤ 255
def At (M : Nat) (a : Int) : Prop := 0 ≤ a ∧ a ≤ M ∧ M ≤ 1000000
theorem At.le {M N : Nat} {a : Int} (h : At M a) (hm : M ≤ N) (hn : N ≤ 1000000) : At N a := ⟨h.1, Int.le_trans h.2.1 (by omega), hn⟩
theorem wraps_u64 (n : Int) (h₀ : 0 ≤ n) (h₁ : n < 2 ^ 64) : IntKind.u64.wrap n = n := by rw [IntKind.wrap_u64]; omega
theorem wrap_u64_range (n : Int) : 0 ≤ IntKind.u64.wrap n ∧ IntKind.u64.wrap n < 2 ^ 64 := by rw [IntKind.wrap_u64]; omega
theorem and_255 {x : Int} (h0 : 0 ≤ x) (h1 : x < 2 ^ 64) : 0 ≤ Go.bits .and .u64 x 255 ∧ Go.bits .and .u64 x 255 ≤ 255 := by
  obtain ⟨a, rfl⟩ : ∃ a : Nat, x = a := ⟨x.toNat, by omega⟩
  have h := (bits_nat .u64 64 (by decide) wraps_u64 a 255 (by omega) (by decide)).1
  have h2 : Go.bits .and .u64 (a : Int) 255 = ((a &&& 255 : Nat) : Int) := h
  rw [h2]
  have : a &&& 255 ≤ 255 := Nat.and_le_right
  omega
theorem next_run {code : List Int} (hc : Bytes code) {M : Nat} {a s : Int} (ha : At M a) (hm : M + 1 ≤ 1000000) : ∃ v a' s', spec_l1Cur_next.f code a s = some (v, a', s') ∧ (0 ≤ v ∧ v ≤ 255) ∧ At (M + 1) a' := by
  obtain ⟨h0, h1, h2⟩ := ha
  have w1 := Aside0.mk (show wrap64 (a + 1) = a + 1 from w64 (by omega) (by omega))
  have hA : At (M + 1) (a + 1) := ⟨by omega, by omega, by omega⟩
  have hu : ∀ n : Int, (0 ≤ wrap64 (Go.bits .and .u64 (IntKind.u64.wrap n / 1099511627776) 255) ∧ wrap64 (Go.bits .and .u64 (IntKind.u64.wrap n / 1099511627776) 255) ≤ 255) := by
    intro n
    have h3 := wrap_u64_range n
    generalize IntKind.u64.wrap n = y at h3
    have h4 := and_255 (x := y / 1099511627776) (by omega) (by omega)
    generalize Go.bits .and .u64 (y / 1099511627776) 255 = z at h4
    rw [w64 (by omega) (by omega)]
    exact h4
  unfold spec_l1Cur_next.f
  rw [w1.out]
  by_cases c1 : a < (code.length : Int)
  · have hl := hc.1
    rw [if_pos c1, if_pos h0]
    have hx : 0 ≤ rd code a ∧ rd code a ≤ 255 := by
      unfold rd
      rw [gD_lt _ _ (by omega)]
      exact hc.2 _ (List.getElem_mem _)
    have hv : 0 ≤ wrap64 (rd code a) ∧ wrap64 (rd code a) ≤ 255 := by rw [w64 (by omega) (by omega)]; exact hx
    by_cases c2 : a + 1 ≤ (code.length : Int)
    · rw [if_pos c2]; exact ⟨_, _, _, rfl, hv, hA⟩
    · rw [if_neg c2]; exact ⟨_, _, _, rfl, hu _, hA⟩
  · rw [if_neg c1]
    by_cases c2 : a + 1 ≤ (code.length : Int)
    · rw [if_pos c2]; exact ⟨_, _, _, rfl, ⟨by omega, by omega⟩, hA⟩
    · rw [if_neg c2]; exact ⟨_, _, _, rfl, hu _, hA⟩
theorem pick_run {code : List Int} (hc : Bytes code) {M : Nat} {a s : Int} (ha : At M a) (hm : M + 2 ≤ 1000000) (n : Int) : ∃ v a' s', spec_l1Cur_pick.f code a s n = some (v, a', s') ∧ (0 ≤ v ∧ (v < n ∨ v = 0)) ∧ At (M + 2) a' := by
  unfold spec_l1Cur_pick.f
  by_cases c1 : n ≤ 1
  · rw [if_pos c1]; exact ⟨_, _, _, rfl, ⟨by omega, .inr rfl⟩, ha.le (by omega) hm⟩
  · rw [if_neg c1]
    obtain ⟨v, a1, s1, e1, hv, ha1⟩ := next_run hc (s := s) ha (by omega)
    rw [e1, Option.bind_some]
    by_cases c2 : n > 200
    · rw [if_pos c2]
      obtain ⟨v2, a2, s2, e2, hv2, ha2⟩ := next_run hc (s := s1) ha1 (by omega)
      try simp only []
      rw [e2, Option.bind_some, if_neg (by omega)]
      refine ⟨_, _, _, rfl, ?_, ha2⟩
      try simp only []
      rw [w64 (n := v * 256) (by omega) (by omega), w64 (by omega) (by omega)]
      exact ⟨Int.tmod_nonneg _ (by omega), .inl (Int.tmod_lt_of_pos _ (by omega))⟩
    · rw [if_neg c2, if_neg (by omega)]
      exact ⟨_, _, _, rfl, ⟨Int.tmod_nonneg _ hv.1, .inl (Int.tmod_lt_of_pos _ (by omega))⟩, ha1.le (by omega) (by omega)⟩
theorem one_run {code : List Int} (hc : Bytes code) {M : Nat} {a s : Int} (ha : At M a) (hm : M + 2 ≤ 1000000) (n : Int) : ∃ (v : Bool) (a' s' : Int), spec_l1Cur_one.f code a s n = some (v, a', s') ∧ At (M + 2) a' := by
  obtain ⟨v, a1, s1, e1, hv, ha1⟩ := pick_run hc (s := s) ha hm n
  unfold spec_l1Cur_one.f
  rw [e1, Option.bind_some]
  exact ⟨_, _, _, rfl, ha1⟩
theorem among_run {code : List Int} (hc : Bytes code) {M : Nat} {a s : Int} (ha : At M a) (hm : M + 2 ≤ 1000000) {l : List Int} (hl : l ≠ []) : ∃ v a' s', spec_l1Cur_among.f code a s l = some (v, a', s') ∧ v ∈ l ∧ At (M + 2) a' := by
  obtain ⟨v, a1, s1, e1, hv, ha1⟩ := pick_run hc (s := s) ha hm (l.length : Int)
  have hp : 0 < l.length := List.length_pos_iff.2 hl
  unfold spec_l1Cur_among.f
  rw [e1, Option.bind_some]
  try simp only []
  rw [if_pos hv.1, if_pos (by omega)]
  refine ⟨_, _, _, rfl, ?_, ha1⟩
  unfold rd
  rw [gD_lt _ _ (by omega)]
  exact List.getElem_mem _
theorem sides_run {code : List Int} (hc : Bytes code) {M : Nat} {a s : Int} (ha : At M a) (hm : M + 4 ≤ 1000000) : ∃ v a' s', spec_l1Cur_sides.f code a s = some (v, a', s') ∧ (1 ≤ v ∧ v ≤ 6) ∧ At (M + 4) a' := by
  unfold spec_l1Cur_sides.f
  obtain ⟨b, a1, s1, e1, ha1⟩ := one_run hc (s := s) ha (by omega) 8
  rw [e1, Option.bind_some]
  cases b with
  | true => exact ⟨_, _, _, rfl, ⟨by omega, by omega⟩, ha1.le (by omega) (by omega)⟩
  | false =>
    obtain ⟨v, a2, s2, e2, hv, ha2⟩ := pick_run hc (s := s1) ha1 (by omega) 5
    try simp only []
    rw [if_neg (by simp), e2, Option.bind_some]
    refine ⟨_, _, _, rfl, ?_, ha2⟩
    rw [w64 (by omega) (by omega)]
    omega
theorem pick_R {code : List Int} (hc : Bytes code) {M : Nat} {a s : Int} (ha : At M a) (hm : M + 2 ≤ 1000000) (n : Int) : Run (fun _ => spec_l1Cur_pick.f code a s n) (fun x => (0 ≤ x.1 ∧ (x.1 < n ∨ x.1 = 0)) ∧ At (M + 2) x.2.1) := by
  obtain ⟨v, a1, s1, e1, hv, ha1⟩ := pick_run hc (s := s) ha hm n
  exact ⟨_, Ev.congr (fun _ => e1) (Ev.now _), hv, ha1⟩
theorem one_R {code : List Int} (hc : Bytes code) {M : Nat} {a s : Int} (ha : At M a) (hm : M + 2 ≤ 1000000) (n : Int) : Run (fun _ => spec_l1Cur_one.f code a s n) (fun x => At (M + 2) x.2.1) := by
  obtain ⟨v, a1, s1, e1, ha1⟩ := one_run hc (s := s) ha hm n
  exact ⟨_, Ev.congr (fun _ => e1) (Ev.now _), ha1⟩
theorem among_R {code : List Int} (hc : Bytes code) {M : Nat} {a s : Int} (ha : At M a) (hm : M + 2 ≤ 1000000) {l : List Int} (hl : l ≠ []) : Run (fun _ => spec_l1Cur_among.f code a s l) (fun x => x.1 ∈ l ∧ At (M + 2) x.2.1) := by
  obtain ⟨v, a1, s1, e1, hv, ha1⟩ := among_run hc (s := s) ha hm hl
  exact ⟨_, Ev.congr (fun _ => e1) (Ev.now _), hv, ha1⟩
theorem sides_R {code : List Int} (hc : Bytes code) {M : Nat} {a s : Int} (ha : At M a) (hm : M + 4 ≤ 1000000) : Run (fun _ => spec_l1Cur_sides.f code a s) (fun x => (1 ≤ x.1 ∧ x.1 ≤ 6) ∧ At (M + 4) x.2.1) := by
  obtain ⟨v, a1, s1, e1, hv, ha1⟩ := sides_run hc (s := s) ha hm
  exact ⟨_, Ev.congr (fun _ => e1) (Ev.now _), hv, ha1⟩
end Go.Proofs.YtihnjbfjdkdhaaaGreat.DrawK
end
section
namespace Go.Proofs.YtihnjbfjdkdhaaaGreat.DrawK
set_option linter.unusedVariables false
set_option linter.unusedSectionVars false
open Go.RowKit Go.Proofs.YtihnjbfjdkdhaaaGreat.Q Go.Proofs.YtihnjbfjdkdhaaaGreatW.PrintWords Go.Proofs.YtihnjbfjdkdhaaaGreatW.PrintLast Go.Proofs.YtihnjbfjdkdhaaaGreatW.PrintMore
open Go.Proofs.YtihnjbfjdkdhaaaGreatL Go.Proofs.YtihnjbfjdkdhaaaGreat.LawK Go.Proofs.YtihnjbfjdkdhaaaGreat.BoardK Go.Proofs.YtihnjbfjdkdhaaaGreat.LensK
theorem own_l {l : List Int} (h : l.length ≤ 1000000) : spec_l1Own.f l = some l := WeAllK.own_f h
theorem sorted_l1 {x3 x8 : List Int} {v : Int} {n i : Nat} (h3 : x3.length ≤ 1000) (hi : i ≤ 1000) {P : List Int → Prop} (cont : ∀ y : List Int, y.length = x3.length + 1 → Run (fun k => spec_feSorted.l0 k y x8 n ((i + 1 : Nat) : Int)) P) : ∀ (d j : Nat), j + d = x3.length → Run (fun k => spec_feSorted.l1 k x3 v j x8 n i) P
  | d, j, hj => by
    have w1 := Aside0.mk (show wrap64 ((i : Int) + 1) = ((i + 1 : Nat) : Int) from by rw [w64 (by omega) (by omega)]; rfl)
    have hlen : ((x3.take j ++ [v]) ++ x3.drop j).length = x3.length + 1 := by simp only [List.length_append, List.length_take, List.length_drop, List.length_singleton]; omega
    have ht : (x3.take j).length ≤ 1000 := by rw [List.length_take]; omega
    have hs := hlen
    rw [List.length_append] at hs
    cases d with
    | zero =>
      refine Run.step (fun k => ?_) (cont _ hlen)
      rw [spec_feSorted.l1, if_neg (by omega), if_pos (by omega), if_pos (by omega), Int.toNat_natCast, own_l (by omega), Option.bind_some, if_pos (by omega), Option.bind_some, Option.bind_some, if_pos (by omega), w1.out]
    | succ d =>
      have w2 := Aside0.mk (show wrap64 ((j : Int) + 1) = ((j + 1 : Nat) : Int) from by rw [w64 (by omega) (by omega)]; rfl)
      refine Run.step (fun k => by rw [spec_feSorted.l1, if_pos (by omega), if_pos (by omega)]) ?_
      refine Run.ite (fun _ => ?_) (fun _ => ?_)
      · exact Run.congr (fun k => by rw [w2.out]) (sorted_l1 h3 hi cont d (j + 1) (by omega))
      · refine Run.congr (fun k => ?_) (cont _ hlen)
        rw [if_pos (by omega), Int.toNat_natCast, own_l (by omega), Option.bind_some, if_pos (by omega), Option.bind_some, Option.bind_some, if_pos (by omega), w1.out]
theorem sorted_l0 {l : List Int} (hl : l.length ≤ 100) : ∀ (d i : Nat) (x : List Int), i + d = l.length → x.length = i → Run (fun k => spec_feSorted.l0 k x l (l.length : Int) i) (fun y => y.length = l.length)
  | 0, i, x, hi, hx => Run.step (f := fun _ => some x) (fun k => by rw [spec_feSorted.l0, if_neg (by omega)]) (Run.now (by omega))
  | d + 1, i, x, hi, hx => by
    refine Run.step (fun k => by rw [spec_feSorted.l0, if_pos (by omega), if_pos (by omega), if_pos (by omega)]) ?_
    exact sorted_l1 (by omega) (by omega) (fun y hy => sorted_l0 hl d (i + 1) y (by omega) (by omega)) x.length 0 (by omega)
theorem sorted_run {l : List Int} (hl : l.length ≤ 100) : Run (fun k => spec_feSorted.f k l) (fun y => y.length = l.length) := by
  unfold spec_feSorted.f
  exact sorted_l0 hl l.length 0 [] (by omega) rfl
section
variable {code : List Int} (hc : Bytes code)
include hc
theorem lengths_l0 {n : Nat} (hn1 : 1 ≤ n) (hn : n ≤ 6) : ∀ (d i M : Nat) (a s : Int) (x : List Int), i + d = n → x.length = i → At M a → M + 2 * d + 40 ≤ 100000 → Run (fun k => spec_l1Cur_lengths.l0 k n x i code a s) (fun y => y.1.length ≤ 8 ∧ At (M + 2 * d + 10) y.2.1)
  | 0, i, M, a, s, x, hi, hx, ha, hm => by
    refine Run.step (fun k => by rw [spec_l1Cur_lengths.l0, if_neg (by omega)]) ?_
    refine Run.bind (sorted_run (l := x) (by omega)) ?_
    intro t ht
    refine Run.bind (pick_R hc ha (by omega) 14) ?_
    rintro ⟨v, a1, s1⟩ ⟨hv, ha1⟩
    refine Run.ite (fun _ => ?_) (fun _ => Run.ite (fun _ => ?_) (fun _ => Run.ite (fun _ => ?_) (fun _ => ?_)))
    · refine Run.bind (pick_R hc ha1 (by omega) n) ?_
      rintro ⟨v2, a2, s2⟩ ⟨hv2, ha2⟩
      simp only [] at hv2
      refine Run.bind (pick_R hc ha2 (by omega) (wrap64 ((n : Int) + 3))) ?_
      rintro ⟨v3, a3, s3⟩ ⟨hv3, ha3⟩
      exact Run.congr (fun k => (if_pos hv2.1).trans (if_pos (by omega))) (Run.now ⟨by simp only [List.length_set]; omega, ha3.le (by omega) (by omega)⟩)
    · exact Run.congr (fun k => if_pos (by omega)) (Run.now ⟨by simp only [List.length_append, List.length_singleton]; omega, ha1.le (by omega) (by omega)⟩)
    · refine Run.bind (pick_R hc ha1 (by omega) 2) ?_
      rintro ⟨v2, a2, s2⟩ ⟨hv2, ha2⟩
      simp only [] at hv2
      have w := Aside0.mk (show wrap64 (6 + v2) = 6 + v2 from w64 (by omega) (by omega))
      refine Run.congr (fun k => by rw [w.out, if_pos (by omega), if_pos (by omega)]) ?_
      exact Run.now ⟨by simp only [List.length_replicate]; omega, ha2.le (by omega) (by omega)⟩
    · exact Run.now ⟨by simp only []; omega, ha1.le (by omega) (by omega)⟩
  | d + 1, i, M, a, s, x, hi, hx, ha, hm => by
    have w1 := Aside0.mk (show wrap64 ((i : Int) + 1) = ((i + 1 : Nat) : Int) from by rw [w64 (by omega) (by omega)]; rfl)
    refine Run.step (fun k => by rw [spec_l1Cur_lengths.l0, if_pos (by omega)]) ?_
    refine Run.bind (pick_R hc ha (by omega) _) ?_
    rintro ⟨v, a1, s1⟩ ⟨hv, ha1⟩
    refine Run.congr (fun k => by rw [if_pos (by omega), w1.out]) ?_
    exact (lengths_l0 hn1 hn d (i + 1) (M + 2) a1 s1 (x ++ [v]) (by omega) (by rw [List.length_append, List.length_singleton]; omega) ha1 (by omega)).mono (fun y hy => ⟨hy.1, hy.2.le (by omega) (by omega)⟩)
theorem lengths_run {M : Nat} {a s : Int} (ha : At M a) (hm : M + 100 ≤ 100000) : Run (fun k => spec_l1Cur_lengths.f k code a s) (fun y => y.1.length ≤ 8 ∧ At (M + 40) y.2.1) := by
  unfold spec_l1Cur_lengths.f
  refine Run.bind (sides_R hc ha (by omega)) ?_
  rintro ⟨v, a1, s1⟩ ⟨hv, ha1⟩
  simp only [] at hv
  obtain ⟨n, rfl⟩ : ∃ n : Nat, v = n := ⟨v.toNat, by omega⟩
  exact (lengths_l0 hc (n := n) (by omega) (by omega) n 0 (M + 4) a1 s1 [] (by omega) rfl ha1 (by omega)).mono (fun y hy => ⟨hy.1, hy.2.le (by omega) (by omega)⟩)
theorem shorter_l0 {n : Nat} (hn : n ≤ 6) : ∀ (d i M : Nat) (a s : Int) (x : List Int), i + d = n → x.length = i → At M a → M + 2 * d + 200 ≤ 100000 → Run (fun k => spec_l1Cur_shorter.l0 k n x i code a s) (fun y => y.1.length ≤ 8 ∧ At (M + 2 * d + 50) y.2.1)
  | 0, i, M, a, s, x, hi, hx, ha, hm => by
    refine Run.step (fun k => by rw [spec_l1Cur_shorter.l0, if_neg (by omega)]) ?_
    refine Run.bind (one_R hc ha (by omega) 8) ?_
    rintro ⟨b, a1, s1⟩ ha1
    refine Run.ite (fun _ => ?_) (fun _ => ?_)
    · refine Run.bind (lengths_run hc ha1 (by omega)) ?_
      rintro ⟨y, a2, s2⟩ ⟨hy, ha2⟩
      exact Run.now ⟨hy, ha2.le (by omega) (by omega)⟩
    · refine Run.bind (sorted_run (l := x) (by omega)) ?_
      intro t ht
      exact Run.now ⟨by simp only []; omega, ha1.le (by omega) (by omega)⟩
  | d + 1, i, M, a, s, x, hi, hx, ha, hm => by
    have w1 := Aside0.mk (show wrap64 ((i : Int) + 1) = ((i + 1 : Nat) : Int) from by rw [w64 (by omega) (by omega)]; rfl)
    refine Run.step (fun k => by rw [spec_l1Cur_shorter.l0, if_pos (by omega)]) ?_
    refine Run.bind (P := fun _ => True) ?_ ?_
    · unfold spec_l1Least.f
      exact Run.ite (fun _ => Run.now trivial) (fun _ => Run.now trivial)
    intro t _
    refine Run.bind (pick_R hc ha (by omega) _) ?_
    rintro ⟨v, a1, s1⟩ ⟨hv, ha1⟩
    refine Run.congr (fun k => by rw [if_pos (by omega), w1.out]) ?_
    exact (shorter_l0 hn d (i + 1) (M + 2) a1 s1 (x ++ [v]) (by omega) (by rw [List.length_append, List.length_singleton]; omega) ha1 (by omega)).mono (fun y hy => ⟨hy.1, hy.2.le (by omega) (by omega)⟩)
theorem shorter_run {M : Nat} {a s : Int} (ha : At M a) (hm : M + 300 ≤ 100000) : Run (fun k => spec_l1Cur_shorter.f k code a s) (fun y => y.1.length ≤ 8 ∧ At (M + 100) y.2.1) := by
  unfold spec_l1Cur_shorter.f
  refine Run.bind (pick_R hc ha (by omega) 4) ?_
  rintro ⟨v, a1, s1⟩ ⟨hv, ha1⟩
  simp only [] at hv
  obtain ⟨n, hn⟩ : ∃ n : Nat, wrap64 (1 + v) = n := ⟨(wrap64 (1 + v)).toNat, by rw [w64 (by omega) (by omega)]; omega⟩
  have hn4 : n ≤ 6 := by rw [w64 (by omega) (by omega)] at hn; omega
  refine Run.congr (fun k => by rw [hn]) ?_
  exact (shorter_l0 hc (n := n) hn4 n 0 (M + 2) a1 s1 [] (by omega) rfl ha1 (by omega)).mono (fun y hy => ⟨hy.1, hy.2.le (by omega) (by omega)⟩)
theorem base_at {M : Nat} {a s : Int} (ha : At M a) (hm : M + 10 ≤ 100000) : Run (fun _ => spec_l1Cur_base.f code a s) (fun x => At (M + 4) x.2.1) := by
  unfold spec_l1Cur_base.f
  refine Run.bind (one_R hc ha (by omega) 14) ?_
  rintro ⟨b, a1, s1⟩ ha1
  refine Run.ite (fun _ => ?_) (fun _ => ?_)
  · refine Run.bind (among_R hc ha1 (by omega) (by simp)) ?_
    rintro ⟨v, a2, s2⟩ ⟨hv, ha2⟩
    exact Run.now (ha2.le (by omega) (by omega))
  · refine Run.bind (pick_R hc ha1 (by omega) 2) ?_
    rintro ⟨v, a2, s2⟩ ⟨hv, ha2⟩
    exact Run.now (ha2.le (by omega) (by omega))
end
end Go.Proofs.YtihnjbfjdkdhaaaGreat.DrawK
end
section
namespace Go.Proofs.YtihnjbfjdkdhaaaGreat.DrawK
set_option linter.unusedVariables false
set_option linter.unusedSectionVars false
open Go.RowKit Go.Proofs.YtihnjbfjdkdhaaaGreat.Q Go.Proofs.YtihnjbfjdkdhaaaGreatW.PrintWords Go.Proofs.YtihnjbfjdkdhaaaGreatW.PrintLast Go.Proofs.YtihnjbfjdkdhaaaGreatW.PrintMore
open Go.Proofs.YtihnjbfjdkdhaaaGreatL Go.Proofs.YtihnjbfjdkdhaaaGreat.LawK Go.Proofs.YtihnjbfjdkdhaaaGreat.BoardK Go.Proofs.YtihnjbfjdkdhaaaGreat.LensK Go.Proofs.YtihnjbfjdkdhaaaGreat.PermK
section
variable {code : List Int} (hc : Bytes code)
include hc
theorem at0 : At 0 (0 : Int) := ⟨by omega, by omega, by omega⟩
theorem draw_all : Run (fun k => spec_DrawAllWeights.f k code) (fun x => x.length ≤ 8) := by
  unfold spec_DrawAllWeights.f spec_DrawAreLengths.f
  refine Run.bind (P := fun x : List Int => x.length ≤ 8) (Run.bind (lengths_run hc (M := 0) (at0 hc) (by omega)) ?_) ?_
  · rintro ⟨l, a1, s1⟩ ⟨h1, h2⟩
    exact Run.now h1
  · intro l h1
    exact Run.now h1
theorem draw_of : Run (fun k => spec_DrawWeightsOf.f k code) (fun x => x.1.length ≤ 8) := by
  unfold spec_DrawWeightsOf.f
  refine Run.bind (lengths_run hc (M := 0) (at0 hc) (by omega)) ?_
  rintro ⟨l, a1, s1⟩ ⟨h1, h2⟩
  refine Run.bind (pick_R hc h2 (by omega) _) ?_
  rintro ⟨v, a2, s2⟩ ⟨hv, ha2⟩
  exact Run.now h1
theorem draw_at : Run (fun k => spec_DrawWeightAt.f k code) (fun x => x.1.length ≤ 8) := by
  unfold spec_DrawWeightAt.f
  refine Run.bind (lengths_run hc (M := 0) (at0 hc) (by omega)) ?_
  rintro ⟨l, a1, s1⟩ ⟨h1, h2⟩
  refine Run.bind (pick_R hc h2 (by omega) _) ?_
  rintro ⟨v, a2, s2⟩ ⟨hv, ha2⟩
  refine Run.bind (base_at hc ha2 (by omega)) ?_
  rintro ⟨q, a3, s3⟩ ha3
  exact Run.now h1
theorem draw_bracket : Run (fun _ => spec_DrawBracketOf.f code) (fun _ => True) := by
  unfold spec_DrawBracketOf.f
  refine Run.bind (pick_R hc (at0 hc) (by omega) 24) ?_
  rintro ⟨v, a2, s2⟩ ⟨hv, ha2⟩
  refine Run.bind (base_at hc ha2 (by omega)) ?_
  rintro ⟨q, a3, s3⟩ ha3
  exact Run.now trivial
theorem draw_sum : Run (fun k => spec_DrawWeightedSumAt.f k code) (fun x => x.1.length ≤ 8) := by
  unfold spec_DrawWeightedSumAt.f
  refine Run.bind (shorter_run hc (M := 0) (at0 hc) (by omega)) ?_
  rintro ⟨l, a1, s1⟩ ⟨h1, h2⟩
  refine Run.bind (base_at hc h2 (by omega)) ?_
  rintro ⟨q, a3, s3⟩ ha3
  refine Run.bind (pick_R hc ha3 (by omega) 4) ?_
  rintro ⟨v, a4, s4⟩ ⟨hv, ha4⟩
  refine Run.bind (pick_R hc ha4 (by omega) 9) ?_
  rintro ⟨v5, a5, s5⟩ ⟨hv5, ha5⟩
  exact Run.now h1
theorem free_j1 {x5 x6 : List Int} (h5 : x5.length ≤ 8) (h6 : x6.length ≤ 8) {b : Bool} (hb : b = true → 0 < x6.length) {M : Nat} {a s : Int} (ha : At M a) (hm : M + 10 ≤ 100000) : Run (fun k => spec_DrawFreeCells.j1 k x5 x6 b code a s) (fun y => y.1.length ≤ 8 ∧ y.2.length ≤ 8) := by
  by_cases c : b = true
  · have hp := hb c
    refine Run.step (fun k => by rw [spec_DrawFreeCells.j1, if_pos c]) ?_
    refine Run.bind (pick_R hc ha (by omega) _) ?_
    rintro ⟨v, a1, s1⟩ ⟨hv, ha1⟩
    simp only [] at hv
    refine Run.bind (pick_R hc ha1 (by omega) 8) ?_
    rintro ⟨v2, a2, s2⟩ ⟨hv2, ha2⟩
    exact Run.congr (fun k => (if_pos hv.1).trans (if_pos (by omega))) (Run.now ⟨h5, by simp only [List.length_set]; exact h6⟩)
  · exact Run.step (fun k => by rw [spec_DrawFreeCells.j1, if_neg c]) (Run.now ⟨h5, h6⟩)
theorem free_l0 {x5 : List Int} (h5 : x5.length ≤ 8) : ∀ (d i M : Nat) (a s : Int) (x6 : List Int), i + d = x5.length → x6.length = i → At M a → M + 2 * d + 40 ≤ 100000 → Run (fun k => spec_DrawFreeCells.l0 k x5 x6 (x5.length : Int) i code a s) (fun y => y.1.length ≤ 8 ∧ y.2.length ≤ 8)
  | 0, i, M, a, s, x6, hi, hx, ha, hm => by
    refine Run.step (fun k => by rw [spec_DrawFreeCells.l0, if_neg (by omega)]) ?_
    refine Run.ite (fun hp => ?_) (fun _ => ?_)
    · refine Run.bind (one_R hc ha (by omega) 10) ?_
      rintro ⟨v, a1, s1⟩ ha1
      exact free_j1 hc h5 (by omega) (fun _ => by omega) ha1 (by omega)
    · exact free_j1 hc h5 (by omega) (fun h => absurd h (by simp)) ha (by omega)
  | d + 1, i, M, a, s, x6, hi, hx, ha, hm => by
    have hi2 : i < x5.length := by omega
    have w1 := Aside0.mk (show wrap64 ((i : Int) + 1) = ((i + 1 : Nat) : Int) from by rw [w64 (by omega) (by omega)]; rfl)
    obtain ⟨z, hz⟩ : ∃ z, spec_l1Least.f (rd x5 (i : Int)) 8 = some z := by unfold spec_l1Least.f; split <;> exact ⟨_, rfl⟩
    obtain ⟨z2, hz2⟩ : ∃ z2, spec_l1Most.f 0 z = some z2 := by unfold spec_l1Most.f; split <;> exact ⟨_, rfl⟩
    have next : ∀ (v a1 s1 : Int), At (M + 2) a1 → Run (fun k => if x6.length < 17592186044416 then spec_DrawFreeCells.l0 k x5 (x6 ++ [v]) (x5.length : Int) (wrap64 ((i : Int) + 1)) code a1 s1 else none) (fun y => y.1.length ≤ 8 ∧ y.2.length ≤ 8) := fun v a1 s1 ha1 =>
      Run.congr (fun k => by rw [if_pos (by omega), w1.out]) (free_l0 h5 d (i + 1) (M + 2) a1 s1 (x6 ++ [v]) (by omega) (by rw [List.length_append, List.length_singleton]; omega) ha1 (by omega))
    refine Run.step (fun k => by rw [spec_DrawFreeCells.l0, if_pos (by omega), if_pos (by omega), if_pos (by omega), hz, Option.bind_some, hz2, Option.bind_some]) ?_
    refine Run.bind (pick_R hc ha (by omega) _) ?_
    rintro ⟨v, a1, s1⟩ ⟨hv, ha1⟩
    refine Run.ite (fun _ => ?_) (fun _ => next _ _ _ ha1)
    refine Run.bind (Run.of (l1Has (l := x6) _ (by omega)) (P := fun _ => True) trivial) ?_
    intro t _
    exact Run.ite (fun _ => next _ _ _ ha1) (fun _ => next _ _ _ ha1)
theorem draw_free : Run (fun k => spec_DrawFreeCells.f k code) (fun y => y.1.length ≤ 8 ∧ y.2.length ≤ 8) := by
  unfold spec_DrawFreeCells.f
  refine Run.bind (lengths_run hc (M := 0) (at0 hc) (by omega)) ?_
  rintro ⟨l, a1, s1⟩ ⟨h1, h2⟩
  simp only [] at h1 h2
  exact free_l0 hc h1 l.length 0 _ a1 s1 [] (by omega) rfl h2 (by omega)
end
end Go.Proofs.YtihnjbfjdkdhaaaGreat.DrawK
end
section
namespace Go.Proofs.YtihnjbfjdkdhaaaGreat.BracketA
set_option linter.unusedVariables false
open Go.RowKit Go.Proofs.YtihnjbfjdkdhaaaGreat.Q Go.Proofs.YtihnjbfjdkdhaaaGreatW.PrintWords Go.Proofs.YtihnjbfjdkdhaaaGreatW.PrintLast Go.Proofs.YtihnjbfjdkdhaaaGreatW.PrintMore
open Go.Proofs.YtihnjbfjdkdhaaaGreatL Go.Proofs.YtihnjbfjdkdhaaaGreat.LawK
theorem fin_ : ∀ i : Fin 21, ∀ j : Fin 2, impl_BracketOf.f 30 (i.val : Int) (2 + (j.val : Int)) = some ((impl_BracketOf.f 30 (i.val : Int) (2 + (j.val : Int))).getD (0, false)) ∧ spec_BracketOf.f 30 (i.val : Int) (2 + (j.val : Int)) = some ((impl_BracketOf.f 30 (i.val : Int) (2 + (j.val : Int))).getD (0, false)) := by decide +kernel
theorem both (m q : Int) : ∃ r, Ev (fun k => impl_BracketOf.f k m q) r ∧ Ev (fun k => spec_BracketOf.f k m q) r := by
  by_cases h : 0 ≤ m ∧ m ≤ 20 ∧ 2 ≤ q ∧ q ≤ 3
  · obtain ⟨h1, h2⟩ := fin_ ⟨m.toNat, by omega⟩ ⟨(q - 2).toNat, by omega⟩
    simp only [] at h1 h2
    rw [show ((m.toNat : Nat) : Int) = m by omega, show (2 + (((q - 2).toNat : Nat) : Int)) = q by omega] at h1 h2
    exact ⟨_, Ev.of (fun k => impl_BracketOf.mono _ _ k) h1, Ev.of (fun k => spec_BracketOf.mono _ _ k) h2⟩
  · refine ⟨(0, false), ?_, ?_⟩
    · refine ⟨1, fun k hk => ?_⟩
      obtain ⟨k, rfl⟩ : ∃ d, k = d + 1 := ⟨k - 1, by omega⟩
      unfold impl_BracketOf.f impl_isQ.f impl_within.f
      by_cases h1 : 0 ≤ m <;> by_cases h2 : m ≤ 20 <;> by_cases h3 : 2 ≤ q <;> by_cases h4 : q ≤ 3 <;> first
        | (exfalso; exact h ⟨h1, h2, h3, h4⟩)
        | simp [h1, h2, h3, h4]
    · refine ⟨1, fun k hk => ?_⟩
      obtain ⟨k, rfl⟩ : ∃ d, k = d + 1 := ⟨k - 1, by omega⟩
      unfold spec_BracketOf.f spec_weBase.f spec_l1In.f
      by_cases h1 : 0 ≤ m <;> by_cases h2 : m ≤ 20 <;> by_cases h3 : 2 ≤ q <;> by_cases h4 : q ≤ 3 <;> first
        | (exfalso; exact h ⟨h1, h2, h3, h4⟩)
        | simp [h1, h2, h3, h4]
end Go.Proofs.YtihnjbfjdkdhaaaGreat.BracketA
end
section
namespace Go.Proofs.YtihnjbfjdkdhaaaGreat.AllWK
set_option linter.unusedVariables false
open Go.RowKit Go.Proofs.YtihnjbfjdkdhaaaGreat.Q Go.Proofs.YtihnjbfjdkdhaaaGreatW.PrintWords Go.Proofs.YtihnjbfjdkdhaaaGreatW.PrintLast Go.Proofs.YtihnjbfjdkdhaaaGreatW.PrintMore
open Go.Proofs.YtihnjbfjdkdhaaaGreatL Go.Proofs.YtihnjbfjdkdhaaaGreat.LawK Go.Proofs.YtihnjbfjdkdhaaaGreat.BoardK Go.Proofs.YtihnjbfjdkdhaaaGreat.LensK Go.Proofs.YtihnjbfjdkdhaaaGreat.BagK Go.Proofs.YtihnjbfjdkdhaaaGreat.WeAllK Go.Proofs.YtihnjbfjdkdhaaaGreat.WValK
def ans (l : List Int) : List (List Int) × Bool := if lenB l = true then (wtab l, true) else ([], false)
theorem spec_ans {l : List Int} (hl : l.length ≤ 1048576) : Ev (fun k => spec_AllWeights.f k l) (ans l) := by
  unfold spec_AllWeights.f ans
  refine Ev.bind (spec_good hl) ?_
  by_cases h : lenB l = true
  · rw [if_pos h]
    exact Ev.congr (fun k => if_pos h) (Ev.bind (weAll h) (Ev.now _))
  · rw [if_neg h]
    exact Ev.congr (fun k => if_neg h) (Ev.now _)
theorem impl_ans {l : List Int} (hl : l.length ≤ 1048576) : Ev (fun k => impl_AllWeights.f k l) (ans l) := by
  unfold impl_AllWeights.f ans
  refine Ev.bind (impl_good hl) ?_
  by_cases h : lenB l = true
  · rw [if_pos h]
    exact Ev.congr (fun k => by rw [if_pos h, impl_weights.f, if_pos h, Option.bind_some]) (Ev.now _)
  · rw [if_neg h]
    exact Ev.congr (fun k => by rw [if_neg h]) (Ev.now _)
end Go.Proofs.YtihnjbfjdkdhaaaGreat.AllWK
end
section
namespace Go.Proofs.YtihnjbfjdkdhaaaGreat.Pure
set_option linter.unusedVariables false
open Go.RowKit Go.Proofs.YtihnjbfjdkdhaaaGreat.Q Go.Proofs.YtihnjbfjdkdhaaaGreatW.PrintWords Go.Proofs.YtihnjbfjdkdhaaaGreatW.PrintLast Go.Proofs.YtihnjbfjdkdhaaaGreatW.PrintMore
open Go.Proofs.YtihnjbfjdkdhaaaGreatL Go.Proofs.YtihnjbfjdkdhaaaGreat.LawK Go.Proofs.YtihnjbfjdkdhaaaGreat.BoardK Go.Proofs.YtihnjbfjdkdhaaaGreat.LensK Go.Proofs.YtihnjbfjdkdhaaaGreat.BagK Go.Proofs.YtihnjbfjdkdhaaaGreat.WeAllK Go.Proofs.YtihnjbfjdkdhaaaGreat.WValK
theorem spec_of {l : List Int} (k : Int) (hl : l.length ≤ 1048576) : Ev (fun q => spec_WeightsOf.f q l k) (ofAns l k) := by
  unfold spec_WeightsOf.f ofAns
  refine Ev.bind (asked k hl) ?_
  by_cases h : (lenB l && inR 0 l.length k) = true
  · rw [h, if_pos rfl]
    rw [Bool.and_eq_true] at h
    have hk := inR_nat h.2
    refine Ev.congr (fun q => if_pos rfl) (Ev.bind (weAll h.1) ?_)
    refine Ev.congr (fun q => by rw [if_pos (by omega), if_pos (by rw [wtab_len h.1]; omega)]) ?_
    unfold rd_L2
    exact Ev.now _
  · rw [show (lenB l && inR 0 l.length k) = false by simpa using h, if_neg (by simp)]
    exact Ev.congr (fun q => if_neg (by simp)) (Ev.now _)
end Go.Proofs.YtihnjbfjdkdhaaaGreat.Pure
end
section
namespace Go.Proofs.YtihnjbfjdkdhaaaGreat.Pure
set_option linter.unusedVariables false
open Go.RowKit Go.Proofs.YtihnjbfjdkdhaaaGreat.Q Go.Proofs.YtihnjbfjdkdhaaaGreatW.PrintWords Go.Proofs.YtihnjbfjdkdhaaaGreatW.PrintLast Go.Proofs.YtihnjbfjdkdhaaaGreatW.PrintMore
open Go.Proofs.YtihnjbfjdkdhaaaGreatL Go.Proofs.YtihnjbfjdkdhaaaGreat.LawK Go.Proofs.YtihnjbfjdkdhaaaGreat.BoardK Go.Proofs.YtihnjbfjdkdhaaaGreat.LensK Go.Proofs.YtihnjbfjdkdhaaaGreat.BagK Go.Proofs.YtihnjbfjdkdhaaaGreat.WeAllK Go.Proofs.YtihnjbfjdkdhaaaGreat.WValK
def atAns (l : List Int) (k q : Int) : Int × Bool := if (lenB l && inR 0 l.length k) = true then (if inR 2 3 q = true then (rsum q ((wtab l).getD k.toNat []) ((wtab l).getD k.toNat []).length 0 0, true) else (0, false)) else (0, false)
theorem spec_atA {l : List Int} (k q : Int) (hl : l.length ≤ 1048576) : Ev (fun n => spec_WeightAt.f n l k q) (atAns l k q) := by
  unfold spec_WeightAt.f atAns
  refine Ev.bind (asked k hl) ?_
  by_cases h : (lenB l && inR 0 l.length k) = true
  · rw [h, if_pos rfl]
    rw [Bool.and_eq_true] at h
    have hk := inR_nat h.2
    refine Ev.congr (fun n => by rw [if_pos rfl, spec_weBase.f, l1In_f, Option.bind_some, Option.bind_some]) ?_
    by_cases h2 : inR 2 3 q = true
    · rw [h2, if_pos rfl]
      refine Ev.step (fun n => by rw [spec_WeightAt.j0, if_neg (by simp)]) ?_
      refine Ev.bind (weAll h.1) ?_
      refine Ev.congr (fun n => by rw [if_pos (by omega), if_pos (by rw [wtab_len h.1]; omega), rd_L2]) ?_
      exact Ev.bind (spec_at q (wtab_row h.1 _)) (Ev.now _)
    · rw [if_neg h2, show inR 2 3 q = false by simpa using h2]
      exact Ev.step (fun n => by rw [spec_WeightAt.j0, if_pos (by simp)]) (Ev.now _)
  · rw [show (lenB l && inR 0 l.length k) = false by simpa using h, if_neg (by simp)]
    refine Ev.congr (fun n => if_neg (by simp)) ?_
    exact Ev.step (fun n => by rw [spec_WeightAt.j0, if_pos (by simp)]) (Ev.now _)
theorem impl_atA {l : List Int} (k q : Int) (hl : l.length ≤ 1048576) : Ev (fun n => impl_WeightAt.f n l k q) (atAns l k q) := by
  unfold impl_WeightAt.f atAns
  refine Ev.bind (impl_of k hl) ?_
  unfold ofAns
  by_cases h : (lenB l && inR 0 l.length k) = true
  · rw [h, if_pos rfl]
    rw [Bool.and_eq_true] at h
    refine Ev.congr (fun n => by rw [if_pos rfl, impl_isQ.f, withinR, Option.bind_some, Option.bind_some]) ?_
    by_cases h2 : inR 2 3 q = true
    · rw [if_pos h2]
      refine Ev.congr (fun n => if_pos h2) ?_
      exact Ev.bind (impl_at q (wtab_row h.1 _)) (Ev.now _)
    · rw [if_neg h2]
      exact Ev.congr (fun n => if_neg h2) (Ev.now _)
  · rw [show (lenB l && inR 0 l.length k) = false by simpa using h, if_neg (by simp)]
    exact Ev.congr (fun n => by rw [if_neg (by simp), if_neg (by simp)]) (Ev.now _)
end Go.Proofs.YtihnjbfjdkdhaaaGreat.Pure
end
section
namespace Go.Proofs.YtihnjbfjdkdhaaaGreat.DrawK
set_option linter.unusedVariables false
open Go.RowKit Go.Proofs.YtihnjbfjdkdhaaaGreat.Q Go.Proofs.YtihnjbfjdkdhaaaGreatW.PrintWords Go.Proofs.YtihnjbfjdkdhaaaGreatW.PrintLast Go.Proofs.YtihnjbfjdkdhaaaGreatW.PrintMore
open Go.Proofs.YtihnjbfjdkdhaaaGreatL Go.Proofs.YtihnjbfjdkdhaaaGreat.LawK
theorem big_f (l0 l1 : List Int) (h1 : l1.length ≤ 4611686018427387904) : laws_big.f l0 l1 = some true ∨ laws_big.f l0 l1 = some false ∧ l0.length ≤ 1048576 ∧ l1.length ≤ 1048576 := by
  unfold laws_big.f
  by_cases h : (l0.length : Int) > 1048576
  · exact .inl (if_pos h)
  · rw [if_neg h, w64 (by omega) (by omega)]
    by_cases h2 : (l1.length : Int) > 1048576 - (l0.length : Int)
    · exact .inl (by rw [decide_eq_true h2])
    · exact .inr ⟨by rw [decide_eq_false h2], by omega, by omega⟩
theorem byte_of {x : Int} (h : (Lit.int .u8 x).wf = true) : 0 ≤ x ∧ x ≤ 255 := by
  simp [Lit.wf, IntKind.min, IntKind.max, IntKind.signed, IntKind.bits] at h
  omega
end Go.Proofs.YtihnjbfjdkdhaaaGreat.DrawK
end
section
namespace Go.Proofs.YtihnjbfjdkdhaaaGreat.Pure
set_option linter.unusedVariables false
set_option linter.unusedSectionVars false
open Go.RowKit Go.Proofs.YtihnjbfjdkdhaaaGreat.Q Go.Proofs.YtihnjbfjdkdhaaaGreatW.PrintWords Go.Proofs.YtihnjbfjdkdhaaaGreatW.PrintLast Go.Proofs.YtihnjbfjdkdhaaaGreatW.PrintMore
open Go.Proofs.YtihnjbfjdkdhaaaGreatL Go.Proofs.YtihnjbfjdkdhaaaGreat.LawK Go.Proofs.YtihnjbfjdkdhaaaGreat.BoardK Go.Proofs.YtihnjbfjdkdhaaaGreat.Walk Go.Proofs.YtihnjbfjdkdhaaaGreat.NumK Go.Proofs.YtihnjbfjdkdhaaaGreat.BagK Go.Proofs.YtihnjbfjdkdhaaaGreat.LensK Go.Proofs.YtihnjbfjdkdhaaaGreat.FreeK Go.Proofs.YtihnjbfjdkdhaaaGreat.WValK Go.Proofs.YtihnjbfjdkdhaaaGreat.WeAllK Go.Proofs.YtihnjbfjdkdhaaaGreat.WLaw Go.Proofs.YtihnjbfjdkdhaaaGreat.DrawK
namespace WRooksK
theorem rdL {xs : List (List Int)} {i : Nat} (h : i < xs.length) : rd_L2 xs (i : Int) = xs[i] := by unfold rd_L2; rw [Int.toNat_natCast]; exact gD_lt _ _ h
theorem rSameRows_l0 {a : List (List Int)} (hl : a.length ≤ 1000000) (hx : ∀ x ∈ a, x.length ≤ 1000000) : ∀ (d i : Nat), i + d = a.length → Ev (fun k => laws_rSameRows.l0 k a a (a.length : Int) i) true
  | 0, i, hi => Ev.step (f := fun _ => some true) (fun k => by rw [laws_rSameRows.l0, if_neg (by omega)]) (Ev.now _)
  | d + 1, i, hi => by
    have hi2 : i < a.length := by omega
    have w1 := Aside0.mk (show wrap64 ((i : Int) + 1) = ((i + 1 : Nat) : Int) from by rw [w64 (by omega) (by omega)]; rfl)
    refine Ev.step (fun k => by rw [laws_rSameRows.l0, if_pos (by omega), if_pos (by omega), if_pos (by omega), if_pos (by omega), rdL hi2]) (Ev.bind (rSame_self (hx _ (List.getElem_mem hi2))) ?_)
    exact Ev.congr (fun k => by rw [if_pos rfl, w1.out]) (rSameRows_l0 hl hx d (i + 1) (by omega))
theorem rSameRows_self {a : List (List Int)} (hl : a.length ≤ 1000000) (hx : ∀ x ∈ a, x.length ≤ 1000000) : Ev (fun k => laws_rSameRows.f k a a) true := by
  unfold laws_rSameRows.f
  exact Ev.congr (fun k => if_pos rfl) (rSameRows_l0 hl hx a.length 0 (by omega))
section
variable {code more : List Int} (hc : Bytes code) (hm : Bytes more)
include hc hm
theorem j9 : Ev (fun k => laws_FnWeightsOfRooks.j9 k more false) true := by
  obtain ⟨⟨l, q, x⟩, hd, h8⟩ := draw_sum hm
  simp only [] at h8
  refine Ev.step (fun k => by rw [laws_FnWeightsOfRooks.j9, if_neg (by simp)]) (Ev.bind hd ?_)
  refine Ev.bind (WSK.impl_a q x (l := l) (by omega)) (Ev.bind (WSK.spec_a q x (l := l) (by omega)) (Ev.bind (ProdA.prod_a q x (l := l) (by omega)) ?_))
  exact Ev.congr (f := fun _ => some true) (fun k => by rw [if_pos (by simp), if_pos rfl, if_pos (by simp)]; simp) (Ev.now _)
theorem j8 : Ev (fun k => laws_FnWeightsOfRooks.j8 k code more) true := by
  obtain ⟨⟨l, m, q⟩, hd, h8⟩ := draw_at hm
  simp only [] at h8
  obtain ⟨⟨y, b⟩, hd2, _⟩ := draw_bracket hc
  obtain ⟨r, hb1, hb2⟩ := BracketA.both y b
  refine Ev.step (fun k => by rw [laws_FnWeightsOfRooks.j8]) (Ev.bind hd ?_)
  refine Ev.bind (impl_atA m q (l := l) (by omega)) (Ev.bind (spec_atA m q (l := l) (by omega)) (Ev.bind hd2 (Ev.bind hb1 (Ev.bind hb2 ?_))))
  refine Ev.congr (fun k => by rw [if_neg (by simp), if_pos rfl, if_neg (by simp), show (r.1 != r.1) = false from by simp]) ?_
  exact j9 hc hm
theorem j4 : Ev (fun k => laws_FnWeightsOfRooks.j4 k code more) true := by
  obtain ⟨⟨l, kI⟩, hd, h8⟩ := draw_of hm
  simp only [] at h8
  have hal := ofAns_len l kI
  refine Ev.step (fun k => by rw [laws_FnWeightsOfRooks.j4]) (Ev.bind hd ?_)
  refine Ev.bind (impl_of kI (l := l) (by omega)) (Ev.bind (spec_of kI (l := l) (by omega)) ?_)
  refine Ev.congr (fun k => by rw [if_neg (by simp)]) (Ev.bind (WLaw.rSame_self (by omega)) ?_)
  refine Ev.step (fun k => by rw [laws_FnWeightsOfRooks.j5, if_neg (by simp)]) ?_
  have no : ∀ (w : List Int), Ev (fun k => laws_FnWeightsOfRooks.j6 k code more l kI w false) true := fun w => Ev.step (fun k => by rw [laws_FnWeightsOfRooks.j6, if_neg (by simp)]) (j8 hc hm)
  unfold ofAns
  by_cases h : (lenB l && inR 0 l.length kI) = true
  · rw [if_pos h]
    rw [Bool.and_eq_true] at h
    have hk := inR_nat h.2
    refine Ev.congr (fun k => if_pos rfl) ?_
    by_cases h4 : l.length ≤ 4
    · rw [decide_eq_true (show (l.length : Int) ≤ 4 by omega)]
      obtain ⟨kN, hkN⟩ : ∃ kN : Nat, kI = kN := ⟨kI.toNat, by omega⟩
      subst hkN
      have hkn : kN ≤ l.length := by omega
      have hV : (withs kN (waysFrom (rowsOf l) l.length l.length 0 0 [])).length ≤ 500 := Nat.le_trans (List.length_filter_le _ _) (few_ways h.1 h4)
      have hw := wtab_row h.1 kN
      have hb : Ev (fun k => impl_BoardOfLengths.f k l) ((l.length : Int), (l.length : Int), rowsOf l, true) := by
        unfold impl_BoardOfLengths.f
        exact Ev.bind (impl_good (by omega)) (Ev.congr (fun k => if_pos h.1) (Ev.bind (impl_board h.1) (Ev.now _)))
      have hs := counts h.1 hkn hV (j8 hc hm) (withs kN (waysFrom (rowsOf l) l.length l.length 0 0 [])).length 0 (by omega)
      have e0 : cF l ((withs kN (waysFrom (rowsOf l) l.length l.length 0 0 [])).take 0) ((wtab l).getD kN []).length = List.replicate ((wtab l).getD kN []).length 0 := by
        refine List.ext_getElem (by rw [cF_len, List.length_replicate]) (fun i h1 h2 => ?_)
        rw [cF_at, List.getElem_replicate]
        rfl
      rw [e0] at hs
      refine Ev.step (fun k => by rw [laws_FnWeightsOfRooks.j6, if_pos rfl]) (Ev.bind hb (Ev.bind (places_at h.1 h4 hk.1 hk.2) ?_))
      exact Ev.congr (fun k => (if_pos (by simp only []; omega)).trans ((if_pos (by simp only [Int.toNat_natCast]; omega)).trans rfl)) hs
    · rw [decide_eq_false (show ¬ (l.length : Int) ≤ 4 by omega)]
      exact no _
  · rw [if_neg h]
    exact Ev.congr (fun k => if_neg (by simp)) (no _)
theorem j0 : Ev (fun k => laws_FnWeightsOfRooks.j0 k code more false) true := by
  obtain ⟨l, hd, h8⟩ := draw_all hm
  obtain ⟨hr1, hr2⟩ : (AllWK.ans l).1.length ≤ 1000000 ∧ ∀ x ∈ (AllWK.ans l).1, x.length ≤ 1000000 := by
    unfold AllWK.ans
    by_cases h : lenB l = true
    · rw [if_pos h]
      refine ⟨by simp only []; rw [wtab_len h]; omega, fun x hx => ?_⟩
      obtain ⟨i, hi, rfl⟩ := List.mem_iff_getElem.1 hx
      have := wtab_row h i
      rw [gD_lt _ _ hi] at this
      omega
    · rw [if_neg h]; exact ⟨Nat.zero_le _, fun x hx => by simp at hx⟩
  refine Ev.step (fun k => by rw [laws_FnWeightsOfRooks.j0, if_neg (by simp)]) (Ev.bind hd ?_)
  refine Ev.bind (AllWK.impl_ans (l := l) (by omega)) (Ev.bind (AllWK.spec_ans (l := l) (by omega)) ?_)
  refine Ev.congr (fun k => by rw [if_neg (by simp)]) (Ev.bind (rSameRows_self hr1 hr2) ?_)
  refine Ev.step (fun k => by rw [laws_FnWeightsOfRooks.j1, if_neg (by simp)]) ?_
  unfold AllWK.ans
  by_cases h : lenB l = true
  · rw [if_pos h]
    have w1 := Aside0.mk (show wrap64 ((l.length : Int) + 1) = ((l.length + 1 : Nat) : Int) from by rw [w64 (by omega) (by omega)]; rfl)
    refine Ev.congr (fun k => if_pos rfl) (Ev.bind (numbers_at h) ?_)
    refine Ev.congr (fun k => by rw [if_pos rfl, w1.out, wtab_len h, show (((l.length + 1 : Nat) : Int) != ((l.length + 1 : Nat) : Int)) = false from by simp]) ?_
    refine Ev.step (fun k => by rw [laws_FnWeightsOfRooks.j2, if_neg (by simp)]) ?_
    exact adds h (j4 hc hm) (l.length + 1) 0 (by omega)
  · rw [if_neg h]
    exact Ev.congr (fun k => if_neg (by simp)) (j4 hc hm)
end
end WRooksK
open WRooksK
theorem FnWeightsOfRooks : laws_FnWeightsOfRooks.Pure := by
  intro code more hcl _ hcw hml hm8 hmw
  unfold laws_FnWeightsOfRooks.f
  refine ends ?_
  rcases big_f code more (by omega) with hbig | ⟨hbig, h1, h2⟩
  · exact Ev.congr (fun k => by rw [hbig, Option.bind_some, if_pos rfl]) (Ev.now _)
  have hc : Bytes code := ⟨h1, fun x hx => byte_of (hcw x hx)⟩
  have hm : Bytes more := ⟨h2, fun x hx => byte_of (hmw x hx)⟩
  refine Ev.congr (fun k => by rw [hbig, Option.bind_some, if_neg (by simp)]) ?_
  obtain ⟨⟨l, p⟩, hd, h8, hp8⟩ := draw_free hc
  simp only [] at h8 hp8
  refine Ev.bind hd (Ev.bind (impl_freeCells (l := l) (p := p) (by omega)) (Ev.bind (spec_freeCells (l := l) (p := p) (by omega)) ?_))
  refine Ev.congr (fun k => by rw [if_neg (by simp), show ((freeAnswer l p).1 != (freeAnswer l p).1) = false from by simp]) ?_
  exact j0 hc hm
end Go.Proofs.YtihnjbfjdkdhaaaGreat.Pure
end
