/- Texts of this claim put together (10): words, what the functions compute, and plain facts. No conditions. -/
import Derived.Test.YtgnmcfoenmfhcaaSFnExactLeastCover7
import Derived.Test.YtgnmcfoenmfhcaaSFnExactLeastCover6
import Derived.Test.YtgnmcfoenmfhcaaSFnExactLeastCover8
import Derived.Test.YtgnmcfoenmfhcaaSFnExactLeastCover5
import Derived.Test.YtgnmcfoenmfhcaaSFnExactLeastCover9
section
namespace Go.Proofs.Ytgnmcfoenmfhcaa.Koenig
set_option linter.unusedVariables false
def cnt (p : Nat → Bool) : Nat := (List.range 6).countP p
theorem countP_mod (p q : Nat → Bool) : ∀ l : List Nat, l.countP (fun x => p x || q x) + l.countP (fun x => p x && q x) = l.countP p + l.countP q
  | [] => rfl
  | a :: l => by
    have ih := countP_mod p q l
    simp only [List.countP_cons]
    cases p a <;> cases q a <;> simp <;> omega
theorem cnt_mod (p q : Nat → Bool) : cnt (fun x => p x || q x) + cnt (fun x => p x && q x) = cnt p + cnt q := countP_mod p q _
theorem cnt_mono {p q : Nat → Bool} (h : ∀ x, x < 6 → p x = true → q x = true) : cnt p ≤ cnt q := List.countP_mono_left (fun x hx hp => h x (List.mem_range.1 hx) hp)
theorem cnt_congr {p q : Nat → Bool} (h : ∀ x, x < 6 → p x = q x) : cnt p = cnt q :=
  Nat.le_antisymm (cnt_mono fun x hx hp => by rw [← h x hx]; exact hp) (cnt_mono fun x hx hp => by rw [h x hx]; exact hp)
theorem cnt_false : cnt (fun _ => false) = 0 := by decide
theorem cnt_one {c : Nat} (h : c < 6) : cnt (fun x => x == c) = 1 := by
  have : ∀ c : Fin 6, cnt (fun x => x == c.val) = 1 := by decide
  exact this ⟨c, h⟩
theorem cnt_add {p : Nat → Bool} {c : Nat} (h : c < 6) (hp : p c = false) : cnt (fun x => p x || x == c) = cnt p + 1 := by
  have h1 := cnt_mod p (fun x => x == c)
  have h2 : (fun x => p x && x == c) = fun _ => false := by
    funext x
    by_cases e : x = c
    · subst e; simp [hp]
    · simp [e]
  rw [h2, cnt_false, cnt_one h] at h1
  exact h1
def nb (G : Nat → Nat → Bool) (S : Nat → Bool) : Nat → Bool := fun c => (List.range 6).any (fun r => S r && G r c)
theorem nb_iff {G : Nat → Nat → Bool} {S : Nat → Bool} {c : Nat} : nb G S c = true ↔ ∃ r, r < 6 ∧ S r = true ∧ G r c = true := by
  unfold nb
  rw [List.any_eq_true]
  constructor
  · rintro ⟨r, hr, h⟩
    rw [Bool.and_eq_true] at h
    exact ⟨r, List.mem_range.1 hr, h.1, h.2⟩
  · rintro ⟨r, hr, h1, h2⟩
    exact ⟨r, List.mem_range.2 hr, by rw [h1, h2]; rfl⟩
def kap (G : Nat → Nat → Bool) (S : Nat → Bool) : Nat := cnt (fun r => !S r) + cnt (nb G S)
structure Match (G : Nat → Nat → Bool) (f : Nat → Option Nat) : Prop where
  edge : ∀ r c, f r = some c → r < 6 ∧ c < 6 ∧ G r c = true
  inj : ∀ r r' c, f r = some c → f r' = some c → r = r'
def size (f : Nat → Option Nat) : Nat := cnt (fun r => (f r).isSome)
def used (f : Nat → Option Nat) (rs : List Nat) : Nat → Bool := fun c => rs.any (fun r => f r == some c)
theorem used_iff {f : Nat → Option Nat} {rs : List Nat} {c : Nat} : used f rs c = true ↔ ∃ r, r ∈ rs ∧ f r = some c := by
  unfold used
  rw [List.any_eq_true]
  simp
theorem used_cnt {G : Nat → Nat → Bool} {f : Nat → Option Nat} (h : Match G f) : ∀ rs : List Nat, rs.Nodup → cnt (used f rs) = rs.countP (fun r => (f r).isSome)
  | [], _ => by
    have : used f [] = fun _ => false := by funext c; rfl
    rw [this, cnt_false]; rfl
  | r :: rs, hn => by
    obtain ⟨hr, hn2⟩ := List.nodup_cons.1 hn
    have ih := used_cnt h rs hn2
    rw [List.countP_cons]
    cases e : f r with
    | none =>
      have : used f (r :: rs) = used f rs := by funext c; simp [used, e]
      rw [this, ih]; simp
    | some c =>
      have h1 : used f (r :: rs) = fun x => used f rs x || x == c := by
        funext x
        have : (f r == some x) = (x == c) := by
          rw [e, Bool.eq_iff_iff, beq_iff_eq, beq_iff_eq]
          exact ⟨fun h => (Option.some.inj h).symm, fun h => by rw [h]⟩
        simp only [used, List.any_cons, this]
        exact Bool.or_comm _ _
      have h2 : used f rs c = false := by
        cases h3 : used f rs c with
        | false => rfl
        | true =>
          obtain ⟨r', hr', e'⟩ := used_iff.1 h3
          exact absurd (h.inj r r' c e e' ▸ hr') hr
      rw [h1, cnt_add (h.edge r c e).2.1 h2, ih]; simp
theorem countP_split (p q : Nat → Bool) : ∀ l : List Nat, l.countP p ≤ l.countP (fun x => !q x) + l.countP (fun x => p x && q x)
  | [] => Nat.le_refl _
  | a :: l => by
    have ih := countP_split p q l
    simp only [List.countP_cons]
    cases p a <;> cases q a <;> simp <;> omega
theorem weak {G : Nat → Nat → Bool} {f : Nat → Option Nat} (h : Match G f) (S : Nat → Bool) : size f ≤ kap G S := by
  have h1 := countP_split (fun r => (f r).isSome) S (List.range 6)
  have h2 : (List.range 6).countP (fun x => (f x).isSome && S x) = cnt (used f ((List.range 6).filter S)) := by
    rw [used_cnt h _ (List.nodup_range.filter _), List.countP_filter]
  have h3 : cnt (used f ((List.range 6).filter S)) ≤ cnt (nb G S) := by
    refine cnt_mono fun c _ hc => ?_
    obtain ⟨r, hr, e⟩ := used_iff.1 hc
    obtain ⟨hr1, hr2⟩ := List.mem_filter.1 hr
    exact nb_iff.2 ⟨r, List.mem_range.1 hr1, hr2, (h.edge r c e).2.2⟩
  unfold size kap cnt at *
  omega
theorem exists_min {α : Type} (a0 : α) (g : α → Nat) : ∃ a, ∀ b, g a ≤ g b := by
  have : ∀ n a, g a = n → ∃ a, ∀ b, g a ≤ g b := by
    intro n
    induction n using Nat.strongRecOn with
    | _ n ih =>
      intro a ha
      by_cases h : ∀ b, g a ≤ g b
      · exact ⟨a, h⟩
      · obtain ⟨b, hb⟩ := Classical.not_forall.1 h
        exact ih (g b) (by omega) b rfl
  exact this _ a0 rfl
def edges (G : Nat → Nat → Bool) : Nat := cnt (G 0) + cnt (G 1) + cnt (G 2) + cnt (G 3) + cnt (G 4) + cnt (G 5)
def del (G : Nat → Nat → Bool) (r c : Nat) : Nat → Nat → Bool := fun r' c' => G r' c' && !(r' == r && c' == c)
theorem del_row {G : Nat → Nat → Bool} {r c : Nat} (hc : c < 6) (h : G r c = true) : cnt (del G r c r) + 1 = cnt (G r) := by
  have h1 : del G r c r c = false := by simp [del]
  rw [← cnt_add hc h1]
  refine cnt_congr fun x _ => ?_
  by_cases e : x = c
  · subst e; simp [h]
  · have e2 : (x == c) = false := beq_eq_false_iff_ne.2 e
    simp [del, e2]
theorem del_far {G : Nat → Nat → Bool} {r c r' : Nat} (h : r' ≠ r) : del G r c r' = G r' := by funext x; simp [del, h]
theorem del_edges {G : Nat → Nat → Bool} {r c : Nat} (hr : r < 6) (hc : c < 6) (h : G r c = true) : edges (del G r c) < edges G := by
  have h1 := del_row hc h
  unfold edges
  have : r = 0 ∨ r = 1 ∨ r = 2 ∨ r = 3 ∨ r = 4 ∨ r = 5 := by omega
  rcases this with rfl | rfl | rfl | rfl | rfl | rfl <;> simp only [del_far (G := G) (c := c) (show (0 : Nat) ≠ 1 by decide), del_far (G := G) (c := c) (show (0 : Nat) ≠ 2 by decide), del_far (G := G) (c := c) (show (0 : Nat) ≠ 3 by decide), del_far (G := G) (c := c) (show (0 : Nat) ≠ 4 by decide), del_far (G := G) (c := c) (show (0 : Nat) ≠ 5 by decide), del_far (G := G) (c := c) (show (1 : Nat) ≠ 0 by decide), del_far (G := G) (c := c) (show (1 : Nat) ≠ 2 by decide), del_far (G := G) (c := c) (show (1 : Nat) ≠ 3 by decide), del_far (G := G) (c := c) (show (1 : Nat) ≠ 4 by decide), del_far (G := G) (c := c) (show (1 : Nat) ≠ 5 by decide), del_far (G := G) (c := c) (show (2 : Nat) ≠ 0 by decide), del_far (G := G) (c := c) (show (2 : Nat) ≠ 1 by decide), del_far (G := G) (c := c) (show (2 : Nat) ≠ 3 by decide), del_far (G := G) (c := c) (show (2 : Nat) ≠ 4 by decide), del_far (G := G) (c := c) (show (2 : Nat) ≠ 5 by decide), del_far (G := G) (c := c) (show (3 : Nat) ≠ 0 by decide), del_far (G := G) (c := c) (show (3 : Nat) ≠ 1 by decide), del_far (G := G) (c := c) (show (3 : Nat) ≠ 2 by decide), del_far (G := G) (c := c) (show (3 : Nat) ≠ 4 by decide), del_far (G := G) (c := c) (show (3 : Nat) ≠ 5 by decide), del_far (G := G) (c := c) (show (4 : Nat) ≠ 0 by decide), del_far (G := G) (c := c) (show (4 : Nat) ≠ 1 by decide), del_far (G := G) (c := c) (show (4 : Nat) ≠ 2 by decide), del_far (G := G) (c := c) (show (4 : Nat) ≠ 3 by decide), del_far (G := G) (c := c) (show (4 : Nat) ≠ 5 by decide), del_far (G := G) (c := c) (show (5 : Nat) ≠ 0 by decide), del_far (G := G) (c := c) (show (5 : Nat) ≠ 1 by decide), del_far (G := G) (c := c) (show (5 : Nat) ≠ 2 by decide), del_far (G := G) (c := c) (show (5 : Nat) ≠ 3 by decide), del_far (G := G) (c := c) (show (5 : Nat) ≠ 4 by decide)] <;> omega
theorem nb_del_ne {G : Nat → Nat → Bool} {r c x : Nat} (S : Nat → Bool) (h : x ≠ c) : nb (del G r c) S x = nb G S x := by
  have : ∀ r', del G r c r' x = G r' x := fun r' => by simp [del, h]
  unfold nb
  simp only [this]
theorem del_tight {G : Nat → Nat → Bool} {r c : Nat} {S : Nat → Bool} (hc : c < 6) (h : kap (del G r c) S < kap G S) :
    S r = true ∧ (∀ r', r' < 6 → r' ≠ r → S r' = true → G r' c = false) ∧ kap G S ≤ kap (del G r c) S + 1 := by
  have h0 : nb (del G r c) S c = false := by
    cases e : nb (del G r c) S c with
    | false => rfl
    | true =>
      have e2 : nb G S c = true := by
        obtain ⟨r', h1, h2, h3⟩ := nb_iff.1 e
        refine nb_iff.2 ⟨r', h1, h2, ?_⟩
        simp [del] at h3
        exact h3.1
      have : nb (del G r c) S = nb G S := by
        funext x
        by_cases hx : x = c
        · subst hx; rw [e, e2]
        · exact nb_del_ne S hx
      unfold kap at h
      rw [this] at h
      omega
  have h1 : nb G S c = true := by
    cases e : nb G S c with
    | true => rfl
    | false =>
      have : nb (del G r c) S = nb G S := by
        funext x
        by_cases hx : x = c
        · subst hx; rw [h0, e]
        · exact nb_del_ne S hx
      unfold kap at h
      rw [this] at h
      omega
  have h2 : ∀ r', r' < 6 → r' ≠ r → S r' = true → G r' c = false := by
    intro r' hr' hne hS
    cases e : G r' c with
    | false => rfl
    | true =>
      have : nb (del G r c) S c = true := nb_iff.2 ⟨r', hr', hS, by simp [del, e, hne]⟩
      rw [h0] at this; cases this
  refine ⟨?_, h2, ?_⟩
  · obtain ⟨r', hr', hS, hG⟩ := nb_iff.1 h1
    by_cases e : r' = r
    · subst e; exact hS
    · rw [h2 r' hr' e hS] at hG; cases hG
  · have : cnt (nb G S) = cnt (nb (del G r c) S) + 1 := by
      rw [← cnt_add hc h0]
      refine cnt_congr fun x _ => ?_
      by_cases e : x = c
      · subst e; simp [h1]
      · simp [nb_del_ne S e, e]
    unfold kap
    omega
theorem nb_or (G : Nat → Nat → Bool) (S T : Nat → Bool) : nb G (fun x => S x || T x) = fun c => nb G S c || nb G T c := by
  funext c
  rw [Bool.eq_iff_iff, Bool.or_eq_true, nb_iff, nb_iff, nb_iff]
  constructor
  · rintro ⟨r, hr, h1, h2⟩
    rcases Bool.or_eq_true _ _ ▸ h1 with h1 | h1
    · exact .inl ⟨r, hr, h1, h2⟩
    · exact .inr ⟨r, hr, h1, h2⟩
  · rintro (⟨r, hr, h1, h2⟩ | ⟨r, hr, h1, h2⟩)
    · exact ⟨r, hr, by rw [h1]; rfl, h2⟩
    · exact ⟨r, hr, by rw [h1]; exact Bool.or_true _, h2⟩
theorem least_row {p : Nat → Bool} : ∀ r, p r = true → ∃ q, q ≤ r ∧ p q = true ∧ ∀ q', q' < q → p q' = false := by
  intro r
  induction r using Nat.strongRecOn with
  | _ r ih =>
    intro h
    by_cases e : ∃ q, q < r ∧ p q = true
    · obtain ⟨q, hq, hp⟩ := e
      obtain ⟨q2, h1, h2, h3⟩ := ih q hq hp
      exact ⟨q2, by omega, h2, h3⟩
    · refine ⟨r, Nat.le_refl _, h, fun q' hq' => ?_⟩
      cases hp : p q' with
      | false => rfl
      | true => exact absurd ⟨q', hq', hp⟩ e
theorem one_each {G : Nat → Nat → Bool} {S0 : Nat → Bool} (hmin : ∀ S, kap G S0 ≤ kap G S) (hB : ∀ r c, r < 6 → c < 6 → G r c = true → ∃ S, kap (del G r c) S < kap G S0)
    {r c1 c2 : Nat} (hr : r < 6) (h1 : c1 < 6) (h2 : c2 < 6) (g1 : G r c1 = true) (g2 : G r c2 = true) : c1 = c2 := by
  by_cases hne : c1 = c2
  · exact hne
  exfalso
  obtain ⟨S1, k1⟩ := hB r c1 hr h1 g1
  obtain ⟨S2, k2⟩ := hB r c2 hr h2 g2
  obtain ⟨s1, o1, t1⟩ := del_tight h1 (Nat.lt_of_lt_of_le k1 (hmin S1))
  obtain ⟨s2, o2, t2⟩ := del_tight h2 (Nat.lt_of_lt_of_le k2 (hmin S2))
  have mA : kap G S0 ≤ cnt (fun x => !((S1 x && S2 x) && !(x == r))) + cnt (nb G (fun x => (S1 x && S2 x) && !(x == r))) := hmin _
  have mB : kap G S0 ≤ cnt (fun x => !(S1 x || S2 x)) + cnt (nb G (fun x => S1 x || S2 x)) := hmin _
  have m1 : kap G S1 = cnt (fun x => !S1 x) + cnt (nb G S1) := rfl
  have m2 : kap G S2 = cnt (fun x => !S2 x) + cnt (nb G S2) := rfl
  have a1 : nb G (fun x => (S1 x && S2 x) && !(x == r)) c1 = false := by
    cases e : nb G (fun x => (S1 x && S2 x) && !(x == r)) c1 with
    | false => rfl
    | true =>
      obtain ⟨q, hq, hs, hg⟩ := nb_iff.1 e
      simp at hs
      rw [o1 q hq hs.2 hs.1.1] at hg; cases hg
  have a2 : nb G (fun x => (S1 x && S2 x) && !(x == r)) c2 = false := by
    cases e : nb G (fun x => (S1 x && S2 x) && !(x == r)) c2 with
    | false => rfl
    | true =>
      obtain ⟨q, hq, hs, hg⟩ := nb_iff.1 e
      simp at hs
      rw [o2 q hq hs.2 hs.1.2] at hg; cases hg
  have b1 : cnt (nb G (fun x => (S1 x && S2 x) && !(x == r))) + 2 ≤ cnt (fun c => nb G S1 c && nb G S2 c) := by
    have e1 := cnt_add h1 a1
    have e2 := cnt_add (p := fun x => nb G (fun x => (S1 x && S2 x) && !(x == r)) x || x == c1) h2 (by
      simp only [a2, Bool.false_or]
      simp
      exact fun h => hne h.symm)
    have e3 : cnt (fun x => (nb G (fun x => (S1 x && S2 x) && !(x == r)) x || x == c1) || x == c2) ≤ cnt (fun c => nb G S1 c && nb G S2 c) := by
      refine cnt_mono fun x _ hx => ?_
      have both : ∀ c, G r c = true → (nb G S1 c && nb G S2 c) = true := fun c hc => by
        rw [nb_iff.2 ⟨r, hr, s1, hc⟩, nb_iff.2 ⟨r, hr, s2, hc⟩]; rfl
      rw [Bool.or_eq_true, Bool.or_eq_true] at hx
      rcases hx with (hx | hx) | hx
      · obtain ⟨q, hq, hs, hg⟩ := nb_iff.1 hx
        simp at hs
        show (nb G S1 x && nb G S2 x) = true
        rw [nb_iff.2 ⟨q, hq, hs.1.1, hg⟩, nb_iff.2 ⟨q, hq, hs.1.2, hg⟩]; rfl
      · rw [eq_of_beq hx]; exact both c1 g1
      · rw [eq_of_beq hx]; exact both c2 g2
    omega
  have b2 : cnt (fun x => !((S1 x && S2 x) && !(x == r))) = cnt (fun x => !(S1 x && S2 x)) + 1 := by
    rw [← cnt_add (p := fun x => !(S1 x && S2 x)) hr (by simp [s1, s2])]
    refine cnt_congr fun x _ => ?_
    cases S1 x <;> cases S2 x <;> simp
  have b3 := cnt_mod (fun x => !S1 x) (fun x => !S2 x)
  have b4 : (fun x => !S1 x || !S2 x) = fun x => !(S1 x && S2 x) := by funext x; cases S1 x <;> cases S2 x <;> rfl
  have b5 : (fun x => !S1 x && !S2 x) = fun x => !(S1 x || S2 x) := by funext x; cases S1 x <;> cases S2 x <;> rfl
  rw [b4, b5] at b3
  have b6 := cnt_mod (nb G S1) (nb G S2)
  have b7 := nb_or G S1 S2
  rw [b7] at mB
  rw [b2] at mA
  omega
theorem koenig : ∀ (n : Nat) (G : Nat → Nat → Bool), edges G = n → ∃ f S, Match G f ∧ size f = kap G S := by
  intro n
  induction n using Nat.strongRecOn with
  | _ n ih =>
    intro G hn
    obtain ⟨S0, hmin⟩ := exists_min (fun _ => true) (kap G)
    by_cases hA : ∃ r c, r < 6 ∧ c < 6 ∧ G r c = true ∧ ∀ S, kap G S0 ≤ kap (del G r c) S
    · obtain ⟨r, c, hr, hc, hg, hk⟩ := hA
      obtain ⟨f, S, hf, hs⟩ := ih _ (by rw [← hn]; exact del_edges hr hc hg) (del G r c) rfl
      have hf2 : Match G f := ⟨fun r' c' e => by
        obtain ⟨h1, h2, h3⟩ := hf.edge r' c' e
        simp [del] at h3
        exact ⟨h1, h2, h3.1⟩, hf.inj⟩
      refine ⟨f, S0, hf2, Nat.le_antisymm (weak hf2 S0) ?_⟩
      rw [hs]; exact hk S
    · have hB : ∀ r c, r < 6 → c < 6 → G r c = true → ∃ S, kap (del G r c) S < kap G S0 := by
        intro r c hr hc hg
        by_cases h : ∀ S, kap G S0 ≤ kap (del G r c) S
        · exact absurd ⟨r, c, hr, hc, hg, h⟩ hA
        · obtain ⟨S, hS⟩ := Classical.not_forall.1 h
          exact ⟨S, by omega⟩
      have hone := fun {r c1 c2 : Nat} => one_each (r := r) (c1 := c1) (c2 := c2) hmin hB
      let f : Nat → Option Nat := fun r => (List.range 6).find? (fun c => (decide (r < 6) && G r c) && !(List.range r).any (fun r' => G r' c))
      have hf1 : ∀ r c, f r = some c → r < 6 ∧ c < 6 ∧ G r c = true ∧ ∀ r', r' < r → G r' c = false := by
        intro r c e
        have h1 := List.find?_some e
        have h2 := List.mem_range.1 (List.mem_of_find?_eq_some e)
        simp at h1
        exact ⟨h1.1.1, h2, h1.1.2, fun r' hr' => by simpa using h1.2 r' hr'⟩
      have hf : Match G f := ⟨fun r c e => by obtain ⟨h1, h2, h3, _⟩ := hf1 r c e; exact ⟨h1, h2, h3⟩, fun r r' c e e' => by
        obtain ⟨_, _, h3, h4⟩ := hf1 r c e
        obtain ⟨_, _, h3', h4'⟩ := hf1 r' c e'
        rcases Nat.lt_trichotomy r r' with h | h | h
        · rw [h4' r h] at h3; cases h3
        · exact h
        · rw [h4 r' h] at h3'; cases h3'⟩
      refine ⟨f, fun _ => true, hf, ?_⟩
      have h1 : size f = cnt (used f (List.range 6)) := (used_cnt hf _ List.nodup_range).symm
      have h2 : cnt (used f (List.range 6)) = cnt (nb G (fun _ => true)) := by
        refine Nat.le_antisymm (cnt_mono fun c _ hc => ?_) (cnt_mono fun c hc6 hc => ?_)
        · obtain ⟨r, hr, e⟩ := used_iff.1 hc
          exact nb_iff.2 ⟨r, List.mem_range.1 hr, rfl, (hf.edge r c e).2.2⟩
        · obtain ⟨r, hr, _, hg⟩ := nb_iff.1 hc
          obtain ⟨q, hq, hq2, hq3⟩ := least_row (p := fun r => G r c) r hg
          refine used_iff.2 ⟨q, List.mem_range.2 (by omega), ?_⟩
          cases e : f q with
          | none =>
            have h3 := List.find?_eq_none.1 e c (List.mem_range.2 hc6)
            simp [show q < 6 by omega, show G q c = true from hq2] at h3
            obtain ⟨q', hq', hq4⟩ := h3
            rw [show G q' c = false from hq3 q' hq'] at hq4; cases hq4
          | some c' =>
            obtain ⟨h3, h4, h5, _⟩ := hf1 q c' e
            rw [hone h3 h4 hc6 h5 hq2]
      have h3 : kap G (fun _ => true) = cnt (nb G (fun _ => true)) := by
        unfold kap
        have : (fun (r : Nat) => !true) = fun _ => false := rfl
        rw [this, cnt_false, Nat.zero_add]
      rw [h1, h2, h3]
end Go.Proofs.Ytgnmcfoenmfhcaa.Koenig
end
section
namespace Go.Proofs.Ytgnmcfoenmfhcaa.MostK
set_option linter.unusedVariables false
open Go.RowKit Go.Proofs.Ytgnmcfoenmfhcaa.Q Go.Proofs.YtgnmcfoenmfhcaaW.PrintWords Go.Proofs.YtgnmcfoenmfhcaaW.PrintLast Go.Proofs.YtgnmcfoenmfhcaaW.PrintMore
open Go.Proofs.YtgnmcfoenmfhcaaL Go.Proofs.Ytgnmcfoenmfhcaa.LawK Go.Proofs.Ytgnmcfoenmfhcaa.BoardK Go.Proofs.Ytgnmcfoenmfhcaa.LinesK Go.Proofs.Ytgnmcfoenmfhcaa.Koenig
def mostN (l : List Int) (C : Nat) : Nat → Nat → Nat → Nat
  | 0, _, _ => 0
  | d + 1, r, used => (List.range' 0 C).foldl (fun a c => if (cell l r c && !used.testBit c) = true then (if a > 1 + mostN l C d (r + 1) (used ||| 2 ^ c) then a else 1 + mostN l C d (r + 1) (used ||| 2 ^ c)) else a) (mostN l C d (r + 1) used)
theorem foldl_inv {α β : Type} (P : β → Prop) (s : β → α → β) : ∀ (l : List α) (a : β), P a → (∀ a c, c ∈ l → P a → P (s a c)) → P (l.foldl s a)
  | [], a, h, _ => h
  | c :: t, a, h, hs => foldl_inv P s t (s a c) (hs a c (by simp) h) (fun a c hc => hs a c (by simp [hc]))
theorem mostN_le (l : List Int) (C : Nat) : ∀ d r used, mostN l C d r used ≤ d
  | 0, r, used => Nat.le_refl _
  | d + 1, r, used => by
    rw [mostN]
    refine foldl_inv (fun a => a ≤ d + 1) _ _ _ (Nat.le_succ_of_le (mostN_le l C d (r + 1) used)) ?_
    intro a c _ h
    have := mostN_le l C d (r + 1) (used ||| 2 ^ c)
    try simp only []
    split
    · split <;> omega
    · exact h
theorem foldl_base (p : Nat → Bool) (g : Nat → Nat) : ∀ (l : List Nat) (a : Nat), a ≤ l.foldl (fun a c => if p c = true then (if a > g c then a else g c) else a) a
  | [], a => Nat.le_refl _
  | c :: t, a => by
    rw [List.foldl_cons]
    refine Nat.le_trans ?_ (foldl_base p g t _)
    split
    · split <;> omega
    · exact Nat.le_refl _
theorem foldl_elem (p : Nat → Bool) (g : Nat → Nat) : ∀ (l : List Nat) (a : Nat) (c : Nat), c ∈ l → p c = true → g c ≤ l.foldl (fun a c => if p c = true then (if a > g c then a else g c) else a) a
  | [], a, c, h, _ => by cases h
  | x :: t, a, c, h, hp => by
    rw [List.foldl_cons]
    rcases List.mem_cons.1 h with rfl | h
    · refine Nat.le_trans ?_ (foldl_base p g t _)
      rw [if_pos hp]
      split <;> omega
    · exact foldl_elem p g t _ c h hp
structure From (G : Nat → Nat → Bool) (r used : Nat) (f : Nat → Option Nat) : Prop where
  m : Match G f
  far : ∀ q c, f q = some c → r ≤ q ∧ used.testBit c = false
theorem size_put {f : Nat → Option Nat} {r c : Nat} (hr : r < 6) (h : f r = none) : size (fun q => if q = r then some c else f q) = size f + 1 := by
  unfold size
  rw [← cnt_add (p := fun q => (f q).isSome) hr (by rw [h]; rfl)]
  refine cnt_congr fun x _ => ?_
  by_cases e : x = r
  · subst e; simp
  · simp [e]
theorem size_none : size (fun _ => none) = 0 := cnt_false
theorem size_congr {f g : Nat → Option Nat} (h : ∀ x, x < 6 → f x = g x) : size f = size g := cnt_congr fun x hx => by rw [h x hx]
theorem reach {l : List Int} {R C : Nat} (hR : R ≤ 6) (hC : C ≤ 6) : ∀ d r used, r + d = R → ∃ f, From (cell l) r used f ∧ size f = mostN l C d r used
  | 0, r, used, _ => ⟨fun _ => none, ⟨⟨fun r c h => (by cases h), fun r r' c h => (by cases h)⟩, fun q c h => (by cases h)⟩, size_none⟩
  | d + 1, r, used, hd => by
    rw [mostN]
    refine foldl_inv (fun a => ∃ f, From (cell l) r used f ∧ size f = a) _ _ _ ?_ ?_
    · obtain ⟨f, hf, hs⟩ := reach (l := l) hR hC d (r + 1) used (by omega)
      exact ⟨f, ⟨hf.m, fun q c h => by have := hf.far q c h; exact ⟨by omega, this.2⟩⟩, hs⟩
    · intro a c hc h
      try simp only []
      split
      · rename_i hg
        rw [Bool.and_eq_true] at hg
        split
        · exact h
        · obtain ⟨f, hf, hs⟩ := reach (l := l) hR hC d (r + 1) (used ||| 2 ^ c) (by omega)
          have hfr : f r = none := by
            cases e : f r with
            | none => rfl
            | some x => have := hf.far r x e; omega
          have hcC : c < C := by have := (List.mem_range'_1.1 hc).2; omega
          have hne : ∀ q x, f q = some x → x ≠ c := fun q x e h2 => by
            have := (hf.far q x e).2
            rw [h2, Nat.testBit_or, Nat.testBit_two_pow] at this
            simp at this
          refine ⟨fun q => if q = r then some c else f q, ⟨⟨fun q x e => ?_, fun q q' x e e' => ?_⟩, fun q x e => ?_⟩, by rw [size_put (by omega) hfr, hs]; omega⟩
          · try simp only [] at e
            split at e
            · rename_i hq; injection e with e; subst hq e; exact ⟨by omega, by omega, hg.1⟩
            · exact hf.m.edge q x e
          · try simp only [] at e e'
            split at e
            · rename_i hq
              injection e with e
              split at e'
              · rename_i hq'; omega
              · exact absurd e.symm (hne q' x e')
            · split at e'
              · injection e' with e'; exact absurd e'.symm (hne q x e)
              · exact hf.m.inj q q' x e e'
          · try simp only [] at e
            split at e
            · rename_i hq
              injection e with e
              subst hq e
              exact ⟨Nat.le_refl _, by simpa using hg.2⟩
            · have := hf.far q x e
              refine ⟨by omega, ?_⟩
              have h2 := this.2
              rw [Nat.testBit_or] at h2
              simp at h2
              exact h2.1
      · exact h
theorem bound {l : List Int} {R C : Nat} (hlR : l.length = R) (hR : R ≤ 6) (hC : C ≤ 6) (hb : ∀ i (hi : i < l.length), 0 ≤ l[i] ∧ l[i] < 2 ^ C) : ∀ d r used f, r + d = R → From (cell l) r used f → size f ≤ mostN l C d r used
  | 0, r, used, f, hd, hf => by
    have : size f = 0 := by
      rw [← size_none]
      refine size_congr fun x hx => ?_
      cases e : f x with
      | none => rfl
      | some c =>
        have h1 := (hf.far x c e).1
        have h2 := (hf.m.edge x c e).2.2
        unfold cell at h2
        rw [gD_ge _ _ (by omega)] at h2
        simp at h2
    omega
  | d + 1, r, used, f, hd, hf => by
    rw [mostN]
    cases e : f r with
    | none =>
      refine Nat.le_trans (bound hlR hR hC hb d (r + 1) used f (by omega) ⟨hf.m, fun q c h => ?_⟩) (foldl_base _ (fun c => 1 + mostN l C d (r + 1) (used ||| 2 ^ c)) _ _)
      have := hf.far q c h
      refine ⟨?_, this.2⟩
      by_cases hq : q = r
      · subst hq; rw [e] at h; cases h
      · omega
    | some c =>
      have he := hf.m.edge r c e
      have hu := (hf.far r c e).2
      have hcC : c < C := by
        by_cases h : c < C
        · exact h
        · have h2 := he.2.2
          unfold cell at h2
          by_cases hr : r < l.length
          · rw [gD_lt _ _ hr] at h2
            have := hb r hr
            have h3 : l[r].toNat < 2 ^ C := by
              have h4 : ((l[r].toNat : Nat) : Int) < ((2 ^ C : Nat) : Int) := by rw [Int.toNat_of_nonneg this.1]; exact_mod_cast this.2
              exact_mod_cast h4
            rw [Nat.testBit_lt_two_pow (Nat.lt_of_lt_of_le h3 (Nat.pow_le_pow_right (by decide) (by omega)))] at h2
            cases h2
          · rw [gD_ge _ _ (by omega)] at h2; simp at h2
      have hs : size f = size (fun q => if q = r then none else f q) + 1 := by
        rw [← size_put (f := fun q => if q = r then none else f q) (r := r) (c := c) he.1 (by simp)]
        refine size_congr fun x _ => ?_
        by_cases hx : x = r
        · subst hx; simp [e]
        · simp [hx]
      have ih := bound hlR hR hC hb d (r + 1) (used ||| 2 ^ c) (fun q => if q = r then none else f q) (by omega) ⟨⟨fun q x h => ?_, fun q q' x h h' => ?_⟩, fun q x h => ?_⟩
      · have h2 := foldl_elem (fun c => cell l r c && !used.testBit c) (fun c => 1 + mostN l C d (r + 1) (used ||| 2 ^ c)) (List.range' 0 C) (mostN l C d (r + 1) used) c (List.mem_range'_1.2 ⟨by omega, by omega⟩) (by rw [he.2.2, hu]; rfl)
        try simp only [] at h2
        omega
      · try simp only [] at h
        split at h
        · cases h
        · exact hf.m.edge q x h
      · try simp only [] at h h'
        split at h
        · cases h
        · split at h'
          · cases h'
          · exact hf.m.inj q q' x h h'
      · try simp only [] at h
        split at h
        · cases h
        · rename_i hq
          have := hf.far q x h
          refine ⟨by omega, ?_⟩
          rw [Nat.testBit_or, this.2, Nat.testBit_two_pow, Bool.false_or, decide_eq_false_iff_not]
          intro e2
          subst e2
          exact hq (hf.m.inj q r c h e)
theorem most_min {l : List Int} {R C : Nat} (hlR : l.length = R) (hR : R ≤ 6) (hC : C ≤ 6) (hb : ∀ i (hi : i < l.length), 0 ≤ l[i] ∧ l[i] < 2 ^ C) : (∃ S, kap (cell l) S = mostN l C R 0 0) ∧ ∀ S, mostN l C R 0 0 ≤ kap (cell l) S := by
  obtain ⟨f0, S0, hM, hs⟩ := koenig _ (cell l) rfl
  obtain ⟨f, hf, hfs⟩ := reach (l := l) (C := C) hR hC R 0 0 (by omega)
  have h1 := weak hf.m S0
  have h2 := bound hlR hR hC hb R 0 0 f0 (by omega) ⟨hM, fun q c _ => ⟨by omega, Nat.zero_testBit c⟩⟩
  refine ⟨⟨S0, by omega⟩, fun S => ?_⟩
  have h3 := weak hM S
  omega
theorem lcMost_l0 {l : List Int} {R C : Nat} (hlR : l.length = R) (hR : R ≤ 6) (hC : C ≤ 6) (hb : ∀ i (hi : i < l.length), 0 ≤ l[i] ∧ l[i] < 64) (r used d : Nat) (hr : r + (d + 1) = R) (hu : used < 64) (ih : ∀ used : Nat, used < 64 → Ev (fun k => spec_lcMost.f k R C l ((r + 1 : Nat) : Int) used) ((mostN l C d (r + 1) used : Nat) : Int)) :
    ∀ (e c a : Nat), c + e = C → a ≤ 7 → Ev (fun k => spec_lcMost.l0 k r used a c R C l) (((List.range' c e).foldl (fun a c => if (cell l r c && !used.testBit c) = true then (if a > 1 + mostN l C d (r + 1) (used ||| 2 ^ c) then a else 1 + mostN l C d (r + 1) (used ||| 2 ^ c)) else a) a : Nat) : Int)
  | 0, c, a, hc, ha => by
    refine Ev.step (f := fun _ => some (a : Int)) (fun k => ?_) (Ev.now _)
    rw [spec_lcMost.l0, if_neg (by omega)]
  | e + 1, c, a, hc, ha => by
    have w1 := Aside0.mk (show wrap64 ((c : Int) + 1) = ((c + 1 : Nat) : Int) from by rw [w64 (by omega) (by omega)]; rfl)
    have w2 := Aside0.mk (show wrap64 ((r : Int) + 1) = ((r + 1 : Nat) : Int) from by rw [w64 (by omega) (by omega)]; rfl)
    have hrl : r < l.length := by omega
    rw [List.range'_succ, List.foldl_cons]
    have hu2 : used ||| 2 ^ c < 64 := Nat.or_lt_two_pow (n := 6) hu (Nat.pow_lt_pow_right (by decide) (by omega))
    have hm := mostN_le l C d (r + 1) (used ||| 2 ^ c)
    have ihe := lcMost_l0 hlR hR hC hb r used d hr hu ih e (c + 1) (if (cell l r c && !used.testBit c) = true then (if a > 1 + mostN l C d (r + 1) (used ||| 2 ^ c) then a else 1 + mostN l C d (r + 1) (used ||| 2 ^ c)) else a) (by omega) (by split; split <;> omega; exact ha)
    by_cases hcell : cell l r c = true
    · by_cases hbit : used.testBit c = true
      · rw [hcell, hbit] at ihe ⊢
        refine Ev.step (f := fun k => spec_lcMost.j1 k r used a c false R C l) (fun k => ?_) ?_
        · rw [spec_lcMost.l0, if_pos (by omega), boHas_f (R : Int) (C : Int) hrl (hb r hrl).1 (hb r hrl).2 (by omega), Option.bind_some, if_pos hcell, if_pos (by omega), bit_mod _ _ (by omega), if_pos hbit]
          rfl
        · refine Ev.step (fun k => ?_) ihe
          rw [spec_lcMost.j1, if_neg (by simp), w1.out]
          rfl
      · have hbit2 : used.testBit c = false := by simpa using hbit
        rw [hcell, hbit2] at ihe ⊢
        refine Ev.step (f := fun k => spec_lcMost.j1 k r used a c true R C l) (fun k => ?_) ?_
        · rw [spec_lcMost.l0, if_pos (by omega), boHas_f (R : Int) (C : Int) hrl (hb r hrl).1 (hb r hrl).2 (by omega), Option.bind_some, if_pos hcell, if_pos (by omega), bit_mod _ _ (by omega), if_neg hbit]
          rfl
        · refine Ev.step (f := fun k => (spec_lcMost.f k R C l ((r + 1 : Nat) : Int) ((used ||| 2 ^ c : Nat) : Int)).bind fun t104 => (spec_l1Most.f a (wrap64 (1 + t104))).bind fun t105 => spec_lcMost.l0 k r used t105 ((c + 1 : Nat) : Int) R C l) (fun k => ?_) ?_
          · rw [spec_lcMost.j1, if_pos rfl, if_pos (by omega), w1.out, w2.out, shl_one c (by omega), or_nat _ _ (by omega) (by have : 2 ^ c < 2 ^ 6 := Nat.pow_lt_pow_right (by decide) (by omega); omega)]
          · refine Ev.bind (ih _ hu2) ?_
            refine Ev.congr (fun k => ?_) ihe
            rw [w64 (by omega) (by omega), spec_l1Most.f]
            by_cases h : a > 1 + mostN l C d (r + 1) (used ||| 2 ^ c)
            · rw [if_pos (by omega), Option.bind_some]
              simp [h]
            · rw [if_neg (by omega), Option.bind_some]
              simp [h]
    · have hcell2 : cell l r c = false := by simpa using hcell
      rw [hcell2] at ihe ⊢
      refine Ev.step (f := fun k => spec_lcMost.j1 k r used a c false R C l) (fun k => ?_) ?_
      · rw [spec_lcMost.l0, if_pos (by omega), boHas_f (R : Int) (C : Int) hrl (hb r hrl).1 (hb r hrl).2 (by omega), Option.bind_some, if_neg hcell]
      · refine Ev.step (fun k => ?_) ihe
        rw [spec_lcMost.j1, if_neg (by simp), w1.out]
        rfl
theorem lcMost_f {l : List Int} {R C : Nat} (hlR : l.length = R) (hR : R ≤ 6) (hC : C ≤ 6) (hb : ∀ i (hi : i < l.length), 0 ≤ l[i] ∧ l[i] < 64) : ∀ (d r used : Nat), r + d = R → used < 64 → Ev (fun k => spec_lcMost.f k R C l r used) ((mostN l C d r used : Nat) : Int)
  | 0, r, used, hr, hu => by
    refine Ev.step (f := fun _ => some 0) (fun k => ?_) (Ev.now _)
    rw [spec_lcMost.f, if_pos (by omega)]
  | d + 1, r, used, hr, hu => by
    have w2 := Aside0.mk (show wrap64 ((r : Int) + 1) = ((r + 1 : Nat) : Int) from by rw [w64 (by omega) (by omega)]; rfl)
    have ih := fun used hu => lcMost_f hlR hR hC hb d (r + 1) used (by omega) hu
    have hm := mostN_le l C d (r + 1) used
    refine Ev.step (f := fun k => (spec_lcMost.f k R C l ((r + 1 : Nat) : Int) used).bind fun t102 => spec_lcMost.l0 k r used t102 0 R C l) (fun k => ?_) ?_
    · rw [spec_lcMost.f, if_neg (by omega), w2.out]
    · refine Ev.bind (ih used hu) ?_
      exact lcMost_l0 hlR hR hC hb r used d hr hu ih C 0 _ (by omega) (by omega)
theorem lcMost {l : List Int} {R C : Nat} (hlR : l.length = R) (hR : R ≤ 6) (hC : C ≤ 6) (hb : ∀ i (hi : i < l.length), 0 ≤ l[i] ∧ l[i] < 64) : Ev (fun k => spec_lcMost.f k R C l 0 0) ((mostN l C R 0 0 : Nat) : Int) := lcMost_f hlR hR hC hb R 0 0 (by omega) (by decide)
end Go.Proofs.Ytgnmcfoenmfhcaa.MostK
end
section
namespace Go.Proofs.Ytgnmcfoenmfhcaa.RowSetsK
set_option linter.unusedVariables false
open Go.RowKit Go.Proofs Go.Sort Go.Proofs.Ytgnmcfoenmfhcaa.Q Go.Proofs.YtgnmcfoenmfhcaaW.PrintWords Go.Proofs.YtgnmcfoenmfhcaaW.PrintLast Go.Proofs.YtgnmcfoenmfhcaaW.PrintMore
open Go.Proofs.YtgnmcfoenmfhcaaL Go.Proofs.Ytgnmcfoenmfhcaa.LawK Go.Proofs.Ytgnmcfoenmfhcaa.BoardK Go.Proofs.Ytgnmcfoenmfhcaa.LinesK Go.Proofs.Ytgnmcfoenmfhcaa.SortM
def setsM (R : Nat) : List Nat := fullM.filter (fun m => decide (m < 2 ^ R))
theorem setsM_lt : ∀ R : Fin 7, ∀ m ∈ setsM R.val, m < 64 ∧ m < 2 ^ R.val := by decide +kernel
theorem setsM_pair : ∀ R : Fin 7, List.Pairwise (fun x y => rankM x < rankM y) (setsM R.val) := by decide +kernel
theorem iota_all : ∀ R : Fin 7, (iota 0 (2 ^ R.val)).all isMask = true := by decide +kernel
theorem setsM_perm : ∀ R : Fin 7, List.Perm ((iota 0 (2 ^ R.val)).map toF) ((setsM R.val).map fun (m : Nat) => toF (m : Int)) := by decide +kernel
theorem toF_nat {m : Nat} (h : m < 64) : (toF (m : Int)).val = m := by unfold toF; simp only []; omega
theorem sorted_all {R : Nat} (hR : R ≤ 6) : sortedM (iota 0 (2 ^ R)) = (setsM R).map fun (m : Nat) => (m : Int) := by
  have hp := setsM_perm ⟨R, by omega⟩
  have hq := setsM_pair ⟨R, by omega⟩
  have hl := setsM_lt ⟨R, by omega⟩
  simp only [] at hp hq hl
  have e : ((iota 0 (2 ^ R)).map toF).mergeSort (fun x y => !(ltOf cfM) y x) = (setsM R).map fun (m : Nat) => toF (m : Int) := by
    refine List.Perm.eq_of_pairwise (le := fun x y => (!(ltOf cfM) y x) = true) ?_ ?_ ?_ ((List.mergeSort_perm _ _).trans hp)
    · intro a b _ _ h1 h2
      exact totM a b (by simpa using h2) (by simpa using h1)
    · refine List.pairwise_mergeSort ?_ ?_ _
      · intro a b c h1 h2
        rw [ltM] at *
        simp at *
        omega
      · intro a b
        rw [ltM, ltM]
        simp
        omega
    · rw [List.pairwise_map]
      refine List.Pairwise.imp_of_mem ?_ hq
      intro a b ha hb h
      rw [ltM, toF_nat (hl a ha).1, toF_nat (hl b hb).1]
      simp
      omega
  unfold sortedM
  rw [e, List.map_map]
  apply List.map_congr_left
  intro m hm
  show ((toF (m : Int)).val : Int) = m
  rw [toF_nat (hl m hm).1]
theorem rowSets_l0 (X : List Int) (n : Nat) (hn : n ≤ 64) (hX : slices_SortFunc_int_int__at_impl_Board_rowSets_1.f (iota 0 n) = some X) : ∀ (d i : Nat), i + d = n → Ev (fun k => impl_Board_rowSets.l0 k (iota 0 i) (n : Int) i) X
  | 0, i, hi => by
    refine Ev.step (f := fun _ => some X) (fun k => ?_) (Ev.now _)
    rw [impl_Board_rowSets.l0, if_neg (by omega), show i = n by omega, hX]; rfl
  | d + 1, i, hi => by
    have w1 : wrap64 ((i : Int) + 1) = ((i + 1 : Nat) : Int) := by rw [w64 (by omega) (by omega)]; rfl
    have ih := rowSets_l0 X n hn hX d (i + 1) (by omega)
    rw [iota_snoc, Int.zero_add] at ih
    refine Ev.step (fun k => ?_) ih
    rw [impl_Board_rowSets.l0, if_pos (by omega), if_pos (by rw [iota_length]; omega), w1]
theorem rowSets {R : Nat} (hR : R ≤ 6) (c : Int) (l : List Int) : Ev (fun k => impl_Board_rowSets.f k R c l) ((setsM R).map fun (m : Nat) => (m : Int)) := by
  have hp : 2 ^ R ≤ 2 ^ 6 := Nat.pow_le_pow_right (by decide) hR
  have hp1 : 1 ≤ 2 ^ R := Nat.one_le_two_pow
  unfold impl_Board_rowSets.f
  have h := rowSets_l0 (sortedM (iota 0 (2 ^ R))) (2 ^ R) (by omega) (by
    unfold slices_SortFunc_int_int__at_impl_Board_rowSets_1.f
    rw [if_pos ⟨iota_all ⟨R, by omega⟩, by rw [iota_length]; omega, by rw [iota_length]; omega⟩]) (2 ^ R) 0 (by omega)
  rw [sorted_all hR] at h
  refine Ev.congr (fun k => ?_) h
  rw [if_pos (by omega), shl_one R (by omega)]
  rfl
theorem lcSets_all : ∀ R : Fin 7, spec_lcSets.f 40 (R.val : Int) = some ((setsM R.val).map listM) := by decide +kernel
theorem lcSets {R : Nat} (hR : R ≤ 6) : Ev (fun k => spec_lcSets.f k R) ((setsM R).map listM) := Ev.of (fun k => spec_lcSets.mono _ k) (lcSets_all ⟨R, by omega⟩)
theorem count {m : Nat} (hm : m < 64) : impl_count.f (m : Int) = some ((listM m).length : Int) := count_all ⟨m, hm⟩
end Go.Proofs.Ytgnmcfoenmfhcaa.RowSetsK
end
section
namespace Go.Proofs.Ytgnmcfoenmfhcaa.CoversK
set_option linter.unusedVariables false
open Go.RowKit Go.Proofs.Ytgnmcfoenmfhcaa.Q Go.Proofs.YtgnmcfoenmfhcaaW.PrintWords Go.Proofs.YtgnmcfoenmfhcaaW.PrintLast Go.Proofs.YtgnmcfoenmfhcaaW.PrintMore
open Go.Proofs.YtgnmcfoenmfhcaaL Go.Proofs.Ytgnmcfoenmfhcaa.LawK Go.Proofs.Ytgnmcfoenmfhcaa.BoardK Go.Proofs.Ytgnmcfoenmfhcaa.LinesK Go.Proofs.Ytgnmcfoenmfhcaa.SortM Go.Proofs.Ytgnmcfoenmfhcaa.RowSetsK Go.Proofs.Ytgnmcfoenmfhcaa.Koenig Go.Proofs.Ytgnmcfoenmfhcaa.MostK
set_option maxRecDepth 20000 in
theorem andNot_all : ∀ a b : Fin 64, Go.bits .andNot .i64 (a.val : Int) (b.val : Int) = ((a.val &&& (63 ^^^ b.val) : Nat) : Int) := by decide +kernel
theorem andNot {a b : Nat} (ha : a < 64) (hb : b < 64) : Go.bits .andNot .i64 (a : Int) (b : Int) = ((a &&& (63 ^^^ b) : Nat) : Int) := andNot_all ⟨a, ha⟩ ⟨b, hb⟩
def comp (R m : Nat) : Nat := (2 ^ R - 1) &&& (63 ^^^ m)
theorem comp_lt {R m : Nat} : comp R m < 2 ^ R := by
  unfold comp
  have := Nat.two_pow_pos R
  exact Nat.lt_of_le_of_lt Nat.and_le_left (by omega)
set_option maxRecDepth 20000 in
theorem comp_all : ∀ R : Fin 7, ∀ m : Fin 64, ∀ i : Fin 6, (comp R.val m.val).testBit i.val = (decide (i.val < R.val) && !m.val.testBit i.val) := by decide +kernel
theorem comp_bit {R m : Nat} (hR : R ≤ 6) (hm : m < 64) {i : Nat} (hi : i < 6) : (comp R m).testBit i = (decide (i < R) && !m.testBit i) := comp_all ⟨R, by omega⟩ ⟨m, hm⟩ ⟨i, hi⟩
theorem bit_lt {m R i : Nat} (h : m < 2 ^ R) (hi : m.testBit i = true) : i < R := by
  by_cases hlt : i < R
  · exact hlt
  · rw [Nat.testBit_lt_two_pow (Nat.lt_of_lt_of_le h (Nat.pow_le_pow_right (by decide) (by omega)))] at hi; cases hi
def colM (l : List Int) (R m : Nat) : Nat := orM l (listM (comp R m))
def nM (l : List Int) (R m : Nat) : Nat := (listM m).length + (listM (colM l R m)).length
def cov (l : List Int) (R m : Nat) : S49 := ⟨listM m, listM (colM l R m)⟩
def stepC (l : List Int) (R : Nat) (st : Nat × List S49) (m : Nat) : Nat × List S49 :=
  if nM l R m < st.1 then (nM l R m, [cov l R m]) else if nM l R m = st.1 then (st.1, st.2 ++ [cov l R m]) else st
theorem fold_covers (l : List Int) (R v : Nat) : ∀ (S : List Nat) (a : Nat) (out : List S49), v ≤ a → (∀ m ∈ S, v ≤ nM l R m) → (v = a ∨ ∃ m ∈ S, nM l R m = v) →
    (S.foldl (stepC l R) (a, out)).2 = (if v = a then out else []) ++ (S.filter (fun m => decide (nM l R m = v))).map (cov l R)
  | [], a, out, h1, h2, h3 => by
    have : v = a := by
      rcases h3 with h | ⟨m, hm, _⟩
      · exact h
      · cases hm
    rw [if_pos this]; simp
  | m :: t, a, out, h1, h2, h3 => by
    have hm := h2 m (by simp)
    have ht : ∀ x ∈ t, v ≤ nM l R x := fun x hx => h2 x (by simp [hx])
    rw [List.foldl_cons, List.filter_cons]
    by_cases c1 : nM l R m < a
    · have e : stepC l R (a, out) m = (nM l R m, [cov l R m]) := by unfold stepC; rw [if_pos c1]
      rw [e, fold_covers l R v t (nM l R m) [cov l R m] hm ht ?_, if_neg (show ¬ v = a by omega)]
      · by_cases c2 : v = nM l R m
        · rw [if_pos c2, if_pos (decide_eq_true c2.symm)]; simp
        · rw [if_neg c2, if_neg (by simp; omega)]
      · rcases h3 with h | ⟨x, hx, he⟩
        · omega
        · rcases List.mem_cons.1 hx with rfl | hx
          · exact .inl he.symm
          · exact .inr ⟨x, hx, he⟩
    · by_cases c2 : nM l R m = a
      · have e : stepC l R (a, out) m = (a, out ++ [cov l R m]) := by unfold stepC; rw [if_neg c1, if_pos c2]
        rw [e, fold_covers l R v t a _ h1 ht ?_]
        · by_cases c3 : v = a
          · rw [if_pos c3, if_pos c3, if_pos (decide_eq_true (by omega))]; simp
          · rw [if_neg c3, if_neg c3, if_neg (by simp; omega)]
        · rcases h3 with h | ⟨x, hx, he⟩
          · exact .inl h
          · rcases List.mem_cons.1 hx with rfl | hx
            · exact .inl (by omega)
            · exact .inr ⟨x, hx, he⟩
      · have e : stepC l R (a, out) m = (a, out) := by unfold stepC; rw [if_neg c1, if_neg c2]
        have hne : ¬ decide (nM l R m = v) = true := by
          rw [decide_eq_true_eq]; omega
        have h4 : v = a ∨ ∃ m ∈ t, nM l R m = v := by
          rcases h3 with h | ⟨x, hx, he⟩
          · exact .inl h
          · rcases List.mem_cons.1 hx with rfl | hx
            · omega
            · exact .inr ⟨x, hx, he⟩
        rw [e, fold_covers l R v t a out h1 ht h4, if_neg hne]
set_option maxRecDepth 20000 in
theorem cnt_all : ∀ m : Fin 64, (listM m.val).length = cnt (fun i => m.val.testBit i) := by decide +kernel
theorem cell_far {l : List Int} {r c : Nat} (h : l.length ≤ r) : cell l r c = false := by
  unfold cell
  rw [gD_ge _ _ h]
  simp
theorem colM_lt {l : List Int} {R C m : Nat} (hC : C ≤ 6) (hb : ∀ i (hi : i < l.length), 0 ≤ l[i] ∧ l[i] < 2 ^ C) : colM l R m < 64 := by
  have h2 : colM l R m < 2 ^ C := orFrom_lt hb _ 0 (Nat.two_pow_pos C)
  have hp : 2 ^ C ≤ 2 ^ 6 := Nat.pow_le_pow_right (by decide) hC
  omega
theorem nM_kap {l : List Int} {R C m : Nat} (hlR : l.length = R) (hR : R ≤ 6) (hC : C ≤ 6) (hb : ∀ i (hi : i < l.length), 0 ≤ l[i] ∧ l[i] < 2 ^ C) (hm : m < 64) : nM l R m = kap (cell l) (fun r => !m.testBit r) := by
  unfold nM kap
  rw [cnt_all ⟨m, hm⟩, cnt_all ⟨colM l R m, colM_lt hC hb⟩]
  congr 1
  · refine cnt_congr fun x _ => ?_
    simp
  · refine cnt_congr fun c hc => ?_
    show (orM l (listM (comp R m))).testBit c = _
    rw [orM_bit, Bool.eq_iff_iff, List.any_eq_true, nb_iff]
    constructor
    · rintro ⟨x, hx, h⟩
      obtain ⟨h1, h2, h3⟩ := mem_listM.1 hx
      rw [comp_bit hR hm (by omega), Bool.and_eq_true] at h3
      exact ⟨x.toNat, by omega, h3.2, h⟩
    · rintro ⟨r, h1, h2, h3⟩
      have hr : r < R := by
        by_cases hr : r < R
        · exact hr
        · rw [cell_far (by omega)] at h3; cases h3
      refine ⟨(r : Int), mem_listM.2 ⟨by omega, by omega, ?_⟩, by rw [Int.toNat_natCast]; exact h3⟩
      rw [Int.toNat_natCast, comp_bit hR hm h1, h2, decide_eq_true hr]
      rfl
theorem mask_of (p : Nat → Bool) : ∀ n, ∃ m, m < 2 ^ n ∧ ∀ r, m.testBit r = (decide (r < n) && p r)
  | 0 => ⟨0, by decide, fun r => by simp⟩
  | n + 1 => by
    obtain ⟨m, h1, h2⟩ := mask_of p n
    by_cases hp : p n = true
    · refine ⟨m ||| 2 ^ n, Nat.or_lt_two_pow (Nat.lt_of_lt_of_le h1 (Nat.pow_le_pow_right (by decide) (by omega))) (Nat.pow_lt_pow_right (by decide) (by omega)), fun r => ?_⟩
      rw [Nat.testBit_or, h2, Nat.testBit_two_pow]
      by_cases e : r = n
      · subst e; simp [hp]
      · by_cases h : r < n
        · simp [h, show r < n + 1 by omega, show ¬ n = r by omega]
        · simp [h, show ¬ r < n + 1 by omega, show ¬ n = r by omega]
    · refine ⟨m, Nat.lt_of_lt_of_le h1 (Nat.pow_le_pow_right (by decide) (by omega)), fun r => ?_⟩
      rw [h2]
      by_cases e : r = n
      · subst e; simp at hp; simp [hp]
      · by_cases h : r < n
        · simp [h, show r < n + 1 by omega]
        · simp [h, show ¬ r < n + 1 by omega]
set_option maxRecDepth 20000 in
theorem setsM_all : ∀ R : Fin 7, ∀ m : Fin 64, m.val < 2 ^ R.val → m.val ∈ setsM R.val := by decide +kernel
theorem nM_min {l : List Int} {R C : Nat} (hlR : l.length = R) (hR : R ≤ 6) (hC : C ≤ 6) (hb : ∀ i (hi : i < l.length), 0 ≤ l[i] ∧ l[i] < 2 ^ C) : (∃ m ∈ setsM R, nM l R m = mostN l C R 0 0) ∧ ∀ m ∈ setsM R, mostN l C R 0 0 ≤ nM l R m := by
  obtain ⟨⟨S, hS⟩, hmin⟩ := most_min hlR hR hC hb
  have hlt := setsM_lt ⟨R, by omega⟩
  refine ⟨?_, fun m hm => by rw [nM_kap hlR hR hC hb (hlt m hm).1]; exact hmin _⟩
  obtain ⟨m, h1, h2⟩ := mask_of (fun r => !S r) R
  have hp : 2 ^ R ≤ 2 ^ 6 := Nat.pow_le_pow_right (by decide) hR
  refine ⟨m, setsM_all ⟨R, by omega⟩ ⟨m, by omega⟩ h1, ?_⟩
  rw [nM_kap hlR hR hC hb (by omega)]
  refine Nat.le_antisymm ?_ (hmin _)
  rw [← hS]
  unfold kap
  have e1 : nb (cell l) (fun r => !m.testBit r) = nb (cell l) S := by
    funext c
    rw [Bool.eq_iff_iff, nb_iff, nb_iff]
    constructor
    · rintro ⟨r, g1, g2, g3⟩
      have hr : r < R := by
        by_cases hr : r < R
        · exact hr
        · rw [cell_far (by omega)] at g3; cases g3
      refine ⟨r, g1, ?_, g3⟩
      rw [h2, decide_eq_true hr] at g2
      simpa using g2
    · rintro ⟨r, g1, g2, g3⟩
      refine ⟨r, g1, ?_, g3⟩
      rw [h2, g2]
      simp
  rw [e1]
  refine Nat.add_le_add_right (cnt_mono fun x hx h => ?_) _
  have h' : (!(!m.testBit x)) = true := h
  rw [h2] at h'
  simp at h'
  simp [h'.2]
def covs (l : List Int) (R C : Nat) : List S49 := ((setsM R).filter (fun m => decide (nM l R m = mostN l C R 0 0))).map (cov l R)
theorem covs_pos {l : List Int} {R C : Nat} (hlR : l.length = R) (hR : R ≤ 6) (hC : C ≤ 6) (hb : ∀ i (hi : i < l.length), 0 ≤ l[i] ∧ l[i] < 2 ^ C) : 0 < (covs l R C).length := by
  obtain ⟨⟨m, hm, he⟩, _⟩ := nM_min hlR hR hC hb
  unfold covs
  rw [List.length_map]
  exact List.length_pos_of_mem (List.mem_filter.2 ⟨hm, decide_eq_true he⟩)
theorem nM_le (l : List Int) (R m : Nat) : nM l R m ≤ 12 := by
  have h1 := listM_len m
  have h2 := listM_len (colM l R m)
  unfold nM
  omega
theorem covers_l0 {l : List Int} {R C : Nat} (hlR : l.length = R) (hR : R ≤ 6) (hC : C ≤ 6) (hb : ∀ i (hi : i < l.length), 0 ≤ l[i] ∧ l[i] < 2 ^ C) (S : List Nat) (hS : ∀ m ∈ S, m < 64 ∧ m < 2 ^ R) (hSl : S.length ≤ 64) : ∀ (d i a : Nat) (out : List S49), i + d = S.length → out.length ≤ i →
    Ev (fun k => impl_Board_covers.l0 k a out (S.map fun (m : Nat) => (m : Int)) ((S.map fun (m : Nat) => (m : Int)).length : Int) i R C l) ((S.drop i).foldl (stepC l R) (a, out)).2
  | 0, i, a, out, hi, ho => by
    refine Ev.step (f := fun _ => some out) (fun k => ?_) (evEq (Ev.now _) (by rw [List.drop_eq_nil_of_le (by omega)]; rfl))
    rw [impl_Board_covers.l0, if_neg (by rw [List.length_map]; omega)]
  | d + 1, i, a, out, hi, ho => by
    have w1 := Aside0.mk (show wrap64 ((i : Int) + 1) = ((i + 1 : Nat) : Int) from by rw [w64 (by omega) (by omega)]; rfl)
    have hi2 : i < S.length := by omega
    obtain ⟨h64, hmR⟩ := hS S[i] (List.getElem_mem hi2)
    have hc64 := colM_lt (m := S[i]) (R := R) hC hb
    have hlt : comp R S[i] < 2 ^ R := comp_lt
    have hp : 2 ^ R ≤ 2 ^ 6 := Nat.pow_le_pow_right (by decide) hR
    have hp1 := Nat.two_pow_pos R
    have w2 := Aside0.mk (show wrap64 (((2 ^ R : Nat) : Int) - 1) = ((2 ^ R - 1 : Nat) : Int) from by rw [w64 (by omega) (by omega)]; omega)
    have l1 := listM_len S[i]
    have l2 := listM_len (colM l R S[i])
    have w3 := Aside0.mk (show wrap64 (((listM S[i]).length : Int) + ((listM (colM l R S[i])).length : Int)) = ((nM l R S[i] : Nat) : Int) from by rw [w64 (by omega) (by omega)]; unfold nM; omega)
    have hn := nM_le l R S[i]
    rw [List.drop_eq_getElem_cons hi2, List.foldl_cons]
    refine Ev.step (f := fun k => (impl_Board_columns.f k R C l ((comp R S[i] : Nat) : Int)).bind fun t109 => (impl_count.f (S[i] : Nat)).bind fun t110 => (impl_count.f t109).bind fun t111 => if wrap64 (t110 + t111) < (a : Int) then impl_Board_covers.j1 k (wrap64 (t110 + t111)) [] (S[i] : Nat) t109 (wrap64 (t110 + t111)) (S.map fun (m : Nat) => (m : Int)) ((S.map fun (m : Nat) => (m : Int)).length : Int) i R C l else impl_Board_covers.j1 k a out (S[i] : Nat) t109 (wrap64 (t110 + t111)) (S.map fun (m : Nat) => (m : Int)) ((S.map fun (m : Nat) => (m : Int)).length : Int) i R C l) (fun k => ?_) ?_
    · rw [impl_Board_covers.l0, if_pos (by rw [List.length_map]; omega), if_pos (by omega), if_pos (by rw [List.length_map]; omega), if_pos (by omega), rd_lt _ i (by rw [List.length_map]; exact hi2), List.getElem_map, shl_one R (by omega), w2.out, andNot (by omega) h64]
      rfl
    · refine Ev.bind (columns (R : Int) (C : Int) hC hb (Nat.lt_of_lt_of_le hlt hp) (fun j hj => by have := bit_lt hlt hj; omega)) ?_
      refine Ev.congr (fun k => by rw [count h64, Option.bind_some, show orM l (listM (comp R S[i])) = colM l R S[i] from rfl, count hc64, Option.bind_some, w3.out]) ?_
      have hap : ∀ (a : Nat) (out : List S49), out.length ≤ i → Ev (fun k => impl_Board_covers.j1 k a out (S[i] : Nat) ((colM l R S[i] : Nat) : Int) ((nM l R S[i] : Nat) : Int) (S.map fun (m : Nat) => (m : Int)) ((S.map fun (m : Nat) => (m : Int)).length : Int) i R C l) ((S.drop (i + 1)).foldl (stepC l R) (if nM l R S[i] = a then (a, out ++ [cov l R S[i]]) else (a, out))).2 := by
        intro a out ho
        by_cases c : nM l R S[i] = a
        · rw [if_pos c]
          refine Ev.step (f := fun k => (impl_listOf.f k (S[i] : Nat)).bind fun t112 => (impl_listOf.f k ((colM l R S[i] : Nat) : Int)).bind fun t115 => impl_Board_covers.l0 k a (out ++ [(⟨t112, t115⟩ : S49)]) (S.map fun (m : Nat) => (m : Int)) ((S.map fun (m : Nat) => (m : Int)).length : Int) ((i + 1 : Nat) : Int) R C l) (fun k => ?_) ?_
          · rw [impl_Board_covers.j1, if_pos (by omega), w1.out]
            congr 1
            funext t
            congr 1
            funext t2
            rw [if_pos (by omega)]
          · exact Ev.bind (listOf h64) (Ev.bind (listOf hc64) (covers_l0 hlR hR hC hb S hS hSl d (i + 1) a _ (by omega) (by rw [List.length_append, List.length_singleton]; omega)))
        · rw [if_neg c]
          refine Ev.step (fun k => ?_) (covers_l0 hlR hR hC hb S hS hSl d (i + 1) a out (by omega) (by omega))
          rw [impl_Board_covers.j1, if_neg (by omega), w1.out]
      by_cases c1 : nM l R S[i] < a
      · have e : stepC l R (a, out) S[i] = (nM l R S[i], [cov l R S[i]]) := by unfold stepC; rw [if_pos c1]
        rw [e]
        have h := hap (nM l R S[i]) [] (by simp)
        rw [if_pos rfl] at h
        exact Ev.congr (fun k => by rw [if_pos (by omega)]) h
      · have e : stepC l R (a, out) S[i] = if nM l R S[i] = a then (a, out ++ [cov l R S[i]]) else (a, out) := by unfold stepC; rw [if_neg c1]
        rw [e]
        exact Ev.congr (fun k => by rw [if_neg (by omega)]) (hap a out ho)
theorem covers {l : List Int} {R C : Nat} (hlR : l.length = R) (hR : R ≤ 6) (hC : C ≤ 6) (hb : ∀ i (hi : i < l.length), 0 ≤ l[i] ∧ l[i] < 2 ^ C) : Ev (fun k => impl_Board_covers.f k R C l) (covs l R C) := by
  unfold impl_Board_covers.f
  refine Ev.bind (rowSets hR _ _) ?_
  have hlen : (setsM R).length ≤ 64 := List.length_filter_le _ fullM
  have h := covers_l0 hlR hR hC hb (setsM R) (setsM_lt ⟨R, by omega⟩) hlen (setsM R).length 0 12 [] (by omega) (by simp)
  refine evEq h ?_
  obtain ⟨h1, h2⟩ := nM_min hlR hR hC hb
  have hm := mostN_le l C R 0 0
  rw [List.drop_zero, fold_covers l R (mostN l C R 0 0) (setsM R) 12 [] (by omega) h2 (.inr h1), if_neg (by omega), List.nil_append]
  rfl
theorem colsS_comp {l : List Int} {R C m : Nat} (hlR : l.length = R) (hR : R ≤ 6) (hC : C ≤ 6) (hb : ∀ i (hi : i < l.length), 0 ≤ l[i] ∧ l[i] < 2 ^ C) (hm : m < 64) : colsS l (listM m) true R C = listM (colM l R m) := by
  unfold colM
  rw [colsS_mask hlR hR hC hb (fun i hi => bit_lt comp_lt hi)]
  unfold colsS
  congr 1
  funext x
  unfold reachFrom
  have e : ∀ (L : List Nat), (∀ r ∈ L, r < R) → L.any (fun r => (decide ((r : Int) ∈ listM m) != true) && cell l r x.toNat) = L.any (fun r => (decide ((r : Int) ∈ listM (comp R m)) != false) && cell l r x.toNat) := by
    intro L hL
    rw [Bool.eq_iff_iff, List.any_eq_true, List.any_eq_true]
    have h : ∀ r ∈ L, (decide ((r : Int) ∈ listM m) != true) = (decide ((r : Int) ∈ listM (comp R m)) != false) := by
      intro r hr
      have hrR := hL r hr
      have h1 : ((r : Int) ∈ listM (comp R m)) ↔ ¬ (r : Int) ∈ listM m := by
        rw [mem_listM, mem_listM, Int.toNat_natCast, comp_bit hR hm (by omega), decide_eq_true hrR, Bool.true_and]
        constructor
        · rintro ⟨_, _, g⟩ ⟨_, _, g2⟩
          rw [g2] at g; cases g
        · intro g
          refine ⟨by omega, by omega, ?_⟩
          cases e : m.testBit r with
          | false => rfl
          | true => exact absurd ⟨by omega, by omega, e⟩ g
      by_cases g : (r : Int) ∈ listM m
      · rw [decide_eq_true g, decide_eq_false (fun h2 => (h1.1 h2) g)]; rfl
      · rw [decide_eq_false g, decide_eq_true (h1.2 g)]; rfl
    constructor
    · rintro ⟨r, hr, g⟩; exact ⟨r, hr, by rw [← h r hr]; exact g⟩
    · rintro ⟨r, hr, g⟩; exact ⟨r, hr, by rw [h r hr]; exact g⟩
  exact e _ (fun r hr => by have := (List.mem_range'_1.1 hr).2; omega)
theorem lcCovers_l0 {l : List Int} {R C : Nat} (hlR : l.length = R) (hR : R ≤ 6) (hC : C ≤ 6) (hb : ∀ i (hi : i < l.length), 0 ≤ l[i] ∧ l[i] < 2 ^ C) (v : Nat) (S : List Nat) (hS : ∀ m ∈ S, m < 64 ∧ m < 2 ^ R) (hSl : S.length ≤ 64) : ∀ (d i : Nat) (out : List S49), i + d = S.length → out.length ≤ i →
    Ev (fun k => spec_lcCovers.l0 k v out (S.map listM) ((S.map listM).length : Int) i R C l) (out ++ ((S.drop i).filter (fun m => decide (nM l R m = v))).map (cov l R))
  | 0, i, out, hi, ho => by
    refine Ev.step (f := fun _ => some out) (fun k => ?_) (evEq (Ev.now _) (by rw [List.drop_eq_nil_of_le (by omega)]; simp))
    rw [spec_lcCovers.l0, if_neg (by rw [List.length_map]; omega)]
  | d + 1, i, out, hi, ho => by
    have w1 := Aside0.mk (show wrap64 ((i : Int) + 1) = ((i + 1 : Nat) : Int) from by rw [w64 (by omega) (by omega)]; rfl)
    have hi2 : i < S.length := by omega
    obtain ⟨h64, hmR⟩ := hS S[i] (List.getElem_mem hi2)
    have l1 := listM_len S[i]
    have l2 := listM_len (colM l R S[i])
    have w3 := Aside0.mk (show wrap64 (((listM S[i]).length : Int) + ((listM (colM l R S[i])).length : Int)) = ((nM l R S[i] : Nat) : Int) from by rw [w64 (by omega) (by omega)]; unfold nM; omega)
    have hrd : rd_L2 (S.map listM) (i : Int) = listM S[i] := by unfold rd_L2; rw [Int.toNat_natCast, gD_lt _ _ (by rw [List.length_map]; exact hi2), List.getElem_map]
    rw [List.drop_eq_getElem_cons hi2, List.filter_cons]
    refine Ev.step (f := fun k => (spec_lcColumns.f k R C l (listM S[i]) true).bind fun t107 => if wrap64 (((listM S[i]).length : Int) + (t107.length : Int)) = (v : Int) then spec_lcCovers.l0 k v (out ++ [(⟨listM S[i], t107⟩ : S49)]) (S.map listM) ((S.map listM).length : Int) ((i + 1 : Nat) : Int) R C l else spec_lcCovers.l0 k v out (S.map listM) ((S.map listM).length : Int) ((i + 1 : Nat) : Int) R C l) (fun k => ?_) ?_
    · rw [spec_lcCovers.l0, if_pos (by rw [List.length_map]; omega), if_pos (by omega), if_pos (by rw [List.length_map]; omega), hrd, w1.out]
      congr 1
      funext t
      rw [if_pos (show out.length < 2932031007402 by omega)]
    · refine Ev.bind (lcColumns R C hlR hR hC (fun i hi => by have := hb i hi; have := two_pow_six hC; omega) true (by omega)) ?_
      rw [colsS_comp hlR hR hC hb h64]
      refine Ev.congr (fun k => by rw [w3.out]) ?_
      by_cases c : nM l R S[i] = v
      · rw [if_pos (decide_eq_true c)]
        refine Ev.congr (fun k => by rw [if_pos (by omega)]) ?_
        refine evEq (lcCovers_l0 hlR hR hC hb v S hS hSl d (i + 1) (out ++ [cov l R S[i]]) (by omega) (by rw [List.length_append, List.length_singleton]; omega)) ?_
        simp
      · rw [if_neg (by simp; exact c)]
        refine Ev.congr (fun k => by rw [if_neg (by omega)]) ?_
        exact lcCovers_l0 hlR hR hC hb v S hS hSl d (i + 1) out (by omega) (by omega)
theorem lcCovers {l : List Int} {R C : Nat} (hlR : l.length = R) (hR : R ≤ 6) (hC : C ≤ 6) (hb : ∀ i (hi : i < l.length), 0 ≤ l[i] ∧ l[i] < 2 ^ C) : Ev (fun k => spec_lcCovers.f k R C l) (covs l R C) := by
  unfold spec_lcCovers.f
  have hp := two_pow_six hC
  refine Ev.bind (lcMost hlR hR hC (fun i hi => by have := hb i hi; omega)) (Ev.bind (lcSets hR) ?_)
  have hlen : (setsM R).length ≤ 64 := List.length_filter_le _ fullM
  have h := lcCovers_l0 hlR hR hC hb (mostN l C R 0 0) (setsM R) (setsM_lt ⟨R, by omega⟩) hlen (setsM R).length 0 [] (by omega) (by simp)
  exact h
end Go.Proofs.Ytgnmcfoenmfhcaa.CoversK
end
section
namespace Go.Proofs.Ytgnmcfoenmfhcaa.Pure
set_option linter.unusedVariables false
open Go.RowKit Go.Proofs.Ytgnmcfoenmfhcaa.Q Go.Proofs.YtgnmcfoenmfhcaaW.PrintWords Go.Proofs.YtgnmcfoenmfhcaaW.PrintLast Go.Proofs.YtgnmcfoenmfhcaaW.PrintMore
open Go.Proofs.YtgnmcfoenmfhcaaL Go.Proofs.Ytgnmcfoenmfhcaa.LawK Go.Proofs.Ytgnmcfoenmfhcaa.BoardK Go.Proofs.Ytgnmcfoenmfhcaa.LinesK Go.Proofs.Ytgnmcfoenmfhcaa.SortM Go.Proofs.Ytgnmcfoenmfhcaa.RowSetsK Go.Proofs.Ytgnmcfoenmfhcaa.CoversK
namespace LeastCoverK
def ans (r c : Int) (l : List Int) : List Int × List Int × Bool := if isBoardB r c l = true then ((rd_T49 (covs l r.toNat c.toNat) 0).f0, (rd_T49 (covs l r.toNat c.toNat) 0).f1, true) else ([], [], false)
theorem covs_short (l : List Int) (R C : Nat) (i : Int) : (rd_T49 (covs l R C) i).f0.length ≤ 6 ∧ (rd_T49 (covs l R C) i).f1.length ≤ 6 := by
  unfold rd_T49
  by_cases h : i.toNat < (covs l R C).length
  · rw [gD_lt _ _ h]
    obtain ⟨m, _, hm⟩ := List.mem_map.1 (List.getElem_mem h)
    rw [← hm]
    exact ⟨listM_len _, listM_len _⟩
  · rw [gD_ge _ _ (by omega)]
    exact ⟨by simp [z49], by simp [z49]⟩
theorem ans_len (r c : Int) (l : List Int) : (ans r c l).1.length ≤ 6 ∧ (ans r c l).2.1.length ≤ 6 := by
  unfold ans
  by_cases h : isBoardB r c l = true
  · rw [if_pos h]; exact covs_short _ _ _ _
  · rw [if_neg h]; simp
theorem impl_answer {r c : Int} {l : List Int} : Ev (fun k => impl_LeastCover.f k r c l) (ans r c l) := by
  unfold impl_LeastCover.f ans
  refine Ev.congr (fun k => by rw [impl_IsBoard.f, Option.bind_some]) ?_
  by_cases hb : isBoardB r c l = true
  · obtain ⟨R, C, rfl, rfl, hlR, h1R, hR, h1C, hC, hbits⟩ := board_of hb
    refine Ev.congr (fun k => by rw [if_pos hb]) ?_
    rw [if_pos hb, Int.toNat_natCast, Int.toNat_natCast]
    have hp := covs_pos hlR hR hC hbits
    refine Ev.bind (covers hlR hR hC hbits) ?_
    exact Ev.congr (fun k => by rw [if_pos (by omega)]) (Ev.now _)
  · rw [if_neg hb]
    exact Ev.congr (fun k => by rw [if_neg hb]) (Ev.now _)
theorem spec_answer {r c : Int} {l : List Int} (hl : l.length ≤ 1048576) : Ev (fun k => spec_LeastCover.f k r c l) (ans r c l) := by
  unfold spec_LeastCover.f ans
  refine Ev.bind (boGood r c (by omega)) ?_
  by_cases hb : isBoardB r c l = true
  · obtain ⟨R, C, rfl, rfl, hlR, h1R, hR, h1C, hC, hbits⟩ := board_of hb
    refine Ev.congr (fun k => by rw [if_pos hb]) ?_
    rw [if_pos hb, Int.toNat_natCast, Int.toNat_natCast]
    have hp := covs_pos hlR hR hC hbits
    refine Ev.bind (lcCovers hlR hR hC hbits) ?_
    exact Ev.congr (fun k => by rw [if_pos (by omega)]) (Ev.now _)
  · rw [if_neg hb]
    exact Ev.congr (fun k => by rw [if_neg hb]) (Ev.now _)
theorem eqLines {a b : List Int} (ha : a.length ≤ 6) (hb : b.length ≤ 6) : Ev (fun k => laws_eqLines.f k a b a b) true := by
  unfold laws_eqLines.f
  refine Ev.bind (eqIntS (by omega)) ?_
  refine Ev.congr (fun k => by rw [if_pos (by simp)]) ?_
  refine Ev.bind (eqIntS (by omega)) ?_
  exact Ev.congr (fun k => by rw [if_pos (by simp)]) (Ev.now _)
theorem markLines {a b : List Int} (ha : a.length ≤ 6) (hb : b.length ≤ 6) : Ev (fun k => laws_markLines.f k a b 1) (1 + (a.length : Int) + (b.length : Int), iota 1 a.length, iota (1 + (a.length : Int)) b.length) := by
  unfold laws_markLines.f
  exact Ev.bind (markIntS a (by omega) (by omega)) (Ev.bind (markIntS b (by simp only []; omega) (by simp only []; omega)) (Ev.now _))
theorem heldLines {n m : Nat} (hn : n ≤ 6) (hm : m ≤ 6) : Ev (fun k => laws_heldLines.f k (iota 1 n) (iota (1 + (n : Int)) m) 1) (1 + (n : Int) + (m : Int)) := by
  unfold laws_heldLines.f
  refine Ev.bind (heldIntS n (by omega) (by omega)) ?_
  refine Ev.congr (fun k => by rw [if_neg (by omega)]) ?_
  refine Ev.bind (heldIntS m (by omega) (by omega)) ?_
  exact Ev.congr (fun k => by rw [if_neg (by omega)]) (Ev.now _)
end LeastCoverK
open LeastCoverK
theorem FnExactLeastCover : laws_FnExactLeastCover.Pure := by
  intro r c l _ _ _ hl8 _
  unfold laws_FnExactLeastCover.f
  refine ends ?_
  refine Ev.congr (fun k => by rw [szBoard_f r c l hl8, Option.bind_some]) ?_
  obtain ⟨hn1, hn2⟩ := ans_len r c l
  by_cases hlb : l.length ≤ 1048576
  · refine Ev.congr (fun k => by rw [if_pos hlb, if_neg (by omega)]) ?_
    refine Ev.bind (toBoard r c hlb) (Ev.bind (spec_answer hlb) (Ev.bind (toBoard r c hlb) (Ev.bind impl_answer ?_)))
    refine Ev.bind (eqLines hn1 hn2) ?_
    refine Ev.congr (fun k => by rw [if_pos rfl]) ?_
    refine Ev.step (fun k => by rw [laws_FnExactLeastCover.j0, if_neg (by simp)]) ?_
    refine Ev.bind (toBoard r c hlb) (Ev.bind (eqBoard r c (by simp; omega)) ?_)
    refine Ev.congr (fun k => by rw [if_pos rfl]) ?_
    refine Ev.bind (a := (1 + (l.length : Int), iota 1 l.length)) (show Ev (fun k => laws_markBoard.f k r c l 1) (1 + (l.length : Int), iota 1 l.length) by unfold laws_markBoard.f; exact Ev.bind (markIntS l (by omega) (by omega)) (Ev.now _)) ?_
    refine Ev.congr (fun k => by rw [if_neg (by simp only []; omega)]) ?_
    refine Ev.bind (eqLines hn1 hn2) ?_
    refine Ev.congr (fun k => by rw [if_pos rfl]) ?_
    refine Ev.step (fun k => by rw [laws_FnExactLeastCover.j1, if_neg (by simp)]) ?_
    refine Ev.bind (markLines hn1 hn2) ?_
    refine Ev.bind (heldLines hn1 hn2) ?_
    refine Ev.congr (fun k => by rw [if_neg (by omega), if_pos rfl]) ?_
    refine Ev.bind (toBoard r c hlb) (Ev.bind impl_answer ?_)
    refine Ev.bind (eqLines hn1 hn2) ?_
    refine Ev.congr (fun k => by rw [if_pos rfl]) ?_
    refine Ev.step (fun k => by rw [laws_FnExactLeastCover.j2, if_neg (by simp)]) ?_
    refine Ev.bind (heldLines hn1 hn2) ?_
    exact Ev.congr (fun k => by rw [if_neg (by omega), if_pos rfl]) (Ev.now _)
  · exact Ev.congr (fun k => by rw [if_neg hlb, if_pos (by omega)]) (Ev.now _)
end Go.Proofs.Ytgnmcfoenmfhcaa.Pure
end
