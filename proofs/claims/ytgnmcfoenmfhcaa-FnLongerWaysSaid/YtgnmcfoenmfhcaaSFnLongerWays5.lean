/- Texts of this claim put together (5): words, what the functions compute, and plain facts. No conditions. -/
import Derived.Test.YtgnmcfoenmfhcaaSFnLongerWays4
import Derived.Deep.RegionWith
import Derived.Test.YtgnmcfoenmfhcaaSFnLongerWays0
section
namespace Go.Proofs.Ytgnmcfoenmfhcaa.Koenig
set_option linter.unusedVariables false
def cnt (p : Nat → Bool) : Nat := (List.range 6).countP p
theorem countP_mod (p q : Nat → Bool) : ∀ l : List Nat, l.countP (fun x => p x || q x) + l.countP (fun x => p x && q x) = l.countP p + l.countP q
  | [] => rfl
  | a :: l => by
    have ih := countP_mod p q l
    simp only [List.countP_cons]
    cases p a <;> cases q a <;> simp <;> omega
theorem cnt_mod (p q : Nat → Bool) : cnt (fun x => p x || q x) + cnt (fun x => p x && q x) = cnt p + cnt q := countP_mod p q _
theorem cnt_mono {p q : Nat → Bool} (h : ∀ x, x < 6 → p x = true → q x = true) : cnt p ≤ cnt q := List.countP_mono_left (fun x hx hp => h x (List.mem_range.1 hx) hp)
theorem cnt_congr {p q : Nat → Bool} (h : ∀ x, x < 6 → p x = q x) : cnt p = cnt q :=
  Nat.le_antisymm (cnt_mono fun x hx hp => by rw [← h x hx]; exact hp) (cnt_mono fun x hx hp => by rw [h x hx]; exact hp)
theorem cnt_false : cnt (fun _ => false) = 0 := by decide
theorem cnt_one {c : Nat} (h : c < 6) : cnt (fun x => x == c) = 1 := by
  have : ∀ c : Fin 6, cnt (fun x => x == c.val) = 1 := by decide
  exact this ⟨c, h⟩
theorem cnt_add {p : Nat → Bool} {c : Nat} (h : c < 6) (hp : p c = false) : cnt (fun x => p x || x == c) = cnt p + 1 := by
  have h1 := cnt_mod p (fun x => x == c)
  have h2 : (fun x => p x && x == c) = fun _ => false := by
    funext x
    by_cases e : x = c
    · subst e; simp [hp]
    · simp [e]
  rw [h2, cnt_false, cnt_one h] at h1
  exact h1
def nb (G : Nat → Nat → Bool) (S : Nat → Bool) : Nat → Bool := fun c => (List.range 6).any (fun r => S r && G r c)
theorem nb_iff {G : Nat → Nat → Bool} {S : Nat → Bool} {c : Nat} : nb G S c = true ↔ ∃ r, r < 6 ∧ S r = true ∧ G r c = true := by
  unfold nb
  rw [List.any_eq_true]
  constructor
  · rintro ⟨r, hr, h⟩
    rw [Bool.and_eq_true] at h
    exact ⟨r, List.mem_range.1 hr, h.1, h.2⟩
  · rintro ⟨r, hr, h1, h2⟩
    exact ⟨r, List.mem_range.2 hr, by rw [h1, h2]; rfl⟩
def kap (G : Nat → Nat → Bool) (S : Nat → Bool) : Nat := cnt (fun r => !S r) + cnt (nb G S)
structure Match (G : Nat → Nat → Bool) (f : Nat → Option Nat) : Prop where
  edge : ∀ r c, f r = some c → r < 6 ∧ c < 6 ∧ G r c = true
  inj : ∀ r r' c, f r = some c → f r' = some c → r = r'
def size (f : Nat → Option Nat) : Nat := cnt (fun r => (f r).isSome)
def used (f : Nat → Option Nat) (rs : List Nat) : Nat → Bool := fun c => rs.any (fun r => f r == some c)
theorem used_iff {f : Nat → Option Nat} {rs : List Nat} {c : Nat} : used f rs c = true ↔ ∃ r, r ∈ rs ∧ f r = some c := by
  unfold used
  rw [List.any_eq_true]
  simp
theorem used_cnt {G : Nat → Nat → Bool} {f : Nat → Option Nat} (h : Match G f) : ∀ rs : List Nat, rs.Nodup → cnt (used f rs) = rs.countP (fun r => (f r).isSome)
  | [], _ => by
    have : used f [] = fun _ => false := by funext c; rfl
    rw [this, cnt_false]; rfl
  | r :: rs, hn => by
    obtain ⟨hr, hn2⟩ := List.nodup_cons.1 hn
    have ih := used_cnt h rs hn2
    rw [List.countP_cons]
    cases e : f r with
    | none =>
      have : used f (r :: rs) = used f rs := by funext c; simp [used, e]
      rw [this, ih]; simp
    | some c =>
      have h1 : used f (r :: rs) = fun x => used f rs x || x == c := by
        funext x
        have : (f r == some x) = (x == c) := by
          rw [e, Bool.eq_iff_iff, beq_iff_eq, beq_iff_eq]
          exact ⟨fun h => (Option.some.inj h).symm, fun h => by rw [h]⟩
        simp only [used, List.any_cons, this]
        exact Bool.or_comm _ _
      have h2 : used f rs c = false := by
        cases h3 : used f rs c with
        | false => rfl
        | true =>
          obtain ⟨r', hr', e'⟩ := used_iff.1 h3
          exact absurd (h.inj r r' c e e' ▸ hr') hr
      rw [h1, cnt_add (h.edge r c e).2.1 h2, ih]; simp
theorem countP_split (p q : Nat → Bool) : ∀ l : List Nat, l.countP p ≤ l.countP (fun x => !q x) + l.countP (fun x => p x && q x)
  | [] => Nat.le_refl _
  | a :: l => by
    have ih := countP_split p q l
    simp only [List.countP_cons]
    cases p a <;> cases q a <;> simp <;> omega
theorem weak {G : Nat → Nat → Bool} {f : Nat → Option Nat} (h : Match G f) (S : Nat → Bool) : size f ≤ kap G S := by
  have h1 := countP_split (fun r => (f r).isSome) S (List.range 6)
  have h2 : (List.range 6).countP (fun x => (f x).isSome && S x) = cnt (used f ((List.range 6).filter S)) := by
    rw [used_cnt h _ (List.nodup_range.filter _), List.countP_filter]
  have h3 : cnt (used f ((List.range 6).filter S)) ≤ cnt (nb G S) := by
    refine cnt_mono fun c _ hc => ?_
    obtain ⟨r, hr, e⟩ := used_iff.1 hc
    obtain ⟨hr1, hr2⟩ := List.mem_filter.1 hr
    exact nb_iff.2 ⟨r, List.mem_range.1 hr1, hr2, (h.edge r c e).2.2⟩
  unfold size kap cnt at *
  omega
theorem exists_min {α : Type} (a0 : α) (g : α → Nat) : ∃ a, ∀ b, g a ≤ g b := by
  have : ∀ n a, g a = n → ∃ a, ∀ b, g a ≤ g b := by
    intro n
    induction n using Nat.strongRecOn with
    | _ n ih =>
      intro a ha
      by_cases h : ∀ b, g a ≤ g b
      · exact ⟨a, h⟩
      · obtain ⟨b, hb⟩ := Classical.not_forall.1 h
        exact ih (g b) (by omega) b rfl
  exact this _ a0 rfl
def edges (G : Nat → Nat → Bool) : Nat := cnt (G 0) + cnt (G 1) + cnt (G 2) + cnt (G 3) + cnt (G 4) + cnt (G 5)
def del (G : Nat → Nat → Bool) (r c : Nat) : Nat → Nat → Bool := fun r' c' => G r' c' && !(r' == r && c' == c)
theorem del_row {G : Nat → Nat → Bool} {r c : Nat} (hc : c < 6) (h : G r c = true) : cnt (del G r c r) + 1 = cnt (G r) := by
  have h1 : del G r c r c = false := by simp [del]
  rw [← cnt_add hc h1]
  refine cnt_congr fun x _ => ?_
  by_cases e : x = c
  · subst e; simp [h]
  · have e2 : (x == c) = false := beq_eq_false_iff_ne.2 e
    simp [del, e2]
theorem del_far {G : Nat → Nat → Bool} {r c r' : Nat} (h : r' ≠ r) : del G r c r' = G r' := by funext x; simp [del, h]
theorem del_edges {G : Nat → Nat → Bool} {r c : Nat} (hr : r < 6) (hc : c < 6) (h : G r c = true) : edges (del G r c) < edges G := by
  have h1 := del_row hc h
  unfold edges
  have : r = 0 ∨ r = 1 ∨ r = 2 ∨ r = 3 ∨ r = 4 ∨ r = 5 := by omega
  rcases this with rfl | rfl | rfl | rfl | rfl | rfl <;> simp only [del_far (G := G) (c := c) (show (0 : Nat) ≠ 1 by decide), del_far (G := G) (c := c) (show (0 : Nat) ≠ 2 by decide), del_far (G := G) (c := c) (show (0 : Nat) ≠ 3 by decide), del_far (G := G) (c := c) (show (0 : Nat) ≠ 4 by decide), del_far (G := G) (c := c) (show (0 : Nat) ≠ 5 by decide), del_far (G := G) (c := c) (show (1 : Nat) ≠ 0 by decide), del_far (G := G) (c := c) (show (1 : Nat) ≠ 2 by decide), del_far (G := G) (c := c) (show (1 : Nat) ≠ 3 by decide), del_far (G := G) (c := c) (show (1 : Nat) ≠ 4 by decide), del_far (G := G) (c := c) (show (1 : Nat) ≠ 5 by decide), del_far (G := G) (c := c) (show (2 : Nat) ≠ 0 by decide), del_far (G := G) (c := c) (show (2 : Nat) ≠ 1 by decide), del_far (G := G) (c := c) (show (2 : Nat) ≠ 3 by decide), del_far (G := G) (c := c) (show (2 : Nat) ≠ 4 by decide), del_far (G := G) (c := c) (show (2 : Nat) ≠ 5 by decide), del_far (G := G) (c := c) (show (3 : Nat) ≠ 0 by decide), del_far (G := G) (c := c) (show (3 : Nat) ≠ 1 by decide), del_far (G := G) (c := c) (show (3 : Nat) ≠ 2 by decide), del_far (G := G) (c := c) (show (3 : Nat) ≠ 4 by decide), del_far (G := G) (c := c) (show (3 : Nat) ≠ 5 by decide), del_far (G := G) (c := c) (show (4 : Nat) ≠ 0 by decide), del_far (G := G) (c := c) (show (4 : Nat) ≠ 1 by decide), del_far (G := G) (c := c) (show (4 : Nat) ≠ 2 by decide), del_far (G := G) (c := c) (show (4 : Nat) ≠ 3 by decide), del_far (G := G) (c := c) (show (4 : Nat) ≠ 5 by decide), del_far (G := G) (c := c) (show (5 : Nat) ≠ 0 by decide), del_far (G := G) (c := c) (show (5 : Nat) ≠ 1 by decide), del_far (G := G) (c := c) (show (5 : Nat) ≠ 2 by decide), del_far (G := G) (c := c) (show (5 : Nat) ≠ 3 by decide), del_far (G := G) (c := c) (show (5 : Nat) ≠ 4 by decide)] <;> omega
theorem nb_del_ne {G : Nat → Nat → Bool} {r c x : Nat} (S : Nat → Bool) (h : x ≠ c) : nb (del G r c) S x = nb G S x := by
  have : ∀ r', del G r c r' x = G r' x := fun r' => by simp [del, h]
  unfold nb
  simp only [this]
theorem del_tight {G : Nat → Nat → Bool} {r c : Nat} {S : Nat → Bool} (hc : c < 6) (h : kap (del G r c) S < kap G S) :
    S r = true ∧ (∀ r', r' < 6 → r' ≠ r → S r' = true → G r' c = false) ∧ kap G S ≤ kap (del G r c) S + 1 := by
  have h0 : nb (del G r c) S c = false := by
    cases e : nb (del G r c) S c with
    | false => rfl
    | true =>
      have e2 : nb G S c = true := by
        obtain ⟨r', h1, h2, h3⟩ := nb_iff.1 e
        refine nb_iff.2 ⟨r', h1, h2, ?_⟩
        simp [del] at h3
        exact h3.1
      have : nb (del G r c) S = nb G S := by
        funext x
        by_cases hx : x = c
        · subst hx; rw [e, e2]
        · exact nb_del_ne S hx
      unfold kap at h
      rw [this] at h
      omega
  have h1 : nb G S c = true := by
    cases e : nb G S c with
    | true => rfl
    | false =>
      have : nb (del G r c) S = nb G S := by
        funext x
        by_cases hx : x = c
        · subst hx; rw [h0, e]
        · exact nb_del_ne S hx
      unfold kap at h
      rw [this] at h
      omega
  have h2 : ∀ r', r' < 6 → r' ≠ r → S r' = true → G r' c = false := by
    intro r' hr' hne hS
    cases e : G r' c with
    | false => rfl
    | true =>
      have : nb (del G r c) S c = true := nb_iff.2 ⟨r', hr', hS, by simp [del, e, hne]⟩
      rw [h0] at this; cases this
  refine ⟨?_, h2, ?_⟩
  · obtain ⟨r', hr', hS, hG⟩ := nb_iff.1 h1
    by_cases e : r' = r
    · subst e; exact hS
    · rw [h2 r' hr' e hS] at hG; cases hG
  · have : cnt (nb G S) = cnt (nb (del G r c) S) + 1 := by
      rw [← cnt_add hc h0]
      refine cnt_congr fun x _ => ?_
      by_cases e : x = c
      · subst e; simp [h1]
      · simp [nb_del_ne S e, e]
    unfold kap
    omega
theorem nb_or (G : Nat → Nat → Bool) (S T : Nat → Bool) : nb G (fun x => S x || T x) = fun c => nb G S c || nb G T c := by
  funext c
  rw [Bool.eq_iff_iff, Bool.or_eq_true, nb_iff, nb_iff, nb_iff]
  constructor
  · rintro ⟨r, hr, h1, h2⟩
    rcases Bool.or_eq_true _ _ ▸ h1 with h1 | h1
    · exact .inl ⟨r, hr, h1, h2⟩
    · exact .inr ⟨r, hr, h1, h2⟩
  · rintro (⟨r, hr, h1, h2⟩ | ⟨r, hr, h1, h2⟩)
    · exact ⟨r, hr, by rw [h1]; rfl, h2⟩
    · exact ⟨r, hr, by rw [h1]; exact Bool.or_true _, h2⟩
theorem least_row {p : Nat → Bool} : ∀ r, p r = true → ∃ q, q ≤ r ∧ p q = true ∧ ∀ q', q' < q → p q' = false := by
  intro r
  induction r using Nat.strongRecOn with
  | _ r ih =>
    intro h
    by_cases e : ∃ q, q < r ∧ p q = true
    · obtain ⟨q, hq, hp⟩ := e
      obtain ⟨q2, h1, h2, h3⟩ := ih q hq hp
      exact ⟨q2, by omega, h2, h3⟩
    · refine ⟨r, Nat.le_refl _, h, fun q' hq' => ?_⟩
      cases hp : p q' with
      | false => rfl
      | true => exact absurd ⟨q', hq', hp⟩ e
theorem one_each {G : Nat → Nat → Bool} {S0 : Nat → Bool} (hmin : ∀ S, kap G S0 ≤ kap G S) (hB : ∀ r c, r < 6 → c < 6 → G r c = true → ∃ S, kap (del G r c) S < kap G S0)
    {r c1 c2 : Nat} (hr : r < 6) (h1 : c1 < 6) (h2 : c2 < 6) (g1 : G r c1 = true) (g2 : G r c2 = true) : c1 = c2 := by
  by_cases hne : c1 = c2
  · exact hne
  exfalso
  obtain ⟨S1, k1⟩ := hB r c1 hr h1 g1
  obtain ⟨S2, k2⟩ := hB r c2 hr h2 g2
  obtain ⟨s1, o1, t1⟩ := del_tight h1 (Nat.lt_of_lt_of_le k1 (hmin S1))
  obtain ⟨s2, o2, t2⟩ := del_tight h2 (Nat.lt_of_lt_of_le k2 (hmin S2))
  have mA : kap G S0 ≤ cnt (fun x => !((S1 x && S2 x) && !(x == r))) + cnt (nb G (fun x => (S1 x && S2 x) && !(x == r))) := hmin _
  have mB : kap G S0 ≤ cnt (fun x => !(S1 x || S2 x)) + cnt (nb G (fun x => S1 x || S2 x)) := hmin _
  have m1 : kap G S1 = cnt (fun x => !S1 x) + cnt (nb G S1) := rfl
  have m2 : kap G S2 = cnt (fun x => !S2 x) + cnt (nb G S2) := rfl
  have a1 : nb G (fun x => (S1 x && S2 x) && !(x == r)) c1 = false := by
    cases e : nb G (fun x => (S1 x && S2 x) && !(x == r)) c1 with
    | false => rfl
    | true =>
      obtain ⟨q, hq, hs, hg⟩ := nb_iff.1 e
      simp at hs
      rw [o1 q hq hs.2 hs.1.1] at hg; cases hg
  have a2 : nb G (fun x => (S1 x && S2 x) && !(x == r)) c2 = false := by
    cases e : nb G (fun x => (S1 x && S2 x) && !(x == r)) c2 with
    | false => rfl
    | true =>
      obtain ⟨q, hq, hs, hg⟩ := nb_iff.1 e
      simp at hs
      rw [o2 q hq hs.2 hs.1.2] at hg; cases hg
  have b1 : cnt (nb G (fun x => (S1 x && S2 x) && !(x == r))) + 2 ≤ cnt (fun c => nb G S1 c && nb G S2 c) := by
    have e1 := cnt_add h1 a1
    have e2 := cnt_add (p := fun x => nb G (fun x => (S1 x && S2 x) && !(x == r)) x || x == c1) h2 (by
      simp only [a2, Bool.false_or]
      simp
      exact fun h => hne h.symm)
    have e3 : cnt (fun x => (nb G (fun x => (S1 x && S2 x) && !(x == r)) x || x == c1) || x == c2) ≤ cnt (fun c => nb G S1 c && nb G S2 c) := by
      refine cnt_mono fun x _ hx => ?_
      have both : ∀ c, G r c = true → (nb G S1 c && nb G S2 c) = true := fun c hc => by
        rw [nb_iff.2 ⟨r, hr, s1, hc⟩, nb_iff.2 ⟨r, hr, s2, hc⟩]; rfl
      rw [Bool.or_eq_true, Bool.or_eq_true] at hx
      rcases hx with (hx | hx) | hx
      · obtain ⟨q, hq, hs, hg⟩ := nb_iff.1 hx
        simp at hs
        show (nb G S1 x && nb G S2 x) = true
        rw [nb_iff.2 ⟨q, hq, hs.1.1, hg⟩, nb_iff.2 ⟨q, hq, hs.1.2, hg⟩]; rfl
      · rw [eq_of_beq hx]; exact both c1 g1
      · rw [eq_of_beq hx]; exact both c2 g2
    omega
  have b2 : cnt (fun x => !((S1 x && S2 x) && !(x == r))) = cnt (fun x => !(S1 x && S2 x)) + 1 := by
    rw [← cnt_add (p := fun x => !(S1 x && S2 x)) hr (by simp [s1, s2])]
    refine cnt_congr fun x _ => ?_
    cases S1 x <;> cases S2 x <;> simp
  have b3 := cnt_mod (fun x => !S1 x) (fun x => !S2 x)
  have b4 : (fun x => !S1 x || !S2 x) = fun x => !(S1 x && S2 x) := by funext x; cases S1 x <;> cases S2 x <;> rfl
  have b5 : (fun x => !S1 x && !S2 x) = fun x => !(S1 x || S2 x) := by funext x; cases S1 x <;> cases S2 x <;> rfl
  rw [b4, b5] at b3
  have b6 := cnt_mod (nb G S1) (nb G S2)
  have b7 := nb_or G S1 S2
  rw [b7] at mB
  rw [b2] at mA
  omega
theorem koenig : ∀ (n : Nat) (G : Nat → Nat → Bool), edges G = n → ∃ f S, Match G f ∧ size f = kap G S := by
  intro n
  induction n using Nat.strongRecOn with
  | _ n ih =>
    intro G hn
    obtain ⟨S0, hmin⟩ := exists_min (fun _ => true) (kap G)
    by_cases hA : ∃ r c, r < 6 ∧ c < 6 ∧ G r c = true ∧ ∀ S, kap G S0 ≤ kap (del G r c) S
    · obtain ⟨r, c, hr, hc, hg, hk⟩ := hA
      obtain ⟨f, S, hf, hs⟩ := ih _ (by rw [← hn]; exact del_edges hr hc hg) (del G r c) rfl
      have hf2 : Match G f := ⟨fun r' c' e => by
        obtain ⟨h1, h2, h3⟩ := hf.edge r' c' e
        simp [del] at h3
        exact ⟨h1, h2, h3.1⟩, hf.inj⟩
      refine ⟨f, S0, hf2, Nat.le_antisymm (weak hf2 S0) ?_⟩
      rw [hs]; exact hk S
    · have hB : ∀ r c, r < 6 → c < 6 → G r c = true → ∃ S, kap (del G r c) S < kap G S0 := by
        intro r c hr hc hg
        by_cases h : ∀ S, kap G S0 ≤ kap (del G r c) S
        · exact absurd ⟨r, c, hr, hc, hg, h⟩ hA
        · obtain ⟨S, hS⟩ := Classical.not_forall.1 h
          exact ⟨S, by omega⟩
      have hone := fun {r c1 c2 : Nat} => one_each (r := r) (c1 := c1) (c2 := c2) hmin hB
      let f : Nat → Option Nat := fun r => (List.range 6).find? (fun c => (decide (r < 6) && G r c) && !(List.range r).any (fun r' => G r' c))
      have hf1 : ∀ r c, f r = some c → r < 6 ∧ c < 6 ∧ G r c = true ∧ ∀ r', r' < r → G r' c = false := by
        intro r c e
        have h1 := List.find?_some e
        have h2 := List.mem_range.1 (List.mem_of_find?_eq_some e)
        simp at h1
        exact ⟨h1.1.1, h2, h1.1.2, fun r' hr' => by simpa using h1.2 r' hr'⟩
      have hf : Match G f := ⟨fun r c e => by obtain ⟨h1, h2, h3, _⟩ := hf1 r c e; exact ⟨h1, h2, h3⟩, fun r r' c e e' => by
        obtain ⟨_, _, h3, h4⟩ := hf1 r c e
        obtain ⟨_, _, h3', h4'⟩ := hf1 r' c e'
        rcases Nat.lt_trichotomy r r' with h | h | h
        · rw [h4' r h] at h3; cases h3
        · exact h
        · rw [h4 r' h] at h3'; cases h3'⟩
      refine ⟨f, fun _ => true, hf, ?_⟩
      have h1 : size f = cnt (used f (List.range 6)) := (used_cnt hf _ List.nodup_range).symm
      have h2 : cnt (used f (List.range 6)) = cnt (nb G (fun _ => true)) := by
        refine Nat.le_antisymm (cnt_mono fun c _ hc => ?_) (cnt_mono fun c hc6 hc => ?_)
        · obtain ⟨r, hr, e⟩ := used_iff.1 hc
          exact nb_iff.2 ⟨r, List.mem_range.1 hr, rfl, (hf.edge r c e).2.2⟩
        · obtain ⟨r, hr, _, hg⟩ := nb_iff.1 hc
          obtain ⟨q, hq, hq2, hq3⟩ := least_row (p := fun r => G r c) r hg
          refine used_iff.2 ⟨q, List.mem_range.2 (by omega), ?_⟩
          cases e : f q with
          | none =>
            have h3 := List.find?_eq_none.1 e c (List.mem_range.2 hc6)
            simp [show q < 6 by omega, show G q c = true from hq2] at h3
            obtain ⟨q', hq', hq4⟩ := h3
            rw [show G q' c = false from hq3 q' hq'] at hq4; cases hq4
          | some c' =>
            obtain ⟨h3, h4, h5, _⟩ := hf1 q c' e
            rw [hone h3 h4 hc6 h5 hq2]
      have h3 : kap G (fun _ => true) = cnt (nb G (fun _ => true)) := by
        unfold kap
        have : (fun (r : Nat) => !true) = fun _ => false := rfl
        rw [this, cnt_false, Nat.zero_add]
      rw [h1, h2, h3]
end Go.Proofs.Ytgnmcfoenmfhcaa.Koenig
end
section
namespace Go.Proofs.Ytgnmcfoenmfhcaa.Q
open Go.RowKit Go.Proofs.YtgnmcfoenmfhcaaW.PrintWords Go.Proofs.YtgnmcfoenmfhcaaW.PrintLast Go.Proofs.YtgnmcfoenmfhcaaW.PrintMore
attribute [local go_sem] max2_int min2_int max_two min_two max_three min_three max_four min_four   -- for this text's walks alone
set_option linter.unusedVariables false
set_option linter.unusedSimpArgs false
def spec_l1Has.l0:Nat→Int→List Int→Int→Int→Option (Bool)
|0,_,_,_,_=>none
|k + 1,x1,x7,x8,x9=>if x9 < x8 then (if 0≤x9 then (if x9 < (x7.length:Int) then (if (rd x7 x9)=x1 then (some true) else (spec_l1Has.l0 k x1 x7 x8 (wrap64 (x9 + 1)))) else (none)) else (none)) else (some false)
def spec_l1Has.f (k:Nat) (l0:List Int) (a1:Int):Option (Bool):=spec_l1Has.l0 k a1 l0 (l0.length:Int) 0
set_option maxHeartbeats 8000000 in
set_option maxRecDepth 100000 in
theorem spec_l1Has.calls (k:Nat) (A0:Option Addr) (c0:Nat) (l0:List Int) (a1:Int) (r:Bool) (w:World) (hr0:Kd.C (Kd.int .i64) w A0 l0.length l0) (hc0:l0.length≤c0) (h:spec_l1Has.f k l0 a1=some r) :
  Calls Try.prog 89 #[.slice A0 l0.length c0,.int .i64 a1] w fun e w'=>e=.returned (.bool r)∧Drawn0 w w':=by
 have HR0:=za hr0;have HC0:=za hc0;clear hr0 hc0;have H:(spec_l1Has.l0 k a1 l0 (l0.length:Int) 0)=some r:=h;clear h;have H':=za H;clear H;(go_enter Try.func89,Try.ntmps89);(go_wp2);(go_loopg [9] k (fun kq v9 w'=>∃ (x9_1:Int),v9=.int .i64 x9_1∧Aside0 (spec_l1Has.l0 kq a1 l0 (l0.length:Int) x9_1=some r)∧Aside0 (kq≤k)∧Drawn0 w w'));case atStart=>exact ⟨(0),(by first|rfl|(simp;done)|(simp [*];done)),H',⟨Nat.le_refl _⟩,by apply_rules only [Drawn0.refl _,Drawn0.step]⟩
 case round =>
  clear H';(try clear p2);obtain ⟨x9_1,rfl,HA,HK1,⟨m1,rfl⟩⟩:=hrel
  cases gk with
 |zero=>exact absurd HA.out (by simp [spec_l1Has.l0])
 |succ k1 =>
   have H:=HA.out;clear HA;simp only [spec_l1Has.l0] at H;by_cases c3:x9_1 < (l0.length:Int)
   ·
    rw [if_pos c3] at H;have c3b0:decide (x9_1 < (l0.length:Int))=true:=decide_eq_true c3;clear c3;by_cases c4:0≤x9_1
    ·
     rw [if_pos c4] at H;have c4b0:decide (0≤x9_1)=true:=decide_eq_true c4;clear c4;by_cases c5:x9_1 < (l0.length:Int)
     ·
      rw [if_pos c5] at H;have c5b0:decide (x9_1 < (l0.length:Int))=true:=decide_eq_true c5;clear c5;by_cases c6:(rd l0 x9_1)=a1
      · rw [if_pos c6] at H;have c6b0:((rd l0 x9_1) == a1)=true:=beq_iff_eq.mpr c6;have c6b1:((rd l0 x9_1) != a1)=false:=bne_eq_false_iff_eq.mpr c6;clear c6;obtain rfl:=Option.some.inj H;have p101:0≤(x9_1:Int):=of_decide_eq_true ‹_›;have q101:x9_1 < (l0.length:Int):=of_decide_eq_true ‹_›;obtain ⟨ad101,e101,hx101_0⟩:=Kd.at_int HR0.out x9_1 p101 q101;cases e101;replace p101:=eq_true p101;replace q101:=eq_true q101;(go_wp2);(go_ret);exact ⟨by first|rfl|(simp;done)|(simp [*];done),by apply_rules only [Drawn0.refl _,Drawn0.step]⟩
      · rw [if_neg c6] at H;have c6b0:((rd l0 x9_1) == a1)=false:=beq_eq_false_iff_ne.mpr c6;have c6b1:((rd l0 x9_1) != a1)=true:=bne_iff_ne.mpr c6;have H':=za H;clear H;have p101:0≤(x9_1:Int):=of_decide_eq_true ‹_›;have q101:x9_1 < (l0.length:Int):=of_decide_eq_true ‹_›;obtain ⟨ad101,e101,hx101_0⟩:=Kd.at_int HR0.out x9_1 p101 q101;cases e101;replace p101:=eq_true p101;replace q101:=eq_true q101;(go_wp2);(go_roundg k1);(case measure=>have:=HK1.out;omega);case rel=>exact ⟨(wrap64 (x9_1 + 1)),(by first|rfl|(simp;done)|(simp [*];done)),H',⟨by have:=HK1.out;omega⟩,by apply_rules only [Drawn0.refl _,Drawn0.step]⟩
     · rw [if_neg c5] at H;exact absurd H (by simp)
    · rw [if_neg c4] at H;exact absurd H (by simp)
   · rw [if_neg c3] at H;have c3b0:decide (x9_1 < (l0.length:Int))=false:=decide_eq_false c3;clear c3;obtain rfl:=Option.some.inj H;(go_wp2);(go_ret);exact ⟨by first|rfl|(simp;done)|(simp [*];done),by apply_rules only [Drawn0.refl _,Drawn0.step]⟩
end Go.Proofs.Ytgnmcfoenmfhcaa.Q
end
section
namespace Go.Proofs.Ytgnmcfoenmfhcaa.Q
open Go.RowKit Go.Proofs.YtgnmcfoenmfhcaaW.PrintWords Go.Proofs.YtgnmcfoenmfhcaaW.PrintLast Go.Proofs.YtgnmcfoenmfhcaaW.PrintMore
attribute [local go_sem] max2_int min2_int max_two min_two max_three min_three max_four min_four   -- for this text's walks alone
set_option linter.unusedVariables false
set_option linter.unusedSimpArgs false
def slices_Index_int_int.l0:Nat→List Int→Int→Int→Int→Option (Int)
|0,_,_,_,_=>none
|k + 1,x0,x1,x7,x8=>if x8 < x7 then (if 0≤x8 then (if x8 < (x0.length:Int) then (if x1=(rd x0 x8) then (some x8) else (slices_Index_int_int.l0 k x0 x1 x7 (wrap64 (x8 + 1)))) else (none)) else (none)) else (some (-1))
def slices_Index_int_int.f (k:Nat) (l0:List Int) (a1:Int):Option (Int):=slices_Index_int_int.l0 k l0 a1 (l0.length:Int) 0
set_option maxHeartbeats 8000000 in
set_option maxRecDepth 100000 in
theorem slices_Index_int_int.calls (k:Nat) (A0:Option Addr) (c0:Nat) (l0:List Int) (a1:Int) (r:Int) (w:World) (hr0:Kd.C (Kd.int .i64) w A0 l0.length l0) (hc0:l0.length≤c0) (h:slices_Index_int_int.f k l0 a1=some r) :
  Calls Try.prog 101 #[.slice A0 l0.length c0,.int .i64 a1] w fun e w'=>e=.returned (.int .i64 r)∧Drawn0 w w':=by
 have HR0:=za hr0;have HC0:=za hc0;clear hr0 hc0;have H:(slices_Index_int_int.l0 k l0 a1 (l0.length:Int) 0)=some r:=h;clear h;have H':=za H;clear H;(go_enter Try.func101,Try.ntmps101);(go_wp2);(go_loopg [8] k (fun kq v8 w'=>∃ (x8_1:Int),v8=.int .i64 x8_1∧Aside0 (slices_Index_int_int.l0 kq l0 a1 (l0.length:Int) x8_1=some r)∧Aside0 (kq≤k)∧Drawn0 w w'));case atStart=>exact ⟨(0),(by first|rfl|(simp;done)|(simp [*];done)),H',⟨Nat.le_refl _⟩,by apply_rules only [Drawn0.refl _,Drawn0.step]⟩
 case round =>
  clear H';(try clear c1);(try clear p2);obtain ⟨x8_1,rfl,HA,HK1,⟨m1,rfl⟩⟩:=hrel
  cases gk with
 |zero=>exact absurd HA.out (by simp [slices_Index_int_int.l0])
 |succ k1 =>
   have H:=HA.out;clear HA;simp only [slices_Index_int_int.l0] at H;by_cases c3:x8_1 < (l0.length:Int)
   ·
    rw [if_pos c3] at H;have c3b0:decide (x8_1 < (l0.length:Int))=true:=decide_eq_true c3;clear c3;by_cases c4:0≤x8_1
    ·
     rw [if_pos c4] at H;have c4b0:decide (0≤x8_1)=true:=decide_eq_true c4;clear c4;by_cases c5:x8_1 < (l0.length:Int)
     ·
      rw [if_pos c5] at H;have c5b0:decide (x8_1 < (l0.length:Int))=true:=decide_eq_true c5;clear c5;by_cases c6:a1=(rd l0 x8_1)
      · rw [if_pos c6] at H;have c6b0:(a1 == (rd l0 x8_1))=true:=beq_iff_eq.mpr c6;have c6b1:(a1 != (rd l0 x8_1))=false:=bne_eq_false_iff_eq.mpr c6;clear c6;obtain rfl:=Option.some.inj H;have p101:0≤(x8_1:Int):=of_decide_eq_true ‹_›;have q101:x8_1 < (l0.length:Int):=of_decide_eq_true ‹_›;obtain ⟨ad101,e101,hx101_0⟩:=Kd.at_int HR0.out x8_1 p101 q101;cases e101;replace p101:=eq_true p101;replace q101:=eq_true q101;(go_wp2);(go_ret);exact ⟨by first|rfl|(simp;done)|(simp [*];done),by apply_rules only [Drawn0.refl _,Drawn0.step]⟩
      · rw [if_neg c6] at H;have c6b0:(a1 == (rd l0 x8_1))=false:=beq_eq_false_iff_ne.mpr c6;have c6b1:(a1 != (rd l0 x8_1))=true:=bne_iff_ne.mpr c6;have H':=za H;clear H;have p101:0≤(x8_1:Int):=of_decide_eq_true ‹_›;have q101:x8_1 < (l0.length:Int):=of_decide_eq_true ‹_›;obtain ⟨ad101,e101,hx101_0⟩:=Kd.at_int HR0.out x8_1 p101 q101;cases e101;replace p101:=eq_true p101;replace q101:=eq_true q101;(go_wp2);(go_roundg k1);(case measure=>have:=HK1.out;omega);case rel=>exact ⟨(wrap64 (x8_1 + 1)),(by first|rfl|(simp;done)|(simp [*];done)),H',⟨by have:=HK1.out;omega⟩,by apply_rules only [Drawn0.refl _,Drawn0.step]⟩
     · rw [if_neg c5] at H;exact absurd H (by simp)
    · rw [if_neg c4] at H;exact absurd H (by simp)
   · rw [if_neg c3] at H;have c3b0:decide (x8_1 < (l0.length:Int))=false:=decide_eq_false c3;clear c3;obtain rfl:=Option.some.inj H;(go_wp2);(go_ret);exact ⟨by first|rfl|(simp;done)|(simp [*];done),by apply_rules only [Drawn0.refl _,Drawn0.step]⟩
end Go.Proofs.Ytgnmcfoenmfhcaa.Q
end
section
namespace Go.Proofs.Ytgnmcfoenmfhcaa.Q
open Go.RowKit Go.Proofs.YtgnmcfoenmfhcaaW.PrintWords Go.Proofs.YtgnmcfoenmfhcaaW.PrintLast Go.Proofs.YtgnmcfoenmfhcaaW.PrintMore
attribute [local go_sem] max2_int min2_int max_two min_two max_three min_three max_four min_four   -- for this text's walks alone
set_option linter.unusedVariables false
set_option linter.unusedSimpArgs false
def slices_Contains_int_int.f (k:Nat) (l0:List Int) (a1:Int):Option (Bool):=(slices_Index_int_int.f k l0 a1).bind fun t101=>(some (decide (t101 ≥ 0)))
set_option maxHeartbeats 8000000 in
set_option maxRecDepth 100000 in
theorem slices_Contains_int_int.calls (k:Nat) (A0:Option Addr) (c0:Nat) (l0:List Int) (a1:Int) (r:Bool) (w:World) (hr0:Kd.C (Kd.int .i64) w A0 l0.length l0) (hc0:l0.length≤c0) (h:slices_Contains_int_int.f k l0 a1=some r) :
  Calls Try.prog 128 #[.slice A0 l0.length c0,.int .i64 a1] w fun e w'=>e=.returned (.bool r)∧Drawn0 w w':=by
 have HR0:=za hr0;have HC0:=za hc0;clear hr0 hc0;have H:((slices_Index_int_int.f k l0 a1).bind fun t101=>(some (decide (t101 ≥ 0))))=some r:=h;clear h;obtain ⟨t101,A3,H⟩:=bindAside H;(try dsimp only at H);obtain rfl:=Option.some.inj H;(go_enter Try.func128,Try.ntmps128);(go_wp2_with (first|((with_reducible refine zB (f:=101) rfl ?_);refine goesL_ (some 7) rfl rfl Try.func101 (by kernel_rfl) rfl #[.slice A0 l0.length c0,.int .i64 a1] rfl (by first|rfl|simp only [z3_,z4_,z5_];try rfl) ?_;(with_reducible refine (slices_Index_int_int.calls k _ _ l0 a1 t101 _ ?side1 ?side2 A3.out).mono ?_);(case side1=>apply_rules only [HR0.out,zw,zx,zy]);(case side2=>exact HC0.out);rintro e w' ⟨rfl,⟨nd,rfl⟩⟩;refine ⟨_,rfl,?_⟩)));(go_ret);exact ⟨by first|rfl|(simp;done)|(simp [*];done),by apply_rules only [Drawn0.refl _,Drawn0.step]⟩
end Go.Proofs.Ytgnmcfoenmfhcaa.Q
end
section
namespace Go.Proofs.Ytgnmcfoenmfhcaa.PermK
set_option linter.unusedVariables false
open Go.RowKit Go.Proofs.Ytgnmcfoenmfhcaa.Q Go.Proofs.YtgnmcfoenmfhcaaW.PrintWords Go.Proofs.YtgnmcfoenmfhcaaW.PrintLast Go.Proofs.YtgnmcfoenmfhcaaW.PrintMore
open Go.Proofs.YtgnmcfoenmfhcaaL
theorem l1Has_l0 {l : List Int} (x : Int) (hl : l.length ≤ 4611686018427387904) : ∀ (d i : Nat), i + d = l.length → Ev (fun k => spec_l1Has.l0 k x l (l.length : Int) i) (decide (x ∈ l.drop i))
  | 0, i, hi => by
    refine Ev.step (f := fun _ => some (decide (x ∈ l.drop i))) (fun k => ?_) (Ev.now _)
    rw [spec_l1Has.l0, if_neg (by omega), List.drop_eq_nil_of_le (by omega)]; rfl
  | d + 1, i, hi => by
    have h1 : wrap64 ((i : Int) + 1) = ((i + 1 : Nat) : Int) := by rw [w64 (by omega) (by omega)]; rfl
    have hi2 : i < l.length := by omega
    rw [List.drop_eq_getElem_cons hi2]
    by_cases e : l[i] = x
    · refine Ev.step (f := fun _ => some (decide (x ∈ l[i] :: l.drop (i + 1)))) (fun k => ?_) (Ev.now _)
      rw [spec_l1Has.l0, if_pos (by omega), if_pos (by omega), if_pos (by omega), rd_lt _ _ hi2, if_pos e, decide_eq_true (by simp [e])]
    · have : (x ∈ l[i] :: l.drop (i + 1)) ↔ x ∈ l.drop (i + 1) := by
        rw [List.mem_cons]; exact ⟨fun h => h.resolve_left (fun h => e h.symm), Or.inr⟩
      rw [decide_eq_decide.mpr this]
      refine Ev.step (fun k => ?_) (l1Has_l0 x hl d (i + 1) (by omega))
      rw [spec_l1Has.l0, if_pos (by omega), if_pos (by omega), if_pos (by omega), rd_lt _ _ hi2, if_neg e, h1]
theorem l1Has {l : List Int} (x : Int) (hl : l.length ≤ 4611686018427387904) : Ev (fun k => spec_l1Has.f k l x) (decide (x ∈ l)) := by
  refine Ev.congr (fun k => ?_) (l1Has_l0 x hl l.length 0 (by omega))
  unfold spec_l1Has.f; rfl
theorem index_l0 {l : List Int} (x : Int) (hl : l.length ≤ 4611686018427387904) : ∀ (d i : Nat), i + d = l.length → ∃ r : Int, (decide (r ≥ 0) = decide (x ∈ l.drop i)) ∧ Ev (fun k => slices_Index_int_int.l0 k l x (l.length : Int) i) r
  | 0, i, hi => by
    refine ⟨-1, by rw [List.drop_eq_nil_of_le (by omega)]; rfl, Ev.step (f := fun _ => some (-1)) (fun k => ?_) (Ev.now _)⟩
    rw [slices_Index_int_int.l0, if_neg (by omega)]
  | d + 1, i, hi => by
    have h1 : wrap64 ((i : Int) + 1) = ((i + 1 : Nat) : Int) := by rw [w64 (by omega) (by omega)]; rfl
    have hi2 : i < l.length := by omega
    rw [List.drop_eq_getElem_cons hi2]
    by_cases e : x = l[i]
    · refine ⟨i, by rw [decide_eq_true (show x ∈ l[i] :: l.drop (i + 1) from List.mem_cons.2 (Or.inl e))]; simp, Ev.step (f := fun _ => some (i : Int)) (fun k => ?_) (Ev.now _)⟩
      rw [slices_Index_int_int.l0, if_pos (by omega), if_pos (by omega), if_pos (by omega), rd_lt _ _ hi2, if_pos e]
    · have : (x ∈ l[i] :: l.drop (i + 1)) ↔ x ∈ l.drop (i + 1) := by
        rw [List.mem_cons]; exact ⟨fun h => h.resolve_left e, Or.inr⟩
      rw [decide_eq_decide.mpr this]
      obtain ⟨r, hr, hev⟩ := index_l0 x hl d (i + 1) (by omega)
      refine ⟨r, hr, Ev.step (fun k => ?_) hev⟩
      rw [slices_Index_int_int.l0, if_pos (by omega), if_pos (by omega), if_pos (by omega), rd_lt _ _ hi2, if_neg e, h1]
theorem contains {l : List Int} (x : Int) (hl : l.length ≤ 4611686018427387904) : Ev (fun k => slices_Contains_int_int.f k l x) (decide (x ∈ l)) := by
  obtain ⟨r, hr, hev⟩ := index_l0 x hl l.length 0 (by omega)
  rw [List.drop_zero] at hr
  rw [← hr]
  unfold slices_Contains_int_int.f slices_Index_int_int.f
  exact Ev.bind (a := r) hev (Ev.now _)
end Go.Proofs.Ytgnmcfoenmfhcaa.PermK
end
section
namespace Go.Proofs.Ytgnmcfoenmfhcaa.Q
open Go.RowKit Go.Proofs.YtgnmcfoenmfhcaaW.PrintWords Go.Proofs.YtgnmcfoenmfhcaaW.PrintLast Go.Proofs.YtgnmcfoenmfhcaaW.PrintMore
attribute [local go_sem] max2_int min2_int max_two min_two max_three min_three max_four min_four   -- for this text's walks alone
set_option linter.unusedVariables false
set_option linter.unusedSimpArgs false
end Go.Proofs.Ytgnmcfoenmfhcaa.Q
end
section
namespace Go.Proofs.Ytgnmcfoenmfhcaa.Q
open Go.RowKit Go.Proofs.YtgnmcfoenmfhcaaW.PrintWords Go.Proofs.YtgnmcfoenmfhcaaW.PrintLast Go.Proofs.YtgnmcfoenmfhcaaW.PrintMore
attribute [local go_sem] max2_int min2_int max_two min_two max_three min_three max_four min_four   -- for this text's walks alone
set_option linter.unusedVariables false
set_option linter.unusedSimpArgs false
end Go.Proofs.Ytgnmcfoenmfhcaa.Q
end
section
namespace Go.Proofs.Ytgnmcfoenmfhcaa.Q
open Go.RowKit Go.Proofs.YtgnmcfoenmfhcaaW.PrintWords Go.Proofs.YtgnmcfoenmfhcaaW.PrintLast Go.Proofs.YtgnmcfoenmfhcaaW.PrintMore
attribute [local go_sem] max2_int min2_int max_two min_two max_three min_three max_four min_four   -- for this text's walks alone
set_option linter.unusedVariables false
set_option linter.unusedSimpArgs false
end Go.Proofs.Ytgnmcfoenmfhcaa.Q
end
section
namespace Go.Proofs.Ytgnmcfoenmfhcaa.Q
open Go.RowKit Go.Proofs.YtgnmcfoenmfhcaaW.PrintWords Go.Proofs.YtgnmcfoenmfhcaaW.PrintLast Go.Proofs.YtgnmcfoenmfhcaaW.PrintMore
attribute [local go_sem] max2_int min2_int max_two min_two max_three min_three max_four min_four   -- for this text's walks alone
set_option linter.unusedVariables false
set_option linter.unusedSimpArgs false
end Go.Proofs.Ytgnmcfoenmfhcaa.Q
end
section
namespace Go.Proofs.Ytgnmcfoenmfhcaa.Q
open Go.RowKit Go.Proofs.YtgnmcfoenmfhcaaW.PrintWords Go.Proofs.YtgnmcfoenmfhcaaW.PrintLast Go.Proofs.YtgnmcfoenmfhcaaW.PrintMore
attribute [local go_sem] max2_int min2_int max_two min_two max_three min_three max_four min_four   -- for this text's walks alone
set_option linter.unusedVariables false
set_option linter.unusedSimpArgs false
end Go.Proofs.Ytgnmcfoenmfhcaa.Q
end
section
namespace Go.Proofs.Ytgnmcfoenmfhcaa.Q
open Go.RowKit Go.Proofs.YtgnmcfoenmfhcaaW.PrintWords Go.Proofs.YtgnmcfoenmfhcaaW.PrintLast Go.Proofs.YtgnmcfoenmfhcaaW.PrintMore
attribute [local go_sem] max2_int min2_int max_two min_two max_three min_three max_four min_four   -- for this text's walks alone
set_option linter.unusedVariables false
set_option linter.unusedSimpArgs false
end Go.Proofs.Ytgnmcfoenmfhcaa.Q
end
section
namespace Go.Proofs.Ytgnmcfoenmfhcaa.LinesK
set_option linter.unusedVariables false
open Go.RowKit Go.Proofs.Ytgnmcfoenmfhcaa.Q Go.Proofs.YtgnmcfoenmfhcaaW.PrintWords Go.Proofs.YtgnmcfoenmfhcaaW.PrintLast Go.Proofs.YtgnmcfoenmfhcaaW.PrintMore
open Go.Proofs.YtgnmcfoenmfhcaaL Go.Proofs.Ytgnmcfoenmfhcaa.LawK Go.Proofs.Ytgnmcfoenmfhcaa.BoardK Go.Proofs.Ytgnmcfoenmfhcaa.PermK
theorem evEq {α : Type} {g : Nat → Option α} {a b : α} (h : Ev g a) (e : a = b) : Ev g b := e ▸ h
theorem within_f (a b c : Int) : impl_within.f a b c = some (inR b c a) := by
  unfold impl_within.f inR
  by_cases h : b ≤ a
  · rw [if_pos h]; simp [h]
  · rw [if_neg h]; congr 1; exact (decide_eq_false (by omega)).symm
end Go.Proofs.Ytgnmcfoenmfhcaa.LinesK
end
section
namespace Go.Proofs.Ytgnmcfoenmfhcaa.Q
open Go.RowKit Go.Proofs.YtgnmcfoenmfhcaaW.PrintWords Go.Proofs.YtgnmcfoenmfhcaaW.PrintLast Go.Proofs.YtgnmcfoenmfhcaaW.PrintMore
attribute [local go_sem] max2_int min2_int max_two min_two max_three min_three max_four min_four   -- for this text's walks alone
set_option linter.unusedVariables false
set_option linter.unusedSimpArgs false
end Go.Proofs.Ytgnmcfoenmfhcaa.Q
end
section
namespace Go.Proofs.Ytgnmcfoenmfhcaa.Q
open Go.RowKit Go.Proofs.YtgnmcfoenmfhcaaW.PrintWords Go.Proofs.YtgnmcfoenmfhcaaW.PrintLast Go.Proofs.YtgnmcfoenmfhcaaW.PrintMore
attribute [local go_sem] max2_int min2_int max_two min_two max_three min_three max_four min_four   -- for this text's walks alone
set_option linter.unusedVariables false
set_option linter.unusedSimpArgs false
end Go.Proofs.Ytgnmcfoenmfhcaa.Q
end
section
namespace Go.Proofs.Ytgnmcfoenmfhcaa.MostK
set_option linter.unusedVariables false
open Go.RowKit Go.Proofs.Ytgnmcfoenmfhcaa.Q Go.Proofs.YtgnmcfoenmfhcaaW.PrintWords Go.Proofs.YtgnmcfoenmfhcaaW.PrintLast Go.Proofs.YtgnmcfoenmfhcaaW.PrintMore
open Go.Proofs.YtgnmcfoenmfhcaaL Go.Proofs.Ytgnmcfoenmfhcaa.LawK Go.Proofs.Ytgnmcfoenmfhcaa.BoardK Go.Proofs.Ytgnmcfoenmfhcaa.LinesK Go.Proofs.Ytgnmcfoenmfhcaa.Koenig
def mostN (l : List Int) (C : Nat) : Nat → Nat → Nat → Nat
  | 0, _, _ => 0
  | d + 1, r, used => (List.range' 0 C).foldl (fun a c => if (cell l r c && !used.testBit c) = true then (if a > 1 + mostN l C d (r + 1) (used ||| 2 ^ c) then a else 1 + mostN l C d (r + 1) (used ||| 2 ^ c)) else a) (mostN l C d (r + 1) used)
theorem foldl_inv {α β : Type} (P : β → Prop) (s : β → α → β) : ∀ (l : List α) (a : β), P a → (∀ a c, c ∈ l → P a → P (s a c)) → P (l.foldl s a)
  | [], a, h, _ => h
  | c :: t, a, h, hs => foldl_inv P s t (s a c) (hs a c (by simp) h) (fun a c hc => hs a c (by simp [hc]))
theorem mostN_le (l : List Int) (C : Nat) : ∀ d r used, mostN l C d r used ≤ d
  | 0, r, used => Nat.le_refl _
  | d + 1, r, used => by
    rw [mostN]
    refine foldl_inv (fun a => a ≤ d + 1) _ _ _ (Nat.le_succ_of_le (mostN_le l C d (r + 1) used)) ?_
    intro a c _ h
    have := mostN_le l C d (r + 1) (used ||| 2 ^ c)
    try simp only []
    split
    · split <;> omega
    · exact h
theorem foldl_base (p : Nat → Bool) (g : Nat → Nat) : ∀ (l : List Nat) (a : Nat), a ≤ l.foldl (fun a c => if p c = true then (if a > g c then a else g c) else a) a
  | [], a => Nat.le_refl _
  | c :: t, a => by
    rw [List.foldl_cons]
    refine Nat.le_trans ?_ (foldl_base p g t _)
    split
    · split <;> omega
    · exact Nat.le_refl _
theorem foldl_elem (p : Nat → Bool) (g : Nat → Nat) : ∀ (l : List Nat) (a : Nat) (c : Nat), c ∈ l → p c = true → g c ≤ l.foldl (fun a c => if p c = true then (if a > g c then a else g c) else a) a
  | [], a, c, h, _ => by cases h
  | x :: t, a, c, h, hp => by
    rw [List.foldl_cons]
    rcases List.mem_cons.1 h with rfl | h
    · refine Nat.le_trans ?_ (foldl_base p g t _)
      rw [if_pos hp]
      split <;> omega
    · exact foldl_elem p g t _ c h hp
structure From (G : Nat → Nat → Bool) (r used : Nat) (f : Nat → Option Nat) : Prop where
  m : Match G f
  far : ∀ q c, f q = some c → r ≤ q ∧ used.testBit c = false
theorem size_put {f : Nat → Option Nat} {r c : Nat} (hr : r < 6) (h : f r = none) : size (fun q => if q = r then some c else f q) = size f + 1 := by
  unfold size
  rw [← cnt_add (p := fun q => (f q).isSome) hr (by rw [h]; rfl)]
  refine cnt_congr fun x _ => ?_
  by_cases e : x = r
  · subst e; simp
  · simp [e]
theorem size_none : size (fun _ => none) = 0 := cnt_false
theorem size_congr {f g : Nat → Option Nat} (h : ∀ x, x < 6 → f x = g x) : size f = size g := cnt_congr fun x hx => by rw [h x hx]
theorem reach {l : List Int} {R C : Nat} (hR : R ≤ 6) (hC : C ≤ 6) : ∀ d r used, r + d = R → ∃ f, From (cell l) r used f ∧ size f = mostN l C d r used
  | 0, r, used, _ => ⟨fun _ => none, ⟨⟨fun r c h => (by cases h), fun r r' c h => (by cases h)⟩, fun q c h => (by cases h)⟩, size_none⟩
  | d + 1, r, used, hd => by
    rw [mostN]
    refine foldl_inv (fun a => ∃ f, From (cell l) r used f ∧ size f = a) _ _ _ ?_ ?_
    · obtain ⟨f, hf, hs⟩ := reach (l := l) hR hC d (r + 1) used (by omega)
      exact ⟨f, ⟨hf.m, fun q c h => by have := hf.far q c h; exact ⟨by omega, this.2⟩⟩, hs⟩
    · intro a c hc h
      try simp only []
      split
      · rename_i hg
        rw [Bool.and_eq_true] at hg
        split
        · exact h
        · obtain ⟨f, hf, hs⟩ := reach (l := l) hR hC d (r + 1) (used ||| 2 ^ c) (by omega)
          have hfr : f r = none := by
            cases e : f r with
            | none => rfl
            | some x => have := hf.far r x e; omega
          have hcC : c < C := by have := (List.mem_range'_1.1 hc).2; omega
          have hne : ∀ q x, f q = some x → x ≠ c := fun q x e h2 => by
            have := (hf.far q x e).2
            rw [h2, Nat.testBit_or, Nat.testBit_two_pow] at this
            simp at this
          refine ⟨fun q => if q = r then some c else f q, ⟨⟨fun q x e => ?_, fun q q' x e e' => ?_⟩, fun q x e => ?_⟩, by rw [size_put (by omega) hfr, hs]; omega⟩
          · try simp only [] at e
            split at e
            · rename_i hq; injection e with e; subst hq e; exact ⟨by omega, by omega, hg.1⟩
            · exact hf.m.edge q x e
          · try simp only [] at e e'
            split at e
            · rename_i hq
              injection e with e
              split at e'
              · rename_i hq'; omega
              · exact absurd e.symm (hne q' x e')
            · split at e'
              · injection e' with e'; exact absurd e'.symm (hne q x e)
              · exact hf.m.inj q q' x e e'
          · try simp only [] at e
            split at e
            · rename_i hq
              injection e with e
              subst hq e
              exact ⟨Nat.le_refl _, by simpa using hg.2⟩
            · have := hf.far q x e
              refine ⟨by omega, ?_⟩
              have h2 := this.2
              rw [Nat.testBit_or] at h2
              simp at h2
              exact h2.1
      · exact h
theorem bound {l : List Int} {R C : Nat} (hlR : l.length = R) (hR : R ≤ 6) (hC : C ≤ 6) (hb : ∀ i (hi : i < l.length), 0 ≤ l[i] ∧ l[i] < 2 ^ C) : ∀ d r used f, r + d = R → From (cell l) r used f → size f ≤ mostN l C d r used
  | 0, r, used, f, hd, hf => by
    have : size f = 0 := by
      rw [← size_none]
      refine size_congr fun x hx => ?_
      cases e : f x with
      | none => rfl
      | some c =>
        have h1 := (hf.far x c e).1
        have h2 := (hf.m.edge x c e).2.2
        unfold cell at h2
        rw [gD_ge _ _ (by omega)] at h2
        simp at h2
    omega
  | d + 1, r, used, f, hd, hf => by
    rw [mostN]
    cases e : f r with
    | none =>
      refine Nat.le_trans (bound hlR hR hC hb d (r + 1) used f (by omega) ⟨hf.m, fun q c h => ?_⟩) (foldl_base _ (fun c => 1 + mostN l C d (r + 1) (used ||| 2 ^ c)) _ _)
      have := hf.far q c h
      refine ⟨?_, this.2⟩
      by_cases hq : q = r
      · subst hq; rw [e] at h; cases h
      · omega
    | some c =>
      have he := hf.m.edge r c e
      have hu := (hf.far r c e).2
      have hcC : c < C := by
        by_cases h : c < C
        · exact h
        · have h2 := he.2.2
          unfold cell at h2
          by_cases hr : r < l.length
          · rw [gD_lt _ _ hr] at h2
            have := hb r hr
            have h3 : l[r].toNat < 2 ^ C := by
              have h4 : ((l[r].toNat : Nat) : Int) < ((2 ^ C : Nat) : Int) := by rw [Int.toNat_of_nonneg this.1]; exact_mod_cast this.2
              exact_mod_cast h4
            rw [Nat.testBit_lt_two_pow (Nat.lt_of_lt_of_le h3 (Nat.pow_le_pow_right (by decide) (by omega)))] at h2
            cases h2
          · rw [gD_ge _ _ (by omega)] at h2; simp at h2
      have hs : size f = size (fun q => if q = r then none else f q) + 1 := by
        rw [← size_put (f := fun q => if q = r then none else f q) (r := r) (c := c) he.1 (by simp)]
        refine size_congr fun x _ => ?_
        by_cases hx : x = r
        · subst hx; simp [e]
        · simp [hx]
      have ih := bound hlR hR hC hb d (r + 1) (used ||| 2 ^ c) (fun q => if q = r then none else f q) (by omega) ⟨⟨fun q x h => ?_, fun q q' x h h' => ?_⟩, fun q x h => ?_⟩
      · have h2 := foldl_elem (fun c => cell l r c && !used.testBit c) (fun c => 1 + mostN l C d (r + 1) (used ||| 2 ^ c)) (List.range' 0 C) (mostN l C d (r + 1) used) c (List.mem_range'_1.2 ⟨by omega, by omega⟩) (by rw [he.2.2, hu]; rfl)
        try simp only [] at h2
        omega
      · try simp only [] at h
        split at h
        · cases h
        · exact hf.m.edge q x h
      · try simp only [] at h h'
        split at h
        · cases h
        · split at h'
          · cases h'
          · exact hf.m.inj q q' x h h'
      · try simp only [] at h
        split at h
        · cases h
        · rename_i hq
          have := hf.far q x h
          refine ⟨by omega, ?_⟩
          rw [Nat.testBit_or, this.2, Nat.testBit_two_pow, Bool.false_or, decide_eq_false_iff_not]
          intro e2
          subst e2
          exact hq (hf.m.inj q r c h e)
theorem most_min {l : List Int} {R C : Nat} (hlR : l.length = R) (hR : R ≤ 6) (hC : C ≤ 6) (hb : ∀ i (hi : i < l.length), 0 ≤ l[i] ∧ l[i] < 2 ^ C) : (∃ S, kap (cell l) S = mostN l C R 0 0) ∧ ∀ S, mostN l C R 0 0 ≤ kap (cell l) S := by
  obtain ⟨f0, S0, hM, hs⟩ := koenig _ (cell l) rfl
  obtain ⟨f, hf, hfs⟩ := reach (l := l) (C := C) hR hC R 0 0 (by omega)
  have h1 := weak hf.m S0
  have h2 := bound hlR hR hC hb R 0 0 f0 (by omega) ⟨hM, fun q c _ => ⟨by omega, Nat.zero_testBit c⟩⟩
  refine ⟨⟨S0, by omega⟩, fun S => ?_⟩
  have h3 := weak hM S
  omega
end Go.Proofs.Ytgnmcfoenmfhcaa.MostK
end
section
namespace Go.Proofs.Ytgnmcfoenmfhcaa.Q
open Go.RowKit Go.Proofs.YtgnmcfoenmfhcaaW.PrintWords Go.Proofs.YtgnmcfoenmfhcaaW.PrintLast Go.Proofs.YtgnmcfoenmfhcaaW.PrintMore
attribute [local go_sem] max2_int min2_int max_two min_two max_three min_three max_four min_four   -- for this text's walks alone
set_option linter.unusedVariables false
set_option linter.unusedSimpArgs false
def impl_rooks.l0:Nat→Int→List Int→Int→Int→Option (Int)
|0,_,_,_,_=>none
|k + 1,x3,x6,x7,x8=>if x8 < x7 then (if 0≤x8 then (if x8 < (x6.length:Int) then (if (rd x6 x8)=(-1) then (impl_rooks.l0 k x3 x6 x7 (wrap64 (x8 + 1))) else (impl_rooks.l0 k (wrap64 (x3 + 1)) x6 x7 (wrap64 (x8 + 1)))) else (none)) else (none)) else (some x3)
def impl_rooks.f (k:Nat) (l0:List Int):Option (Int):=impl_rooks.l0 k 0 l0 (l0.length:Int) 0
set_option maxHeartbeats 8000000 in
set_option maxRecDepth 100000 in
theorem impl_rooks.calls (k:Nat) (A0:Option Addr) (c0:Nat) (l0:List Int) (r:Int) (w:World) (hr0:Kd.C (Kd.int .i64) w A0 l0.length l0) (hc0:l0.length≤c0) (h:impl_rooks.f k l0=some r) :
  Calls Try.prog 97 #[.slice A0 l0.length c0] w fun e w'=>e=.returned (.int .i64 r)∧Drawn0 w w':=by
 have HR0:=za hr0;have HC0:=za hc0;clear hr0 hc0;have H:(impl_rooks.l0 k 0 l0 (l0.length:Int) 0)=some r:=h;clear h;have H':=za H;clear H;(go_enter Try.func97,Try.ntmps97);(go_wp2);(go_loopg [3,8] k (fun kq v3 v8 w'=>∃ (x3_1:Int) (x8_1:Int),v3=.int .i64 x3_1∧v8=.int .i64 x8_1∧Aside0 (impl_rooks.l0 kq x3_1 l0 (l0.length:Int) x8_1=some r)∧Aside0 (kq≤k)∧Drawn0 w w'));case atStart=>exact ⟨(0),(0),(by first|rfl|(simp;done)|(simp [*];done)),(by first|rfl|(simp;done)|(simp [*];done)),H',⟨Nat.le_refl _⟩,by apply_rules only [Drawn0.refl _,Drawn0.step]⟩
 case round =>
  clear H';obtain ⟨x3_1,x8_1,rfl,rfl,HA,HK1,⟨m1,rfl⟩⟩:=hrel
  cases gk with
 |zero=>exact absurd HA.out (by simp [impl_rooks.l0])
 |succ k1 =>
   have H:=HA.out;clear HA;simp only [impl_rooks.l0] at H;by_cases c2:x8_1 < (l0.length:Int)
   ·
    rw [if_pos c2] at H;have c2b0:decide (x8_1 < (l0.length:Int))=true:=decide_eq_true c2;clear c2;by_cases c3:0≤x8_1
    ·
     rw [if_pos c3] at H;have c3b0:decide (0≤x8_1)=true:=decide_eq_true c3;clear c3;by_cases c4:x8_1 < (l0.length:Int)
     ·
      rw [if_pos c4] at H;have c4b0:decide (x8_1 < (l0.length:Int))=true:=decide_eq_true c4;clear c4;by_cases c5:(rd l0 x8_1)=(-1)
      · rw [if_pos c5] at H;have c5b0:((rd l0 x8_1) == (-1))=true:=beq_iff_eq.mpr c5;have c5b1:((rd l0 x8_1) != (-1))=false:=bne_eq_false_iff_eq.mpr c5;clear c5;have H':=za H;clear H;have p101:0≤(x8_1:Int):=of_decide_eq_true ‹_›;have q101:x8_1 < (l0.length:Int):=of_decide_eq_true ‹_›;obtain ⟨ad101,e101,hx101_0⟩:=Kd.at_int HR0.out x8_1 p101 q101;cases e101;replace p101:=eq_true p101;replace q101:=eq_true q101;(go_wp2);(go_roundg k1);(case measure=>have:=HK1.out;omega);case rel=>exact ⟨(x3_1),(wrap64 (x8_1 + 1)),(by first|rfl|(simp;done)|(simp [*];done)),(by first|rfl|(simp;done)|(simp [*];done)),H',⟨by have:=HK1.out;omega⟩,by apply_rules only [Drawn0.refl _,Drawn0.step]⟩
      · rw [if_neg c5] at H;have c5b0:((rd l0 x8_1) == (-1))=false:=beq_eq_false_iff_ne.mpr c5;have c5b1:((rd l0 x8_1) != (-1))=true:=bne_iff_ne.mpr c5;have H':=za H;clear H;have p101:0≤(x8_1:Int):=of_decide_eq_true ‹_›;have q101:x8_1 < (l0.length:Int):=of_decide_eq_true ‹_›;obtain ⟨ad101,e101,hx101_0⟩:=Kd.at_int HR0.out x8_1 p101 q101;cases e101;replace p101:=eq_true p101;replace q101:=eq_true q101;(go_wp2);(go_roundg k1);(case measure=>have:=HK1.out;omega);case rel=>exact ⟨(wrap64 (x3_1 + 1)),(wrap64 (x8_1 + 1)),(by first|rfl|(simp;done)|(simp [*];done)),(by first|rfl|(simp;done)|(simp [*];done)),H',⟨by have:=HK1.out;omega⟩,by apply_rules only [Drawn0.refl _,Drawn0.step]⟩
     · rw [if_neg c4] at H;exact absurd H (by simp)
    · rw [if_neg c3] at H;exact absurd H (by simp)
   · rw [if_neg c2] at H;have c2b0:decide (x8_1 < (l0.length:Int))=false:=decide_eq_false c2;clear c2;obtain rfl:=Option.some.inj H;(go_wp2);(go_ret);exact ⟨by first|rfl|(simp;done)|(simp [*];done),by apply_rules only [Drawn0.refl _,Drawn0.step]⟩
end Go.Proofs.Ytgnmcfoenmfhcaa.Q
end
section
namespace Go.Proofs.Ytgnmcfoenmfhcaa.Walk
set_option linter.unusedVariables false
open Go.RowKit Go.Proofs.YtgnmcfoenmfhcaaW.PrintWords Go.Proofs.YtgnmcfoenmfhcaaW.PrintLast Go.Proofs.YtgnmcfoenmfhcaaW.PrintMore
open Go.Proofs.YtgnmcfoenmfhcaaL Go.Proofs.Ytgnmcfoenmfhcaa.LawK Go.Proofs.Ytgnmcfoenmfhcaa.BoardK Go.Proofs.Ytgnmcfoenmfhcaa.Q
def rooksN (l : List Int) : Nat := l.countP (fun x => x != -1)
theorem rooks_l0 {l : List Int} (hl : l.length ≤ 1048576) : ∀ (d i n : Nat), i + d = l.length → n ≤ i → Ev (fun k => impl_rooks.l0 k n l (l.length : Int) i) ((n + rooksN (l.drop i) : Nat) : Int)
  | 0, i, n, hi, hn => by
    refine Ev.step (f := fun _ => some ((n + rooksN (l.drop i) : Nat) : Int)) (fun k => ?_) (Ev.now _)
    rw [impl_rooks.l0, if_neg (by omega), List.drop_eq_nil_of_le (by omega)]; rfl
  | d + 1, i, n, hi, hn => by
    have h1 : wrap64 ((i : Int) + 1) = ((i + 1 : Nat) : Int) := by rw [w64 (by omega) (by omega)]; rfl
    have h2 : wrap64 ((n : Int) + 1) = ((n + 1 : Nat) : Int) := by rw [w64 (by omega) (by omega)]; rfl
    have hi2 : i < l.length := by omega
    rw [List.drop_eq_getElem_cons hi2, rooksN, List.countP_cons]
    by_cases hx : l[i] = -1
    · have ih := rooks_l0 hl d (i + 1) n (by omega) (by omega)
      rw [rooksN] at ih
      rw [if_neg (by simp [hx]), Nat.add_zero]
      refine Ev.step (fun k => ?_) ih
      rw [impl_rooks.l0, if_pos (by omega), if_pos (by omega), if_pos (by omega), rd_lt _ _ hi2, if_pos hx, h1]
    · have ih := rooks_l0 hl d (i + 1) (n + 1) (by omega) (by omega)
      rw [rooksN] at ih
      rw [if_pos (by simpa using hx)]
      rw [show n + (List.countP (fun x => x != -1) (List.drop (i + 1) l) + 1) = n + 1 + List.countP (fun x => x != -1) (List.drop (i + 1) l) by omega]
      refine Ev.step (fun k => ?_) ih
      rw [impl_rooks.l0, if_pos (by omega), if_pos (by omega), if_pos (by omega), rd_lt _ _ hi2, if_neg hx, h1, h2]
theorem rooks_f {l : List Int} (hl : l.length ≤ 1048576) : ∃ k, impl_rooks.f k l = some (rooksN l : Int) := by
  have h := rooks_l0 hl l.length 0 0 (by omega) (by omega)
  rw [List.drop_zero, Nat.zero_add] at h
  exact h.rounds
end Go.Proofs.Ytgnmcfoenmfhcaa.Walk
end
section
namespace Go.Proofs.Ytgnmcfoenmfhcaa.MostK
set_option linter.unusedVariables false
open Go.RowKit Go.Proofs.Ytgnmcfoenmfhcaa.Q Go.Proofs.YtgnmcfoenmfhcaaW.PrintWords Go.Proofs.YtgnmcfoenmfhcaaW.PrintLast Go.Proofs.YtgnmcfoenmfhcaaW.PrintMore
open Go.Proofs.YtgnmcfoenmfhcaaL Go.Proofs.Ytgnmcfoenmfhcaa.LawK Go.Proofs.Ytgnmcfoenmfhcaa.BoardK Go.Proofs.Ytgnmcfoenmfhcaa.LinesK Go.Proofs.Ytgnmcfoenmfhcaa.Koenig Go.Proofs.Ytgnmcfoenmfhcaa.Walk
theorem rooks_none (pre : List Int) : rooksN (pre ++ [-1]) = rooksN pre := by
  unfold rooksN
  rw [List.countP_append]
  rfl
theorem rooks_some (pre : List Int) {c : Int} (h : c ≠ -1) : rooksN (pre ++ [c]) = rooksN pre + 1 := by
  unfold rooksN
  rw [List.countP_append, List.countP_singleton, if_pos (by simpa using h)]
theorem col_none (l : List Int) (r t : Nat) (pre : List Int) (next : Nat → List Int → List (List Int)) : colWays l r t pre next (-1) = next t (pre ++ [-1]) := by
  unfold colWays
  rw [if_pos (by omega)]
theorem col_some (l : List Int) (r t : Nat) (pre : List Int) (next : Nat → List Int → List (List Int)) (c : Nat) : colWays l r t pre next (c : Int) = if (cell l r c && !t.testBit c) = true then next (t ||| 2 ^ c) (pre ++ [(c : Int)]) else [] := by
  unfold colWays
  rw [if_neg (by omega), Int.toNat_natCast]
theorem mem_cols {C : Nat} {c : Int} : c ∈ iota (-1) (C + 1) ↔ c = -1 ∨ ∃ n : Nat, c = n ∧ n < C := by
  constructor
  · intro h
    obtain ⟨i, hi, e⟩ := List.mem_iff_getElem.1 h
    rw [iota_get] at e
    rw [iota_length] at hi
    by_cases h0 : i = 0
    · left; omega
    · right; exact ⟨i - 1, by omega, by omega⟩
  · rintro (rfl | ⟨n, rfl, hn⟩)
    · exact mem_iota (by omega) (by omega)
    · exact mem_iota (by omega) (by omega)
theorem ways_most (l : List Int) (C : Nat) : ∀ (d r t : Nat) (pre : List Int), (∀ q ∈ waysFrom l C d r t pre, rooksN q ≤ rooksN pre + mostN l C d r t) ∧ ∃ q ∈ waysFrom l C d r t pre, rooksN q = rooksN pre + mostN l C d r t
  | 0, r, t, pre => by
    rw [waysFrom, mostN]
    exact ⟨fun q hq => by rw [List.mem_singleton.1 hq]; exact Nat.le_refl _, pre, List.mem_singleton.2 rfl, rfl⟩
  | d + 1, r, t, pre => by
    have hbase := foldl_base (fun c => cell l r c && !t.testBit c) (fun c => 1 + mostN l C d (r + 1) (t ||| 2 ^ c)) (List.range' 0 C) (mostN l C d (r + 1) t)
    have helem := fun c => foldl_elem (fun c => cell l r c && !t.testBit c) (fun c => 1 + mostN l C d (r + 1) (t ||| 2 ^ c)) (List.range' 0 C) (mostN l C d (r + 1) t) c
    rw [waysFrom, mostN]
    constructor
    · intro q hq
      rw [List.mem_flatMap] at hq
      obtain ⟨c, hc, hq⟩ := hq
      rcases mem_cols.1 hc with rfl | ⟨n, rfl, hn⟩
      · rw [col_none] at hq
        have := (ways_most l C d (r + 1) t (pre ++ [-1])).1 q hq
        rw [rooks_none] at this
        exact Nat.le_trans this (Nat.add_le_add_left hbase _)
      · rw [col_some] at hq
        split at hq
        · rename_i hg
          have := (ways_most l C d (r + 1) (t ||| 2 ^ n) (pre ++ [(n : Int)])).1 q hq
          rw [rooks_some pre (by omega)] at this
          have h2 := helem n (List.mem_range'_1.2 ⟨by omega, by omega⟩) hg
          try simp only [] at h2
          refine Nat.le_trans this ?_
          rw [Nat.add_assoc]
          exact Nat.add_le_add_left h2 _
        · cases hq
    · refine foldl_inv (fun a => ∃ q ∈ (iota (-1) (C + 1)).flatMap (colWays l r t pre (waysFrom l C d (r + 1))), rooksN q = rooksN pre + a) _ _ _ ?_ ?_
      · obtain ⟨q, hq, e⟩ := (ways_most l C d (r + 1) t (pre ++ [-1])).2
        rw [rooks_none] at e
        exact ⟨q, List.mem_flatMap.2 ⟨-1, mem_cols.2 (.inl rfl), by rw [col_none]; exact hq⟩, e⟩
      · intro a c hc h
        try simp only []
        split
        · rename_i hg
          split
          · exact h
          · obtain ⟨q, hq, e⟩ := (ways_most l C d (r + 1) (t ||| 2 ^ c) (pre ++ [(c : Int)])).2
            rw [rooks_some pre (by omega)] at e
            refine ⟨q, List.mem_flatMap.2 ⟨(c : Int), mem_cols.2 (.inr ⟨c, rfl, by have := (List.mem_range'_1.1 hc).2; omega⟩), by rw [col_some, if_pos hg]; exact hq⟩, by omega⟩
        · exact h
theorem cell_bit {l : List Int} {C r c : Nat} (hb : ∀ i (hi : i < l.length), 0 ≤ l[i] ∧ l[i] < 2 ^ C) (h : cell l r c = true) : c < C := by
  by_cases hc : c < C
  · exact hc
  · unfold cell at h
    by_cases hr : r < l.length
    · rw [gD_lt _ _ hr] at h
      have := hb r hr
      have h3 : l[r].toNat < 2 ^ C := by
        have h4 : ((l[r].toNat : Nat) : Int) < ((2 ^ C : Nat) : Int) := by rw [Int.toNat_of_nonneg this.1]; exact_mod_cast this.2
        exact_mod_cast h4
      rw [Nat.testBit_lt_two_pow (Nat.lt_of_lt_of_le h3 (Nat.pow_le_pow_right (by decide) (by omega)))] at h
      cases h
    · rw [gD_ge _ _ (by omega)] at h; simp at h
theorem cnt_lt : ∀ C : Fin 7, cnt (fun c => decide (c < C.val)) = C.val := by decide
theorem most_cols {l : List Int} {R C : Nat} (hlR : l.length = R) (hR : R ≤ 6) (hC : C ≤ 6) (hb : ∀ i (hi : i < l.length), 0 ≤ l[i] ∧ l[i] < 2 ^ C) : mostN l C R 0 0 ≤ C := by
  have h := (most_min hlR hR hC hb).2 (fun _ => true)
  have h2 : kap (cell l) (fun _ => true) ≤ C := by
    unfold kap
    have e : (fun (r : Nat) => !true) = fun _ => false := rfl
    rw [e, cnt_false, Nat.zero_add]
    have h3 := cnt_lt ⟨C, by omega⟩
    simp only [] at h3
    rw [← h3]
    refine cnt_mono fun c _ hc => ?_
    obtain ⟨r, _, _, hg⟩ := nb_iff.1 hc
    exact decide_eq_true (cell_bit hb hg)
  omega
theorem ways_le {l : List Int} {R C : Nat} (hlR : l.length = R) (hR : R ≤ 6) (hC : C ≤ 6) (hb : ∀ i (hi : i < l.length), 0 ≤ l[i] ∧ l[i] < 2 ^ C) : ∀ q ∈ waysFrom l C R 0 0 [], (rooksN q : Int) ≤ min (R : Int) (C : Int) := by
  intro q hq
  have h := (ways_most l C R 0 0 []).1 q hq
  have h1 := mostN_le l C R 0 0
  have h2 := most_cols hlR hR hC hb
  have h3 : rooksN [] = 0 := rfl
  omega
end Go.Proofs.Ytgnmcfoenmfhcaa.MostK
end
section
namespace Go.Proofs.Ytgnmcfoenmfhcaa.NumK
set_option linter.unusedVariables false
set_option linter.unusedSectionVars false
open Go.RowKit Go.Proofs.YtgnmcfoenmfhcaaW.PrintWords Go.Proofs.YtgnmcfoenmfhcaaW.PrintLast Go.Proofs.YtgnmcfoenmfhcaaW.PrintMore
open Go.Proofs.YtgnmcfoenmfhcaaL Go.Proofs.Ytgnmcfoenmfhcaa.LawK Go.Proofs.Ytgnmcfoenmfhcaa.BoardK Go.Proofs.Ytgnmcfoenmfhcaa.Walk Go.Proofs.Ytgnmcfoenmfhcaa.Q
def numsF (m : Nat) (vis : List (List Int)) : List Int := vis.foldl (fun o p => o.set ((rooksN p : Nat) : Int).toNat (IntKind.i64.wrap (rdOf 0 o ((rooksN p : Nat) : Int) + 1))) (List.replicate m 0)
section
variable (hI : Int) (R m cp a go ga cp2 kk bs : Nat) (ps out : List Int) (w : World)
  (hps : ps.length = R) (hcp : R ≤ cp) (hr : Kd.C (Kd.int .i64) w (some ⟨a, 0, none⟩) R ps)
  (hgo : w.heap[go]? = some (.cells #[.slice (some ⟨ga, 0, none⟩) m cp2] 24 (0, 0)))
  (ho : Kd.R (Kd.int .i64) 3 w bs (fun i => i = ga) (.slice (some ⟨ga, 0, none⟩) m cp2) out)
  (hh : impl_rooks.f kk ps = some hI) (h0 : 0 ≤ hI) (h1 : hI < (m : Int))
include hps hcp hr hgo ho hh h0 h1
set_option maxHeartbeats 4000000 in
set_option maxRecDepth 100000 in
theorem nm1 : Calls Try.prog 143 #[.slice (some ⟨a, 0, none⟩) R cp, .pointer (some ⟨go, 0, none⟩)] w
    fun e w' => e = .returned (.bool true) ∧ ∃ W2, Below w.heap.size w W2 ∧ w' = W2.setCell ⟨ga, hI.toNat, none⟩ (.int .i64 (IntKind.i64.wrap (rdOf 0 out hI + 1))) := by
  have CX := Lib.hid (fun (W : World) (hb : Below w.heap.size w W) => by
    have := impl_rooks.calls kk (some ⟨a, 0, none⟩) cp ps hI W (by rw [hps]; exact Kd.C_below hr hb) (by rw [hps]; exact hcp) hh
    rw [hps] at this
    have h2 : Calls Try.prog 97 #[.slice (some ⟨a, 0, none⟩) R cp] W fun e w' => e = .returned (.int .i64 hI) ∧ Below w.heap.size w w' := this.mono (by rintro e w' ⟨rfl, h3⟩; exact ⟨rfl, hb.trans (h3.below.mono hb.size)⟩)
    exact h2)
  have FX := Lib.hid (fun (W : World) (hb : Below w.heap.size w W) => Kd.R_celln 0 (Kd.R_below ho hb) hI h0 h1)
  have BO := Aside0.mk hgo
  have hz1 : w.cell? ⟨go, 0, none⟩ = some (.slice (some ⟨ga, 0, none⟩) m cp2) := (blk_cell hgo 0).trans rfl
  have p1 := eq_true h0
  have p2 := eq_true h1
  clear hps hcp hr hgo ho hh h0 h1
  go_enter Try.func143, Try.ntmps143
  go_wp2
  go_region_with ((go_at_call 97; refine (CX.out _ (by repeat (first | exact Below.refl _ _ | apply below_drew1 | apply pw_below_drewN))).mono ?_; rintro e w2 ⟨rfl, hb⟩; have hb2 := Aside0.mk hb; have hz5 : w2.cell? ⟨go, 0, none⟩ = some (.slice (some ⟨ga, 0, none⟩) m cp2) := (blk_cell (blk_below BO.out hb) 0).trans rfl; obtain ⟨hx, hf⟩ := FX.out w2 hb; clear hb))
  all_goals (try go_wp2)
  all_goals go_ret
  all_goals exact ⟨rfl, w2, hb2.out, rfl⟩
end
end Go.Proofs.Ytgnmcfoenmfhcaa.NumK
namespace Go.Proofs.Ytgnmcfoenmfhcaa.Q
set_option linter.unusedVariables false
open Go.RowKit Go.Proofs.YtgnmcfoenmfhcaaW.PrintWords Go.Proofs.YtgnmcfoenmfhcaaW.PrintLast Go.Proofs.YtgnmcfoenmfhcaaW.PrintMore
open Go.Proofs.YtgnmcfoenmfhcaaL Go.Proofs.Ytgnmcfoenmfhcaa.LawK Go.Proofs.Ytgnmcfoenmfhcaa.BoardK Go.Proofs.Ytgnmcfoenmfhcaa.Walk Go.Proofs.Ytgnmcfoenmfhcaa.NumK Go.Proofs.Ytgnmcfoenmfhcaa.MostK
def impl_Board_numbers.f (a0_0 : Int) (a0_1 : Int) (l0_2 : List Int) : Option (List Int) := if isBoardB a0_0 a0_1 l0_2 = true then some (numsF (min a0_0 a0_1 + 1).toNat (waysFrom l0_2 a0_1.toNat l0_2.length 0 0 [])) else none
structure NInv (m go ga cp2 : Nat) (l : List Int) (A0 : Option Addr) (c0 : Nat) (w0 W : World) (S : Nat → Prop) (vis : List (List Int)) (w : World) : Prop where
  o : w.heap[go]? = some (.cells #[.slice (some ⟨ga, 0, none⟩) m cp2] 24 (0, 0))
  r : Kd.R (Kd.int .i64) 3 w w0.heap.size (fun i => i = ga) (.slice (some ⟨ga, 0, none⟩) m cp2) (numsF m vis)
  B : Below w0.heap.size w0 w
  s : ∀ i, S i → W.heap.size ≤ i
set_option maxHeartbeats 4000000 in
set_option maxRecDepth 100000 in
theorem impl_Board_numbers.calls (a0_0 a0_1 : Int) (A0_2 : Option Addr) (c0_2 : Nat) (l0_2 : List Int) (r : List Int) (w : World) (hr0_2 : Kd.C (Kd.int .i64) w A0_2 l0_2.length l0_2) (hc0_2 : l0_2.length ≤ c0_2) (h : impl_Board_numbers.f a0_0 a0_1 l0_2 = some r) :
    Calls Try.prog 124 #[.agg #[.int .i64 a0_0, .int .i64 a0_1, .slice A0_2 l0_2.length c0_2]] w fun e w' => ∃ v0_ : Value, e = .returned (v0_) ∧ Kd.R (Kd.int .i64) 3 w' w.heap.size (fun _ => True) v0_ r ∧ Below w.heap.size w w' := by
  by_cases hs : isBoardB a0_0 a0_1 l0_2 = true
  rotate_left
  · rw [impl_Board_numbers.f, if_neg hs] at h; cases h
  rw [impl_Board_numbers.f, if_pos hs] at h
  have h := Option.some.inj h
  obtain ⟨R, C, rfl, rfl, hlR, h1R, hR, h1C, hC, hbits⟩ := board_of hs
  obtain ⟨m, hm⟩ : ∃ m, m = (min (R : Int) (C : Int) + 1).toNat := ⟨_, rfl⟩
  rw [← hm, Int.toNat_natCast] at h
  have hmR : (m : Int) = (min (R : Int) (C : Int)) + 1 := by omega
  have hways := ways_le hlR hR hC hbits
  have KEY : ∀ (W : World) (go ga cp2 : Nat), Below w.heap.size w W → w.heap.size ≤ go → w.heap.size ≤ ga → go ≠ ga → go < W.heap.size → ga < W.heap.size →
      NInv m go ga cp2 l0_2 A0_2 c0_2 w W (fun _ => False) [] W →
      Calls Try.prog 142 #[.agg #[.int .i64 (R : Int), .int .i64 (C : Int), .slice A0_2 l0_2.length c0_2], .func (.func 143) #[] #[.pointer (some ⟨go, 0, none⟩)]] W fun e w' => e = .returned (.tuple #[]) ∧
        w'.heap[go]? = some (.cells #[.slice (some ⟨ga, 0, none⟩) m cp2] 24 (0, 0)) ∧ Kd.R (Kd.int .i64) 3 w' w.heap.size (fun i => i = ga) (.slice (some ⟨ga, 0, none⟩) m cp2) r ∧ Below w.heap.size w w' := by
    intro W go ga cp2 hBW bo ba noa lo la hst
    refine (WalkNum.walk_calls (NInv m go ga cp2 l0_2 A0_2 c0_2 w W)
      (by
        intro S vis w1 w2 hi hs1
        have kp : ∀ g, g < W.heap.size → ∀ {o}, w1.heap[g]? = some o → w2.heap[g]? = some o := fun g hg o ho => (hs1.kept.2 g (blk_lt ho) (fun h => by have := hi.s g h; omega)).trans ho
        exact ⟨kp go lo hi.o, Kd.R_step hi.r (fun i e hlt => by subst e; exact hs1.kept.2 _ hlt (fun h => by have := hi.s _ h; omega)), Still.below hi.B hs1 (fun i h => Nat.le_trans hBW.size (hi.s i h)), hi.s⟩)
      R C R C rfl rfl l0_2 A0_2 c0_2 hc0_2 (.pointer (some ⟨go, 0, none⟩))
      (fun S vis w1 hi => Kd.C_below hr0_2 hi.B)
      hlR h1R hR hC hbits W
      (by
        intro S w1 hS hB1
        exact ⟨blk_below hst.o hB1, Kd.R_below hst.r hB1, hBW.trans (hB1.mono hBW.size), hS⟩)
      (by
        intro S vis ps w1 a cp hS hSlt hps hmem hSa hC2 hcp hi
        have hk2 := hways ps (by obtain ⟨b, hb2⟩ := hmem; rw [hb2]; simp)
        obtain ⟨kk, hk⟩ := rooks_f (l := ps) (by omega)
        refine (nm1 ((rooksN ps : Nat) : Int) R m cp a go ga cp2 kk w.heap.size ps (numsF m vis) w1 hps hcp hC2 hi.o hi.r hk (by omega) (by omega)).mono ?_
        rintro e w2 ⟨rfl, W2, hb2, rfl⟩
        have hga : a ≠ ga := fun e => by have := hi.s a hSa; omega
        refine ⟨rfl, ⟨blk_far (blk_below hi.o hb2) noa _, ?_, Below.setCell (hi.B.trans (hb2.mono hi.B.size)) (by (try simp only []); exact ba) _, hi.s⟩, fun i hSi hlt => ?_⟩
        · have := Kd.R_putn (Kd.R_below hi.r hb2) ((rooksN ps : Nat) : Int) (IntKind.i64.wrap (rdOf 0 (numsF m vis) ((rooksN ps : Nat) : Int) + 1))
          unfold numsF at this ⊢
          rw [List.foldl_append]
          exact this
        · have := hi.s i hSi
          rw [Below.heap_setCell _ _ _ _ (by (try simp only []); omega)]
          exact hb2.block i hlt)).mono ?_
    rintro e w' ⟨rfl, S, hS, hi⟩
    rw [hlR] at h
    exact ⟨rfl, hi.o, by rw [← h]; exact hi.r, hi.B⟩
  have KX := Lib.hid KEY
  have HJC := Lib.hid (show (C : Int) < (R : Int) → (wrap64 ((C : Int) + 1)).toNat = m from fun hc => by rw [w64 (by omega) (by omega)]; omega)
  have HJR := Lib.hid (show ¬ (C : Int) < (R : Int) → (wrap64 ((R : Int) + 1)).toNat = m from fun hc => by rw [w64 (by omega) (by omega)]; omega)
  have HPC := Aside0.mk (show 0 ≤ wrap64 ((C : Int) + 1) from by rw [w64 (by omega) (by omega)]; omega)
  have HPR := Aside0.mk (show 0 ≤ wrap64 ((R : Int) + 1) from by rw [w64 (by omega) (by omega)]; omega)
  have HQC := Aside0.mk (show (wrap64 ((C : Int) + 1)).toNat * 8 ≤ 281474976710656 from by rw [w64 (by omega) (by omega)]; omega)
  have HQR := Aside0.mk (show (wrap64 ((R : Int) + 1)).toNat * 8 ≤ 281474976710656 from by rw [w64 (by omega) (by omega)]; omega)
  have HM := Aside0.mk (And.intro (show 0 < m by omega) (show m ≤ 7 by omega))
  have hu24 := Try.underlying26
  clear KEY h hs hlR h1R hR h1C hC hbits hm hmR hways hr0_2 hc0_2
  generalize (R : Int) = RI at *
  generalize (C : Int) = CI at *
  clear R C
  have HCR : (CI < RI ∧ (CI < RI) = True) ∨ (¬ CI < RI ∧ (CI < RI) = False) := by
    by_cases hcr : CI < RI
    · exact .inl ⟨hcr, eq_true hcr⟩
    · exact .inr ⟨hcr, eq_false hcr⟩
  rcases HCR with ⟨hcr, q1⟩ | ⟨hcr, q1⟩
  all_goals have HCR := Aside0.mk hcr
  all_goals clear hcr
  all_goals go_enter Try.func124, Try.ntmps124
  all_goals go_wp2_with (first
    | ((with_reducible refine gate_dst (N := 1) rfl ?_); refine box_event ?hg (N := 1) ?hd (cs := #[.int .i64 RI, .int .i64 CI, .slice A0_2 l0_2.length c0_2]) (t := 26) ?hr ?_; (case hd => rfl); (case hg => rfl); (case hr => first | (go_simp; done) | (go_simp; rfl)); intro gb hg w1 hbox hb; have G1 := Aside0.mk hg; have K1 := Aside0.mk hbox; have B1 := Aside0.mk hb; clear hg hbox hb; have z1 : w1.cell? ⟨gb, 0, none⟩ = some (.int .i64 RI) := (blk_cell K1.out 0).trans rfl; have z2 : w1.cell? ⟨gb, 1, none⟩ = some (.int .i64 CI) := (blk_cell K1.out 1).trans rfl)
    | ((with_reducible refine gate_dst (N := 10) rfl ?_); refine Kd.R_make (Kd.int .i64) (w0 := w1) w1.heap.size 3 rfl (N := 10) rfl 24 _ _ rfl (wrap64 (CI + 1)) rfl rfl Try.underlying24 (.int .i64 0) 8 info3 rfl (by decide) (by omega) 0 (ok := fun _ => True) (okp := fun _ => True) rfl (fun _ hk => hk) trivial HPC.out HQC.out (Below.refl _ _) (Nat.le_refl _) ?_; intro v3 w3 ho3 hb hg_ hnew_; clear hg_ hnew_; rw [HJC.out HCR.out] at ho3; obtain ⟨ga, cp2, hv3, hga, hga2, cells3, hc3⟩ := Kd.R_form ho3 (by rw [List.length_replicate]; exact HM.out.1); rw [List.length_replicate] at hv3; subst hv3; have G3 := Aside0.mk (And.intro hga hga2); clear hga hga2 hc3; have B3 := Aside0.mk hb; have O3 := Aside0.mk ho3; clear hb ho3)
    | ((with_reducible refine gate_dst (N := 10) rfl ?_); refine Kd.R_make (Kd.int .i64) (w0 := w1) w1.heap.size 3 rfl (N := 10) rfl 24 _ _ rfl (wrap64 (RI + 1)) rfl rfl Try.underlying24 (.int .i64 0) 8 info3 rfl (by decide) (by omega) 0 (ok := fun _ => True) (okp := fun _ => True) rfl (fun _ hk => hk) trivial HPR.out HQR.out (Below.refl _ _) (Nat.le_refl _) ?_; intro v3 w3 ho3 hb hg_ hnew_; clear hg_ hnew_; rw [HJR.out HCR.out] at ho3; obtain ⟨ga, cp2, hv3, hga, hga2, cells3, hc3⟩ := Kd.R_form ho3 (by rw [List.length_replicate]; exact HM.out.1); rw [List.length_replicate] at hv3; subst hv3; have G3 := Aside0.mk (And.intro hga hga2); clear hga hga2 hc3; have B3 := Aside0.mk hb; have O3 := Aside0.mk ho3; clear hb ho3)
    | ((with_reducible refine gate_dst (N := 3) rfl ?_); refine box_event ?hg (N := 3) ?hd (cs := #[.slice none 0 0]) (t := 24) ?hr ?_; (case hd => rfl); (case hg => rfl); (case hr => first | (go_simp; done) | (go_simp; rfl)); intro go hg w4 hbox hb; have G4 := Aside0.mk hg; have K4 := Aside0.mk hbox; have B4 := Aside0.mk hb; clear hg hbox hb; have y1 : w4.cell? ⟨go, 0, none⟩ = some (.slice none 0 0) := (blk_cell K4.out 0).trans rfl; have f1 : w4.frozen? ⟨go, 0, none⟩ = false := blk_frozen K4.out 0; have nbo := Aside0.mk (show gb ≠ go from Nat.ne_of_lt (by rw [G4.out]; exact Nat.lt_of_lt_of_le (blk_lt K1.out) B3.out.size)); have K5 := Aside0.mk (show (w4.setCell ⟨go, 0, none⟩ (.slice (some ⟨ga, 0, none⟩) m cp2)).heap[gb]? = some (.cells #[.int .i64 RI, .int .i64 CI, .slice A0_2 l0_2.length c0_2] 26 (0, 0)) from blk_far (blk_below (blk_below K1.out B3.out) B4.out) nbo.out _); have z5 : (w4.setCell ⟨go, 0, none⟩ (.slice (some ⟨ga, 0, none⟩) m cp2)).cell? ⟨gb, 0, none⟩ = some (.int .i64 RI) := (blk_cell K5.out 0).trans rfl; have z6 : (w4.setCell ⟨go, 0, none⟩ (.slice (some ⟨ga, 0, none⟩) m cp2)).cell? ⟨gb, 1, none⟩ = some (.int .i64 CI) := (blk_cell K5.out 1).trans rfl; have z7 : (w4.setCell ⟨go, 0, none⟩ (.slice (some ⟨ga, 0, none⟩) m cp2)).cell? ⟨gb, 2, none⟩ = some (.slice A0_2 l0_2.length c0_2) := (blk_cell K5.out 2).trans rfl)
    | (go_at_call 142; (refine (KX.out _ go ga cp2 ?sB ?s1 ?s2 ?s3 ?s4 ?s5 ?s6).mono ?_); (all_goals have o1 := blk_lt K1.out); (all_goals have o2 := G1.out); (all_goals have o4 := G3.out); (all_goals have o5 := G4.out); (all_goals have o6 := blk_lt K4.out); (all_goals have o7 := B4.out.size); (all_goals have o8 : ∀ v, (w4.setCell ⟨go, 0, none⟩ v).heap.size = w4.heap.size := (fun v => by simp [World.setCell])); (all_goals have bb : Below w.heap.size w (w4.setCell ⟨go, 0, none⟩ (.slice (some ⟨ga, 0, none⟩) m cp2)) := Below.setCell ((B1.out.trans (B3.out.mono (by omega))).trans (B4.out.mono (by omega))) (by (try simp only []); omega) _); (case sB => exact bb); (case s1 => omega); (case s2 => omega); (case s3 => omega); (case s4 => rw [o8]; omega); (case s5 => rw [o8]; omega); (case s6 => exact ⟨blk_put K4.out 0 _ rfl, Kd.R_far (Kd.R_mono (Kd.R_lower (Kd.R_tight rfl (Kd.R_below O3.out B4.out)) (by omega)) (fun i hi => (by simpa [Value.ownBlock] using hi : i = ga))) (fun k hk => by (try simp only []); omega) _, bb, fun _ hf => hf.elim⟩); rintro e w5 ⟨rfl, h1, h2, h3⟩; clear o1 o2 o4 o5 o6 o7 o8 bb; have FR := Aside0.mk h2; have FB := Aside0.mk h3; have z8 : w5.cell? ⟨go, 0, none⟩ = some (.slice (some ⟨ga, 0, none⟩) m cp2) := (blk_cell h1 0).trans rfl; clear h1 h2 h3))
  all_goals go_ret
  all_goals exact ⟨_, rfl, Kd.R_mono FR.out (fun _ _ => trivial), FB.out⟩
end Go.Proofs.Ytgnmcfoenmfhcaa.Q
end
section
namespace Go.Proofs.Ytgnmcfoenmfhcaa.Q
open Go.RowKit Go.Proofs.YtgnmcfoenmfhcaaW.PrintWords Go.Proofs.YtgnmcfoenmfhcaaW.PrintLast Go.Proofs.YtgnmcfoenmfhcaaW.PrintMore
attribute [local go_sem] max2_int min2_int max_two min_two max_three min_three max_four min_four   -- for this text's walks alone
set_option linter.unusedVariables false
set_option linter.unusedSimpArgs false
def impl_Board_most.f (k:Nat) (a0_0:Int) (a0_1:Int) (l0_2:List Int):Option (Int):=(impl_Board_numbers.f a0_0 a0_1 l0_2).bind fun t102=>((impl_trimmed.f k t102).bind fun t105=>(some (wrap64 ((t105.length:Int) - 1))))
set_option maxHeartbeats 8000000 in
set_option maxRecDepth 100000 in
theorem impl_Board_most.calls (k:Nat) (a0_0:Int) (a0_1:Int) (A0_2:Option Addr) (c0_2:Nat) (l0_2:List Int) (r:Int) (w:World) (hr0_2:Kd.C (Kd.int .i64) w A0_2 l0_2.length l0_2) (hc0_2:l0_2.length≤c0_2) (h:impl_Board_most.f k a0_0 a0_1 l0_2=some r) :
  Calls Try.prog 80 #[.agg #[.int .i64 a0_0,.int .i64 a0_1,.slice A0_2 l0_2.length c0_2]] w fun e w'=>e=.returned (.int .i64 r)∧Below w.heap.size w w':=by
 have hu26:=Try.underlying26;have HR0_2:=za hr0_2;have HC0_2:=za hc0_2;clear hr0_2 hc0_2;have HB:=za (Below.refl w.heap.size w);have H:((impl_Board_numbers.f a0_0 a0_1 l0_2).bind fun t102=>((impl_trimmed.f k t102).bind fun t105=>(some (wrap64 ((t105.length:Int) - 1)))))=some r:=h;clear h;obtain ⟨t102,A2,H⟩:=bindAside H;(try dsimp only at H);obtain ⟨t105,A3,H⟩:=bindAside H;(try dsimp only at H);obtain rfl:=Option.some.inj H;(go_enter Try.func80,Try.ntmps80);(go_wp2_with (first|((with_reducible refine gate_dst (N:=1) rfl ?_);refine box_event ?hg (N:=1) ?hd (cs:=#[.int .i64 a0_0,.int .i64 a0_1,.slice A0_2 l0_2.length c0_2]) (t:=26) ?hr ?_;(case hd=>rfl);(case hg=>rfl);(case hr=>first|(go_simp;done)|(go_simp;rfl));intro gb101 hg w4 hbox hb;have BK101:=za (hbox);have GW101:=za ((by rw [hg];exact (zC (by apply_rules only [HB.out,zf,zg,zc])):w.heap.size≤gb101));have GE101:=za ((by rw [hg];exact (zC (by apply_rules only [HB.out,zf,zg,zc])):w.heap.size≤gb101));replace HB:=za (zv (by apply_rules only [HB.out,zf,zg,zc]) hb);clear hb hbox hg;have hcz5_0:w4.cell? ⟨gb101,0,none⟩=some (.int .i64 a0_0):=(zi BK101.out 0).trans rfl;have hcz5_1:w4.cell? ⟨gb101,1,none⟩=some (.int .i64 a0_1):=(zi BK101.out 1).trans rfl;have hcz5_2:w4.cell? ⟨gb101,2,none⟩=some (.slice A0_2 l0_2.length c0_2):=(zi BK101.out 2).trans rfl;have hfz5_0:=zk BK101.out 0;have hfz5_1:=zk BK101.out 1;have hfz5_2:=zk BK101.out 2)|((with_reducible refine zB (f:=124) rfl ?_);refine goesL_ (some 4) rfl rfl Try.func124 (by kernel_rfl) rfl #[.agg #[.int .i64 a0_0,.int .i64 a0_1,.slice A0_2 l0_2.length c0_2]] rfl (by first|rfl|simp only [z3_,z4_,z5_];try rfl) ?_;(with_reducible refine (impl_Board_numbers.calls a0_0 a0_1 _ _ l0_2 t102 _ ?side1 ?side2 A2.out).mono ?_);(case side1=>apply_rules only [zF HR0_2.out HB.out,zw,zx,zy]);(case side2=>exact HC0_2.out);rintro e w6 ⟨v103,rfl,ho0,hb⟩;refine ⟨_,rfl,?_⟩;have HO104:=za (Kd.R_lower ho0 (zC (by apply_rules only [HB.out,zf,zg,zc,zh,GE101.out])));replace BK101:=za (zz (g:=gb101) (o:=.cells #[.int .i64 a0_0,.int .i64 a0_1,.slice A0_2 l0_2.length c0_2] 26 (0,0)) (by apply_rules only [BK101.out,zd,zb,ze]) hb);replace HB:=za (zv (by apply_rules only [HB.out,zf,zg,zc,zh,GE101.out]) hb);obtain ⟨Ao7,co7,eo7⟩:=Kd.R_slice HO104.out;subst eo7)|((with_reducible refine zB (f:=123) rfl ?_);refine goesL_ (some 5) rfl rfl Try.func123 (by kernel_rfl) rfl #[.slice Ao7 t102.length co7] rfl (by first|rfl|simp only [z3_,z4_,z5_];try rfl) ?_;(with_reducible refine (impl_trimmed.calls k (fun k_=>some k_=(.slice Ao7 t102.length co7:Value).ownBlock) _ _ t102 t105 _ ?side1 A3.out).mono ?_);(case side1=>exact Kd.R_V (Kd.R_tight rfl (zH (HO104.out) BK101.out (by decide))));rintro e w8 ⟨v106,rfl,ho0,hb⟩;refine ⟨_,rfl,?_⟩;have HO107:=za (Kd.V_lower (Kd.V_mono (ok':=fun k_=>k_ ≠ gb101) ho0 (fun k_ hk_=>Or.elim hk_ (fun hs_=>((zH (HO104.out) BK101.out (by decide)).1 k_ hs_.symm).2) (fun hn_=>(Kd.freshB (g:=gb101) (o:=.cells #[.int .i64 a0_0,.int .i64 a0_1,.slice A0_2 l0_2.length c0_2] 26 (0,0)) (by apply_rules only [BK101.out,zd,zb,ze]) k_ hn_)))) (zC (by apply_rules only [HB.out,zf,zg,zc,zh,GE101.out])));replace HO104:=za (Kd.R_below (by apply_rules only [HO104.out,zl,zm,zj]) hb);replace BK101:=za (zz (g:=gb101) (o:=.cells #[.int .i64 a0_0,.int .i64 a0_1,.slice A0_2 l0_2.length c0_2] 26 (0,0)) (by apply_rules only [BK101.out,zd,zb,ze]) hb);replace HB:=za (zv (by apply_rules only [HB.out,zf,zg,zc,zh,GE101.out]) hb);obtain ⟨Ao9,co9,eo9⟩:=Kd.V_slice HO107.out;subst eo9)));(go_ret);exact ⟨by first|rfl|simp [*,errW_none,errW_some] <;> rfl,by repeat (first|(with_reducible first|exact HB.out|apply zf|apply zg|apply zc|refine zh ?_ GE101.out)|exact HB.out)⟩
end Go.Proofs.Ytgnmcfoenmfhcaa.Q
end
section
namespace Go.Proofs.Ytgnmcfoenmfhcaa.Q
open Go.RowKit Go.Proofs.YtgnmcfoenmfhcaaW.PrintWords Go.Proofs.YtgnmcfoenmfhcaaW.PrintLast Go.Proofs.YtgnmcfoenmfhcaaW.PrintMore
attribute [local go_sem] max2_int min2_int max_two min_two max_three min_three max_four min_four   -- for this text's walks alone
set_option linter.unusedVariables false
set_option linter.unusedSimpArgs false
def impl_MostRooks.f (k:Nat) (a0_0:Int) (a0_1:Int) (l0_2:List Int):Option (Int × Bool):=(impl_IsBoard.f a0_0 a0_1 l0_2).bind fun t102=>(if t102=true then ((impl_Board_most.f k a0_0 a0_1 l0_2).bind fun t103=>(some (t103,true))) else (some (0,false)))
set_option maxHeartbeats 8000000 in
set_option maxRecDepth 100000 in
theorem impl_MostRooks.calls (k:Nat) (a0_0:Int) (a0_1:Int) (A0_2:Option Addr) (c0_2:Nat) (l0_2:List Int) (r1:Int) (r2:Bool) (w:World) (hr0_2:Kd.C (Kd.int .i64) w A0_2 l0_2.length l0_2) (hc0_2:l0_2.length≤c0_2) (h:impl_MostRooks.f k a0_0 a0_1 l0_2=some (r1,r2)) :
  Calls Try.prog 23 #[.agg #[.int .i64 a0_0,.int .i64 a0_1,.slice A0_2 l0_2.length c0_2]] w fun e w'=>e=.returned (.tuple #[.int .i64 r1,.bool r2])∧Below w.heap.size w w':=by
 have hu26:=Try.underlying26;have HR0_2:=za hr0_2;have HC0_2:=za hc0_2;clear hr0_2 hc0_2;have HB:=za (Below.refl w.heap.size w);have H:((impl_IsBoard.f a0_0 a0_1 l0_2).bind fun t102=>(if t102=true then ((impl_Board_most.f k a0_0 a0_1 l0_2).bind fun t103=>(some (t103,true))) else (some (0,false))))=some (r1,r2):=h;clear h;obtain ⟨t102,A2,H⟩:=bindAside H;(try dsimp only at H);by_cases c3:t102=true
 · subst c3;(have H1:((impl_Board_most.f k a0_0 a0_1 l0_2).bind fun t103=>(some (t103,true)))=some (r1,r2):=by rw [if_pos rfl] at H;exact H);clear H;have H:=H1;clear H1;obtain ⟨t103,A4,H⟩:=bindAside H;(try dsimp only at H);simp only [Option.some.injEq,Prod.mk.injEq] at H;obtain ⟨rfl,rfl⟩:=H;(go_enter Try.func23,Try.ntmps23);(go_wp2_with (first|((with_reducible refine gate_dst (N:=1) rfl ?_);refine box_event ?hg (N:=1) ?hd (cs:=#[.int .i64 a0_0,.int .i64 a0_1,.slice A0_2 l0_2.length c0_2]) (t:=26) ?hr ?_;(case hd=>rfl);(case hg=>rfl);(case hr=>first|(go_simp;done)|(go_simp;rfl));intro gb101 hg w5 hbox hb;have BK101:=za (hbox);have GW101:=za ((by rw [hg];exact (zC (by apply_rules only [HB.out,zf,zg,zc])):w.heap.size≤gb101));have GE101:=za ((by rw [hg];exact (zC (by apply_rules only [HB.out,zf,zg,zc])):w.heap.size≤gb101));replace HB:=za (zv (by apply_rules only [HB.out,zf,zg,zc]) hb);clear hb hbox hg;have hcz6_0:w5.cell? ⟨gb101,0,none⟩=some (.int .i64 a0_0):=(zi BK101.out 0).trans rfl;have hcz6_1:w5.cell? ⟨gb101,1,none⟩=some (.int .i64 a0_1):=(zi BK101.out 1).trans rfl;have hcz6_2:w5.cell? ⟨gb101,2,none⟩=some (.slice A0_2 l0_2.length c0_2):=(zi BK101.out 2).trans rfl;have hfz6_0:=zk BK101.out 0;have hfz6_1:=zk BK101.out 1;have hfz6_2:=zk BK101.out 2)|((with_reducible refine zB (f:=71) rfl ?_);refine goesL_ (some 5) rfl rfl Try.func71 (by kernel_rfl) rfl #[.agg #[.int .i64 a0_0,.int .i64 a0_1,.slice A0_2 l0_2.length c0_2]] rfl (by first|rfl|simp only [z3_,z4_,z5_];try rfl) ?_;(with_reducible refine (impl_IsBoard.calls a0_0 a0_1 _ _ l0_2 true _ ?side1 ?side2 A2.out).mono ?_);(case side1=>apply_rules only [zF HR0_2.out HB.out,zw,zx,zy]);(case side2=>exact HC0_2.out);rintro e w7 ⟨rfl,hb⟩;refine ⟨_,rfl,?_⟩;replace BK101:=za (zz (g:=gb101) (o:=.cells #[.int .i64 a0_0,.int .i64 a0_1,.slice A0_2 l0_2.length c0_2] 26 (0,0)) (by apply_rules only [BK101.out,zd,zb,ze]) hb);replace HB:=za (zv (by apply_rules only [HB.out,zf,zg,zc,zh,GE101.out]) hb);have hcz8_0:w7.cell? ⟨gb101,0,none⟩=some (.int .i64 a0_0):=(zi BK101.out 0).trans rfl;have hcz8_1:w7.cell? ⟨gb101,1,none⟩=some (.int .i64 a0_1):=(zi BK101.out 1).trans rfl;have hcz8_2:w7.cell? ⟨gb101,2,none⟩=some (.slice A0_2 l0_2.length c0_2):=(zi BK101.out 2).trans rfl;have hfz8_0:=zk BK101.out 0;have hfz8_1:=zk BK101.out 1;have hfz8_2:=zk BK101.out 2)|((with_reducible refine zB (f:=80) rfl ?_);refine goesL_ (some 8) rfl rfl Try.func80 (by kernel_rfl) rfl #[.agg #[.int .i64 a0_0,.int .i64 a0_1,.slice A0_2 l0_2.length c0_2]] rfl (by first|rfl|simp only [z3_,z4_,z5_];try rfl) ?_;(with_reducible refine (impl_Board_most.calls k a0_0 a0_1 _ _ l0_2 t103 _ ?side1 ?side2 A4.out).mono ?_);(case side1=>apply_rules only [zF HR0_2.out HB.out,zw,zx,zy]);(case side2=>exact HC0_2.out);rintro e w9 ⟨rfl,hb⟩;refine ⟨_,rfl,?_⟩;replace BK101:=za (zz (g:=gb101) (o:=.cells #[.int .i64 a0_0,.int .i64 a0_1,.slice A0_2 l0_2.length c0_2] 26 (0,0)) (by apply_rules only [BK101.out,zd,zb,ze]) hb);replace HB:=za (zv (by apply_rules only [HB.out,zf,zg,zc,zh,GE101.out]) hb))));(go_ret2);exact ⟨by first|rfl|simp [*,errW_none,errW_some] <;> rfl,by repeat (first|(with_reducible first|exact HB.out|apply zf|apply zg|apply zc|refine zh ?_ GE101.out)|exact HB.out)⟩
 · replace c3:=Bool.eq_false_iff.mpr c3;subst c3;(have H1:(some (0,false))=some (r1,r2):=by rw [if_neg (show ¬ (false=true) by decide)] at H;exact H);clear H;have H:=H1;clear H1;simp only [Option.some.injEq,Prod.mk.injEq] at H;obtain ⟨rfl,rfl⟩:=H;(go_enter Try.func23,Try.ntmps23);(go_wp2_with (first|((with_reducible refine gate_dst (N:=1) rfl ?_);refine box_event ?hg (N:=1) ?hd (cs:=#[.int .i64 a0_0,.int .i64 a0_1,.slice A0_2 l0_2.length c0_2]) (t:=26) ?hr ?_;(case hd=>rfl);(case hg=>rfl);(case hr=>first|(go_simp;done)|(go_simp;rfl));intro gb101 hg w10 hbox hb;have BK101:=za (hbox);have GW101:=za ((by rw [hg];exact (zC (by apply_rules only [HB.out,zf,zg,zc])):w.heap.size≤gb101));have GE101:=za ((by rw [hg];exact (zC (by apply_rules only [HB.out,zf,zg,zc])):w.heap.size≤gb101));replace HB:=za (zv (by apply_rules only [HB.out,zf,zg,zc]) hb);clear hb hbox hg;have hcz11_0:w10.cell? ⟨gb101,0,none⟩=some (.int .i64 a0_0):=(zi BK101.out 0).trans rfl;have hcz11_1:w10.cell? ⟨gb101,1,none⟩=some (.int .i64 a0_1):=(zi BK101.out 1).trans rfl;have hcz11_2:w10.cell? ⟨gb101,2,none⟩=some (.slice A0_2 l0_2.length c0_2):=(zi BK101.out 2).trans rfl;have hfz11_0:=zk BK101.out 0;have hfz11_1:=zk BK101.out 1;have hfz11_2:=zk BK101.out 2)|((with_reducible refine zB (f:=71) rfl ?_);refine goesL_ (some 5) rfl rfl Try.func71 (by kernel_rfl) rfl #[.agg #[.int .i64 a0_0,.int .i64 a0_1,.slice A0_2 l0_2.length c0_2]] rfl (by first|rfl|simp only [z3_,z4_,z5_];try rfl) ?_;(with_reducible refine (impl_IsBoard.calls a0_0 a0_1 _ _ l0_2 false _ ?side1 ?side2 A2.out).mono ?_);(case side1=>apply_rules only [zF HR0_2.out HB.out,zw,zx,zy]);(case side2=>exact HC0_2.out);rintro e w12 ⟨rfl,hb⟩;refine ⟨_,rfl,?_⟩;replace BK101:=za (zz (g:=gb101) (o:=.cells #[.int .i64 a0_0,.int .i64 a0_1,.slice A0_2 l0_2.length c0_2] 26 (0,0)) (by apply_rules only [BK101.out,zd,zb,ze]) hb);replace HB:=za (zv (by apply_rules only [HB.out,zf,zg,zc,zh,GE101.out]) hb))));(go_ret2);exact ⟨by first|rfl|simp [*,errW_none,errW_some] <;> rfl,by repeat (first|(with_reducible first|exact HB.out|apply zf|apply zg|apply zc|refine zh ?_ GE101.out)|exact HB.out)⟩
end Go.Proofs.Ytgnmcfoenmfhcaa.Q
end
section
namespace Go.Proofs.Ytgnmcfoenmfhcaa.Q
open Go.RowKit Go.Proofs.YtgnmcfoenmfhcaaW.PrintWords Go.Proofs.YtgnmcfoenmfhcaaW.PrintLast Go.Proofs.YtgnmcfoenmfhcaaW.PrintMore
attribute [local go_sem] max2_int min2_int max_two min_two max_three min_three max_four min_four   -- for this text's walks alone
set_option linter.unusedVariables false
set_option linter.unusedSimpArgs false
def laws_kSame.l0:Nat→List Int→List Int→Int→Int→Option (Bool)
|0,_,_,_,_=>none
|k + 1,x0,x1,x12,x13=>if x13 < x12 then (if 0≤x13 then (if x13 < (x0.length:Int) then (if x13 < (x1.length:Int) then (if (rd x0 x13)=(rd x1 x13) then (laws_kSame.l0 k x0 x1 x12 (wrap64 (x13 + 1))) else (some false)) else (none)) else (none)) else (none)) else (some true)
def laws_kSame.f (k:Nat) (l0:List Int) (l1:List Int):Option (Bool):=if (l0.length:Int)=(l1.length:Int) then (laws_kSame.l0 k l0 l1 (l0.length:Int) 0) else (some false)
set_option maxHeartbeats 8000000 in
set_option maxRecDepth 100000 in
theorem laws_kSame.calls (k:Nat) (A0:Option Addr) (c0:Nat) (l0:List Int) (A1:Option Addr) (c1:Nat) (l1:List Int) (r:Bool) (w:World) (hr0:Kd.C (Kd.int .i64) w A0 l0.length l0) (hc0:l0.length≤c0) (hr1:Kd.C (Kd.int .i64) w A1 l1.length l1) (hc1:l1.length≤c1) (h:laws_kSame.f k l0 l1=some r) :
  Calls Try.prog 24 #[.slice A0 l0.length c0,.slice A1 l1.length c1] w fun e w'=>e=.returned (.bool r)∧Drawn0 w w':=by
 have HR0:=za hr0;have HC0:=za hc0;clear hr0 hc0;have HR1:=za hr1;have HC1:=za hc1;clear hr1 hc1;have H:(if (l0.length:Int)=(l1.length:Int) then (laws_kSame.l0 k l0 l1 (l0.length:Int) 0) else (some false))=some r:=h;clear h;by_cases c3:(l0.length:Int)=(l1.length:Int)
 ·
  rw [if_pos c3] at H;have c3b0:((l0.length:Int) == (l1.length:Int))=true:=beq_iff_eq.mpr c3;have c3b1:((l0.length:Int) != (l1.length:Int))=false:=bne_eq_false_iff_eq.mpr c3;(have c3b2:(l0.length == l1.length)=true:=by first|simpa using c3|(simp at c3 ⊢;omega));clear c3;have H':=za H;clear H;(go_enter Try.func24,Try.ntmps24);(go_wp2);(repeat (go_quiet (fail);try go_wp2));(go_loopg [13] k (fun kq v13 w'=>∃ (x13_1:Int),v13=.int .i64 x13_1∧Aside0 (laws_kSame.l0 kq l0 l1 (l0.length:Int) x13_1=some r)∧Aside0 (kq≤k)∧Drawn0 w w'));case atStart=>exact ⟨(0),(by first|rfl|(simp;done)|(simp [*];done)),H',⟨Nat.le_refl _⟩,by apply_rules only [Drawn0.refl _,Drawn0.step]⟩
  case round =>
   clear H';(try clear c1);(try clear c2);(try clear p2);(try clear c3);(try clear c3b0);(try clear c3b1);(try clear c3b2);obtain ⟨x13_1,rfl,HA,HK1,⟨m1,rfl⟩⟩:=hrel
   cases gk with
  |zero=>exact absurd HA.out (by simp [laws_kSame.l0])
  |succ k1 =>
    have H:=HA.out;clear HA;simp only [laws_kSame.l0] at H;by_cases c4:x13_1 < (l0.length:Int)
    ·
     rw [if_pos c4] at H;have c4b0:decide (x13_1 < (l0.length:Int))=true:=decide_eq_true c4;clear c4;by_cases c5:0≤x13_1
     ·
      rw [if_pos c5] at H;have c5b0:decide (0≤x13_1)=true:=decide_eq_true c5;clear c5;by_cases c6:x13_1 < (l0.length:Int)
      ·
       rw [if_pos c6] at H;have c6b0:decide (x13_1 < (l0.length:Int))=true:=decide_eq_true c6;clear c6;by_cases c7:x13_1 < (l1.length:Int)
       ·
        rw [if_pos c7] at H;have c7b0:decide (x13_1 < (l1.length:Int))=true:=decide_eq_true c7;clear c7;by_cases c8:(rd l0 x13_1)=(rd l1 x13_1)
        · rw [if_pos c8] at H;have c8b0:((rd l0 x13_1) == (rd l1 x13_1))=true:=beq_iff_eq.mpr c8;have c8b1:((rd l0 x13_1) != (rd l1 x13_1))=false:=bne_eq_false_iff_eq.mpr c8;clear c8;have H':=za H;clear H;have p101:0≤(x13_1:Int):=of_decide_eq_true ‹_›;have q101:x13_1 < (l0.length:Int):=of_decide_eq_true ‹_›;obtain ⟨ad101,e101,hx101_0⟩:=Kd.at_int HR0.out x13_1 p101 q101;cases e101;replace p101:=eq_true p101;replace q101:=eq_true q101;have p102:0≤(x13_1:Int):=of_decide_eq_true ‹_›;have q102:x13_1 < (l1.length:Int):=of_decide_eq_true ‹_›;obtain ⟨ad102,e102,hx102_0⟩:=Kd.at_int HR1.out x13_1 p102 q102;cases e102;replace p102:=eq_true p102;replace q102:=eq_true q102;(go_wp2);(repeat (go_quiet (fail);try go_wp2));(go_roundg k1);(case measure=>have:=HK1.out;omega);case rel=>exact ⟨(wrap64 (x13_1 + 1)),(by first|rfl|(simp;done)|(simp [*];done)),H',⟨by have:=HK1.out;omega⟩,by apply_rules only [Drawn0.refl _,Drawn0.step]⟩
        · rw [if_neg c8] at H;have c8b0:((rd l0 x13_1) == (rd l1 x13_1))=false:=beq_eq_false_iff_ne.mpr c8;have c8b1:((rd l0 x13_1) != (rd l1 x13_1))=true:=bne_iff_ne.mpr c8;obtain rfl:=Option.some.inj H;have p101:0≤(x13_1:Int):=of_decide_eq_true ‹_›;have q101:x13_1 < (l0.length:Int):=of_decide_eq_true ‹_›;obtain ⟨ad101,e101,hx101_0⟩:=Kd.at_int HR0.out x13_1 p101 q101;cases e101;replace p101:=eq_true p101;replace q101:=eq_true q101;have p102:0≤(x13_1:Int):=of_decide_eq_true ‹_›;have q102:x13_1 < (l1.length:Int):=of_decide_eq_true ‹_›;obtain ⟨ad102,e102,hx102_0⟩:=Kd.at_int HR1.out x13_1 p102 q102;cases e102;replace p102:=eq_true p102;replace q102:=eq_true q102;(go_wp2);(repeat (go_quiet (fail);try go_wp2));(go_ret);exact ⟨by first|rfl|(simp;done)|(simp [*];done),by apply_rules only [Drawn0.refl _,Drawn0.step]⟩
       · rw [if_neg c7] at H;exact absurd H (by simp)
      · rw [if_neg c6] at H;exact absurd H (by simp)
     · rw [if_neg c5] at H;exact absurd H (by simp)
    · rw [if_neg c4] at H;have c4b0:decide (x13_1 < (l0.length:Int))=false:=decide_eq_false c4;clear c4;obtain rfl:=Option.some.inj H;(go_wp2);(repeat (go_quiet (fail);try go_wp2));(go_ret);exact ⟨by first|rfl|(simp;done)|(simp [*];done),by apply_rules only [Drawn0.refl _,Drawn0.step]⟩
 · rw [if_neg c3] at H;have c3b0:((l0.length:Int) == (l1.length:Int))=false:=beq_eq_false_iff_ne.mpr c3;have c3b1:((l0.length:Int) != (l1.length:Int))=true:=bne_iff_ne.mpr c3;(have c3b2:(l0.length == l1.length)=false:=by first|simpa using c3|(simp at c3 ⊢;omega));obtain rfl:=Option.some.inj H;(go_enter Try.func24,Try.ntmps24);(go_wp2);(repeat (go_quiet (fail);try go_wp2));(go_ret);exact ⟨by first|rfl|(simp;done)|(simp [*];done),by apply_rules only [Drawn0.refl _,Drawn0.step]⟩
end Go.Proofs.Ytgnmcfoenmfhcaa.Q
end
section
namespace Go.Proofs.Ytgnmcfoenmfhcaa.Q
open Go.RowKit Go.Proofs.YtgnmcfoenmfhcaaW.PrintWords Go.Proofs.YtgnmcfoenmfhcaaW.PrintLast Go.Proofs.YtgnmcfoenmfhcaaW.PrintMore
attribute [local go_sem] max2_int min2_int max_two min_two max_three min_three max_four min_four   -- for this text's walks alone
set_option linter.unusedVariables false
set_option linter.unusedSimpArgs false
def spec_l1Own.f (l0:List Int):Option (List Int):=(some (([]:List Int):List Int)).bind fun y101=>(if y101.length + l0.length < 17592186044416 then (some (y101 ++ l0)) else (none))
set_option maxHeartbeats 8000000 in
set_option maxRecDepth 100000 in
theorem spec_l1Own.calls (A0:Option Addr) (c0:Nat) (l0:List Int) (r:List Int) (w:World) (hr0:Kd.C (Kd.int .i64) w A0 l0.length l0) (hc0:l0.length≤c0) (h:spec_l1Own.f l0=some r) :
  Calls Try.prog 92 #[.slice A0 l0.length c0] w fun e w'=>∃ v0_:Value,e=.returned (v0_)∧Kd.R (Kd.int .i64) 3 w' w.heap.size (fun _=>True) v0_ r∧Below w.heap.size w w':=by
 have HR0:=za hr0;have HC0:=za hc0;clear hr0 hc0;have HB:=za (Below.refl w.heap.size w);have H:((some (([]:List Int):List Int)).bind fun y101=>(if y101.length + l0.length < 17592186044416 then (some (y101 ++ l0)) else (none)))=some r:=h;clear h;obtain ⟨y101,hy101⟩:∃ y_:List Int,y_=(([]:List Int)):=⟨_,rfl⟩;(replace H:(if y101.length + l0.length < 17592186044416 then (some (y101 ++ l0)) else (none))=some r:=by first|(rw [hy101];with_reducible exact H)|(have H2_:=(Option.bind_some _ _).symm.trans H;rw [hy101];with_reducible exact H2_)|(have H2_:=(Option.bind_some _ _).symm.trans H;with_reducible exact H2_)|with_reducible exact H|(rw [hy101];exact H)|exact H);have Ny101:=za hy101;clear hy101;by_cases c2:y101.length + l0.length < 17592186044416
 · rw [if_pos c2] at H;have LMc2:=za c2;clear c2;obtain ⟨y104,hy104⟩:∃ y_:List Int,y_=(y101 ++ l0):=⟨_,rfl⟩;(replace H:(some y104)=some r:=by first|(rw [hy104];with_reducible exact H)|(have H2_:=(Option.bind_some _ _).symm.trans H;rw [hy104];with_reducible exact H2_)|(have H2_:=(Option.bind_some _ _).symm.trans H;with_reducible exact H2_)|with_reducible exact H|(rw [hy104];exact H)|exact H);have Ny104:=za hy104;clear hy104;obtain rfl:=Option.some.inj H;(go_enter Try.func92,Try.ntmps92);(go_wp2_with (first|((with_reducible refine gate_dst (N:=3) rfl ?_);refine Kd.R_lit (Kd.int .i64) _ 3 ?hg (N:=3) ?hd (xs:=([]:List Int)) (inner:=[]) (ok:=fun _=>True) (okp:=fun _=>True) ?hr ?hp (fun _ hk=>hk) trivial (Below.refl _ _) (Nat.le_refl _) (by simp) ?_;(case hd=>rfl);(case hg=>rfl);(case hr=>first|(go_simp;done)|(go_simp;rfl));(case hp=>exact (Reps.none _ _));intro v102 w3 ho4 hb hg_ hnew_;clear hg_ hnew_;(first|rw [← Ny101.out] at ho4|(simp only [Int.reduceToNat] at ho4;rw [← Ny101.out] at ho4));have HO103:=za (Kd.R_lower ho4 (zC (by apply_rules only [HB.out,zf,zg,zc])));replace HB:=za (zv (by apply_rules only [HB.out,zf,zg,zc]) hb);clear hb ho4)|((with_reducible refine gate_builtin (b:=.append) (xs:=#[.tmp 3,.tmp 4]) rfl ?_);at_builtin;refine Kd.R_append_rows (Kd.int .i64) (w0:=w) w.heap.size rfl (.tmp 3) (.tmp 4) 24 3 (.int .i64 0) 8 rfl Try.underlying24 info3 rfl (by decide) (by omega) v102 y101 l0 _ _ _ (fun _=>True) (fun _=>False) rfl rfl ?aO ?aR (fun _ _ h=>h) (fun _ h=>h.elim) ?aF ?aB ?aS ?aL ?_;(case aR=>apply_rules only [zF HR0.out HB.out,zw,zx,zy]);(case aB=>exact (by apply_rules only [HB.out,zf,zg,zc]));(case aF=>exact (fun _ _=>trivial));(case aO=>exact (by apply_rules only [HO103.out,zl,zm,zj]));(case aS=>exact (zC (by apply_rules only [HB.out,zf,zg,zc])));(case aL=>have:=LMc2.out;omega);intro v105 w5 ho hb hg hat;rw [← Ny104.out] at ho;replace HB:=za (hb);have HO106:=za (ho);clear HO103;clear ho hb hg hat)));(go_ret);exact ⟨_,by first|rfl|simp [*,errW_none,errW_some] <;> rfl,by (with_reducible repeat (first|apply zl|apply zm|apply zj));exact HO106.out,by repeat (first|(with_reducible first|exact HB.out|apply zf|apply zg|apply zc)|exact HB.out)⟩
 · rw [if_neg c2] at H;exact absurd H (by simp)
end Go.Proofs.Ytgnmcfoenmfhcaa.Q
end
section
namespace Go.Proofs.Ytgnmcfoenmfhcaa.Q
open Go.RowKit Go.Proofs.YtgnmcfoenmfhcaaW.PrintWords Go.Proofs.YtgnmcfoenmfhcaaW.PrintLast Go.Proofs.YtgnmcfoenmfhcaaW.PrintMore
attribute [local go_sem] max2_int min2_int max_two min_two max_three min_three max_four min_four   -- for this text's walks alone
set_option linter.unusedVariables false
set_option linter.unusedSimpArgs false
mutual
def spec_lcGood.j0:Nat→List Int→Bool→Int→Int→List Int→Option (Bool)
|0,_,_,_,_,_=>none
|k + 1,x1,x19,x102000,x102001,x102002=>if x19=true then (some false) else (spec_lcGood.l0 k x1 x1 (x1.length:Int) 0 x102000 x102001 x102002)
def spec_lcGood.l0:Nat→List Int→List Int→Int→Int→Int→Int→List Int→Option (Bool)
|0,_,_,_,_,_,_,_=>none
|k + 1,x1,x20,x21,x22,x102000,x102001,x102002=>if x22 < x21 then (if 0≤x22 then (if x22 < (x20.length:Int) then (if (rd x20 x22) ≥ 0 then ((spec_boHas.f x102000 x102001 x102002 x22 (rd x20 x22)).bind fun t104=>(if t104=true then (if x22≤(x1.length:Int) then ((spec_l1Has.f k (x1.take (x22:Int).toNat) (rd x20 x22)).bind fun t106=>(if t106=true then (some false) else (spec_lcGood.l0 k x1 x20 x21 (wrap64 (x22 + 1)) x102000 x102001 x102002))) else (none)) else (some false))) else (spec_lcGood.l0 k x1 x20 x21 (wrap64 (x22 + 1)) x102000 x102001 x102002)) else (none)) else (none)) else (some true)
end
def spec_lcGood.f (k:Nat) (a0_0:Int) (a0_1:Int) (l0_2:List Int) (l1:List Int):Option (Bool):=if (l1.length:Int)=a0_0 then ((spec_l1All.f k l1 (-1) (wrap64 (a0_1 - 1))).bind fun t102=>(spec_lcGood.j0 k l1 (!t102) a0_0 a0_1 l0_2)) else (spec_lcGood.j0 k l1 true a0_0 a0_1 l0_2)
set_option maxHeartbeats 8000000 in
set_option maxRecDepth 100000 in
theorem spec_lcGood.calls (k:Nat) (a0_0:Int) (a0_1:Int) (A0_2:Option Addr) (c0_2:Nat) (l0_2:List Int) (A1:Option Addr) (c1:Nat) (l1:List Int) (r:Bool) (w:World) (hr0_2:Kd.C (Kd.int .i64) w A0_2 l0_2.length l0_2) (hc0_2:l0_2.length≤c0_2) (hr1:Kd.C (Kd.int .i64) w A1 l1.length l1) (hc1:l1.length≤c1) (h:spec_lcGood.f k a0_0 a0_1 l0_2 l1=some r) :
  Calls Try.prog 90 #[.agg #[.int .i64 a0_0,.int .i64 a0_1,.slice A0_2 l0_2.length c0_2],.slice A1 l1.length c1] w fun e w'=>e=.returned (.bool r)∧Below w.heap.size w w':=by
 have hu26:=Try.underlying26;have HR0_2:=za hr0_2;have HC0_2:=za hc0_2;clear hr0_2 hc0_2;have HR1:=za hr1;have HC1:=za hc1;clear hr1 hc1;have HB:=za (Below.refl w.heap.size w);have H:(if (l1.length:Int)=a0_0 then ((spec_l1All.f k l1 (-1) (wrap64 (a0_1 - 1))).bind fun t102=>(spec_lcGood.j0 k l1 (!t102) a0_0 a0_1 l0_2)) else (spec_lcGood.j0 k l1 true a0_0 a0_1 l0_2))=some r:=h;clear h;have HC3:=za H;clear H;(go_enter Try.func90,Try.ntmps90);(go_upto_region 1 with (first|((with_reducible refine gate_dst (N:=2) rfl ?_);refine box_event ?hg (N:=2) ?hd (cs:=#[.int .i64 a0_0,.int .i64 a0_1,.slice A0_2 l0_2.length c0_2]) (t:=26) ?hr ?_;(case hd=>rfl);(case hg=>rfl);(case hr=>first|(go_simp;done)|(go_simp;rfl));intro gb101 hg w4 hbox hb;have BK101:=za (hbox);have GW101:=za ((by rw [hg];exact (zC (by apply_rules only [HB.out,zf,zg,zc])):w.heap.size≤gb101));have GE101:=za ((by rw [hg];exact (zC (by apply_rules only [HB.out,zf,zg,zc])):w.heap.size≤gb101));replace HB:=za (zv (by apply_rules only [HB.out,zf,zg,zc]) hb);clear hb hbox hg)));(try simp only [Act.put,z0_,z1_,z2_]);go_cut [19] (fun v19 wc=>∃ (kq:Nat) (x19_2:Bool),v19=.bool x19_2∧Aside0 (spec_lcGood.j0 kq l1 x19_2 a0_0 a0_1 l0_2=some r)∧Aside0 (kq≤k)∧Aside0 (wc.heap[gb101]?=some (.cells #[.int .i64 a0_0,.int .i64 a0_1,(.slice A0_2 l0_2.length c0_2)] 26 (0,0)))∧Aside0 (Below w.heap.size w wc))
 case first =>
  have H:=HC3.out;clear HC3;by_cases c5:(l1.length:Int)=a0_0
  · rw [if_pos c5] at H;have c5b0:((l1.length:Int) == a0_0)=true:=beq_iff_eq.mpr c5;have c5b1:((l1.length:Int) != a0_0)=false:=bne_eq_false_iff_eq.mpr c5;clear c5;(first|rw [c5b0]|(simp only [zo,i32_w];rw [c5b0])|skip);obtain ⟨t102,A6,H⟩:=bindAside H;(try dsimp only at H);have H':=za H;clear H;have hcz7_0:w4.cell? ⟨gb101,0,none⟩=some (.int .i64 a0_0):=(zi BK101.out 0).trans rfl;have hcz7_1:w4.cell? ⟨gb101,1,none⟩=some (.int .i64 a0_1):=(zi BK101.out 1).trans rfl;have hcz7_2:w4.cell? ⟨gb101,2,none⟩=some (.slice A0_2 l0_2.length c0_2):=(zi BK101.out 2).trans rfl;have hfz7_0:=zk BK101.out 0;have hfz7_1:=zk BK101.out 1;have hfz7_2:=zk BK101.out 2;(go_wp2_with (first|(go_at_call 121;(with_reducible refine (spec_l1All.calls k _ _ l1 (-1) (wrap64 (a0_1 - 1)) t102 _ ?side1 ?side2 A6.out).mono ?_);(case side1=>apply_rules only [zF HR1.out HB.out,zw,zx,zy]);(case side2=>exact HC1.out);rintro e w' ⟨rfl,⟨nd,rfl⟩⟩)));(go_meet);case rel=>exact ⟨_,(!t102),(by first|rfl|(simp;done)|(simp [*];done)),H',⟨by first|omega|exact Nat.le_refl _⟩,⟨by apply_rules only [BK101.out,zd,zb,ze]⟩,⟨by apply_rules only [HB.out,zf,zg,zc,zh,GE101.out]⟩⟩
  · rw [if_neg c5] at H;have c5b0:((l1.length:Int) == a0_0)=false:=beq_eq_false_iff_ne.mpr c5;have c5b1:((l1.length:Int) != a0_0)=true:=bne_iff_ne.mpr c5;(first|rw [c5b0]|(simp only [zo,i32_w];rw [c5b0])|skip);have H':=za H;clear H;have hcz8_0:w4.cell? ⟨gb101,0,none⟩=some (.int .i64 a0_0):=(zi BK101.out 0).trans rfl;have hcz8_1:w4.cell? ⟨gb101,1,none⟩=some (.int .i64 a0_1):=(zi BK101.out 1).trans rfl;have hcz8_2:w4.cell? ⟨gb101,2,none⟩=some (.slice A0_2 l0_2.length c0_2):=(zi BK101.out 2).trans rfl;have hfz8_0:=zk BK101.out 0;have hfz8_1:=zk BK101.out 1;have hfz8_2:=zk BK101.out 2;(go_wp2);(go_meet);case rel=>exact ⟨_,(true),(by first|rfl|(simp;done)|(simp [*];done)),H',⟨by first|omega|exact Nat.le_refl _⟩,⟨by apply_rules only [BK101.out,zd,zb,ze]⟩,⟨by apply_rules only [HB.out,zf,zg,zc,zh,GE101.out]⟩⟩
 case rest =>
  clear HC3;(try clear c1);(try clear p2);(try clear c5);(try clear c5b0);(try clear c5b1);(try clear p6);(try clear hcz7_0);(try clear hcz7_1);(try clear hcz7_2);(try clear hcz8_0);(try clear hcz8_1);(try clear hcz8_2);(try clear hfz7_0);(try clear hfz7_1);(try clear hfz7_2);(try clear hfz8_0);(try clear hfz8_1);(try clear hfz8_2);obtain ⟨kq,x19_2,rfl,HA,HJ2,BK101,HB⟩:=hcut
  cases kq with
 |zero=>exact absurd HA.out (by simp [spec_lcGood.j0])
 |succ kj2 =>
   have H:=HA.out;clear HA;simp only [spec_lcGood.j0] at H;by_cases c9:x19_2=true
   · subst c9;(have H1:(some false)=some r:=by rw [if_pos rfl] at H;exact H);clear H;have H:=H1;clear H1;obtain rfl:=Option.some.inj H;(go_wp2);(go_ret);exact ⟨by first|rfl|simp [*,errW_none,errW_some] <;> rfl,by repeat (first|(with_reducible first|exact HB.out|apply zf|apply zg|apply zc|refine zh ?_ GE101.out)|exact HB.out)⟩
   ·
    replace c9:=Bool.eq_false_iff.mpr c9;subst c9;(have H1:(spec_lcGood.l0 kj2 l1 l1 (l1.length:Int) 0 a0_0 a0_1 l0_2)=some r:=by rw [if_neg (show ¬ (false=true) by decide)] at H;exact H);clear H;have H:=H1;clear H1;have H':=za H;clear H;(go_wp2);(go_loopg [22] kj2 (fun kq v22 w'=>∃ (x22_2:Int),v22=.int .i64 x22_2∧Aside0 (spec_lcGood.l0 kq l1 l1 (l1.length:Int) x22_2 a0_0 a0_1 l0_2=some r)∧Aside0 (kq≤kj2)∧Aside0 (w'.heap[gb101]?=some (.cells #[.int .i64 a0_0,.int .i64 a0_1,(.slice A0_2 l0_2.length c0_2)] 26 (0,0)))∧Aside0 (Below w.heap.size w w')));case atStart=>exact ⟨(0),(by first|rfl|(simp;done)|(simp [*];done)),H',⟨Nat.le_refl _⟩,⟨by apply_rules only [BK101.out,zd,zb,ze]⟩,⟨by apply_rules only [HB.out,zf,zg,zc,zh,GE101.out]⟩⟩
    case round =>
     clear H';(try clear c1);(try clear p2);(try clear c5);(try clear c5b0);(try clear c5b1);(try clear p6);(try clear c9);(try clear hcz7_0);(try clear hcz7_1);(try clear hcz7_2);(try clear hcz8_0);(try clear hcz8_1);(try clear hcz8_2);(try clear hfz7_0);(try clear hfz7_1);(try clear hfz7_2);(try clear hfz8_0);(try clear hfz8_1);(try clear hfz8_2);(try clear p2);(try clear p6);obtain ⟨x22_2,rfl,HA,HK2,BK101,HB⟩:=hrel
     cases gk with
    |zero=>exact absurd HA.out (by simp [spec_lcGood.l0])
    |succ k2 =>
      have H:=HA.out;clear HA;simp only [spec_lcGood.l0] at H;by_cases c10:x22_2 < (l1.length:Int)
      ·
       rw [if_pos c10] at H;have c10b0:decide (x22_2 < (l1.length:Int))=true:=decide_eq_true c10;clear c10;by_cases c11:0≤x22_2
       ·
        rw [if_pos c11] at H;have c11b0:decide (0≤x22_2)=true:=decide_eq_true c11;clear c11;by_cases c12:x22_2 < (l1.length:Int)
        ·
         rw [if_pos c12] at H;have c12b0:decide (x22_2 < (l1.length:Int))=true:=decide_eq_true c12;clear c12;by_cases c13:(rd l1 x22_2) ≥ 0
         ·
          rw [if_pos c13] at H;have c13b0:decide (0≤(rd l1 x22_2))=true:=decide_eq_true c13;clear c13;obtain ⟨t104,A14,H⟩:=bindAside H;(try dsimp only at H);by_cases c15:t104=true
          ·
           subst c15;(have H1:(if x22_2≤(l1.length:Int) then ((spec_l1Has.f k2 (l1.take (x22_2:Int).toNat) (rd l1 x22_2)).bind fun t106=>(if t106=true then (some false) else (spec_lcGood.l0 k2 l1 l1 (l1.length:Int) (wrap64 (x22_2 + 1)) a0_0 a0_1 l0_2))) else (none))=some r:=by rw [if_pos rfl] at H;exact H);clear H;have H:=H1;clear H1;have c16b0:=eq_true (of_decide_eq_true ‹_›:0≤x22_2);by_cases c17:x22_2≤(l1.length:Int)
           ·
            rw [if_pos c17] at H;have c17b0:=eq_true c17;have c17b1:decide (x22_2≤(l1.length:Int))=true:=decide_eq_true c17;clear c17;obtain ⟨t106,A18,H⟩:=bindAside H;(try dsimp only at H);by_cases c19:t106=true
            · subst c19;(have H1:(some false)=some r:=by rw [if_pos rfl] at H;exact H);clear H;have H:=H1;clear H1;obtain rfl:=Option.some.inj H;have p103:0≤(x22_2:Int):=of_decide_eq_true ‹_›;have q103:x22_2 < (l1.length:Int):=of_decide_eq_true ‹_›;obtain ⟨ad103,e103,hx103_0⟩:=Kd.at_int HR1.out x22_2 p103 q103;cases e103;replace hx103_0:=(HB.out.cell (World.block_lt_of_cell? w _ hx103_0)).trans hx103_0;replace p103:=eq_true p103;replace q103:=eq_true q103;have hcz20_0:wr.cell? ⟨gb101,0,none⟩=some (.int .i64 a0_0):=(zi BK101.out 0).trans rfl;have hcz20_1:wr.cell? ⟨gb101,1,none⟩=some (.int .i64 a0_1):=(zi BK101.out 1).trans rfl;have hcz20_2:wr.cell? ⟨gb101,2,none⟩=some (.slice A0_2 l0_2.length c0_2):=(zi BK101.out 2).trans rfl;have hfz20_0:=zk BK101.out 0;have hfz20_1:=zk BK101.out 1;have hfz20_2:=zk BK101.out 2;(go_wp2_with (first|(go_at_call 98;(with_reducible refine (spec_boHas.calls a0_0 a0_1 _ _ l0_2 x22_2 (rd l1 x22_2) true _ ?side1 ?side2 A14.out).mono ?_);(case side1=>apply_rules only [zF HR0_2.out HB.out,zw,zx,zy]);(case side2=>exact HC0_2.out);rintro e w21 ⟨rfl,hb⟩;replace BK101:=za (zz (g:=gb101) (o:=.cells #[.int .i64 a0_0,.int .i64 a0_1,.slice A0_2 l0_2.length c0_2] 26 (0,0)) (by apply_rules only [BK101.out,zd,zb,ze]) hb);replace HB:=za (zv (by apply_rules only [HB.out,zf,zg,zc,zh,GE101.out]) hb);obtain ⟨i022,hi022,_,hsz22,_⟩:=info_parts info3;obtain ⟨hcut22,hA22,hC22⟩:=print_take_of (P:=Try.prog) (Value.int .i64) 0 24 3 .i64 Try.underlying24 hi022 hsz22 (some ad103) c1 l1 x22_2 (of_decide_eq_true ‹_›) (of_decide_eq_true ‹_›) HC1.out;have HR105:=za (Kd.C_of_reads (h1:=fun _=>rfl) (hA22 _ (Kd.reads_of_C HR1.out)));have HC105:=za hC22;clear hA22 hC22 hi022 hsz22)|(go_at_call 89;refine calls_of_args (args':=#[.slice (some ad103) (l1.take (x22_2:Int).toNat).length c1,.int .i64 (rd l1 x22_2)]) (by first|(rw [show (l1.take (x22_2:Int).toNat).length=x22_2.toNat from (by rw [List.length_take];have h_:(x22_2:Int)≤(l1.length:Int):=of_decide_eq_true ‹_›;omega)] <;> rfl)|rfl) ?_;(with_reducible refine (spec_l1Has.calls k2 _ _ (l1.take (x22_2:Int).toNat) (rd l1 x22_2) true _ ?side1 ?side2 A18.out).mono ?_);(case side1=>apply_rules only [zF HR105.out HB.out,zw,zx,zy]);(case side2=>exact HC105.out);rintro e w' ⟨rfl,⟨nd,rfl⟩⟩)));(go_ret);exact ⟨by first|rfl|simp [*,errW_none,errW_some] <;> rfl,by repeat (first|(with_reducible first|exact HB.out|apply zf|apply zg|apply zc|refine zh ?_ GE101.out)|exact HB.out)⟩
            · replace c19:=Bool.eq_false_iff.mpr c19;subst c19;(have H1:(spec_lcGood.l0 k2 l1 l1 (l1.length:Int) (wrap64 (x22_2 + 1)) a0_0 a0_1 l0_2)=some r:=by rw [if_neg (show ¬ (false=true) by decide)] at H;exact H);clear H;have H:=H1;clear H1;have H':=za H;clear H;have p103:0≤(x22_2:Int):=of_decide_eq_true ‹_›;have q103:x22_2 < (l1.length:Int):=of_decide_eq_true ‹_›;obtain ⟨ad103,e103,hx103_0⟩:=Kd.at_int HR1.out x22_2 p103 q103;cases e103;replace hx103_0:=(HB.out.cell (World.block_lt_of_cell? w _ hx103_0)).trans hx103_0;replace p103:=eq_true p103;replace q103:=eq_true q103;have hcz23_0:wr.cell? ⟨gb101,0,none⟩=some (.int .i64 a0_0):=(zi BK101.out 0).trans rfl;have hcz23_1:wr.cell? ⟨gb101,1,none⟩=some (.int .i64 a0_1):=(zi BK101.out 1).trans rfl;have hcz23_2:wr.cell? ⟨gb101,2,none⟩=some (.slice A0_2 l0_2.length c0_2):=(zi BK101.out 2).trans rfl;have hfz23_0:=zk BK101.out 0;have hfz23_1:=zk BK101.out 1;have hfz23_2:=zk BK101.out 2;(go_wp2_with (first|(go_at_call 98;(with_reducible refine (spec_boHas.calls a0_0 a0_1 _ _ l0_2 x22_2 (rd l1 x22_2) true _ ?side1 ?side2 A14.out).mono ?_);(case side1=>apply_rules only [zF HR0_2.out HB.out,zw,zx,zy]);(case side2=>exact HC0_2.out);rintro e w24 ⟨rfl,hb⟩;replace BK101:=za (zz (g:=gb101) (o:=.cells #[.int .i64 a0_0,.int .i64 a0_1,.slice A0_2 l0_2.length c0_2] 26 (0,0)) (by apply_rules only [BK101.out,zd,zb,ze]) hb);replace HB:=za (zv (by apply_rules only [HB.out,zf,zg,zc,zh,GE101.out]) hb);obtain ⟨i025,hi025,_,hsz25,_⟩:=info_parts info3;obtain ⟨hcut25,hA25,hC25⟩:=print_take_of (P:=Try.prog) (Value.int .i64) 0 24 3 .i64 Try.underlying24 hi025 hsz25 (some ad103) c1 l1 x22_2 (of_decide_eq_true ‹_›) (of_decide_eq_true ‹_›) HC1.out;have HR105:=za (Kd.C_of_reads (h1:=fun _=>rfl) (hA25 _ (Kd.reads_of_C HR1.out)));have HC105:=za hC25;clear hA25 hC25 hi025 hsz25)|(go_at_call 89;refine calls_of_args (args':=#[.slice (some ad103) (l1.take (x22_2:Int).toNat).length c1,.int .i64 (rd l1 x22_2)]) (by first|(rw [show (l1.take (x22_2:Int).toNat).length=x22_2.toNat from (by rw [List.length_take];have h_:(x22_2:Int)≤(l1.length:Int):=of_decide_eq_true ‹_›;omega)] <;> rfl)|rfl) ?_;(with_reducible refine (spec_l1Has.calls k2 _ _ (l1.take (x22_2:Int).toNat) (rd l1 x22_2) false _ ?side1 ?side2 A18.out).mono ?_);(case side1=>apply_rules only [zF HR105.out HB.out,zw,zx,zy]);(case side2=>exact HC105.out);rintro e w' ⟨rfl,⟨nd,rfl⟩⟩)));(go_roundg k2);(case measure=>have:=HJ2.out;have:=HK2.out;omega);case rel=>exact ⟨(wrap64 (x22_2 + 1)),(by first|rfl|(simp;done)|(simp [*];done)),H',⟨by have:=HJ2.out;have:=HK2.out;omega⟩,⟨by apply_rules only [BK101.out,zd,zb,ze]⟩,⟨by apply_rules only [HB.out,zf,zg,zc,zh,GE101.out]⟩⟩
           · rw [if_neg c17] at H;exact absurd H (by simp)
          · replace c15:=Bool.eq_false_iff.mpr c15;subst c15;(have H1:(some false)=some r:=by rw [if_neg (show ¬ (false=true) by decide)] at H;exact H);clear H;have H:=H1;clear H1;obtain rfl:=Option.some.inj H;have p103:0≤(x22_2:Int):=of_decide_eq_true ‹_›;have q103:x22_2 < (l1.length:Int):=of_decide_eq_true ‹_›;obtain ⟨ad103,e103,hx103_0⟩:=Kd.at_int HR1.out x22_2 p103 q103;cases e103;replace hx103_0:=(HB.out.cell (World.block_lt_of_cell? w _ hx103_0)).trans hx103_0;replace p103:=eq_true p103;replace q103:=eq_true q103;have hcz26_0:wr.cell? ⟨gb101,0,none⟩=some (.int .i64 a0_0):=(zi BK101.out 0).trans rfl;have hcz26_1:wr.cell? ⟨gb101,1,none⟩=some (.int .i64 a0_1):=(zi BK101.out 1).trans rfl;have hcz26_2:wr.cell? ⟨gb101,2,none⟩=some (.slice A0_2 l0_2.length c0_2):=(zi BK101.out 2).trans rfl;have hfz26_0:=zk BK101.out 0;have hfz26_1:=zk BK101.out 1;have hfz26_2:=zk BK101.out 2;(go_wp2_with (first|(go_at_call 98;(with_reducible refine (spec_boHas.calls a0_0 a0_1 _ _ l0_2 x22_2 (rd l1 x22_2) false _ ?side1 ?side2 A14.out).mono ?_);(case side1=>apply_rules only [zF HR0_2.out HB.out,zw,zx,zy]);(case side2=>exact HC0_2.out);rintro e w27 ⟨rfl,hb⟩;replace BK101:=za (zz (g:=gb101) (o:=.cells #[.int .i64 a0_0,.int .i64 a0_1,.slice A0_2 l0_2.length c0_2] 26 (0,0)) (by apply_rules only [BK101.out,zd,zb,ze]) hb);replace HB:=za (zv (by apply_rules only [HB.out,zf,zg,zc,zh,GE101.out]) hb))));(go_ret);exact ⟨by first|rfl|simp [*,errW_none,errW_some] <;> rfl,by repeat (first|(with_reducible first|exact HB.out|apply zf|apply zg|apply zc|refine zh ?_ GE101.out)|exact HB.out)⟩
         · rw [if_neg c13] at H;have c13b0:decide (0≤(rd l1 x22_2))=false:=decide_eq_false c13;clear c13;have H':=za H;clear H;have p103:0≤(x22_2:Int):=of_decide_eq_true ‹_›;have q103:x22_2 < (l1.length:Int):=of_decide_eq_true ‹_›;obtain ⟨ad103,e103,hx103_0⟩:=Kd.at_int HR1.out x22_2 p103 q103;cases e103;replace hx103_0:=(HB.out.cell (World.block_lt_of_cell? w _ hx103_0)).trans hx103_0;replace p103:=eq_true p103;replace q103:=eq_true q103;(go_wp2);(go_roundg k2);(case measure=>have:=HJ2.out;have:=HK2.out;omega);case rel=>exact ⟨(wrap64 (x22_2 + 1)),(by first|rfl|(simp;done)|(simp [*];done)),H',⟨by have:=HJ2.out;have:=HK2.out;omega⟩,⟨by apply_rules only [BK101.out,zd,zb,ze]⟩,⟨by apply_rules only [HB.out,zf,zg,zc,zh,GE101.out]⟩⟩
        · rw [if_neg c12] at H;exact absurd H (by simp)
       · rw [if_neg c11] at H;exact absurd H (by simp)
      · rw [if_neg c10] at H;have c10b0:decide (x22_2 < (l1.length:Int))=false:=decide_eq_false c10;clear c10;obtain rfl:=Option.some.inj H;(go_wp2);(go_ret);exact ⟨by first|rfl|simp [*,errW_none,errW_some] <;> rfl,by repeat (first|(with_reducible first|exact HB.out|apply zf|apply zg|apply zc|refine zh ?_ GE101.out)|exact HB.out)⟩
end Go.Proofs.Ytgnmcfoenmfhcaa.Q
end
section
namespace Go.Proofs.Ytgnmcfoenmfhcaa.Q
open Go.RowKit Go.Proofs.YtgnmcfoenmfhcaaW.PrintWords Go.Proofs.YtgnmcfoenmfhcaaW.PrintLast Go.Proofs.YtgnmcfoenmfhcaaW.PrintMore
attribute [local go_sem] max2_int min2_int max_two min_two max_three min_three max_four min_four   -- for this text's walks alone
set_option linter.unusedVariables false
set_option linter.unusedSimpArgs false
def spec_lcSize.l0:Nat→Int→List Int→Int→Int→Option (Int)
|0,_,_,_,_=>none
|k + 1,x3,x6,x7,x8=>if x8 < x7 then (if 0≤x8 then (if x8 < (x6.length:Int) then (if (rd x6 x8) ≥ 0 then (spec_lcSize.l0 k (wrap64 (x3 + 1)) x6 x7 (wrap64 (x8 + 1))) else (spec_lcSize.l0 k x3 x6 x7 (wrap64 (x8 + 1)))) else (none)) else (none)) else (some x3)
def spec_lcSize.f (k:Nat) (l0:List Int):Option (Int):=spec_lcSize.l0 k 0 l0 (l0.length:Int) 0
set_option maxHeartbeats 8000000 in
set_option maxRecDepth 100000 in
theorem spec_lcSize.calls (k:Nat) (A0:Option Addr) (c0:Nat) (l0:List Int) (r:Int) (w:World) (hr0:Kd.C (Kd.int .i64) w A0 l0.length l0) (hc0:l0.length≤c0) (h:spec_lcSize.f k l0=some r) :
  Calls Try.prog 93 #[.slice A0 l0.length c0] w fun e w'=>e=.returned (.int .i64 r)∧Drawn0 w w':=by
 have HR0:=za hr0;have HC0:=za hc0;clear hr0 hc0;have H:(spec_lcSize.l0 k 0 l0 (l0.length:Int) 0)=some r:=h;clear h;have H':=za H;clear H;(go_enter Try.func93,Try.ntmps93);(go_wp2);(go_loopg [3,8] k (fun kq v3 v8 w'=>∃ (x3_1:Int) (x8_1:Int),v3=.int .i64 x3_1∧v8=.int .i64 x8_1∧Aside0 (spec_lcSize.l0 kq x3_1 l0 (l0.length:Int) x8_1=some r)∧Aside0 (kq≤k)∧Drawn0 w w'));case atStart=>exact ⟨(0),(0),(by first|rfl|(simp;done)|(simp [*];done)),(by first|rfl|(simp;done)|(simp [*];done)),H',⟨Nat.le_refl _⟩,by apply_rules only [Drawn0.refl _,Drawn0.step]⟩
 case round =>
  clear H';obtain ⟨x3_1,x8_1,rfl,rfl,HA,HK1,⟨m1,rfl⟩⟩:=hrel
  cases gk with
 |zero=>exact absurd HA.out (by simp [spec_lcSize.l0])
 |succ k1 =>
   have H:=HA.out;clear HA;simp only [spec_lcSize.l0] at H;by_cases c2:x8_1 < (l0.length:Int)
   ·
    rw [if_pos c2] at H;have c2b0:decide (x8_1 < (l0.length:Int))=true:=decide_eq_true c2;clear c2;by_cases c3:0≤x8_1
    ·
     rw [if_pos c3] at H;have c3b0:decide (0≤x8_1)=true:=decide_eq_true c3;clear c3;by_cases c4:x8_1 < (l0.length:Int)
     ·
      rw [if_pos c4] at H;have c4b0:decide (x8_1 < (l0.length:Int))=true:=decide_eq_true c4;clear c4;by_cases c5:(rd l0 x8_1) ≥ 0
      · rw [if_pos c5] at H;have c5b0:decide (0≤(rd l0 x8_1))=true:=decide_eq_true c5;clear c5;have H':=za H;clear H;have p101:0≤(x8_1:Int):=of_decide_eq_true ‹_›;have q101:x8_1 < (l0.length:Int):=of_decide_eq_true ‹_›;obtain ⟨ad101,e101,hx101_0⟩:=Kd.at_int HR0.out x8_1 p101 q101;cases e101;replace p101:=eq_true p101;replace q101:=eq_true q101;(go_wp2);(go_roundg k1);(case measure=>have:=HK1.out;omega);case rel=>exact ⟨(wrap64 (x3_1 + 1)),(wrap64 (x8_1 + 1)),(by first|rfl|(simp;done)|(simp [*];done)),(by first|rfl|(simp;done)|(simp [*];done)),H',⟨by have:=HK1.out;omega⟩,by apply_rules only [Drawn0.refl _,Drawn0.step]⟩
      · rw [if_neg c5] at H;have c5b0:decide (0≤(rd l0 x8_1))=false:=decide_eq_false c5;clear c5;have H':=za H;clear H;have p101:0≤(x8_1:Int):=of_decide_eq_true ‹_›;have q101:x8_1 < (l0.length:Int):=of_decide_eq_true ‹_›;obtain ⟨ad101,e101,hx101_0⟩:=Kd.at_int HR0.out x8_1 p101 q101;cases e101;replace p101:=eq_true p101;replace q101:=eq_true q101;(go_wp2);(go_roundg k1);(case measure=>have:=HK1.out;omega);case rel=>exact ⟨(x3_1),(wrap64 (x8_1 + 1)),(by first|rfl|(simp;done)|(simp [*];done)),(by first|rfl|(simp;done)|(simp [*];done)),H',⟨by have:=HK1.out;omega⟩,by apply_rules only [Drawn0.refl _,Drawn0.step]⟩
     · rw [if_neg c4] at H;exact absurd H (by simp)
    · rw [if_neg c3] at H;exact absurd H (by simp)
   · rw [if_neg c2] at H;have c2b0:decide (x8_1 < (l0.length:Int))=false:=decide_eq_false c2;clear c2;obtain rfl:=Option.some.inj H;(go_wp2);(go_ret);exact ⟨by first|rfl|(simp;done)|(simp [*];done),by apply_rules only [Drawn0.refl _,Drawn0.step]⟩
end Go.Proofs.Ytgnmcfoenmfhcaa.Q
end
