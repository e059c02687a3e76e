/- Texts of this claim put together (9): words, what the functions compute, and plain facts. No conditions. -/
import Derived.Test.YtiopnmgcajohfaaSFnHitsAndRooks4
import Derived.Test.YtiopnmgcajohfaaSFnHitsAndRooks5
import Derived.Test.YtiopnmgcajohfaaSFnHitsAndRooks8
import Derived.Deep.RegionWith
import Derived.Test.YtiopnmgcajohfaaSFnHitsAndRooks0
section
namespace Go.Proofs.Ytiopnmgcajohfaa.Q
open Go.RowKit Go.Proofs.YtiopnmgcajohfaaW.PrintWords Go.Proofs.YtiopnmgcajohfaaW.PrintLast Go.Proofs.YtiopnmgcajohfaaW.PrintMore
attribute [local go_sem] max2_int min2_int max_two min_two max_three min_three max_four min_four   -- for this text's walks alone
set_option linter.unusedVariables false
set_option linter.unusedSimpArgs false
mutual
def spec_PermutationsHitting.j0:Nat→Int→Bool→Int→Int→List Int→Option ((List (List Int)) × Bool)
|0,_,_,_,_,_=>none
|k + 1,x1,x16,x102000,x102001,x102002=>if x16=true then (some (([]:List (List Int)),false)) else ((spec_hiAll.f k x102000 ([]:List Int)).bind fun t104=>(spec_PermutationsHitting.l0 k x1 ([]:List (List Int)) t104 (t104.length:Int) 0 x102000 x102001 x102002))
def spec_PermutationsHitting.l0:Nat→Int→List (List Int)→List (List Int)→Int→Int→Int→Int→List Int→Option ((List (List Int)) × Bool)
|0,_,_,_,_,_,_,_,_=>none
|k + 1,x1,x6,x19,x20,x21,x102000,x102001,x102002=>if x21 < x20 then (if 0≤x21 then (if x21 < (x19.length:Int) then ((spec_hiHits.f k x102000 x102001 x102002 (rd_L1 x19 x21)).bind fun t108=>(if t108=x1 then (if x6.length < 5864062014805 then (spec_PermutationsHitting.l0 k x1 (x6 ++ [rd_L1 x19 x21]) x19 x20 (wrap64 (x21 + 1)) x102000 x102001 x102002) else (none)) else (spec_PermutationsHitting.l0 k x1 x6 x19 x20 (wrap64 (x21 + 1)) x102000 x102001 x102002))) else (none)) else (none)) else (some (x6,true))
end
def spec_PermutationsHitting.f (k:Nat) (a0_0:Int) (a0_1:Int) (l0_2:List Int) (a1:Int):Option ((List (List Int)) × Bool):=(spec_hiGood.f k a0_0 a0_1 l0_2).bind fun t102=>(if t102=true then ((spec_l1In.f a1 0 6).bind fun t103=>(spec_PermutationsHitting.j0 k a1 (!t103) a0_0 a0_1 l0_2)) else (spec_PermutationsHitting.j0 k a1 true a0_0 a0_1 l0_2))
end Go.Proofs.Ytiopnmgcajohfaa.Q
end
section
namespace Go.Proofs.Ytiopnmgcajohfaa.PermHitK
set_option linter.unusedVariables false
open Go.RowKit Go.Proofs.Ytiopnmgcajohfaa.Q Go.Proofs.YtiopnmgcajohfaaW.PrintWords Go.Proofs.YtiopnmgcajohfaaW.PrintLast Go.Proofs.YtiopnmgcajohfaaW.PrintMore
open Go.Proofs.YtiopnmgcajohfaaL Go.Proofs.Ytiopnmgcajohfaa.LawK Go.Proofs.Ytiopnmgcajohfaa.BoardK Go.Proofs.Ytiopnmgcajohfaa.PermK Go.Proofs.Ytiopnmgcajohfaa.Walk Go.Proofs.Ytiopnmgcajohfaa.HN Go.Proofs.Ytiopnmgcajohfaa.HitAllK
def ans (r c : Int) (l : List Int) (k : Int) : List (List Int) × Bool := if (squareB r c l && inR 0 6 k) = true then (hitting l k (permsOf l.length), true) else ([], false)
theorem perms_shape {n : Nat} {p : List Int} (h : p ∈ permsOf n) : p.length = n ∧ ∀ x ∈ p, 0 ≤ x ∧ x < n := by
  obtain ⟨s, h1, h2⟩ := ways_shape _ _ _ _ _ _ p (List.mem_filter.1 h).1
  have hp2 : p.length = n := by rw [h1]; simpa using h2
  exact ⟨hp2, perms_in h hp2⟩
theorem spec_l0 {RI CI : Int} {l : List Int} (hs : squareB RI CI l = true) (kI : Int) (L : List (List Int)) (hL : L.length ≤ 117649) (hin : ∀ p ∈ L, p.length = l.length ∧ ∀ x ∈ p, 0 ≤ x ∧ x < l.length) :
    ∀ (d i : Nat) (o : List (List Int)), i + d = L.length → o.length ≤ i → Ev (fun k => spec_PermutationsHitting.l0 k kI o L (L.length : Int) i RI CI l) (o ++ hitting l kI (L.drop i), true)
  | 0, i, o, hi, ho => by
    refine Ev.step (f := fun _ => some (o, true)) (fun k => ?_) (evEq (Ev.now _) (by rw [List.drop_eq_nil_of_le (by omega)]; simp [hitting]))
    rw [spec_PermutationsHitting.l0, if_neg (by omega)]
  | d + 1, i, o, hi, ho => by
    obtain ⟨q1, q2, q3, q4, q5⟩ := board_bits hs
    have h1 : wrap64 ((i : Int) + 1) = ((i + 1 : Nat) : Int) := by rw [w64 (by omega) (by omega)]; rfl
    have hi2 : i < L.length := by omega
    obtain ⟨p1, p2⟩ := hin L[i] (List.getElem_mem hi2)
    have hh : Ev (fun k => spec_hiHits.f k RI CI l L[i]) (hitsF l L[i] 0 0) := by
      have := spec_hits (l := l) (p := L[i]) RI CI p1 q1 q5 (fun x hx => by have := p2 x hx; omega) L[i].length 0 0 (by omega) (by omega) (by omega)
      rw [List.drop_zero] at this
      exact this
    have hrd : rd_L1 L (i : Int) = L[i] := by unfold rd_L1; rw [Int.toNat_natCast]; exact gD_lt _ _ hi2
    rw [List.drop_eq_getElem_cons hi2]
    refine Ev.step (fun k => by rw [spec_PermutationsHitting.l0, if_pos (by omega), if_pos (by omega), if_pos (by omega), hrd]) ?_
    refine Ev.bind hh ?_
    by_cases e : hitsF l L[i] 0 0 = kI
    · have ih := spec_l0 hs kI L hL hin d (i + 1) (o ++ [L[i]]) (by omega) (by rw [List.length_append, List.length_singleton]; omega)
      refine Ev.congr (fun k => by rw [if_pos e, if_pos (by omega), h1]) (evEq ih ?_)
      unfold hitting
      rw [List.filter_cons, if_pos (decide_eq_true e), List.append_assoc]; rfl
    · have ih := spec_l0 hs kI L hL hin d (i + 1) o (by omega) (by omega)
      refine Ev.congr (fun k => by rw [if_neg e, h1]) (evEq ih ?_)
      unfold hitting
      rw [List.filter_cons, if_neg (by simpa using e)]
theorem spec_answer {r c : Int} {l : List Int} (k : Int) (hl : l.length ≤ 1048576) : Ev (fun n => spec_PermutationsHitting.f n r c l k) (ans r c l k) := by
  unfold spec_PermutationsHitting.f ans
  have no : Ev (fun n => spec_PermutationsHitting.j0 n k true r c l) ([], false) := Ev.step (f := fun _ => some ([], false)) (fun n => by rw [spec_PermutationsHitting.j0, if_pos rfl]) (Ev.now _)
  refine Ev.bind (hiGood r c (by omega)) ?_
  by_cases hs : squareB r c l = true
  · rw [hs, Bool.true_and]
    refine Ev.congr (fun n => by rw [if_pos rfl, l1In_f, Option.bind_some]) ?_
    by_cases hk : inR 0 6 k = true
    · rw [if_pos hk, hk]
      obtain ⟨q1, q2, q3, q4, q5⟩ := board_bits hs
      refine Ev.step (fun n => by rw [spec_PermutationsHitting.j0, if_neg (by simp)]) ?_
      rw [← q2]
      refine Ev.bind (spec_all q1 l.length [] (by simp)) ?_
      rw [← permsOf_all]
      have := spec_l0 hs k (permsOf l.length) (perms_len q1) (fun p hp => perms_shape hp) (permsOf l.length).length 0 [] (by omega) (by simp)
      rw [List.drop_zero, List.nil_append] at this
      rw [q2]
      exact this
    · rw [if_neg hk, show inR 0 6 k = false by simpa using hk]
      exact no
  · rw [show squareB r c l = false by simpa using hs, Bool.false_and, if_neg (by simp)]
    exact Ev.congr (fun n => if_neg (by simp)) no
end Go.Proofs.Ytiopnmgcajohfaa.PermHitK
end
section
namespace Go.Proofs.Ytiopnmgcajohfaa.HitLawK
set_option linter.unusedVariables false
open Go.RowKit Go.Proofs.Ytiopnmgcajohfaa.Q Go.Proofs.YtiopnmgcajohfaaW.PrintWords Go.Proofs.YtiopnmgcajohfaaW.PrintLast Go.Proofs.YtiopnmgcajohfaaW.PrintMore
open Go.Proofs.YtiopnmgcajohfaaL Go.Proofs.Ytiopnmgcajohfaa.LawK Go.Proofs.Ytiopnmgcajohfaa.BoardK Go.Proofs.Ytiopnmgcajohfaa.PermK Go.Proofs.Ytiopnmgcajohfaa.Walk Go.Proofs.Ytiopnmgcajohfaa.HN Go.Proofs.Ytiopnmgcajohfaa.HitAllK Go.Proofs.Ytiopnmgcajohfaa.PermHitK
theorem all_form (n : Nat) : ∀ (d : Nat) (pre : List Int), ∀ q ∈ allFrom n d pre, ∃ s, q = pre ++ s ∧ s.length = d ∧ permI n s pre = true
  | 0, pre, q, hq => by
    rw [allFrom, List.mem_singleton] at hq
    exact ⟨[], by rw [hq, List.append_nil], rfl, rfl⟩
  | d + 1, pre, q, hq => by
    rw [allFrom, List.mem_flatMap] at hq
    obtain ⟨x, hx, hq⟩ := hq
    unfold nextOf at hq
    split at hq
    · cases hq
    · rename_i hn
      obtain ⟨s, e, h1, h2⟩ := all_form n d (pre ++ [x]) q hq
      have hxr : inR 0 ((n : Int) - 1) x = true := by
        obtain ⟨i, hi, e⟩ := List.mem_iff_getElem.1 hx
        rw [iota_get] at e
        rw [iota_length] at hi
        exact decide_eq_true ⟨by omega, by omega⟩
      refine ⟨x :: s, by rw [e, List.append_assoc]; rfl, by rw [List.length_cons, h1], ?_⟩
      rw [permI, hxr, h2, decide_eq_false hn]
      rfl
theorem counts_fold (l : List Int) (m : Nat) : ∀ (vis : List (List Int)) (out : List Int) (f : Nat → Nat), out.length = m → (∀ n, n < m → out[n]? = some ((f n : Nat) : Int)) → (∀ p ∈ vis, hitsF l p 0 0 < m) → (∀ n, f n + vis.length ≤ 4611686018427387904) →
    (vis.foldl (fun o p => o.set (hitsF l p 0 0).toNat (IntKind.i64.wrap (rdOf 0 o (hitsF l p 0 0) + 1))) out).length = m ∧ ∀ n, n < m → (vis.foldl (fun o p => o.set (hitsF l p 0 0).toNat (IntKind.i64.wrap (rdOf 0 o (hitsF l p 0 0) + 1))) out)[n]? = some ((f n + vis.countP (fun p => hitsF l p 0 0 == (n : Int)) : Nat) : Int)
  | [], out, f, h1, h2, _, _ => ⟨h1, fun n hn => by rw [List.foldl_nil, h2 n hn]; simp⟩
  | p :: t, out, f, h1, h2, h3, h4 => by
    have hp := h3 p (by simp)
    have h0 := (hitsF_bound l p 0 0).1
    obtain ⟨x, hx⟩ : ∃ x : Nat, hitsF l p 0 0 = x := ⟨(hitsF l p 0 0).toNat, by omega⟩
    rw [hx] at hp
    have e : rdOf 0 out (x : Int) = ((f x : Nat) : Int) := by
      unfold rdOf
      rw [Int.toNat_natCast, List.getD_eq_getElem?_getD, h2 _ (by omega)]
      rfl
    have h5 := h4 x
    rw [List.length_cons] at h5
    have ew : IntKind.i64.wrap (((f x : Nat) : Int) + 1) = ((f x + 1 : Nat) : Int) := by rw [wrap_i64', w64 (by omega) (by omega)]; rfl
    rw [List.foldl_cons, hx, e, ew, Int.toNat_natCast]
    obtain ⟨g1, g2⟩ := counts_fold l m t (out.set x ((f x + 1 : Nat) : Int)) (fun n => f n + if x = n then 1 else 0) (by rw [List.length_set]; exact h1) (fun n hn => by
      rw [List.getElem?_set]
      by_cases c : x = n
      · subst c
        rw [if_pos rfl, if_pos (by omega), if_pos rfl]
      · rw [if_neg c, if_neg c, h2 n hn]; rfl) (fun q hq => h3 q (by simp [hq])) (fun n => by
      have := h4 n
      rw [List.length_cons] at this
      split <;> omega)
    refine ⟨g1, fun n hn => ?_⟩
    rw [g2 n hn, List.countP_cons, hx]
    congr 2
    by_cases c : x = n
    · rw [if_pos c, if_pos (beq_iff_eq.2 (by omega))]; omega
    · rw [if_neg c, if_neg (fun h => c (by have := beq_iff_eq.1 h; omega))]; omega
theorem counts_get {l : List Int} {m : Nat} {vis : List (List Int)} (h3 : ∀ p ∈ vis, hitsF l p 0 0 < m) (h4 : vis.length ≤ 4611686018427387904) : (countsF l m vis).length = m ∧ ∀ n, n < m → (countsF l m vis)[n]? = some ((vis.countP (fun p => hitsF l p 0 0 == (n : Int)) : Nat) : Int) := by
  have h := counts_fold l m vis (List.replicate m 0) (fun _ => 0) (by simp) (fun n hn => by rw [List.getElem?_replicate, if_pos hn]; rfl) h3 (fun n => by omega)
  simp only [Nat.zero_add] at h
  exact h
theorem hitting_len (l : List Int) (n : Nat) (vis : List (List Int)) : (hitting l (n : Int) vis).length = vis.countP (fun p => hitsF l p 0 0 == (n : Int)) := by
  unfold hitting
  rw [List.countP_eq_length_filter]
  congr 1
theorem hit_count {l : List Int} (hl : l.length ≤ 6) : (countsF l (l.length + 1) (permsOf l.length)).length = l.length + 1 ∧ ∀ n, n < l.length + 1 → (countsF l (l.length + 1) (permsOf l.length)).getD n 0 = ((hitting l (n : Int) (permsOf l.length)).length : Int) := by
  have hb : ∀ p ∈ permsOf l.length, hitsF l p 0 0 < ((l.length + 1 : Nat) : Int) := fun p hp => by
    have := (hitsF_bound l p 0 0).2
    have := (perms_shape hp).1
    omega
  have h := counts_get hb (Nat.le_trans (perms_len hl) (by omega))
  refine ⟨h.1, fun n hn => ?_⟩
  rw [List.getD_eq_getElem?_getD, h.2 n hn, hitting_len]
  rfl
end Go.Proofs.Ytiopnmgcajohfaa.HitLawK
end
section
namespace Go.Proofs.Ytiopnmgcajohfaa.HitSum
set_option linter.unusedVariables false
open Go.RowKit Go.Proofs.Ytiopnmgcajohfaa.Q Go.Proofs.YtiopnmgcajohfaaW.PrintWords Go.Proofs.YtiopnmgcajohfaaW.PrintLast Go.Proofs.YtiopnmgcajohfaaW.PrintMore
open Go.Proofs.YtiopnmgcajohfaaL Go.Proofs.Ytiopnmgcajohfaa.LawK Go.Proofs.Ytiopnmgcajohfaa.BoardK Go.Proofs.Ytiopnmgcajohfaa.PermK Go.Proofs.Ytiopnmgcajohfaa.Walk Go.Proofs.Ytiopnmgcajohfaa.HN Go.Proofs.Ytiopnmgcajohfaa.HitAllK Go.Proofs.Ytiopnmgcajohfaa.HitLawK Go.Proofs.Ytiopnmgcajohfaa.PermHitK
def sumTo : Nat → (Nat → Nat) → Nat
  | 0, _ => 0
  | n + 1, f => sumTo n f + f n
theorem sum_congr {f g : Nat → Nat} : ∀ {n : Nat}, (∀ i, i < n → f i = g i) → sumTo n f = sumTo n g
  | 0, _ => rfl
  | n + 1, h => by rw [sumTo, sumTo, sum_congr (fun i hi => h i (by omega)), h n (by omega)]
theorem sum_add (f g : Nat → Nat) : ∀ n, sumTo n (fun i => f i + g i) = sumTo n f + sumTo n g
  | 0 => rfl
  | n + 1 => by rw [sumTo, sumTo, sumTo, sum_add f g n]; omega
theorem sum_mul (k : Nat) (f : Nat → Nat) : ∀ n, sumTo n (fun i => k * f i) = k * sumTo n f
  | 0 => rfl
  | n + 1 => by rw [sumTo, sumTo, sum_mul k f n, Nat.mul_add]
theorem sum_zero : ∀ n, sumTo n (fun _ => 0) = 0
  | 0 => rfl
  | n + 1 => by rw [sumTo, sum_zero n]
theorem sum_swap (F : Nat → Nat → Nat) (m : Nat) : ∀ n, sumTo n (fun i => sumTo m (F i)) = sumTo m (fun j => sumTo n (fun i => F i j))
  | 0 => (sum_zero m).symm
  | n + 1 => by
    rw [sumTo, sum_swap F m n, ← sum_add]
    rfl
def put (U : Nat → Bool) (c : Nat) : Nat → Bool := fun x => U x || x == c
theorem put_comm (U : Nat → Bool) (c e : Nat) : put (put U c) e = put (put U e) c := by
  funext x
  unfold put
  rw [Bool.or_assoc, Bool.or_comm (x == c), ← Bool.or_assoc]
def free (n : Nat) (U : Nat → Bool) : Nat := sumTo n (fun c => if U c = true then 0 else 1)
theorem put_ne {U : Nat → Bool} {c x : Nat} (h : x ≠ c) : put U c x = U x := by
  unfold put
  rw [beq_eq_false_iff_ne.2 h, Bool.or_false]
theorem put_self (U : Nat → Bool) (c : Nat) : put U c c = true := by
  unfold put
  rw [beq_self_eq_true, Bool.or_true]
theorem put_true {U : Nat → Bool} {c x : Nat} (h : U x = true) : put U c x = true := by
  unfold put
  rw [h, Bool.true_or]
theorem free_put {U : Nat → Bool} {c : Nat} (h : U c = false) : ∀ n, (c < n → free n (put U c) + 1 = free n U) ∧ (n ≤ c → free n (put U c) = free n U)
  | 0 => ⟨fun h => by omega, fun _ => rfl⟩
  | n + 1 => by
    obtain ⟨h1, h2⟩ := free_put h n
    have e1 : free (n + 1) (put U c) = free n (put U c) + (if put U c n = true then 0 else 1) := rfl
    have e2 : free (n + 1) U = free n U + (if U n = true then 0 else 1) := rfl
    rw [e1, e2]
    by_cases hn : n = c
    · subst hn
      have h3 := h2 (Nat.le_refl _)
      rw [put_self, h, if_pos rfl, if_neg (by simp)]
      exact ⟨fun _ => by omega, fun _ => by omega⟩
    · rw [put_ne hn]
      refine ⟨fun hc => ?_, fun hc => ?_⟩
      · have := h1 (by omega); omega
      · have := h2 (by omega); omega
section
variable (G : Nat → Nat → Bool) (n : Nat)
def R : Nat → Nat → (Nat → Bool) → Nat → Nat
  | 0, _, _, 0 => 1
  | 0, _, _, _ + 1 => 0
  | d + 1, r, U, 0 => R d (r + 1) U 0
  | d + 1, r, U, j + 1 => R d (r + 1) U (j + 1) + sumTo n (fun c => if (G r c && !U c) = true then R d (r + 1) (put U c) j else 0)
theorem R_more : ∀ (d r : Nat) (U : Nat → Bool) (j : Nat), d < j → R G n d r U j = 0
  | 0, r, U, 0, h => by omega
  | 0, r, U, j + 1, h => rfl
  | d + 1, r, U, 0, h => by omega
  | d + 1, r, U, j + 1, h => by
    rw [R, R_more d (r + 1) U (j + 1) (by omega), sum_congr (g := fun _ => 0) (fun c _ => by rw [R_more d (r + 1) (put U c) j (by omega)]; split <;> rfl), sum_zero]
theorem R_free : ∀ (d r : Nat) (U : Nat → Bool) (j : Nat), sumTo n (fun c => if U c = true then 0 else R G n d r (put U c) j) + j * R G n d r U j = free n U * R G n d r U j
  | 0, r, U, 0 => by
    rw [R, Nat.zero_mul, Nat.mul_one, Nat.add_zero]
    exact sum_congr (fun c _ => by rw [R])
  | 0, r, U, j + 1 => by
    rw [R, Nat.mul_zero, Nat.mul_zero, Nat.add_zero, sum_congr (g := fun _ => 0) (fun c _ => by rw [R]; split <;> rfl), sum_zero]
  | d + 1, r, U, 0 => R_free d (r + 1) U 0
  | d + 1, r, U, j + 1 => by
    have ih := R_free d (r + 1) U (j + 1)
    have key : ∀ e, e < n → sumTo n (fun c => if U c = true then 0 else if (G r e && !put U c e) = true then R G n d (r + 1) (put (put U c) e) j else 0) + (j + 1) * (if (G r e && !U e) = true then R G n d (r + 1) (put U e) j else 0) = free n U * (if (G r e && !U e) = true then R G n d (r + 1) (put U e) j else 0) := by
      intro e he
      by_cases hg : (G r e && !U e) = true
      · rw [if_pos hg]
        rw [Bool.and_eq_true, Bool.not_eq_true'] at hg
        have h1 := R_free d (r + 1) (put U e) j
        have h2 := (free_put hg.2 n).1 he
        rw [sum_congr (g := fun c => if put U e c = true then 0 else R G n d (r + 1) (put (put U e) c) j) (fun c _ => by
          by_cases hu : U c = true
          · rw [if_pos hu, if_pos (put_true hu)]
          · rw [if_neg hu]
            by_cases hc : c = e
            · subst hc
              rw [put_self, if_neg (by simp), if_pos rfl]
            · rw [put_ne (fun h => hc h.symm), put_ne hc, hg.1, hg.2, if_pos (by rfl), if_neg hu, put_comm])]
        rw [← h2, Nat.add_mul, Nat.add_mul, Nat.one_mul]
        omega
      · rw [if_neg hg, Nat.mul_zero, Nat.mul_zero, Nat.add_zero, sum_congr (g := fun _ => 0) (fun c _ => by
          split
          · rfl
          · refine if_neg (fun h => hg ?_)
            rw [Bool.and_eq_true] at h ⊢
            refine ⟨h.1, ?_⟩
            cases hu : U e with
            | false => rfl
            | true => rw [put_true hu] at h; cases h.2), sum_zero]
    have hsum := sum_congr key
    rw [sum_add, sum_mul, sum_mul, ← sum_swap (fun c e => if U c = true then 0 else if (G r e && !put U c e) = true then R G n d (r + 1) (put (put U c) e) j else 0)] at hsum
    have e1 : sumTo n (fun c => if U c = true then 0 else R G n (d + 1) r (put U c) (j + 1)) = sumTo n (fun c => if U c = true then 0 else R G n d (r + 1) (put U c) (j + 1)) + sumTo n (fun c => sumTo n (fun e => if U c = true then 0 else if (G r e && !put U c e) = true then R G n d (r + 1) (put (put U c) e) j else 0)) := by
      rw [← sum_add]
      refine sum_congr (fun c _ => ?_)
      by_cases hu : U c = true
      · rw [if_pos hu, if_pos hu, sum_congr (g := fun _ => 0) (fun e _ => if_pos hu), sum_zero]
      · rw [if_neg hu, if_neg hu, R, sum_congr (f := fun e => if U c = true then 0 else if (G r e && !put U c e) = true then R G n d (r + 1) (put (put U c) e) j else 0) (fun e _ => if_neg hu)]
    rw [e1, R, Nat.mul_add, Nat.mul_add]
    omega
def fac : Nat → Nat
  | 0 => 1
  | k + 1 => (k + 1) * fac k
def T : Nat → Nat → (Nat → Bool) → Nat → Nat
  | 0, _, _, 0 => 1
  | 0, _, _, _ + 1 => 0
  | d + 1, r, U, 0 => sumTo n (fun c => if U c = true then 0 else T d (r + 1) (put U c) 0)
  | d + 1, r, U, j + 1 => sumTo n (fun c => if U c = true then 0 else T d (r + 1) (put U c) (j + 1) + if G r c = true then T d (r + 1) (put U c) j else 0)
theorem T_eq : ∀ (d r : Nat) (U : Nat → Bool) (j : Nat), free n U = d → T G n d r U j = fac (d - j) * R G n d r U j
  | 0, r, U, 0, _ => rfl
  | 0, r, U, j + 1, _ => by rw [T, R, Nat.mul_zero]
  | d + 1, r, U, 0, h => by
    have h1 := R_free G n d (r + 1) U 0
    have e : T G n (d + 1) r U 0 = fac d * sumTo n (fun c => if U c = true then 0 else R G n d (r + 1) (put U c) 0) := by
      rw [T, ← sum_mul]
      refine sum_congr (fun c hc => ?_)
      by_cases hu : U c = true
      · rw [if_pos hu, if_pos hu, Nat.mul_zero]
      · have := (free_put (eq_false_of_ne_true hu) n).1 hc
        rw [if_neg hu, if_neg hu, T_eq d (r + 1) (put U c) 0 (by omega)]
        rfl
    rw [e, R, Nat.sub_zero, fac]
    rw [Nat.zero_mul, Nat.add_zero, h] at h1
    rw [h1, ← Nat.mul_assoc, Nat.mul_comm (fac d)]
  | d + 1, r, U, j + 1, h => by
    have h1 := R_free G n d (r + 1) U (j + 1)
    have e : T G n (d + 1) r U (j + 1) = fac (d - (j + 1)) * sumTo n (fun c => if U c = true then 0 else R G n d (r + 1) (put U c) (j + 1)) + fac (d - j) * sumTo n (fun c => if (G r c && !U c) = true then R G n d (r + 1) (put U c) j else 0) := by
      rw [T, ← sum_mul, ← sum_mul, ← sum_add]
      refine sum_congr (fun c hc => ?_)
      by_cases hu : U c = true
      · rw [if_pos hu, if_pos hu, hu, if_neg (by simp), Nat.mul_zero, Nat.mul_zero]
      · have hf := eq_false_of_ne_true hu
        have := (free_put hf n).1 hc
        rw [if_neg hu, if_neg hu, T_eq d (r + 1) (put U c) (j + 1) (by omega), T_eq d (r + 1) (put U c) j (by omega), hf]
        by_cases hg : G r c = true
        · rw [hg, if_pos rfl, if_pos (by rfl)]
        · rw [if_neg hg, if_neg (by simp [hg]), Nat.mul_zero]
    rw [e, R, show d + 1 - (j + 1) = d - j by omega, Nat.mul_add]
    congr 1
    by_cases hd : j + 1 ≤ d
    · obtain ⟨m, rfl⟩ : ∃ m, d = m + (j + 1) := ⟨d - (j + 1), by omega⟩
      have hX : sumTo n (fun c => if U c = true then 0 else R G n (m + (j + 1)) (r + 1) (put U c) (j + 1)) = (m + 1) * R G n (m + (j + 1)) (r + 1) U (j + 1) := by
        rw [h, show m + (j + 1) + 1 = (m + 1) + (j + 1) by omega, Nat.add_mul (m + 1)] at h1
        exact Nat.add_right_cancel h1
      rw [hX, show m + (j + 1) - (j + 1) = m by omega, show m + (j + 1) - j = m + 1 by omega, fac, ← Nat.mul_assoc, Nat.mul_comm (fac m)]
    · have hz := R_more G n d (r + 1) U (j + 1) (by omega)
      rw [hz, Nat.mul_zero, Nat.mul_zero, Nat.add_zero] at h1
      rw [h1, hz, Nat.mul_zero, Nat.mul_zero]
end
theorem free_all : ∀ n, free n (fun _ => false) = n
  | 0 => rfl
  | n + 1 => by
    have := free_all n
    have e : free (n + 1) (fun _ => false) = free n (fun _ => false) + 1 := rfl
    rw [e, this]
def ch : Nat → Nat → Nat
  | _, 0 => 1
  | 0, _ + 1 => 0
  | n + 1, k + 1 => ch n k + ch n (k + 1)
def sumL {α : Type} (f : α → Nat) : List α → Nat
  | [] => 0
  | a :: t => f a + sumL f t
theorem sumL_app {α : Type} (f : α → Nat) : ∀ a b : List α, sumL f (a ++ b) = sumL f a + sumL f b
  | [], b => by rw [List.nil_append, sumL, Nat.zero_add]
  | x :: a, b => by rw [List.cons_append, sumL, sumL, sumL_app f a b, Nat.add_assoc]
theorem sumL_congr {α : Type} {f g : α → Nat} : ∀ {l : List α}, (∀ x ∈ l, f x = g x) → sumL f l = sumL g l
  | [], _ => rfl
  | x :: l, h => by rw [sumL, sumL, h x List.mem_cons_self, sumL_congr (fun y hy => h y (List.mem_cons_of_mem _ hy))]
theorem sumL_add {α : Type} (f g : α → Nat) : ∀ l : List α, sumL (fun x => f x + g x) l = sumL f l + sumL g l
  | [] => rfl
  | x :: l => by rw [sumL, sumL, sumL, sumL_add f g l]; omega
theorem iota_end : ∀ (n : Nat) (m : Int), iota m (n + 1) = iota m n ++ [m + (n : Int)]
  | 0, m => by rw [iota, iota, iota, List.nil_append]; simp
  | n + 1, m => by
    rw [iota, iota_end n (m + 1), iota, List.cons_append, show m + 1 + (n : Int) = m + ((n + 1 : Nat) : Int) by omega]
theorem sumL_iota {α : Type} (f : α → Nat) (F : Int → List α) : ∀ n : Nat, sumL f ((iota 0 n).flatMap F) = sumTo n (fun c => sumL f (F (c : Int)))
  | 0 => rfl
  | n + 1 => by
    rw [iota_end, List.flatMap_append, sumL_app, sumL_iota f F n, sumTo, List.flatMap_cons, List.flatMap_nil, List.append_nil, Int.zero_add]
theorem hitsF_add (l : List Int) : ∀ (p : List Int) (i : Nat) (s : Int), hitsF l p i s = s + hitsF l p i 0
  | [], i, s => by rw [hitsF, hitsF]; omega
  | c :: t, i, s => by
    rw [hitsF, hitsF]
    by_cases e : cell l i c.toNat = true
    · rw [if_pos e, if_pos e, hitsF_add l t (i + 1) (s + 1), hitsF_add l t (i + 1) (0 + 1)]; omega
    · rw [if_neg e, if_neg e, hitsF_add l t (i + 1) s]
theorem all_sum (l : List Int) (n : Nat) : ∀ (d : Nat) (pre : List Int) (j : Nat), sumL (fun q => ch (hitsF l (q.drop pre.length) pre.length 0).toNat j) (allFrom n d pre) = T (cell l) n d pre.length (fun x => decide ((x : Int) ∈ pre)) j
  | 0, pre, j => by
    rw [allFrom, sumL, sumL, List.drop_length, hitsF]
    cases j <;> rfl
  | d + 1, pre, j => by
    have step : ∀ c : Nat, c < n → ¬ ((c : Int) ∈ pre) → ∀ q ∈ allFrom n d (pre ++ [(c : Int)]), (hitsF l (q.drop pre.length) pre.length 0).toNat = (hitsF l (q.drop (pre ++ [(c : Int)]).length) (pre ++ [(c : Int)]).length 0).toNat + if cell l pre.length c = true then 1 else 0 := by
      intro c hc hn q hq
      obtain ⟨s, rfl, h1, h2⟩ := all_form n d _ q hq
      rw [List.drop_left, List.append_assoc, List.drop_left, List.length_append, List.length_singleton, List.singleton_append, hitsF, Int.toNat_natCast]
      have hb := (hitsF_bound l s (pre.length + 1) 0).1
      by_cases e : cell l pre.length c = true
      · rw [if_pos e, if_pos e, hitsF_add l s (pre.length + 1) (0 + 1)]; omega
      · rw [if_neg e, if_neg e]; omega
    have hU : ∀ c : Nat, (fun x : Nat => decide ((x : Int) ∈ pre ++ [(c : Int)])) = put (fun x : Nat => decide ((x : Int) ∈ pre)) c := by
      intro c
      funext x
      unfold put
      rw [Bool.eq_iff_iff]
      simp only [decide_eq_true_eq, Bool.or_eq_true, beq_iff_eq, List.mem_append, List.mem_singleton]
      exact or_congr_right (by omega)
    rw [allFrom, sumL_iota]
    have hlen : ∀ c : Int, (pre ++ [c]).length = pre.length + 1 := fun c => by rw [List.length_append, List.length_singleton]
    cases j with
    | zero =>
      rw [T]
      refine sum_congr (fun c hc => ?_)
      unfold nextOf
      by_cases hm : (c : Int) ∈ pre
      · rw [if_pos hm, if_pos (decide_eq_true hm)]; rfl
      · rw [if_neg hm, if_neg (by rw [decide_eq_false hm]; simp)]
        have ih := all_sum l n d (pre ++ [(c : Int)]) 0
        rw [hU, hlen] at ih
        rw [← ih]
        exact sumL_congr (fun q hq => by rw [ch, ch])
    | succ j =>
      rw [T]
      refine sum_congr (fun c hc => ?_)
      unfold nextOf
      by_cases hm : (c : Int) ∈ pre
      · rw [if_pos hm, if_pos (decide_eq_true hm)]; rfl
      · rw [if_neg hm, if_neg (by rw [decide_eq_false hm]; simp)]
        have ih := all_sum l n d (pre ++ [(c : Int)]) (j + 1)
        have ih0 := all_sum l n d (pre ++ [(c : Int)]) j
        rw [hU, hlen] at ih ih0
        rw [← ih, ← ih0]
        have st := step c hc hm
        rw [hlen] at st
        by_cases e : cell l pre.length c = true
        · rw [if_pos e, ← sumL_add]
          refine sumL_congr (fun q hq => ?_)
          rw [st q hq, if_pos e, ch, Nat.add_comm]
        · rw [if_neg e, Nat.add_zero]
          refine sumL_congr (fun q hq => ?_)
          rw [st q hq, if_neg e, Nat.add_zero]
theorem sum_one {m k : Nat} (v : Nat) : ∀ n, sumTo n (fun i => if m = i then v else 0) = if m < n then v else 0
  | 0 => by rw [sumTo, if_neg (by omega)]
  | n + 1 => by
    rw [sumTo, sum_one (k := k) v n]
    by_cases h : m = n
    · subst h; rw [if_neg (by omega), if_pos rfl, if_pos (by omega), Nat.zero_add]
    · rw [if_neg h, Nat.add_zero]
      by_cases h2 : m < n
      · rw [if_pos h2, if_pos (by omega)]
      · rw [if_neg h2, if_neg (by omega)]
theorem sum_by (g : List Int → Nat) (f : Nat → Nat) (n : Nat) : ∀ (L : List (List Int)), (∀ q ∈ L, g q < n) → sumL (fun q => f (g q)) L = sumTo n (fun k => (L.countP (fun q => g q == k)) * f k)
  | [], _ => by rw [sumL, sum_congr (g := fun _ => 0) (fun i _ => by rw [List.countP_nil, Nat.zero_mul]), sum_zero]
  | q :: t, h => by
    rw [sumL, sum_by g f n t (fun x hx => h x (List.mem_cons_of_mem _ hx)), sum_congr (f := fun k => ((q :: t).countP (fun q => g q == k)) * f k) (g := fun k => (if g q = k then f (g q) else 0) + (t.countP (fun q => g q == k)) * f k) (fun k _ => by
      rw [List.countP_cons, Nat.add_mul]
      by_cases e : g q = k
      · rw [if_pos (beq_iff_eq.2 e), if_pos e, Nat.one_mul, e, Nat.add_comm]
      · rw [if_neg (fun x => e (beq_iff_eq.1 x)), if_neg e, Nat.zero_mul, Nat.add_comm])]
    rw [sum_add, sum_one (k := 0), if_pos (h q List.mem_cons_self)]
theorem hit_rook (l : List Int) (j : Nat) : sumTo (l.length + 1) (fun k => (hitting l (k : Int) (permsOf l.length)).length * ch k j) = fac (l.length - j) * R (cell l) l.length l.length 0 (fun _ => false) j := by
  rw [← T_eq (cell l) l.length l.length 0 (fun _ => false) j (free_all _)]
  have h := all_sum l l.length l.length [] j
  have h2 : (fun x : Nat => decide ((x : Int) ∈ ([] : List Int))) = fun _ => false := by funext x; simp
  rw [h2, ← permsOf_all, List.length_nil] at h
  rw [← h, sum_by (fun q => (hitsF l (q.drop 0) 0 0).toNat) (fun m => ch m j) (l.length + 1) _ (fun q hq => by
    have h1 := hitsF_bound l q 0 0
    have h3 := (perms_shape hq).1
    rw [List.drop_zero]
    omega)]
  refine sum_congr (fun k _ => ?_)
  rw [hitting_len]
  congr 1
  refine List.countP_congr (fun q hq => ?_)
  have h1 := (hitsF_bound l q 0 0).1
  rw [List.drop_zero, beq_iff_eq, beq_iff_eq]
  omega
theorem countP_sum {α : Type} (p : α → Bool) : ∀ L : List α, L.countP p = sumL (fun q => if p q = true then 1 else 0) L
  | [] => rfl
  | q :: t => by rw [List.countP_cons, countP_sum p t, sumL, Nat.add_comm]
theorem rooks_none (pre : List Int) : rooksN (pre ++ [-1]) = rooksN pre := by
  unfold rooksN
  rw [List.countP_append]
  rfl
theorem rooks_some (pre : List Int) {c : Int} (h : c ≠ -1) : rooksN (pre ++ [c]) = rooksN pre + 1 := by
  unfold rooksN
  rw [List.countP_append, List.countP_singleton, if_pos (by simpa using h)]
theorem col_none (l : List Int) (r t : Nat) (pre : List Int) (next : Nat → List Int → List (List Int)) : colWays l r t pre next (-1) = next t (pre ++ [-1]) := by
  unfold colWays
  rw [if_pos (by omega)]
theorem col_some (l : List Int) (r t : Nat) (pre : List Int) (next : Nat → List Int → List (List Int)) (c : Nat) : colWays l r t pre next (c : Int) = if (cell l r c && !t.testBit c) = true then next (t ||| 2 ^ c) (pre ++ [(c : Int)]) else [] := by
  unfold colWays
  rw [if_neg (by omega), Int.toNat_natCast]
theorem ways_ge (l : List Int) (C : Nat) : ∀ (d r t : Nat) (pre : List Int), ∀ q ∈ waysFrom l C d r t pre, rooksN pre ≤ rooksN q
  | 0, r, t, pre, q, hq => by rw [waysFrom, List.mem_singleton] at hq; rw [hq]; exact Nat.le_refl _
  | d + 1, r, t, pre, q, hq => by
    rw [waysFrom, List.mem_flatMap] at hq
    obtain ⟨c, hc, hq⟩ := hq
    have h1 : rooksN pre ≤ rooksN (pre ++ [c]) := by
      unfold rooksN
      rw [List.countP_append]
      omega
    unfold colWays at hq
    split at hq
    · exact Nat.le_trans h1 (ways_ge l C d (r + 1) _ _ q hq)
    · split at hq
      · exact Nat.le_trans h1 (ways_ge l C d (r + 1) _ _ q hq)
      · cases hq
theorem ways_count (l : List Int) (C : Nat) : ∀ (d r t : Nat) (pre : List Int) (j : Nat), (waysFrom l C d r t pre).countP (fun q => rooksN q == rooksN pre + j) = R (cell l) C d r (fun c => t.testBit c) j
  | 0, r, t, pre, j => by
    rw [waysFrom, List.countP_singleton]
    cases j with
    | zero => rw [if_pos (by simp)]; rfl
    | succ j => rw [if_neg (by simp)]; rfl
  | d + 1, r, t, pre, j => by
    have h0 := ways_count l C d (r + 1) t (pre ++ [-1]) j
    rw [rooks_none] at h0
    have hU : ∀ c : Nat, (fun x => (t ||| 2 ^ c).testBit x) = put (fun x => t.testBit x) c := by
      intro c
      funext x
      unfold put
      rw [Nat.testBit_or, Nat.testBit_two_pow]
      congr 1
      rw [Bool.eq_iff_iff]
      simp only [decide_eq_true_eq, beq_iff_eq]
      exact eq_comm
    rw [waysFrom, iota, List.flatMap_cons, col_none, List.countP_append, h0, show (-1 : Int) + 1 = 0 from rfl, countP_sum, sumL_iota]
    cases j with
    | zero =>
      rw [R, sum_congr (g := fun _ => 0) (fun c hc => ?_), sum_zero, Nat.add_zero]
      rw [← countP_sum, col_some]
      split
      · rw [List.countP_eq_zero]
        intro q hq
        have h1 := ways_ge l C d (r + 1) _ _ q hq
        rw [rooks_some pre (by omega)] at h1
        rw [beq_iff_eq]
        omega
      · rfl
    | succ j =>
      rw [R]
      congr 1
      refine sum_congr (fun c hc => ?_)
      rw [← countP_sum, col_some]
      by_cases hg : (cell l r c && !t.testBit c) = true
      · rw [if_pos hg, if_pos hg, ← hU c, ← ways_count l C d (r + 1) (t ||| 2 ^ c) (pre ++ [(c : Int)]) j, rooks_some pre (by omega)]
        refine List.countP_congr (fun q _ => ?_)
        rw [beq_iff_eq, beq_iff_eq]
        omega
      · rw [if_neg hg, if_neg hg]; rfl
end Go.Proofs.Ytiopnmgcajohfaa.HitSum
end
section
namespace Go.Proofs.Ytiopnmgcajohfaa.MostK
set_option linter.unusedVariables false
open Go.RowKit Go.Proofs.Ytiopnmgcajohfaa.Q Go.Proofs.YtiopnmgcajohfaaW.PrintWords Go.Proofs.YtiopnmgcajohfaaW.PrintLast Go.Proofs.YtiopnmgcajohfaaW.PrintMore
open Go.Proofs.YtiopnmgcajohfaaL Go.Proofs.Ytiopnmgcajohfaa.LawK Go.Proofs.Ytiopnmgcajohfaa.BoardK Go.Proofs.Ytiopnmgcajohfaa.Walk
theorem no_bits : (fun c => (0 : Nat).testBit c) = fun _ => false := by funext c; exact Nat.zero_testBit c
theorem ways_le {l : List Int} {R C : Nat} (hlR : l.length = R) (hR : R ≤ 6) (hC : C ≤ 6) (hb : ∀ i (hi : i < l.length), 0 ≤ l[i] ∧ l[i] < 2 ^ C) : ∀ q ∈ waysFrom l C R 0 0 [], (rooksN q : Int) ≤ min (R : Int) (C : Int) := by
  intro q hq
  have h := HitSum.ways_count l C R 0 0 [] (rooksN q)
  have hp : 0 < (waysFrom l C R 0 0 []).countP (fun x => rooksN x == rooksN ([] : List Int) + rooksN q) := List.countP_pos_iff.2 ⟨q, hq, by simp [rooksN]⟩
  rw [h, no_bits] at hp
  have h1 : rooksN q ≤ R := Nat.le_of_not_lt fun hh => by rw [HitSum.R_more _ _ _ _ _ _ hh] at hp; exact Nat.lt_irrefl _ hp
  have f := HitSum.R_free (cell l) C R 0 (fun _ => false) (rooksN q)
  rw [HitSum.free_all] at f
  have h2 : rooksN q ≤ C := Nat.le_of_mul_le_mul_right (by omega : rooksN q * HitSum.R (cell l) C R 0 (fun _ => false) (rooksN q) ≤ C * HitSum.R (cell l) C R 0 (fun _ => false) (rooksN q)) hp
  omega
end Go.Proofs.Ytiopnmgcajohfaa.MostK
end
section
namespace Go.Proofs.Ytiopnmgcajohfaa.NumK
set_option linter.unusedVariables false
set_option linter.unusedSectionVars false
open Go.RowKit Go.Proofs.YtiopnmgcajohfaaW.PrintWords Go.Proofs.YtiopnmgcajohfaaW.PrintLast Go.Proofs.YtiopnmgcajohfaaW.PrintMore
open Go.Proofs.YtiopnmgcajohfaaL Go.Proofs.Ytiopnmgcajohfaa.LawK Go.Proofs.Ytiopnmgcajohfaa.BoardK Go.Proofs.Ytiopnmgcajohfaa.Walk Go.Proofs.Ytiopnmgcajohfaa.Q
def numsF (m : Nat) (vis : List (List Int)) : List Int := vis.foldl (fun o p => o.set ((rooksN p : Nat) : Int).toNat (IntKind.i64.wrap (rdOf 0 o ((rooksN p : Nat) : Int) + 1))) (List.replicate m 0)
section
variable (hI : Int) (R m cp a go ga cp2 kk bs : Nat) (ps out : List Int) (w : World)
  (hps : ps.length = R) (hcp : R ≤ cp) (hr : Kd.C (Kd.int .i64) w (some ⟨a, 0, none⟩) R ps)
  (hgo : w.heap[go]? = some (.cells #[.slice (some ⟨ga, 0, none⟩) m cp2] 28 (0, 0)))
  (ho : Kd.R (Kd.int .i64) 3 w bs (fun i => i = ga) (.slice (some ⟨ga, 0, none⟩) m cp2) out)
  (hh : impl_rooks.f kk ps = some hI) (h0 : 0 ≤ hI) (h1 : hI < (m : Int))
include hps hcp hr hgo ho hh h0 h1
set_option maxHeartbeats 4000000 in
set_option maxRecDepth 100000 in
theorem nm1 : Calls Try.prog 149 #[.slice (some ⟨a, 0, none⟩) R cp, .pointer (some ⟨go, 0, none⟩)] w
    fun e w' => e = .returned (.bool true) ∧ ∃ W2, Below w.heap.size w W2 ∧ w' = W2.setCell ⟨ga, hI.toNat, none⟩ (.int .i64 (IntKind.i64.wrap (rdOf 0 out hI + 1))) := by
  have CX := Lib.hid (fun (W : World) (hb : Below w.heap.size w W) => by
    have := impl_rooks.calls kk (some ⟨a, 0, none⟩) cp ps hI W (by rw [hps]; exact Kd.C_below hr hb) (by rw [hps]; exact hcp) hh
    rw [hps] at this
    have h2 : Calls Try.prog 141 #[.slice (some ⟨a, 0, none⟩) R cp] W fun e w' => e = .returned (.int .i64 hI) ∧ Below w.heap.size w w' := this.mono (by rintro e w' ⟨rfl, h3⟩; exact ⟨rfl, hb.trans (h3.below.mono hb.size)⟩)
    exact h2)
  have FX := Lib.hid (fun (W : World) (hb : Below w.heap.size w W) => Kd.R_celln 0 (Kd.R_below ho hb) hI h0 h1)
  have BO := Aside0.mk hgo
  have hz1 : w.cell? ⟨go, 0, none⟩ = some (.slice (some ⟨ga, 0, none⟩) m cp2) := (blk_cell hgo 0).trans rfl
  have p1 := eq_true h0
  have p2 := eq_true h1
  clear hps hcp hr hgo ho hh h0 h1
  go_enter Try.func149, Try.ntmps149
  go_wp2
  go_region_with ((go_at_call 141; refine (CX.out _ (by repeat (first | exact Below.refl _ _ | apply below_drew1 | apply pw_below_drewN))).mono ?_; rintro e w2 ⟨rfl, hb⟩; have hb2 := Aside0.mk hb; have hz5 : w2.cell? ⟨go, 0, none⟩ = some (.slice (some ⟨ga, 0, none⟩) m cp2) := (blk_cell (blk_below BO.out hb) 0).trans rfl; obtain ⟨hx, hf⟩ := FX.out w2 hb; clear hb))
  all_goals (try go_wp2)
  all_goals go_ret
  all_goals exact ⟨rfl, w2, hb2.out, rfl⟩
end
end Go.Proofs.Ytiopnmgcajohfaa.NumK
namespace Go.Proofs.Ytiopnmgcajohfaa.Q
set_option linter.unusedVariables false
open Go.RowKit Go.Proofs.YtiopnmgcajohfaaW.PrintWords Go.Proofs.YtiopnmgcajohfaaW.PrintLast Go.Proofs.YtiopnmgcajohfaaW.PrintMore
open Go.Proofs.YtiopnmgcajohfaaL Go.Proofs.Ytiopnmgcajohfaa.LawK Go.Proofs.Ytiopnmgcajohfaa.BoardK Go.Proofs.Ytiopnmgcajohfaa.Walk Go.Proofs.Ytiopnmgcajohfaa.NumK Go.Proofs.Ytiopnmgcajohfaa.MostK
def impl_Board_numbers.f (a0_0 : Int) (a0_1 : Int) (l0_2 : List Int) : Option (List Int) := if isBoardB a0_0 a0_1 l0_2 = true then some (numsF (min a0_0 a0_1 + 1).toNat (waysFrom l0_2 a0_1.toNat l0_2.length 0 0 [])) else none
structure NInv (m go ga cp2 : Nat) (l : List Int) (A0 : Option Addr) (c0 : Nat) (w0 W : World) (S : Nat → Prop) (vis : List (List Int)) (w : World) : Prop where
  o : w.heap[go]? = some (.cells #[.slice (some ⟨ga, 0, none⟩) m cp2] 28 (0, 0))
  r : Kd.R (Kd.int .i64) 3 w w0.heap.size (fun i => i = ga) (.slice (some ⟨ga, 0, none⟩) m cp2) (numsF m vis)
  B : Below w0.heap.size w0 w
  s : ∀ i, S i → W.heap.size ≤ i
set_option maxHeartbeats 4000000 in
set_option maxRecDepth 100000 in
theorem impl_Board_numbers.calls (a0_0 a0_1 : Int) (A0_2 : Option Addr) (c0_2 : Nat) (l0_2 : List Int) (r : List Int) (w : World) (hr0_2 : Kd.C (Kd.int .i64) w A0_2 l0_2.length l0_2) (hc0_2 : l0_2.length ≤ c0_2) (h : impl_Board_numbers.f a0_0 a0_1 l0_2 = some r) :
    Calls Try.prog 118 #[.agg #[.int .i64 a0_0, .int .i64 a0_1, .slice A0_2 l0_2.length c0_2]] w fun e w' => ∃ v0_ : Value, e = .returned (v0_) ∧ Kd.R (Kd.int .i64) 3 w' w.heap.size (fun _ => True) v0_ r ∧ Below w.heap.size w w' := by
  by_cases hs : isBoardB a0_0 a0_1 l0_2 = true
  rotate_left
  · rw [impl_Board_numbers.f, if_neg hs] at h; cases h
  rw [impl_Board_numbers.f, if_pos hs] at h
  have h := Option.some.inj h
  obtain ⟨R, C, rfl, rfl, hlR, h1R, hR, h1C, hC, hbits⟩ := board_of hs
  obtain ⟨m, hm⟩ : ∃ m, m = (min (R : Int) (C : Int) + 1).toNat := ⟨_, rfl⟩
  rw [← hm, Int.toNat_natCast] at h
  have hmR : (m : Int) = (min (R : Int) (C : Int)) + 1 := by omega
  have hways := ways_le hlR hR hC hbits
  have KEY : ∀ (W : World) (go ga cp2 : Nat), Below w.heap.size w W → w.heap.size ≤ go → w.heap.size ≤ ga → go ≠ ga → go < W.heap.size → ga < W.heap.size →
      NInv m go ga cp2 l0_2 A0_2 c0_2 w W (fun _ => False) [] W →
      Calls Try.prog 139 #[.agg #[.int .i64 (R : Int), .int .i64 (C : Int), .slice A0_2 l0_2.length c0_2], .func (.func 149) #[] #[.pointer (some ⟨go, 0, none⟩)]] W fun e w' => e = .returned (.tuple #[]) ∧
        w'.heap[go]? = some (.cells #[.slice (some ⟨ga, 0, none⟩) m cp2] 28 (0, 0)) ∧ Kd.R (Kd.int .i64) 3 w' w.heap.size (fun i => i = ga) (.slice (some ⟨ga, 0, none⟩) m cp2) r ∧ Below w.heap.size w w' := by
    intro W go ga cp2 hBW bo ba noa lo la hst
    refine (WalkNum.walk_calls (NInv m go ga cp2 l0_2 A0_2 c0_2 w W)
      (by
        intro S vis w1 w2 hi hs1
        have kp : ∀ g, g < W.heap.size → ∀ {o}, w1.heap[g]? = some o → w2.heap[g]? = some o := fun g hg o ho => (hs1.kept.2 g (blk_lt ho) (fun h => by have := hi.s g h; omega)).trans ho
        exact ⟨kp go lo hi.o, Kd.R_step hi.r (fun i e hlt => by subst e; exact hs1.kept.2 _ hlt (fun h => by have := hi.s _ h; omega)), Still.below hi.B hs1 (fun i h => Nat.le_trans hBW.size (hi.s i h)), hi.s⟩)
      R C R C rfl rfl l0_2 A0_2 c0_2 hc0_2 (.pointer (some ⟨go, 0, none⟩))
      (fun S vis w1 hi => Kd.C_below hr0_2 hi.B)
      hlR h1R hR hC hbits W
      (by
        intro S w1 hS hB1
        exact ⟨blk_below hst.o hB1, Kd.R_below hst.r hB1, hBW.trans (hB1.mono hBW.size), hS⟩)
      (by
        intro S vis ps w1 a cp hS hSlt hps hmem hSa hC2 hcp hi
        have hk2 := hways ps (by obtain ⟨b, hb2⟩ := hmem; rw [hb2]; simp)
        obtain ⟨kk, hk⟩ := rooks_f (l := ps) (by omega)
        refine (nm1 ((rooksN ps : Nat) : Int) R m cp a go ga cp2 kk w.heap.size ps (numsF m vis) w1 hps hcp hC2 hi.o hi.r hk (by omega) (by omega)).mono ?_
        rintro e w2 ⟨rfl, W2, hb2, rfl⟩
        have hga : a ≠ ga := fun e => by have := hi.s a hSa; omega
        refine ⟨rfl, ⟨blk_far (blk_below hi.o hb2) noa _, ?_, Below.setCell (hi.B.trans (hb2.mono hi.B.size)) (by (try simp only []); exact ba) _, hi.s⟩, fun i hSi hlt => ?_⟩
        · have := Kd.R_putn (Kd.R_below hi.r hb2) ((rooksN ps : Nat) : Int) (IntKind.i64.wrap (rdOf 0 (numsF m vis) ((rooksN ps : Nat) : Int) + 1))
          unfold numsF at this ⊢
          rw [List.foldl_append]
          exact this
        · have := hi.s i hSi
          rw [Below.heap_setCell _ _ _ _ (by (try simp only []); omega)]
          exact hb2.block i hlt)).mono ?_
    rintro e w' ⟨rfl, S, hS, hi⟩
    rw [hlR] at h
    exact ⟨rfl, hi.o, by rw [← h]; exact hi.r, hi.B⟩
  have KX := Lib.hid KEY
  have HJC := Lib.hid (show (C : Int) < (R : Int) → (wrap64 ((C : Int) + 1)).toNat = m from fun hc => by rw [w64 (by omega) (by omega)]; omega)
  have HJR := Lib.hid (show ¬ (C : Int) < (R : Int) → (wrap64 ((R : Int) + 1)).toNat = m from fun hc => by rw [w64 (by omega) (by omega)]; omega)
  have HPC := Aside0.mk (show 0 ≤ wrap64 ((C : Int) + 1) from by rw [w64 (by omega) (by omega)]; omega)
  have HPR := Aside0.mk (show 0 ≤ wrap64 ((R : Int) + 1) from by rw [w64 (by omega) (by omega)]; omega)
  have HQC := Aside0.mk (show (wrap64 ((C : Int) + 1)).toNat * 8 ≤ 281474976710656 from by rw [w64 (by omega) (by omega)]; omega)
  have HQR := Aside0.mk (show (wrap64 ((R : Int) + 1)).toNat * 8 ≤ 281474976710656 from by rw [w64 (by omega) (by omega)]; omega)
  have HM := Aside0.mk (And.intro (show 0 < m by omega) (show m ≤ 7 by omega))
  have hu24 := Try.underlying43
  clear KEY h hs hlR h1R hR h1C hC hbits hm hmR hways hr0_2 hc0_2
  generalize (R : Int) = RI at *
  generalize (C : Int) = CI at *
  clear R C
  have HCR : (CI < RI ∧ (CI < RI) = True) ∨ (¬ CI < RI ∧ (CI < RI) = False) := by
    by_cases hcr : CI < RI
    · exact .inl ⟨hcr, eq_true hcr⟩
    · exact .inr ⟨hcr, eq_false hcr⟩
  rcases HCR with ⟨hcr, q1⟩ | ⟨hcr, q1⟩
  all_goals have HCR := Aside0.mk hcr
  all_goals clear hcr
  all_goals go_enter Try.func118, Try.ntmps118
  all_goals go_wp2_with (first
    | ((with_reducible refine gate_dst (N := 1) rfl ?_); refine box_event ?hg (N := 1) ?hd (cs := #[.int .i64 RI, .int .i64 CI, .slice A0_2 l0_2.length c0_2]) (t := 43) ?hr ?_; (case hd => rfl); (case hg => rfl); (case hr => first | (go_simp; done) | (go_simp; rfl)); intro gb hg w1 hbox hb; have G1 := Aside0.mk hg; have K1 := Aside0.mk hbox; have B1 := Aside0.mk hb; clear hg hbox hb; have z1 : w1.cell? ⟨gb, 0, none⟩ = some (.int .i64 RI) := (blk_cell K1.out 0).trans rfl; have z2 : w1.cell? ⟨gb, 1, none⟩ = some (.int .i64 CI) := (blk_cell K1.out 1).trans rfl)
    | ((with_reducible refine gate_dst (N := 10) rfl ?_); refine Kd.R_make (Kd.int .i64) (w0 := w1) w1.heap.size 3 rfl (N := 10) rfl 28 _ _ rfl (wrap64 (CI + 1)) rfl rfl Try.underlying28 (.int .i64 0) 8 info3 rfl (by decide) (by omega) 0 (ok := fun _ => True) (okp := fun _ => True) rfl (fun _ hk => hk) trivial HPC.out HQC.out (Below.refl _ _) (Nat.le_refl _) ?_; intro v3 w3 ho3 hb hg_ hnew_; clear hg_ hnew_; rw [HJC.out HCR.out] at ho3; obtain ⟨ga, cp2, hv3, hga, hga2, cells3, hc3⟩ := Kd.R_form ho3 (by rw [List.length_replicate]; exact HM.out.1); rw [List.length_replicate] at hv3; subst hv3; have G3 := Aside0.mk (And.intro hga hga2); clear hga hga2 hc3; have B3 := Aside0.mk hb; have O3 := Aside0.mk ho3; clear hb ho3)
    | ((with_reducible refine gate_dst (N := 10) rfl ?_); refine Kd.R_make (Kd.int .i64) (w0 := w1) w1.heap.size 3 rfl (N := 10) rfl 28 _ _ rfl (wrap64 (RI + 1)) rfl rfl Try.underlying28 (.int .i64 0) 8 info3 rfl (by decide) (by omega) 0 (ok := fun _ => True) (okp := fun _ => True) rfl (fun _ hk => hk) trivial HPR.out HQR.out (Below.refl _ _) (Nat.le_refl _) ?_; intro v3 w3 ho3 hb hg_ hnew_; clear hg_ hnew_; rw [HJR.out HCR.out] at ho3; obtain ⟨ga, cp2, hv3, hga, hga2, cells3, hc3⟩ := Kd.R_form ho3 (by rw [List.length_replicate]; exact HM.out.1); rw [List.length_replicate] at hv3; subst hv3; have G3 := Aside0.mk (And.intro hga hga2); clear hga hga2 hc3; have B3 := Aside0.mk hb; have O3 := Aside0.mk ho3; clear hb ho3)
    | ((with_reducible refine gate_dst (N := 3) rfl ?_); refine box_event ?hg (N := 3) ?hd (cs := #[.slice none 0 0]) (t := 28) ?hr ?_; (case hd => rfl); (case hg => rfl); (case hr => first | (go_simp; done) | (go_simp; rfl)); intro go hg w4 hbox hb; have G4 := Aside0.mk hg; have K4 := Aside0.mk hbox; have B4 := Aside0.mk hb; clear hg hbox hb; have y1 : w4.cell? ⟨go, 0, none⟩ = some (.slice none 0 0) := (blk_cell K4.out 0).trans rfl; have f1 : w4.frozen? ⟨go, 0, none⟩ = false := blk_frozen K4.out 0; have nbo := Aside0.mk (show gb ≠ go from Nat.ne_of_lt (by rw [G4.out]; exact Nat.lt_of_lt_of_le (blk_lt K1.out) B3.out.size)); have K5 := Aside0.mk (show (w4.setCell ⟨go, 0, none⟩ (.slice (some ⟨ga, 0, none⟩) m cp2)).heap[gb]? = some (.cells #[.int .i64 RI, .int .i64 CI, .slice A0_2 l0_2.length c0_2] 43 (0, 0)) from blk_far (blk_below (blk_below K1.out B3.out) B4.out) nbo.out _); have z5 : (w4.setCell ⟨go, 0, none⟩ (.slice (some ⟨ga, 0, none⟩) m cp2)).cell? ⟨gb, 0, none⟩ = some (.int .i64 RI) := (blk_cell K5.out 0).trans rfl; have z6 : (w4.setCell ⟨go, 0, none⟩ (.slice (some ⟨ga, 0, none⟩) m cp2)).cell? ⟨gb, 1, none⟩ = some (.int .i64 CI) := (blk_cell K5.out 1).trans rfl; have z7 : (w4.setCell ⟨go, 0, none⟩ (.slice (some ⟨ga, 0, none⟩) m cp2)).cell? ⟨gb, 2, none⟩ = some (.slice A0_2 l0_2.length c0_2) := (blk_cell K5.out 2).trans rfl)
    | (go_at_call 139; (refine (KX.out _ go ga cp2 ?sB ?s1 ?s2 ?s3 ?s4 ?s5 ?s6).mono ?_); (all_goals have o1 := blk_lt K1.out); (all_goals have o2 := G1.out); (all_goals have o4 := G3.out); (all_goals have o5 := G4.out); (all_goals have o6 := blk_lt K4.out); (all_goals have o7 := B4.out.size); (all_goals have o8 : ∀ v, (w4.setCell ⟨go, 0, none⟩ v).heap.size = w4.heap.size := (fun v => by simp [World.setCell])); (all_goals have bb : Below w.heap.size w (w4.setCell ⟨go, 0, none⟩ (.slice (some ⟨ga, 0, none⟩) m cp2)) := Below.setCell ((B1.out.trans (B3.out.mono (by omega))).trans (B4.out.mono (by omega))) (by (try simp only []); omega) _); (case sB => exact bb); (case s1 => omega); (case s2 => omega); (case s3 => omega); (case s4 => rw [o8]; omega); (case s5 => rw [o8]; omega); (case s6 => exact ⟨blk_put K4.out 0 _ rfl, Kd.R_far (Kd.R_mono (Kd.R_lower (Kd.R_tight rfl (Kd.R_below O3.out B4.out)) (by omega)) (fun i hi => (by simpa [Value.ownBlock] using hi : i = ga))) (fun k hk => by (try simp only []); omega) _, bb, fun _ hf => hf.elim⟩); rintro e w5 ⟨rfl, h1, h2, h3⟩; clear o1 o2 o4 o5 o6 o7 o8 bb; have FR := Aside0.mk h2; have FB := Aside0.mk h3; have z8 : w5.cell? ⟨go, 0, none⟩ = some (.slice (some ⟨ga, 0, none⟩) m cp2) := (blk_cell h1 0).trans rfl; clear h1 h2 h3))
  all_goals go_ret
  all_goals exact ⟨_, rfl, Kd.R_mono FR.out (fun _ _ => trivial), FB.out⟩
end Go.Proofs.Ytiopnmgcajohfaa.Q
end
section
namespace Go.Proofs.Ytiopnmgcajohfaa.Q
open Go.RowKit Go.Proofs.YtiopnmgcajohfaaW.PrintWords Go.Proofs.YtiopnmgcajohfaaW.PrintLast Go.Proofs.YtiopnmgcajohfaaW.PrintMore
attribute [local go_sem] max2_int min2_int max_two min_two max_three min_three max_four min_four   -- for this text's walks alone
set_option linter.unusedVariables false
set_option linter.unusedSimpArgs false
def impl_RookNumbers.f (a0_0:Int) (a0_1:Int) (l0_2:List Int):Option (List Int × Bool):=(impl_IsBoard.f a0_0 a0_1 l0_2).bind fun t102=>(if t102=true then ((impl_Board_numbers.f a0_0 a0_1 l0_2).bind fun t103=>(some (t103,true))) else (some (([]:List Int),false)))
set_option maxHeartbeats 8000000 in
set_option maxRecDepth 100000 in
theorem impl_RookNumbers.calls (a0_0:Int) (a0_1:Int) (A0_2:Option Addr) (c0_2:Nat) (l0_2:List Int) (r1:List Int) (r2:Bool) (w:World) (hr0_2:Kd.C (Kd.int .i64) w A0_2 l0_2.length l0_2) (hc0_2:l0_2.length≤c0_2) (h:impl_RookNumbers.f a0_0 a0_1 l0_2=some (r1,r2)) :
  Calls Try.prog 65 #[.agg #[.int .i64 a0_0,.int .i64 a0_1,.slice A0_2 l0_2.length c0_2]] w fun e w'=>∃ v0_:Value,e=.returned (.tuple #[v0_,.bool r2])∧Kd.R (Kd.int .i64) 3 w' w.heap.size (fun _=>True) v0_ r1∧Below w.heap.size w w':=by
 have hu43:=Try.underlying43;have HR0_2:=za hr0_2;have HC0_2:=za hc0_2;clear hr0_2 hc0_2;have HB:=za (Below.refl w.heap.size w);have H:((impl_IsBoard.f a0_0 a0_1 l0_2).bind fun t102=>(if t102=true then ((impl_Board_numbers.f a0_0 a0_1 l0_2).bind fun t103=>(some (t103,true))) else (some (([]:List Int),false))))=some (r1,r2):=h;clear h;obtain ⟨t102,A2,H⟩:=bindAside H;(try dsimp only at H);by_cases c3:t102=true
 · subst c3;(have H1:((impl_Board_numbers.f a0_0 a0_1 l0_2).bind fun t103=>(some (t103,true)))=some (r1,r2):=by rw [if_pos rfl] at H;exact H);clear H;have H:=H1;clear H1;obtain ⟨t103,A4,H⟩:=bindAside H;(try dsimp only at H);simp only [Option.some.injEq,Prod.mk.injEq] at H;obtain ⟨rfl,rfl⟩:=H;(go_enter Try.func65,Try.ntmps65);(go_wp2_with (first|((with_reducible refine zA (N:=1) rfl ?_);refine zF ?hg (N:=1) ?hd (cs:=#[.int .i64 a0_0,.int .i64 a0_1,.slice A0_2 l0_2.length c0_2]) (t:=43) ?hr ?_;(case hd=>rfl);(case hg=>rfl);(case hr=>first|(go_simp;done)|(go_simp;rfl));intro gb101 hg w5 hbox hb;have BK101:=za (hbox);have GW101:=za ((by rw [hg];exact (zo (by repeat (first|(with_reducible first|exact HB.out|apply zc|apply zd|apply zb)|exact HB.out))):w.heap.size≤gb101));have GE101:=za ((by rw [hg];exact (zo (by repeat (first|(with_reducible first|exact HB.out|apply zc|apply zd|apply zb)|exact HB.out))):w.heap.size≤gb101));replace HB:=za (zp (by repeat (first|(with_reducible first|exact HB.out|apply zc|apply zd|apply zb)|exact HB.out)) hb);clear hb hbox hg;have hcz6_0:w5.cell? ⟨gb101,0,none⟩=some (.int .i64 a0_0):=(zg BK101.out 0).trans rfl;have hcz6_1:w5.cell? ⟨gb101,1,none⟩=some (.int .i64 a0_1):=(zg BK101.out 1).trans rfl;have hcz6_2:w5.cell? ⟨gb101,2,none⟩=some (.slice A0_2 l0_2.length c0_2):=(zg BK101.out 2).trans rfl;have hfz6_0:=zm BK101.out 0;have hfz6_1:=zm BK101.out 1;have hfz6_2:=zm BK101.out 2)|((with_reducible refine zq (f:=117) rfl ?_);refine zr (some 5) rfl rfl Try.func117 (by kernel_rfl) rfl #[.agg #[.int .i64 a0_0,.int .i64 a0_1,.slice A0_2 l0_2.length c0_2]] rfl (by first|rfl|simp only [z3_,z4_,z5_];try rfl) ?_;(with_reducible refine (impl_IsBoard.calls a0_0 a0_1 _ _ l0_2 true _ ?side1 ?side2 A2.out).mono ?_);(case side1=>repeat (first|exact (Kd.C_below HR0_2.out HB.out)|(with_reducible refine zC ?_ _)|(with_reducible refine zD ?_ _)|(with_reducible refine zE ?_)));(case side2=>exact HC0_2.out);rintro e w7 ⟨rfl,hb⟩;refine ⟨_,rfl,?_⟩;replace BK101:=za (zu (g:=gb101) (o:=.cells #[.int .i64 a0_0,.int .i64 a0_1,.slice A0_2 l0_2.length c0_2] 43 (0,0)) (by apply_rules only [BK101.out,zh,zf,zi]) hb);replace HB:=za (zp (by repeat (first|(with_reducible first|exact HB.out|apply zc|apply zd|apply zb|refine ze ?_ GE101.out)|exact HB.out)) hb);have hcz8_0:w7.cell? ⟨gb101,0,none⟩=some (.int .i64 a0_0):=(zg BK101.out 0).trans rfl;have hcz8_1:w7.cell? ⟨gb101,1,none⟩=some (.int .i64 a0_1):=(zg BK101.out 1).trans rfl;have hcz8_2:w7.cell? ⟨gb101,2,none⟩=some (.slice A0_2 l0_2.length c0_2):=(zg BK101.out 2).trans rfl;have hfz8_0:=zm BK101.out 0;have hfz8_1:=zm BK101.out 1;have hfz8_2:=zm BK101.out 2)|((with_reducible refine zq (f:=118) rfl ?_);refine zr (some 8) rfl rfl Try.func118 (by kernel_rfl) rfl #[.agg #[.int .i64 a0_0,.int .i64 a0_1,.slice A0_2 l0_2.length c0_2]] rfl (by first|rfl|simp only [z3_,z4_,z5_];try rfl) ?_;(with_reducible refine (impl_Board_numbers.calls a0_0 a0_1 _ _ l0_2 t103 _ ?side1 ?side2 A4.out).mono ?_);(case side1=>repeat (first|exact (Kd.C_below HR0_2.out HB.out)|(with_reducible refine zC ?_ _)|(with_reducible refine zD ?_ _)|(with_reducible refine zE ?_)));(case side2=>exact HC0_2.out);rintro e w9 ⟨v104,rfl,ho0,hb⟩;refine ⟨_,rfl,?_⟩;have HO105:=za (zL ho0 (zo (by repeat (first|(with_reducible first|exact HB.out|apply zc|apply zd|apply zb|refine ze ?_ GE101.out)|exact HB.out))));replace BK101:=za (zu (g:=gb101) (o:=.cells #[.int .i64 a0_0,.int .i64 a0_1,.slice A0_2 l0_2.length c0_2] 43 (0,0)) (by apply_rules only [BK101.out,zh,zf,zi]) hb);replace HB:=za (zp (by repeat (first|(with_reducible first|exact HB.out|apply zc|apply zd|apply zb|refine ze ?_ GE101.out)|exact HB.out)) hb))));(go_ret2);exact ⟨_,by first|rfl|simp [*,errW_none,errW_some] <;> rfl,by (with_reducible repeat (first|apply zk|apply zl|apply zj));exact HO105.out,by repeat (first|(with_reducible first|exact HB.out|apply zc|apply zd|apply zb|refine ze ?_ GE101.out)|exact HB.out)⟩
 · replace c3:=Bool.eq_false_iff.mpr c3;subst c3;(have H1:(some (([]:List Int),false))=some (r1,r2):=by rw [if_neg (show ¬ (false=true) by decide)] at H;exact H);clear H;have H:=H1;clear H1;simp only [Option.some.injEq,Prod.mk.injEq] at H;obtain ⟨rfl,rfl⟩:=H;(go_enter Try.func65,Try.ntmps65);(go_wp2_with (first|((with_reducible refine zA (N:=1) rfl ?_);refine zF ?hg (N:=1) ?hd (cs:=#[.int .i64 a0_0,.int .i64 a0_1,.slice A0_2 l0_2.length c0_2]) (t:=43) ?hr ?_;(case hd=>rfl);(case hg=>rfl);(case hr=>first|(go_simp;done)|(go_simp;rfl));intro gb101 hg w10 hbox hb;have BK101:=za (hbox);have GW101:=za ((by rw [hg];exact (zo (by repeat (first|(with_reducible first|exact HB.out|apply zc|apply zd|apply zb)|exact HB.out))):w.heap.size≤gb101));have GE101:=za ((by rw [hg];exact (zo (by repeat (first|(with_reducible first|exact HB.out|apply zc|apply zd|apply zb)|exact HB.out))):w.heap.size≤gb101));replace HB:=za (zp (by repeat (first|(with_reducible first|exact HB.out|apply zc|apply zd|apply zb)|exact HB.out)) hb);clear hb hbox hg;have hcz11_0:w10.cell? ⟨gb101,0,none⟩=some (.int .i64 a0_0):=(zg BK101.out 0).trans rfl;have hcz11_1:w10.cell? ⟨gb101,1,none⟩=some (.int .i64 a0_1):=(zg BK101.out 1).trans rfl;have hcz11_2:w10.cell? ⟨gb101,2,none⟩=some (.slice A0_2 l0_2.length c0_2):=(zg BK101.out 2).trans rfl;have hfz11_0:=zm BK101.out 0;have hfz11_1:=zm BK101.out 1;have hfz11_2:=zm BK101.out 2)|((with_reducible refine zq (f:=117) rfl ?_);refine zr (some 5) rfl rfl Try.func117 (by kernel_rfl) rfl #[.agg #[.int .i64 a0_0,.int .i64 a0_1,.slice A0_2 l0_2.length c0_2]] rfl (by first|rfl|simp only [z3_,z4_,z5_];try rfl) ?_;(with_reducible refine (impl_IsBoard.calls a0_0 a0_1 _ _ l0_2 false _ ?side1 ?side2 A2.out).mono ?_);(case side1=>repeat (first|exact (Kd.C_below HR0_2.out HB.out)|(with_reducible refine zC ?_ _)|(with_reducible refine zD ?_ _)|(with_reducible refine zE ?_)));(case side2=>exact HC0_2.out);rintro e w12 ⟨rfl,hb⟩;refine ⟨_,rfl,?_⟩;replace BK101:=za (zu (g:=gb101) (o:=.cells #[.int .i64 a0_0,.int .i64 a0_1,.slice A0_2 l0_2.length c0_2] 43 (0,0)) (by apply_rules only [BK101.out,zh,zf,zi]) hb);replace HB:=za (zp (by repeat (first|(with_reducible first|exact HB.out|apply zc|apply zd|apply zb|refine ze ?_ GE101.out)|exact HB.out)) hb))));(go_ret2);exact ⟨_,by first|rfl|simp [*,errW_none,errW_some] <;> rfl,by first|exact Kd.R_nil _ _ _ _ _|exact Kd.N_nil _ _ _ _ _|exact Kd.V_nil _ _ _ _ _|exact Kd.Q_nil _ _ _ _ _|exact Kd.S_nil _ _ _ _ _,by repeat (first|(with_reducible first|exact HB.out|apply zc|apply zd|apply zb|refine ze ?_ GE101.out)|exact HB.out)⟩
end Go.Proofs.Ytiopnmgcajohfaa.Q
end
section
namespace Go.Proofs.Ytiopnmgcajohfaa.Q
open Go.RowKit Go.Proofs.YtiopnmgcajohfaaW.PrintWords Go.Proofs.YtiopnmgcajohfaaW.PrintLast Go.Proofs.YtiopnmgcajohfaaW.PrintMore
attribute [local go_sem] max2_int min2_int max_two min_two max_three min_three max_four min_four   -- for this text's walks alone
set_option linter.unusedVariables false
set_option linter.unusedSimpArgs false
def impl_falling.l0:Nat→Int→Int→Int→Int→Option (Int)
|0,_,_,_,_=>none
|k + 1,x0,x5,x7,x8=>if x8 < x7 then (impl_falling.l0 k x0 (wrap64 (x5 * (wrap64 (x0 - x8)))) x7 (wrap64 (x8 + 1))) else (some x5)
def impl_falling.f (k:Nat) (a0:Int) (a1:Int):Option (Int):=impl_falling.l0 k a0 1 a1 0
theorem impl_falling.mono_l:∀ k,(∀ y0 y1 y2 y3,LeO (impl_falling.l0 k y0 y1 y2 y3) (impl_falling.l0 (k + 1) y0 y1 y2 y3))
|0=>fun _ _ _ _ r h=>by simp [impl_falling.l0] at h
|k + 1=>by
  have ih0:=impl_falling.mono_l k
  ·
   intro y0 y1 y2 y3
   unfold impl_falling.l0
   repeat' first
  |(with_reducible exact ih0 _ _ _ _)
  |(with_reducible exact LeO.refl _)
  |(with_reducible exact LeO.none _)
  |(with_reducible refine LeO.ite ?_ ?_)
  |(with_reducible refine LeO.bind ?_ (fun _=>?_))
  |exact ih0 _ _ _ _
  |exact LeO.none _
  |refine LeO.ite ?_ ?_
  |refine LeO.bind ?_ (fun _=>?_)
theorem impl_falling.mono:∀ a0 a1 k,LeO (impl_falling.f k a0 a1) (impl_falling.f (k + 1) a0 a1):=by
 intro a0 a1 k;have ih0:=impl_falling.mono_l k;unfold impl_falling.f
 repeat' first
  |(with_reducible exact ih0 _ _ _ _)
  |(with_reducible exact LeO.refl _)
  |(with_reducible exact LeO.none _)
  |(with_reducible refine LeO.ite ?_ ?_)
  |(with_reducible refine LeO.bind ?_ (fun _=>?_))
  |exact ih0 _ _ _ _
  |exact LeO.none _
  |refine LeO.ite ?_ ?_
  |refine LeO.bind ?_ (fun _=>?_)
set_option maxHeartbeats 8000000 in
set_option maxRecDepth 100000 in
theorem impl_falling.calls (k:Nat) (a0:Int) (a1:Int) (r:Int) (w:World) (h:impl_falling.f k a0 a1=some r) :
  Calls Try.prog 146 #[.int .i64 a0,.int .i64 a1] w fun e w'=>e=.returned (.int .i64 r)∧Drawn0 w w':=by
 have H:(impl_falling.l0 k a0 1 a1 0)=some r:=h;clear h;have H':=za H;clear H;(go_enter Try.func146,Try.ntmps146);(go_wp2);(go_loopg [5,8] k (fun kq v5 v8 w'=>∃ (x5_1:Int) (x8_1:Int),v5=.int .i64 x5_1∧v8=.int .i64 x8_1∧Aside0 (impl_falling.l0 kq a0 x5_1 a1 x8_1=some r)∧Aside0 (kq≤k)∧Drawn0 w w'));case atStart=>exact ⟨(1),(0),(by first|rfl|(simp;done)|(simp [*];done)),(by first|rfl|(simp;done)|(simp [*];done)),H',⟨Nat.le_refl _⟩,by repeat (first|exact Drawn0.refl _|apply Drawn0.step)⟩
 case round =>
  clear H';(try clear c1);(try clear p2);obtain ⟨x5_1,x8_1,rfl,rfl,HA,HK1,⟨m1,rfl⟩⟩:=hrel
  cases gk with
 |zero=>exact absurd HA.out (by simp [impl_falling.l0])
 |succ k1 =>
   have H:=HA.out;clear HA;simp only [impl_falling.l0] at H;by_cases c3:x8_1 < a1
   · rw [if_pos c3] at H;have c3b0:decide (x8_1 < a1)=true:=decide_eq_true c3;clear c3;have H':=za H;clear H;(go_wp2);(go_roundg k1);(case measure=>have:=HK1.out;omega);case rel=>exact ⟨(wrap64 (x5_1 * (wrap64 (a0 - x8_1)))),(wrap64 (x8_1 + 1)),(by first|rfl|(simp;done)|(simp [*];done)),(by first|rfl|(simp;done)|(simp [*];done)),H',⟨by have:=HK1.out;omega⟩,by repeat (first|exact Drawn0.refl _|apply Drawn0.step)⟩
   · rw [if_neg c3] at H;have c3b0:decide (x8_1 < a1)=false:=decide_eq_false c3;clear c3;obtain rfl:=Option.some.inj H;(go_wp2);(go_ret);exact ⟨by first|rfl|(simp;done)|(simp [*];done),by repeat (first|exact Drawn0.refl _|apply Drawn0.step)⟩
end Go.Proofs.Ytiopnmgcajohfaa.Q
end
section
namespace Go.Proofs.Ytiopnmgcajohfaa.Q
open Go.RowKit Go.Proofs.YtiopnmgcajohfaaW.PrintWords Go.Proofs.YtiopnmgcajohfaaW.PrintLast Go.Proofs.YtiopnmgcajohfaaW.PrintMore
attribute [local go_sem] max2_int min2_int max_two min_two max_three min_three max_four min_four   -- for this text's walks alone
set_option linter.unusedVariables false
set_option linter.unusedSimpArgs false
def impl_factorial.f (k:Nat) (a0:Int):Option (Int):=(impl_falling.f k a0 a0).bind fun t101=>(some t101)
theorem impl_factorial.mono:∀ a0 k,LeO (impl_factorial.f k a0) (impl_factorial.f (k + 1) a0):=by
 intro a0 k;unfold impl_factorial.f
 repeat' first
  |(with_reducible exact impl_falling.mono _ _ _)
  |(with_reducible exact LeO.refl _)
  |(with_reducible exact LeO.none _)
  |(with_reducible refine LeO.ite ?_ ?_)
  |(with_reducible refine LeO.bind ?_ (fun _=>?_))
  |exact impl_falling.mono _ _ _
  |exact LeO.none _
  |refine LeO.ite ?_ ?_
  |refine LeO.bind ?_ (fun _=>?_)
set_option maxHeartbeats 8000000 in
set_option maxRecDepth 100000 in
theorem impl_factorial.calls (k:Nat) (a0:Int) (r:Int) (w:World) (h:impl_factorial.f k a0=some r) :
  Calls Try.prog 120 #[.int .i64 a0] w fun e w'=>e=.returned (.int .i64 r)∧Drawn0 w w':=by
 have H:((impl_falling.f k a0 a0).bind fun t101=>(some t101))=some r:=h;clear h;obtain ⟨t101,A2,H⟩:=bindAside H;(try dsimp only at H);obtain rfl:=Option.some.inj H;(go_enter Try.func120,Try.ntmps120);(go_wp2_with (first|((with_reducible refine zq (f:=146) rfl ?_);refine zr (some 5) rfl rfl Try.func146 (by kernel_rfl) rfl #[.int .i64 a0,.int .i64 a0] rfl (by first|rfl|simp only [z3_,z4_,z5_];try rfl) ?_;(with_reducible refine (impl_falling.calls k a0 a0 t101 _ A2.out).mono ?_);rintro e w' ⟨rfl,⟨nd,rfl⟩⟩;refine ⟨_,rfl,?_⟩)));(go_ret);exact ⟨by first|rfl|(simp;done)|(simp [*];done),by repeat (first|exact Drawn0.refl _|apply Drawn0.step)⟩
end Go.Proofs.Ytiopnmgcajohfaa.Q
end
section
namespace Go.Proofs.Ytiopnmgcajohfaa.Q
open Go.RowKit Go.Proofs.YtiopnmgcajohfaaW.PrintWords Go.Proofs.YtiopnmgcajohfaaW.PrintLast Go.Proofs.YtiopnmgcajohfaaW.PrintMore
attribute [local go_sem] max2_int min2_int max_two min_two max_three min_three max_four min_four   -- for this text's walks alone
set_option linter.unusedVariables false
set_option linter.unusedSimpArgs false
def impl_areSums_1.f (a0:Int):Option (Bool):=(impl_within.f a0 0 1000000).bind fun t101=>(some (!t101))
set_option maxHeartbeats 8000000 in
set_option maxRecDepth 100000 in
theorem impl_areSums_1.calls (a0:Int) (r:Bool) (w:World) (h:impl_areSums_1.f a0=some r) :
  Calls Try.prog 150 #[.int .i64 a0] w fun e w'=>e=.returned (.bool r)∧Drawn0 w w':=by
 have H:((impl_within.f a0 0 1000000).bind fun t101=>(some (!t101)))=some r:=h;clear h;obtain ⟨t101,A2,H⟩:=bindAside H;(try dsimp only at H);obtain rfl:=Option.some.inj H;(go_enter Try.func150,Try.ntmps150);(go_wp2_with (first|((with_reducible refine zq (f:=79) rfl ?_);refine zr (some 4) rfl rfl Try.func79 (by kernel_rfl) rfl #[.int .i64 a0,.int .i64 0,.int .i64 1000000] rfl (by first|rfl|simp only [z3_,z4_,z5_];try rfl) ?_;(with_reducible refine (impl_within.calls a0 0 1000000 t101 _ A2.out).mono ?_);rintro e w' ⟨rfl,⟨nd,rfl⟩⟩;refine ⟨_,rfl,?_⟩)));(go_ret);exact ⟨by first|rfl|(simp;done)|(simp [*];done),by repeat (first|exact Drawn0.refl _|apply Drawn0.step)⟩
end Go.Proofs.Ytiopnmgcajohfaa.Q
end
section
namespace Go.Proofs.Ytiopnmgcajohfaa.Q
open Go.RowKit Go.Proofs.YtiopnmgcajohfaaW.PrintWords Go.Proofs.YtiopnmgcajohfaaW.PrintLast Go.Proofs.YtiopnmgcajohfaaW.PrintMore
attribute [local go_sem] max2_int min2_int max_two min_two max_three min_three max_four min_four   -- for this text's walks alone
set_option linter.unusedVariables false
set_option linter.unusedSimpArgs false
def slices_IndexFunc_int_int__at_impl_areSums_1.l0:Nat→List Int→Int→Int→Option (Int)
|0,_,_,_=>none
|k + 1,x0,x7,x8=>if x8 < x7 then (if 0≤x8 then (if x8 < (x0.length:Int) then ((impl_areSums_1.f (rd x0 x8)).bind fun t102=>(if t102=true then (some x8) else (slices_IndexFunc_int_int__at_impl_areSums_1.l0 k x0 x7 (wrap64 (x8 + 1))))) else (none)) else (none)) else (some (-1))
def slices_IndexFunc_int_int__at_impl_areSums_1.f (k:Nat) (l0:List Int) :Option (Int):=slices_IndexFunc_int_int__at_impl_areSums_1.l0 k l0 (l0.length:Int) 0
set_option maxHeartbeats 8000000 in
set_option maxRecDepth 100000 in
theorem slices_IndexFunc_int_int__at_impl_areSums_1.calls (k:Nat) (A0:Option Addr) (c0:Nat) (l0:List Int)  (r:Int) (w:World) (hr0:Kd.C (Kd.int .i64) w A0 l0.length l0) (hc0:l0.length≤c0) (h:slices_IndexFunc_int_int__at_impl_areSums_1.f k l0=some r) :
  Calls Try.prog 154 #[.slice A0 l0.length c0,.func (.func 150) #[] #[]] w fun e w'=>e=.returned (.int .i64 r)∧Drawn0 w w':=by
 have HR0:=za hr0;have HC0:=za hc0;clear hr0 hc0;have H:(slices_IndexFunc_int_int__at_impl_areSums_1.l0 k l0 (l0.length:Int) 0)=some r:=h;clear h;have H':=za H;clear H;(go_enter Try.func154,Try.ntmps154);(go_wp2);(go_loopg [8] k (fun kq v8 w'=>∃ (x8_1:Int),v8=.int .i64 x8_1∧Aside0 (slices_IndexFunc_int_int__at_impl_areSums_1.l0 kq l0 (l0.length:Int) x8_1=some r)∧Aside0 (kq≤k)∧Drawn0 w w'));case atStart=>exact ⟨(0),(by first|rfl|(simp;done)|(simp [*];done)),H',⟨Nat.le_refl _⟩,by repeat (first|exact Drawn0.refl _|apply Drawn0.step)⟩
 case round =>
  clear H';(try clear c1);(try clear p2);obtain ⟨x8_1,rfl,HA,HK1,⟨m1,rfl⟩⟩:=hrel
  cases gk with
 |zero=>exact absurd HA.out (by simp [slices_IndexFunc_int_int__at_impl_areSums_1.l0])
 |succ k1 =>
   have H:=HA.out;clear HA;simp only [slices_IndexFunc_int_int__at_impl_areSums_1.l0] at H;by_cases c3:x8_1 < (l0.length:Int)
   ·
    rw [if_pos c3] at H;have c3b0:decide (x8_1 < (l0.length:Int))=true:=decide_eq_true c3;clear c3;by_cases c4:0≤x8_1
    ·
     rw [if_pos c4] at H;have c4b0:decide (0≤x8_1)=true:=decide_eq_true c4;clear c4;by_cases c5:x8_1 < (l0.length:Int)
     ·
      rw [if_pos c5] at H;have c5b0:decide (x8_1 < (l0.length:Int))=true:=decide_eq_true c5;clear c5;obtain ⟨t102,A6,H⟩:=bindAside H;(try dsimp only at H);by_cases c7:t102=true
      · subst c7;(have H1:(some x8_1)=some r:=by rw [if_pos rfl] at H;exact H);clear H;have H:=H1;clear H1;obtain rfl:=Option.some.inj H;have p101:0≤(x8_1:Int):=of_decide_eq_true ‹_›;have q101:x8_1 < (l0.length:Int):=of_decide_eq_true ‹_›;obtain ⟨ad101,e101,hx101_0⟩:=Kd.at_int HR0.out x8_1 p101 q101;cases e101;replace p101:=eq_true p101;replace q101:=eq_true q101;(go_wp2_with (first|(go_at_call 150;(with_reducible refine (impl_areSums_1.calls (rd l0 x8_1) true _ A6.out).mono ?_);rintro e w' ⟨rfl,⟨nd,rfl⟩⟩)));(go_ret);exact ⟨by first|rfl|(simp;done)|(simp [*];done),by repeat (first|exact Drawn0.refl _|apply Drawn0.step)⟩
      · replace c7:=Bool.eq_false_iff.mpr c7;subst c7;(have H1:(slices_IndexFunc_int_int__at_impl_areSums_1.l0 k1 l0 (l0.length:Int) (wrap64 (x8_1 + 1)))=some r:=by rw [if_neg (show ¬ (false=true) by decide)] at H;exact H);clear H;have H:=H1;clear H1;have H':=za H;clear H;have p101:0≤(x8_1:Int):=of_decide_eq_true ‹_›;have q101:x8_1 < (l0.length:Int):=of_decide_eq_true ‹_›;obtain ⟨ad101,e101,hx101_0⟩:=Kd.at_int HR0.out x8_1 p101 q101;cases e101;replace p101:=eq_true p101;replace q101:=eq_true q101;(go_wp2_with (first|(go_at_call 150;(with_reducible refine (impl_areSums_1.calls (rd l0 x8_1) false _ A6.out).mono ?_);rintro e w' ⟨rfl,⟨nd,rfl⟩⟩)));(go_roundg k1);(case measure=>have:=HK1.out;omega);case rel=>exact ⟨(wrap64 (x8_1 + 1)),(by first|rfl|(simp;done)|(simp [*];done)),H',⟨by have:=HK1.out;omega⟩,by repeat (first|exact Drawn0.refl _|apply Drawn0.step)⟩
     · rw [if_neg c5] at H;exact absurd H (by simp)
    · rw [if_neg c4] at H;exact absurd H (by simp)
   · rw [if_neg c3] at H;have c3b0:decide (x8_1 < (l0.length:Int))=false:=decide_eq_false c3;clear c3;obtain rfl:=Option.some.inj H;(go_wp2);(go_ret);exact ⟨by first|rfl|(simp;done)|(simp [*];done),by repeat (first|exact Drawn0.refl _|apply Drawn0.step)⟩
end Go.Proofs.Ytiopnmgcajohfaa.Q
end
section
namespace Go.Proofs.Ytiopnmgcajohfaa.Q
open Go.RowKit Go.Proofs.YtiopnmgcajohfaaW.PrintWords Go.Proofs.YtiopnmgcajohfaaW.PrintLast Go.Proofs.YtiopnmgcajohfaaW.PrintMore
attribute [local go_sem] max2_int min2_int max_two min_two max_three min_three max_four min_four   -- for this text's walks alone
set_option linter.unusedVariables false
set_option linter.unusedSimpArgs false
def slices_ContainsFunc_int_int__at_impl_areSums_1.f (k:Nat) (l0:List Int) :Option (Bool):=(slices_IndexFunc_int_int__at_impl_areSums_1.f k l0).bind fun t101=>(some (decide (t101 ≥ 0)))
set_option maxHeartbeats 8000000 in
set_option maxRecDepth 100000 in
theorem slices_ContainsFunc_int_int__at_impl_areSums_1.calls (k:Nat) (A0:Option Addr) (c0:Nat) (l0:List Int)  (r:Bool) (w:World) (hr0:Kd.C (Kd.int .i64) w A0 l0.length l0) (hc0:l0.length≤c0) (h:slices_ContainsFunc_int_int__at_impl_areSums_1.f k l0=some r) :
  Calls Try.prog 147 #[.slice A0 l0.length c0,.func (.func 150) #[] #[]] w fun e w'=>e=.returned (.bool r)∧Drawn0 w w':=by
 have HR0:=za hr0;have HC0:=za hc0;clear hr0 hc0;have H:((slices_IndexFunc_int_int__at_impl_areSums_1.f k l0).bind fun t101=>(some (decide (t101 ≥ 0))))=some r:=h;clear h;obtain ⟨t101,A3,H⟩:=bindAside H;(try dsimp only at H);obtain rfl:=Option.some.inj H;(go_enter Try.func147,Try.ntmps147);(go_wp2_with (first|((with_reducible refine zq (f:=154) rfl ?_);refine zr (some 7) rfl rfl Try.func154 (by kernel_rfl) rfl #[.slice A0 l0.length c0,.func (.func 150) #[] #[]] rfl (by first|rfl|simp only [z3_,z4_,z5_];try rfl) ?_;(with_reducible refine (slices_IndexFunc_int_int__at_impl_areSums_1.calls k _ _ l0  t101 _ ?side1 ?side2 A3.out).mono ?_);(case side1=>repeat (first|exact HR0.out|(with_reducible refine zC ?_ _)|(with_reducible refine zD ?_ _)|(with_reducible refine zE ?_)));(case side2=>exact HC0.out);rintro e w' ⟨rfl,⟨nd,rfl⟩⟩;refine ⟨_,rfl,?_⟩)));(go_ret);exact ⟨by first|rfl|(simp;done)|(simp [*];done),by repeat (first|exact Drawn0.refl _|apply Drawn0.step)⟩
end Go.Proofs.Ytiopnmgcajohfaa.Q
end
section
namespace Go.Proofs.Ytiopnmgcajohfaa.Q
open Go.RowKit Go.Proofs.YtiopnmgcajohfaaW.PrintWords Go.Proofs.YtiopnmgcajohfaaW.PrintLast Go.Proofs.YtiopnmgcajohfaaW.PrintMore
attribute [local go_sem] max2_int min2_int max_two min_two max_three min_three max_four min_four   -- for this text's walks alone
set_option linter.unusedVariables false
set_option linter.unusedSimpArgs false
def impl_areSums.f (k:Nat) (l0:List Int):Option (Bool):=(impl_within.f (l0.length:Int) 2 7).bind fun t101=>(if t101=true then ((slices_ContainsFunc_int_int__at_impl_areSums_1.f k l0).bind fun t102=>(some (!t102))) else (some false))
set_option maxHeartbeats 8000000 in
set_option maxRecDepth 100000 in
theorem impl_areSums.calls (k:Nat) (A0:Option Addr) (c0:Nat) (l0:List Int) (r:Bool) (w:World) (hr0:Kd.C (Kd.int .i64) w A0 l0.length l0) (hc0:l0.length≤c0) (h:impl_areSums.f k l0=some r) :
  Calls Try.prog 119 #[.slice A0 l0.length c0] w fun e w'=>e=.returned (.bool r)∧Drawn0 w w':=by
 have HR0:=za hr0;have HC0:=za hc0;clear hr0 hc0;have H:((impl_within.f (l0.length:Int) 2 7).bind fun t101=>(if t101=true then ((slices_ContainsFunc_int_int__at_impl_areSums_1.f k l0).bind fun t102=>(some (!t102))) else (some false)))=some r:=h;clear h;obtain ⟨t101,A2,H⟩:=bindAside H;(try dsimp only at H);by_cases c3:t101=true
 · subst c3;(have H1:((slices_ContainsFunc_int_int__at_impl_areSums_1.f k l0).bind fun t102=>(some (!t102)))=some r:=by rw [if_pos rfl] at H;exact H);clear H;have H:=H1;clear H1;obtain ⟨t102,A4,H⟩:=bindAside H;(try dsimp only at H);obtain rfl:=Option.some.inj H;(go_enter Try.func119,Try.ntmps119);(go_wp2_with (first|((with_reducible refine zq (f:=79) rfl ?_);refine zr (some 5) rfl rfl Try.func79 (by kernel_rfl) rfl #[.int .i64 (l0.length:Int),.int .i64 2,.int .i64 7] rfl (by first|rfl|simp only [z3_,z4_,z5_];try rfl) ?_;(with_reducible refine (impl_within.calls (l0.length:Int) 2 7 true _ A2.out).mono ?_);rintro e w' ⟨rfl,⟨nd,rfl⟩⟩;refine ⟨_,rfl,?_⟩)|(go_at_call 147;(with_reducible refine (slices_ContainsFunc_int_int__at_impl_areSums_1.calls k _ _ l0  t102 _ ?side1 ?side2 A4.out).mono ?_);(case side1=>repeat (first|exact HR0.out|(with_reducible refine zC ?_ _)|(with_reducible refine zD ?_ _)|(with_reducible refine zE ?_)));(case side2=>exact HC0.out);rintro e w' ⟨rfl,⟨nd,rfl⟩⟩)));(go_ret);exact ⟨by first|rfl|(simp;done)|(simp [*];done),by repeat (first|exact Drawn0.refl _|apply Drawn0.step)⟩
 · replace c3:=Bool.eq_false_iff.mpr c3;subst c3;(have H1:(some false)=some r:=by rw [if_neg (show ¬ (false=true) by decide)] at H;exact H);clear H;have H:=H1;clear H1;obtain rfl:=Option.some.inj H;(go_enter Try.func119,Try.ntmps119);(go_wp2_with (first|((with_reducible refine zq (f:=79) rfl ?_);refine zr (some 5) rfl rfl Try.func79 (by kernel_rfl) rfl #[.int .i64 (l0.length:Int),.int .i64 2,.int .i64 7] rfl (by first|rfl|simp only [z3_,z4_,z5_];try rfl) ?_;(with_reducible refine (impl_within.calls (l0.length:Int) 2 7 false _ A2.out).mono ?_);rintro e w' ⟨rfl,⟨nd,rfl⟩⟩;refine ⟨_,rfl,?_⟩)));(go_ret);exact ⟨by first|rfl|(simp;done)|(simp [*];done),by repeat (first|exact Drawn0.refl _|apply Drawn0.step)⟩
end Go.Proofs.Ytiopnmgcajohfaa.Q
end
section
namespace Go.Proofs.Ytiopnmgcajohfaa.Q
open Go.RowKit Go.Proofs.YtiopnmgcajohfaaW.PrintWords Go.Proofs.YtiopnmgcajohfaaW.PrintLast Go.Proofs.YtiopnmgcajohfaaW.PrintMore
attribute [local go_sem] max2_int min2_int max_two min_two max_three min_three max_four min_four   -- for this text's walks alone
set_option linter.unusedVariables false
set_option linter.unusedSimpArgs false
mutual
def impl_product.l0:Nat→List Int→List Int→List Int→Int→Int→Option (List Int)
|0,_,_,_,_,_=>none
|k + 1,x1,x5,x17,x18,x19=>if x19 < x18 then (if 0≤x19 then (if x19 < (x17.length:Int) then (impl_product.l1 k x1 x5 x19 (rd x17 x19) x17 x18 x19 x1 (x1.length:Int) 0) else (none)) else (none)) else (some x5)
def impl_product.l1:Nat→List Int→List Int→Int→Int→List Int→Int→Int→List Int→Int→Int→Option (List Int)
|0,_,_,_,_,_,_,_,_,_,_=>none
|k + 1,x1,x5,x6,x7,x17,x18,x19,x24,x25,x26=>if x26 < x25 then (if 0≤x26 then (if x26 < (x24.length:Int) then (if 0≤(wrap64 (x6 + x26)) then (if (wrap64 (x6 + x26)) < (x5.length:Int) then (impl_product.l1 k x1 (x5.set ((wrap64 (x6 + x26)):Int).toNat (wrap64 ((rd x5 (wrap64 (x6 + x26))) + (wrap64 (x7 * (rd x24 x26)))))) x6 x7 x17 x18 x19 x24 x25 (wrap64 (x26 + 1))) else (none)) else (none)) else (none)) else (none)) else (impl_product.l0 k x1 x5 x17 x18 (wrap64 (x19 + 1)))
end
def impl_product.f (k:Nat) (l0:List Int) (l1:List Int):Option (List Int):=if 0≤(wrap64 ((wrap64 ((l0.length:Int) + (l1.length:Int))) - 1)) then (if (wrap64 ((wrap64 ((l0.length:Int) + (l1.length:Int))) - 1):Int).toNat≤35184372088832 then (impl_product.l0 k l1 (List.replicate (wrap64 ((wrap64 ((l0.length:Int) + (l1.length:Int))) - 1):Int).toNat 0) l0 (l0.length:Int) 0) else (none)) else (none)
theorem impl_product.mono_l:∀ k,(∀ y0 y1 y2 y3 y4,LeO (impl_product.l0 k y0 y1 y2 y3 y4) (impl_product.l0 (k + 1) y0 y1 y2 y3 y4))∧(∀ y0 y1 y2 y3 y4 y5 y6 y7 y8 y9,LeO (impl_product.l1 k y0 y1 y2 y3 y4 y5 y6 y7 y8 y9) (impl_product.l1 (k + 1) y0 y1 y2 y3 y4 y5 y6 y7 y8 y9))
|0=>⟨fun _ _ _ _ _ r h=>by simp [impl_product.l0] at h,fun _ _ _ _ _ _ _ _ _ _ r h=>by simp [impl_product.l1] at h⟩
|k + 1=>by
  obtain ⟨ih0,ih1⟩:=impl_product.mono_l k
  refine ⟨?_,?_⟩
  ·
   intro y0 y1 y2 y3 y4
   unfold impl_product.l0
   repeat' first
  |(with_reducible exact ih0 _ _ _ _ _)
  |(with_reducible exact ih1 _ _ _ _ _ _ _ _ _ _)
  |(with_reducible exact LeO.refl _)
  |(with_reducible exact LeO.none _)
  |(with_reducible refine LeO.ite ?_ ?_)
  |(with_reducible refine LeO.bind ?_ (fun _=>?_))
  |exact ih0 _ _ _ _ _
  |exact ih1 _ _ _ _ _ _ _ _ _ _
  |exact LeO.none _
  |refine LeO.ite ?_ ?_
  |refine LeO.bind ?_ (fun _=>?_)
  ·
   intro y0 y1 y2 y3 y4 y5 y6 y7 y8 y9
   unfold impl_product.l1
   repeat' first
  |(with_reducible exact ih0 _ _ _ _ _)
  |(with_reducible exact ih1 _ _ _ _ _ _ _ _ _ _)
  |(with_reducible exact LeO.refl _)
  |(with_reducible exact LeO.none _)
  |(with_reducible refine LeO.ite ?_ ?_)
  |(with_reducible refine LeO.bind ?_ (fun _=>?_))
  |exact ih0 _ _ _ _ _
  |exact ih1 _ _ _ _ _ _ _ _ _ _
  |exact LeO.none _
  |refine LeO.ite ?_ ?_
  |refine LeO.bind ?_ (fun _=>?_)
theorem impl_product.mono:∀ a0 a1 k,LeO (impl_product.f k a0 a1) (impl_product.f (k + 1) a0 a1):=by
 intro a0 a1 k;obtain ⟨ih0,ih1⟩:=impl_product.mono_l k;unfold impl_product.f
 repeat' first
  |(with_reducible exact ih0 _ _ _ _ _)
  |(with_reducible exact ih1 _ _ _ _ _ _ _ _ _ _)
  |(with_reducible exact LeO.refl _)
  |(with_reducible exact LeO.none _)
  |(with_reducible refine LeO.ite ?_ ?_)
  |(with_reducible refine LeO.bind ?_ (fun _=>?_))
  |exact ih0 _ _ _ _ _
  |exact ih1 _ _ _ _ _ _ _ _ _ _
  |exact LeO.none _
  |refine LeO.ite ?_ ?_
  |refine LeO.bind ?_ (fun _=>?_)
set_option maxHeartbeats 8000000 in
set_option maxRecDepth 100000 in
theorem impl_product.calls (k:Nat) (A0:Option Addr) (c0:Nat) (l0:List Int) (A1:Option Addr) (c1:Nat) (l1:List Int) (r:List Int) (w:World) (hr0:Kd.C (Kd.int .i64) w A0 l0.length l0) (hc0:l0.length≤c0) (hr1:Kd.C (Kd.int .i64) w A1 l1.length l1) (hc1:l1.length≤c1) (h:impl_product.f k l0 l1=some r) :
  Calls Try.prog 121 #[.slice A0 l0.length c0,.slice A1 l1.length c1] w fun e w'=>∃ v0_:Value,e=.returned (v0_)∧Kd.R (Kd.int .i64) 3 w' w.heap.size (fun _=>True) v0_ r∧Below w.heap.size w w':=by
 have HR0:=za hr0;have HC0:=za hc0;clear hr0 hc0;have HR1:=za hr1;have HC1:=za hc1;clear hr1 hc1;have HB:=za (Below.refl w.heap.size w);have H:(if 0≤(wrap64 ((wrap64 ((l0.length:Int) + (l1.length:Int))) - 1)) then (if (wrap64 ((wrap64 ((l0.length:Int) + (l1.length:Int))) - 1):Int).toNat≤35184372088832 then (impl_product.l0 k l1 (List.replicate (wrap64 ((wrap64 ((l0.length:Int) + (l1.length:Int))) - 1):Int).toNat 0) l0 (l0.length:Int) 0) else (none)) else (none))=some r:=h;clear h;obtain ⟨ji3,hji3⟩:∃ j_:Int,(wrap64 ((wrap64 ((l0.length:Int) + (l1.length:Int))) - 1))=j_:=⟨_,rfl⟩;(replace H:(if 0≤(ji3) then (if (ji3:Int).toNat≤35184372088832 then (impl_product.l0 k l1 (List.replicate (ji3:Int).toNat 0) l0 (l0.length:Int) 0) else (none)) else (none))=some r:=by first|(rw [hji3] at H;exact H)|(simp only [hji3] at H ⊢;exact H));have hji3w:(IntKind.i64.wrap ((wrap64 ((l0.length:Int) + (l1.length:Int))) - 1))=ji3:=(i64_w _).trans hji3;by_cases c4:0≤(ji3)
 ·
  rw [if_pos c4] at H;have c4b0:=eq_true c4;have c4b1:decide (0≤(ji3))=true:=decide_eq_true c4;clear c4;by_cases c5:(ji3:Int).toNat≤35184372088832
  ·
   rw [if_pos c5] at H;have c5b0:=eq_true c5;have c5b1:decide ((ji3:Int).toNat≤35184372088832)=true:=decide_eq_true c5;clear c5;obtain ⟨y101,hy101⟩:∃ y_:List Int,y_=(List.replicate (ji3:Int).toNat 0):=⟨_,rfl⟩;(replace H:(impl_product.l0 k l1 y101 l0 (l0.length:Int) 0)=some r:=by first|(rw [hy101];with_reducible exact H)|(have H2_:=(Option.bind_some _ _).symm.trans H;rw [hy101];with_reducible exact H2_)|(have H2_:=(Option.bind_some _ _).symm.trans H;with_reducible exact H2_)|with_reducible exact H|(rw [hy101];exact H)|exact H);have Ny101:=za hy101;clear hy101;have H':=za H;clear H;(go_enter Try.func121,Try.ntmps121);(go_wp2_with (first|((with_reducible refine zA (N:=16) rfl ?_);refine Kd.R_make (Kd.int .i64) _ 3 rfl (N:=16) rfl 28 _ _ rfl ji3 rfl rfl Try.underlying28 (.int .i64 0) 8 info3 rfl (by decide) (by omega) 0 (ok:=fun _=>True) (okp:=fun _=>True) rfl (fun _ hk=>hk) trivial (of_decide_eq_true ‹_›) (Nat.le_trans (Nat.mul_le_mul_right _ (of_decide_eq_true ‹_›:ji3.toNat≤35184372088832)) (by omega)) (Below.refl _ _) (Nat.le_refl _) ?_;intro v102 w6 ho7 hb hg_ hnew_;clear hg_ hnew_;(first|rw [← Ny101.out] at ho7|(simp only [Int.reduceToNat] at ho7;rw [← Ny101.out] at ho7));have HO103:=za (zL ho7 (zo (by repeat (first|(with_reducible first|exact HB.out|apply zc|apply zd|apply zb)|exact HB.out))));replace HB:=za (zp (by repeat (first|(with_reducible first|exact HB.out|apply zc|apply zd|apply zb)|exact HB.out)) hb);clear hb ho7)));(go_loopg [19] k (fun kq v19 w'=>∃ (x5_1:List Int) (x19_1:Int),v19=.int .i64 x19_1∧Aside0 (impl_product.l0 kq l1 x5_1 l0 (l0.length:Int) x19_1=some r)∧Aside0 (kq≤k)∧Aside0 (Kd.R (Kd.int .i64) 3 w' w.heap.size (fun _=>True) v102 x5_1)∧Aside0 (Below w.heap.size w w')));case atStart=>exact ⟨(y101),(0),(by first|rfl|(simp;done)|(simp [*];done)),H',⟨Nat.le_refl _⟩,⟨by (with_reducible repeat (first|apply zk|apply zl|apply zj));exact HO103.out⟩,⟨by repeat (first|(with_reducible first|exact HB.out|apply zc|apply zd|apply zb)|exact HB.out)⟩⟩
   case round =>
    clear H';(try clear c1);(try clear p2);(try clear c4);(try clear c4b0);(try clear c4b1);(try clear c5);(try clear c5b0);(try clear c5b1);(try clear p6);obtain ⟨x5_1,x19_1,rfl,HA,HK1,HO_5,HB⟩:=hrel
    cases gk with
   |zero=>exact absurd HA.out (by simp [impl_product.l0])
   |succ k1 =>
     have H:=HA.out;clear HA;simp only [impl_product.l0] at H;by_cases c8:x19_1 < (l0.length:Int)
     ·
      rw [if_pos c8] at H;have c8b0:decide (x19_1 < (l0.length:Int))=true:=decide_eq_true c8;clear c8;by_cases c9:0≤x19_1
      ·
       rw [if_pos c9] at H;have c9b0:decide (0≤x19_1)=true:=decide_eq_true c9;clear c9;by_cases c10:x19_1 < (l0.length:Int)
       ·
        rw [if_pos c10] at H;have c10b0:decide (x19_1 < (l0.length:Int))=true:=decide_eq_true c10;clear c10;have H':=za H;clear H;have p104:0≤(x19_1:Int):=of_decide_eq_true ‹_›;have q104:x19_1 < (l0.length:Int):=of_decide_eq_true ‹_›;obtain ⟨ad104,e104,hx104_0⟩:=Kd.at_int HR0.out x19_1 p104 q104;cases e104;replace hx104_0:=(HB.out.cell (World.block_lt_of_cell? w _ hx104_0)).trans hx104_0;replace p104:=eq_true p104;replace q104:=eq_true q104;(go_wp2);(go_loopg [26] k1 (fun kq v26 w'=>∃ (x5_2:List Int) (x26_2:Int),v26=.int .i64 x26_2∧Aside0 (impl_product.l1 kq l1 x5_2 x19_1 (rd l0 x19_1) l0 (l0.length:Int) x19_1 l1 (l1.length:Int) x26_2=some r)∧Aside0 (kq≤k1)∧Aside0 (Kd.R (Kd.int .i64) 3 w' w.heap.size (fun _=>True) v102 x5_2)∧Aside0 (Below w.heap.size w w')));case atStart=>exact ⟨(x5_1),(0),(by first|rfl|(simp;done)|(simp [*];done)),H',⟨Nat.le_refl _⟩,⟨by (with_reducible repeat (first|apply zk|apply zl|apply zj));exact HO_5.out⟩,⟨by repeat (first|(with_reducible first|exact HB.out|apply zc|apply zd|apply zb)|exact HB.out)⟩⟩
        case round =>
         clear H';(try clear c1);(try clear p1);(try clear q1);(try clear hx1);(try clear p2);(try clear c4);(try clear c4b0);(try clear c4b1);(try clear c5);(try clear c5b0);(try clear c5b1);(try clear p6);(try clear c8);(try clear c8b0);(try clear c9);(try clear c9b0);(try clear c10);(try clear c10b0);(try clear p10);(try clear q10);(try clear hx10);(try clear hx104_0);(try clear p104);(try clear p2);(try clear p6);(try clear q104);obtain ⟨x5_2,x26_2,rfl,HA,HK2,HO_5,HB⟩:=hrel
         cases gk with
        |zero=>exact absurd HA.out (by simp [impl_product.l1])
        |succ k2 =>
          have H:=HA.out;clear HA;simp only [impl_product.l1] at H;by_cases c11:x26_2 < (l1.length:Int)
          ·
           rw [if_pos c11] at H;have c11b0:decide (x26_2 < (l1.length:Int))=true:=decide_eq_true c11;clear c11;by_cases c12:0≤x26_2
           ·
            rw [if_pos c12] at H;have c12b0:decide (0≤x26_2)=true:=decide_eq_true c12;clear c12;by_cases c13:x26_2 < (l1.length:Int)
            ·
             rw [if_pos c13] at H;have c13b0:decide (x26_2 < (l1.length:Int))=true:=decide_eq_true c13;clear c13;obtain ⟨ji14,hji14⟩:∃ j_:Int,(wrap64 (x19_1 + x26_2))=j_:=⟨_,rfl⟩;(replace H:(if 0≤(ji14) then (if (ji14) < (x5_2.length:Int) then (impl_product.l1 k2 l1 (x5_2.set ((ji14):Int).toNat (wrap64 ((rd x5_2 (ji14)) + (wrap64 ((rd l0 x19_1) * (rd l1 x26_2)))))) x19_1 (rd l0 x19_1) l0 (l0.length:Int) x19_1 l1 (l1.length:Int) (wrap64 (x26_2 + 1))) else (none)) else (none))=some r:=by first|(rw [hji14] at H;exact H)|(simp only [hji14] at H ⊢;exact H));have hji14w:(IntKind.i64.wrap (x19_1 + x26_2))=ji14:=(i64_w _).trans hji14;by_cases c15:0≤(ji14)
             ·
              rw [if_pos c15] at H;have c15b0:decide (0≤(ji14))=true:=decide_eq_true c15;clear c15;by_cases c16:(ji14) < (x5_2.length:Int)
              · rw [if_pos c16] at H;have c16b0:decide ((ji14) < (x5_2.length:Int))=true:=decide_eq_true c16;clear c16;obtain ⟨y107,hy107⟩:∃ y_:List Int,y_=(x5_2.set ((ji14):Int).toNat (wrap64 ((rd x5_2 (ji14)) + (wrap64 ((rd l0 x19_1) * (rd l1 x26_2)))))):=⟨_,rfl⟩;(replace H:(impl_product.l1 k2 l1 y107 x19_1 (rd l0 x19_1) l0 (l0.length:Int) x19_1 l1 (l1.length:Int) (wrap64 (x26_2 + 1)))=some r:=by first|(rw [hy107];with_reducible exact H)|(have H2_:=(Option.bind_some _ _).symm.trans H;rw [hy107];with_reducible exact H2_)|(have H2_:=(Option.bind_some _ _).symm.trans H;with_reducible exact H2_)|with_reducible exact H|(rw [hy107];exact H)|exact H);have Ny107:=za hy107;clear hy107;have H':=za H;clear H;have p105:0≤(x26_2:Int):=of_decide_eq_true ‹_›;have q105:x26_2 < (l1.length:Int):=of_decide_eq_true ‹_›;obtain ⟨ad105,e105,hx105_0⟩:=Kd.at_int HR1.out x26_2 p105 q105;cases e105;replace hx105_0:=(HB.out.cell (World.block_lt_of_cell? w _ hx105_0)).trans hx105_0;replace p105:=eq_true p105;replace q105:=eq_true q105;obtain ⟨Ao18,co18,eo18⟩:=Kd.R_slice HO_5.out;subst eo18;have p106:0≤((ji14):Int):=of_decide_eq_true ‹_›;have q106:(ji14) < (x5_2.length:Int):=of_decide_eq_true ‹_›;obtain ⟨ad106,e106,hx106_0⟩:=Kd.at_int (zB HO_5.out).2.2 (ji14) p106 q106;cases e106;replace p106:=eq_true p106;replace q106:=eq_true q106;have p17:0≤((ji14):Int):=of_decide_eq_true ‹_›;have q17:((ji14):Int) < ((x5_2.length:Int):Int):=of_decide_eq_true ‹_›;obtain ⟨go17,co17,eo17,gb17,gl17,cl17,HG17⟩:=Kd.R_form HO_5.out (by omega);(first|cases eo17|(injection eo17 with ea_ en_ ec_;(first|subst ea_|(injection ea_ with ea_;subst ea_));subst ec_;clear en_));have GB17:=za gb17;have GG17:=za HG17;clear gb17 gl17 HG17;(first|simp only [add_plain] at hx106_0|skip);obtain ⟨hx17_0,hf17_0⟩:=Kd.R_celln 0 HO_5.out ((ji14):Int) p17 q17;replace p17:=eq_true p17;replace q17:=eq_true q17;have HP19:=Kd.R_putg HO_5.out ((ji14):Int) (wrap64 ((rd x5_2 (ji14)) + (wrap64 ((rd l0 x19_1) * (rd l1 x26_2)))));(go_wp2_with (first|((with_reducible refine gate_store (t:=3) (p:=41) rfl ?_);refine store_event (t:=3) (p:=41) (v:=?vo_w20) (w1:=(wr.setCell ⟨go17,((ji14):Int).toNat,none⟩ (.int .i64 (wrap64 ((rd x5_2 (ji14)) + (wrap64 ((rd l0 x19_1) * (rd l1 x26_2)))))))) ?hg ?ho ?hn ?hr ?_;(case ho=>rfl);(case hg=>rfl);(case hn=>rfl);(case hr=>first|(go_simp;done)|(go_simp;rfl));intro w20 hw;have hg:wr.grownBy w20 (some go17):=(by rw [hw];exact HP19.2);have hp_:Kd.R (Kd.int .i64) 3 w20 w.heap.size (fun _=>True) (.slice (some ⟨go17,0,none⟩) x5_2.length co18) y107:=(by rw [hw,Ny107.out];exact HP19.1);clear HP19;replace HO_5:=za (hp_);replace HB:=za ((by rw [hw];exact ze (HB.out) GB17.out:Below w.heap.size w w20));clear hg hw hp_)));(go_roundg k2);(case measure=>have:=HK1.out;have:=HK2.out;omega);case rel=>exact ⟨(y107),(wrap64 (x26_2 + 1)),(by first|rfl|(simp;done)|(simp [*];done)),H',⟨by have:=HK1.out;have:=HK2.out;omega⟩,⟨by (with_reducible repeat (first|apply zk|apply zl|apply zj));exact HO_5.out⟩,⟨by repeat (first|(with_reducible first|exact HB.out|apply zc|apply zd|apply zb)|exact HB.out)⟩⟩
              · rw [if_neg c16] at H;exact absurd H (by simp)
             · rw [if_neg c15] at H;exact absurd H (by simp)
            · rw [if_neg c13] at H;exact absurd H (by simp)
           · rw [if_neg c12] at H;exact absurd H (by simp)
          · rw [if_neg c11] at H;have c11b0:decide (x26_2 < (l1.length:Int))=false:=decide_eq_false c11;clear c11;have H':=za H;clear H;(go_wp2);(go_roundg k2);(case measure=>have:=HK1.out;have:=HK2.out;omega);case rel=>exact ⟨(x5_2),(wrap64 (x19_1 + 1)),(by first|rfl|(simp;done)|(simp [*];done)),H',⟨by have:=HK1.out;have:=HK2.out;omega⟩,⟨by (with_reducible repeat (first|apply zk|apply zl|apply zj));exact HO_5.out⟩,⟨by repeat (first|(with_reducible first|exact HB.out|apply zc|apply zd|apply zb)|exact HB.out)⟩⟩
       · rw [if_neg c10] at H;exact absurd H (by simp)
      · rw [if_neg c9] at H;exact absurd H (by simp)
     · rw [if_neg c8] at H;have c8b0:decide (x19_1 < (l0.length:Int))=false:=decide_eq_false c8;clear c8;obtain rfl:=Option.some.inj H;(go_wp2);(go_ret);exact ⟨_,by first|rfl|(simp [errW_none,errW_some] <;> rfl)|(simp only [← hji3];first|rfl|(simp [errW_none,errW_some] <;> rfl))|(simp [*,errW_none,errW_some] <;> rfl),by (with_reducible repeat (first|apply zk|apply zl|apply zj));exact HO_5.out,by repeat (first|(with_reducible first|exact HB.out|apply zc|apply zd|apply zb)|exact HB.out)⟩
  · rw [if_neg c5] at H;exact absurd H (by simp)
 · rw [if_neg c4] at H;exact absurd H (by simp)
end Go.Proofs.Ytiopnmgcajohfaa.Q
end
section
namespace Go.Proofs.Ytiopnmgcajohfaa.Q
open Go.RowKit Go.Proofs.YtiopnmgcajohfaaW.PrintWords Go.Proofs.YtiopnmgcajohfaaW.PrintLast Go.Proofs.YtiopnmgcajohfaaW.PrintMore
attribute [local go_sem] max2_int min2_int max_two min_two max_three min_three max_four min_four   -- for this text's walks alone
set_option linter.unusedVariables false
set_option linter.unusedSimpArgs false
mutual
def impl_HitsFromRooks.l0:Nat→Int→List Int→List Int→List Int→Int→Int→Option (List Int × Bool)
|0,_,_,_,_,_,_=>none
|k + 1,x4,x5,x6,x21,x22,x23=>if x23 < x22 then (if 0≤x23 then (if x23 < (x21.length:Int) then (impl_HitsFromRooks.l1 k x4 x5 x6 x23 (rd x21 x23) x21 x22 x23 x5 (x5.length:Int) 0) else (none)) else (none)) else (some (x6,true))
def impl_HitsFromRooks.l1:Nat→Int→List Int→List Int→Int→Int→List Int→Int→Int→List Int→Int→Int→Option (List Int × Bool)
|0,_,_,_,_,_,_,_,_,_,_,_=>none
|k + 1,x4,x5,x6,x7,x8,x21,x22,x23,x28,x29,x30=>if x30 < x29 then (if 0≤x30 then (if x30 < (x28.length:Int) then (if x30 < (x6.length:Int) then ((impl_factorial.f k (wrap64 (x4 - x7))).bind fun t111=>(impl_HitsFromRooks.l1 k x4 x5 (x6.set (x30:Int).toNat (wrap64 ((rd x6 x30) + (wrap64 ((wrap64 (x8 * t111)) * (rd x28 x30)))))) x7 x8 x21 x22 x23 x28 x29 (wrap64 (x30 + 1)))) else (none)) else (none)) else (none)) else ((impl_product.f k x5 (([(-1),1]:List Int))).bind fun t116=>(impl_HitsFromRooks.l0 k x4 t116 x6 x21 x22 (wrap64 (x23 + 1))))
end
def impl_HitsFromRooks.f (k:Nat) (l0:List Int):Option (List Int × Bool):=(impl_areSums.f k l0).bind fun t101=>(if t101=true then (if 0≤(wrap64 ((wrap64 ((l0.length:Int) - 1)) + 1)) then (if (wrap64 ((wrap64 ((l0.length:Int) - 1)) + 1):Int).toNat≤35184372088832 then (impl_HitsFromRooks.l0 k (wrap64 ((l0.length:Int) - 1)) (([1]:List Int)) (List.replicate (wrap64 ((wrap64 ((l0.length:Int) - 1)) + 1):Int).toNat 0) l0 (l0.length:Int) 0) else (none)) else (none)) else (some (([]:List Int),false)))
def impl_HitsFromRooks.T11:Bool × List (List Nat × List Nat):=(true,[([],[]),([],[]),([0,1],[0,1]),([2],[2]),([],[]),([],[]),([],[]),([5,6],[5,6]),([7],[7]),([4,8],[4,8]),([],[]),([9,10],[9,10]),([3,11],[3,11]),([0,1,0,1,2,3,4,5,6,7,8,9,10,11,12],[0,1]),([13,12,8,0,1,2,3,4,5,6,7,8,9,10,11,12],[12,13])])
def impl_HitsFromRooks.B11:List Nat:=[0,0,3,7,0,0,0,96,224,496,0,2032,4095,8191,16383]
theorem impl_HitsFromRooks.tab11:rtab .any (opsOf Try.f66 11)=impl_HitsFromRooks.T11:=by kernel_rfl
theorem impl_HitsFromRooks.bits11:waitsOk impl_HitsFromRooks.T11.2 impl_HitsFromRooks.B11=true:=by kernel_rfl
set_option maxHeartbeats 8000000 in
set_option maxRecDepth 100000 in
theorem impl_HitsFromRooks.calls (k:Nat) (A0:Option Addr) (c0:Nat) (l0:List Int) (r1:List Int) (r2:Bool) (w:World) (hr0:Kd.C (Kd.int .i64) w A0 l0.length l0) (hc0:l0.length≤c0) (h:impl_HitsFromRooks.f k l0=some (r1,r2)) :
  Calls Try.prog 66 #[.slice A0 l0.length c0] w fun e w'=>∃ v0_:Value,e=.returned (.tuple #[v0_,.bool r2])∧Kd.R (Kd.int .i64) 3 w' w.heap.size (fun _=>True) v0_ r1∧Below w.heap.size w w':=by
 have HR0:=za hr0;have HC0:=za hc0;clear hr0 hc0;have HB:=za (Below.refl w.heap.size w);have H:((impl_areSums.f k l0).bind fun t101=>(if t101=true then (if 0≤(wrap64 ((wrap64 ((l0.length:Int) - 1)) + 1)) then (if (wrap64 ((wrap64 ((l0.length:Int) - 1)) + 1):Int).toNat≤35184372088832 then (impl_HitsFromRooks.l0 k (wrap64 ((l0.length:Int) - 1)) (([1]:List Int)) (List.replicate (wrap64 ((wrap64 ((l0.length:Int) - 1)) + 1):Int).toNat 0) l0 (l0.length:Int) 0) else (none)) else (none)) else (some (([]:List Int),false))))=some (r1,r2):=h;clear h;obtain ⟨t101,A2,H⟩:=bindAside H;(try dsimp only at H);by_cases c3:t101=true
 ·
  subst c3;(have H1:(if 0≤(wrap64 ((wrap64 ((l0.length:Int) - 1)) + 1)) then (if (wrap64 ((wrap64 ((l0.length:Int) - 1)) + 1):Int).toNat≤35184372088832 then (impl_HitsFromRooks.l0 k (wrap64 ((l0.length:Int) - 1)) (([1]:List Int)) (List.replicate (wrap64 ((wrap64 ((l0.length:Int) - 1)) + 1):Int).toNat 0) l0 (l0.length:Int) 0) else (none)) else (none))=some (r1,r2):=by rw [if_pos rfl] at H;exact H);clear H;have H:=H1;clear H1;obtain ⟨y102,hy102⟩:∃ y_:List Int,y_=(([1]:List Int)):=⟨_,rfl⟩;(replace H:(if 0≤(wrap64 ((wrap64 ((l0.length:Int) - 1)) + 1)) then (if (wrap64 ((wrap64 ((l0.length:Int) - 1)) + 1):Int).toNat≤35184372088832 then (impl_HitsFromRooks.l0 k (wrap64 ((l0.length:Int) - 1)) y102 (List.replicate (wrap64 ((wrap64 ((l0.length:Int) - 1)) + 1):Int).toNat 0) l0 (l0.length:Int) 0) else (none)) else (none))=some (r1,r2):=by first|(rw [hy102];with_reducible exact H)|(have H2_:=(Option.bind_some _ _).symm.trans H;rw [hy102];with_reducible exact H2_)|(have H2_:=(Option.bind_some _ _).symm.trans H;with_reducible exact H2_)|with_reducible exact H|(rw [hy102];exact H)|exact H);have Ny102:=za hy102;clear hy102;obtain ⟨ji4,hji4⟩:∃ j_:Int,(wrap64 ((wrap64 ((l0.length:Int) - 1)) + 1))=j_:=⟨_,rfl⟩;(replace H:(if 0≤(ji4) then (if (ji4:Int).toNat≤35184372088832 then (impl_HitsFromRooks.l0 k (wrap64 ((l0.length:Int) - 1)) y102 (List.replicate (ji4:Int).toNat 0) l0 (l0.length:Int) 0) else (none)) else (none))=some (r1,r2):=by first|(rw [hji4] at H;exact H)|(simp only [hji4] at H ⊢;exact H));(try rw [hji4] at A2);have hji4w:(IntKind.i64.wrap ((wrap64 ((l0.length:Int) - 1)) + 1))=ji4:=(i64_w _).trans hji4;by_cases c5:0≤(ji4)
  ·
   rw [if_pos c5] at H;have c5b0:=eq_true c5;have c5b1:decide (0≤(ji4))=true:=decide_eq_true c5;clear c5;by_cases c6:(ji4:Int).toNat≤35184372088832
   ·
    rw [if_pos c6] at H;have c6b0:=eq_true c6;have c6b1:decide ((ji4:Int).toNat≤35184372088832)=true:=decide_eq_true c6;clear c6;obtain ⟨y105,hy105⟩:∃ y_:List Int,y_=(List.replicate (ji4:Int).toNat 0):=⟨_,rfl⟩;(replace H:(impl_HitsFromRooks.l0 k (wrap64 ((l0.length:Int) - 1)) y102 y105 l0 (l0.length:Int) 0)=some (r1,r2):=by first|(rw [hy105];with_reducible exact H)|(have H2_:=(Option.bind_some _ _).symm.trans H;rw [hy105];with_reducible exact H2_)|(have H2_:=(Option.bind_some _ _).symm.trans H;with_reducible exact H2_)|with_reducible exact H|(rw [hy105];exact H)|exact H);have Ny105:=za hy105;clear hy105;have H':=za H;clear H;(go_enter Try.func66,Try.ntmps66);(go_wp2_with (first|((with_reducible refine zq (f:=119) rfl ?_);refine zr (some 12) rfl rfl Try.func119 (by kernel_rfl) rfl #[.slice A0 l0.length c0] rfl (by first|rfl|simp only [z3_,z4_,z5_];try rfl) ?_;(with_reducible refine (impl_areSums.calls k _ _ l0 true _ ?side1 ?side2 A2.out).mono ?_);(case side1=>repeat (first|exact HR0.out|(with_reducible refine zC ?_ _)|(with_reducible refine zD ?_ _)|(with_reducible refine zE ?_)));(case side2=>exact HC0.out);rintro e w' ⟨rfl,⟨nd,rfl⟩⟩;refine ⟨_,rfl,?_⟩)|((with_reducible refine zA (N:=17) rfl ?_);refine Kd.R_lit (Kd.int .i64) _ 3 ?hg (N:=17) ?hd (xs:=([1]:List Int)) (inner:=[.int .i64 1]) (ok:=fun _=>True) (okp:=fun _=>True) ?hr ?hp (fun _ hk=>hk) trivial (Below.refl _ _) (Nat.le_refl _) (by simp) ?_;(case hd=>rfl);(case hg=>rfl);(case hr=>first|(go_simp;done)|(go_simp;rfl));(case hp=>exact (Reps.one (show Kd.M (Kd.int .i64) _ _ _ 1 [.int .i64 1] from rfl) (Reps.none _ _)));intro v103 w7 ho8 hb hg_ hnew_;clear hg_ hnew_;(first|rw [← Ny102.out] at ho8|(simp only [Int.reduceToNat] at ho8;rw [← Ny102.out] at ho8));have HO104:=za (zL ho8 (zo (by repeat (first|(with_reducible first|exact HB.out|apply zc|apply zd|apply zb)|exact HB.out))));replace HB:=za (zp (by repeat (first|(with_reducible first|exact HB.out|apply zc|apply zd|apply zb)|exact HB.out)) hb);clear hb ho8)|((with_reducible refine zA (N:=20) rfl ?_);refine Kd.R_make (Kd.int .i64) _ 3 rfl (N:=20) rfl 28 _ _ rfl ji4 rfl rfl Try.underlying28 (.int .i64 0) 8 info3 rfl (by decide) (by omega) 0 (ok:=fun _=>True) (okp:=fun _=>True) rfl (fun _ hk=>hk) trivial (of_decide_eq_true ‹_›) (Nat.le_trans (Nat.mul_le_mul_right _ (of_decide_eq_true ‹_›:ji4.toNat≤35184372088832)) (by omega)) (Below.refl _ _) (Nat.le_refl _) ?_;intro v106 w9 ho10 hb hg_ hnew_;clear hg_ hnew_;(first|rw [← Ny105.out] at ho10|(simp only [Int.reduceToNat] at ho10;rw [← Ny105.out] at ho10));have HO107:=za (zL (zI ho10 (Kd.R_lt (by (with_reducible repeat (first|apply zk|apply zl|apply zj));exact HO104.out))) (zo (by repeat (first|(with_reducible first|exact HB.out|apply zc|apply zd|apply zb)|exact HB.out))));replace HO104:=za (zJ (by (with_reducible repeat (first|apply zk|apply zl|apply zj));exact HO104.out) (zH ho10) hb);replace HB:=za (zp (by repeat (first|(with_reducible first|exact HB.out|apply zc|apply zd|apply zb)|exact HB.out)) hb);clear hb ho10)));(go_loopg [5,23] k (fun kq v5 v23 w'=>∃ (x5_1:List Int) (x6_1:List Int) (x23_1:Int),v23=.int .i64 x23_1∧Aside0 (impl_HitsFromRooks.l0 kq (wrap64 ((l0.length:Int) - 1)) x5_1 x6_1 l0 (l0.length:Int) x23_1=some (r1,r2))∧Aside0 (kq≤k)∧Aside0 (Kd.R (Kd.int .i64) 3 w' w.heap.size (fun k_=>some k_ ≠ (v106:Value).ownBlock) v5 x5_1)∧Aside0 (Kd.R (Kd.int .i64) 3 w' w.heap.size (fun k_=>some k_ ≠ (v5:Value).ownBlock) v106 x6_1)∧Aside0 (Below w.heap.size w w')));case atStart=>exact ⟨(y102),(y105),(0),(by first|rfl|(simp;done)|(simp [*];done)),H',⟨Nat.le_refl _⟩,⟨by (with_reducible repeat (first|apply zk|apply zl|apply zj));exact zs HO104.out (fun _ hk=>hk.2)⟩,⟨by (with_reducible repeat (first|apply zk|apply zl|apply zj));exact zs HO107.out (fun _ hk=>hk.2)⟩,⟨by repeat (first|(with_reducible first|exact HB.out|apply zc|apply zd|apply zb)|exact HB.out)⟩⟩
    case round =>
     clear H';(try clear c1);(try clear p2);(try clear c3);(try clear c5);(try clear c5b0);(try clear c5b1);(try clear c6);(try clear c6b0);(try clear c6b1);(try clear p6);obtain ⟨x5_1,x6_1,x23_1,rfl,HA,HK1,HO_5,HO_6,HB⟩:=hrel
     cases gk with
    |zero=>exact absurd HA.out (by simp [impl_HitsFromRooks.l0])
    |succ k1 =>
      have H:=HA.out;clear HA;simp only [impl_HitsFromRooks.l0] at H;by_cases c11:x23_1 < (l0.length:Int)
      ·
       rw [if_pos c11] at H;have c11b0:decide (x23_1 < (l0.length:Int))=true:=decide_eq_true c11;clear c11;by_cases c12:0≤x23_1
       ·
        rw [if_pos c12] at H;have c12b0:decide (0≤x23_1)=true:=decide_eq_true c12;clear c12;by_cases c13:x23_1 < (l0.length:Int)
        ·
         rw [if_pos c13] at H;have c13b0:decide (x23_1 < (l0.length:Int))=true:=decide_eq_true c13;clear c13;have H':=za H;clear H;have p108:0≤(x23_1:Int):=of_decide_eq_true ‹_›;have q108:x23_1 < (l0.length:Int):=of_decide_eq_true ‹_›;obtain ⟨ad108,e108,hx108_0⟩:=Kd.at_int HR0.out x23_1 p108 q108;cases e108;replace hx108_0:=(HB.out.cell (World.block_lt_of_cell? w _ hx108_0)).trans hx108_0;replace p108:=eq_true p108;replace q108:=eq_true q108;obtain ⟨Ao14,co14,eo14⟩:=Kd.R_slice HO_5.out;subst eo14;(go_wp2);(go_loopg [30] k1 (fun kq v30 w'=>∃ (x6_2:List Int) (x30_2:Int),v30=.int .i64 x30_2∧Aside0 (impl_HitsFromRooks.l1 kq (wrap64 ((l0.length:Int) - 1)) x5_1 x6_2 x23_1 (rd l0 x23_1) l0 (l0.length:Int) x23_1 x5_1 (x5_1.length:Int) x30_2=some (r1,r2))∧Aside0 (kq≤k1)∧Aside0 (Kd.R (Kd.int .i64) 3 w' w.heap.size (fun k_=>some k_ ≠ (v106:Value).ownBlock) (.slice Ao14 x5_1.length co14) x5_1)∧Aside0 (Kd.R (Kd.int .i64) 3 w' w.heap.size (fun k_=>some k_ ≠ ((.slice Ao14 x5_1.length co14):Value).ownBlock∧some k_ ≠ ((.slice Ao14 x5_1.length co14):Value).ownBlock) v106 x6_2)∧Aside0 (Kd.R (Kd.int .i64) 3 w' w.heap.size (fun k_=>some k_ ≠ (v106:Value).ownBlock) (.slice Ao14 x5_1.length co14) x5_1)∧Aside0 (Below w.heap.size w w')));case atStart=>exact ⟨(x6_1),(0),(by first|rfl|(simp;done)|(simp [*];done)),H',⟨Nat.le_refl _⟩,⟨by (with_reducible repeat (first|apply zk|apply zl|apply zj));exact HO_5.out⟩,⟨by (with_reducible repeat (first|apply zk|apply zl|apply zj));exact zs HO_6.out (fun _ hk=>⟨hk,hk⟩)⟩,⟨by (with_reducible repeat (first|apply zk|apply zl|apply zj));exact HO_5.out⟩,⟨by repeat (first|(with_reducible first|exact HB.out|apply zc|apply zd|apply zb)|exact HB.out)⟩⟩
         case round =>
          clear H';(try clear c1);(try clear p1);(try clear q1);(try clear hx1);(try clear p2);(try clear c3);(try clear c5);(try clear c5b0);(try clear c5b1);(try clear c6);(try clear c6b0);(try clear c6b1);(try clear p6);(try clear p10);(try clear q10);(try clear hx10);(try clear c11);(try clear c11b0);(try clear c12);(try clear c12b0);(try clear c13);(try clear c13b0);(try clear hx108_0);(try clear p108);(try clear p2);(try clear p6);(try clear q108);obtain ⟨x6_2,x30_2,rfl,HA,HK2,HO_5,HO_6,HO_28,HB⟩:=hrel
          cases gk with
         |zero=>exact absurd HA.out (by simp [impl_HitsFromRooks.l1])
         |succ k2 =>
           have H:=HA.out;clear HA;simp only [impl_HitsFromRooks.l1] at H;by_cases c15:x30_2 < (x5_1.length:Int)
           ·
            rw [if_pos c15] at H;have c15b0:decide (x30_2 < (x5_1.length:Int))=true:=decide_eq_true c15;clear c15;by_cases c16:0≤x30_2
            ·
             rw [if_pos c16] at H;have c16b0:decide (0≤x30_2)=true:=decide_eq_true c16;clear c16;by_cases c17:x30_2 < (x5_1.length:Int)
             ·
              rw [if_pos c17] at H;have c17b0:decide (x30_2 < (x5_1.length:Int))=true:=decide_eq_true c17;clear c17;by_cases c18:x30_2 < (x6_2.length:Int)
              ·
               rw [if_pos c18] at H;have c18b0:decide (x30_2 < (x6_2.length:Int))=true:=decide_eq_true c18;clear c18;obtain ⟨t111,A19,H⟩:=bindAside H;(try dsimp only at H);obtain ⟨y112,hy112⟩:∃ y_:List Int,y_=(x6_2.set (x30_2:Int).toNat (wrap64 ((rd x6_2 x30_2) + (wrap64 ((wrap64 ((rd l0 x23_1) * t111)) * (rd x5_1 x30_2)))))):=⟨_,rfl⟩;(replace H:(impl_HitsFromRooks.l1 k2 (wrap64 ((l0.length:Int) - 1)) x5_1 y112 x23_1 (rd l0 x23_1) l0 (l0.length:Int) x23_1 x5_1 (x5_1.length:Int) (wrap64 (x30_2 + 1)))=some (r1,r2):=by first|(rw [hy112];with_reducible exact H)|(have H2_:=(Option.bind_some _ _).symm.trans H;rw [hy112];with_reducible exact H2_)|(have H2_:=(Option.bind_some _ _).symm.trans H;with_reducible exact H2_)|with_reducible exact H|(rw [hy112];exact H)|exact H);have Ny112:=za hy112;clear hy112;have H':=za H;clear H;have p109:0≤(x30_2:Int):=of_decide_eq_true ‹_›;have q109:x30_2 < (x5_1.length:Int):=of_decide_eq_true ‹_›;obtain ⟨ad109,e109,hx109_0⟩:=Kd.at_int (zB HO_28.out).2.2 x30_2 p109 q109;cases e109;replace p109:=eq_true p109;replace q109:=eq_true q109;(try go_wp2);replace HO_5:=za (zj HO_5.out);replace HO_6:=za (zj HO_6.out);replace HO_28:=za (zj HO_28.out);replace HB:=za (zb HB.out);obtain ⟨Ao22,co22,eo22⟩:=Kd.R_slice HO_6.out;(first|subst eo22|(injection eo22 with f1_ f2_ f3_;have f4_:=f1_.symm;have f5_:=f3_.symm;clear f1_ f2_ f3_;subst f4_;subst f5_));have p110:0≤(x30_2:Int):=of_decide_eq_true ‹_›;have q110:x30_2 < (x6_2.length:Int):=of_decide_eq_true ‹_›;obtain ⟨ad110,e110,hx110_0⟩:=Kd.at_int (zB HO_6.out).2.2 x30_2 p110 q110;cases e110;replace p110:=eq_true p110;replace q110:=eq_true q110;refine start_ (n:=15) (S:=fun w'=>w'.cell? (ad110.add (x30_2).toNat)=some (.int .i64 (rd x6_2 x30_2))) (ds:=[14]) #[false,false,false,false,false,false,false,false,false,false,false,false,false,false,false] (by kernel_rfl) rfl rfl (hx110_0) (fun hHeld=>?_);refine with_tabW impl_HitsFromRooks.tab11 impl_HitsFromRooks.bits11 (fun HT_ HW_=>?_);generalize wr.drew=w21 at HO_5 HO_6 HO_28 HB hx110_0 hHeld ⊢;refine pure_ (i:=0) (N:=some 35) (v:=?_) (a':=?_) #[true,false,false,false,false,false,false,false,false,false,false,false,false,false,false] rfl rfl (any_of HT_.out (by kernel_rfl)) (fun _ _ _ h=>h) (Or.inl ⟨by rfl,?_⟩) ?_ ?_;rotate_left
               · intro w';go_simp;with_reducible rfl
               rotate_left
               · simp only [Act.put,z0_,z1_,z2_,i64_w,i32_w];rfl
               refine pure_ (i:=1) (N:=some 36) (v:=?_) (a':=?_) #[true,true,false,false,false,false,false,false,false,false,false,false,false,false,false] rfl rfl (any_of HT_.out (by kernel_rfl)) (fun _ _ _ h=>h) (Or.inl ⟨by rfl,?_⟩) ?_ ?_;rotate_left
               · intro w';go_simp;with_reducible rfl
               rotate_left
               · simp only [Act.put,z0_,z1_,z2_,i64_w,i32_w];rfl
               refine pure_ (i:=2) (N:=some 37) (v:=?_) (a':=?_) #[true,true,true,false,false,false,false,false,false,false,false,false,false,false,false] rfl rfl (any_of HT_.out (by kernel_rfl)) (fun _ _ _ h=>h) (Or.inl ⟨by rfl,?_⟩) ?_ ?_;rotate_left
               · intro w';go_simp;with_reducible rfl
               rotate_left
               · simp only [Act.put,z0_,z1_,z2_,i64_w,i32_w];rfl
               refine pure_ (i:=4) (N:=some 39) (v:=?_) (a':=?_) #[true,true,true,false,true,false,false,false,false,false,false,false,false,false,false] rfl rfl (any_of HT_.out (by kernel_rfl)) (fun _ _ _ h=>h) (Or.inl ⟨by rfl,?_⟩) ?_ ?_;rotate_left
               · intro w';go_simp;with_reducible rfl
               rotate_left
               · simp only [Act.put,z0_,z1_,z2_,i64_w,i32_w];rfl
               refine pure_ (i:=5) (N:=some 40) (v:=?_) (a':=?_) #[true,true,true,false,true,true,false,false,false,false,false,false,false,false,false] rfl rfl (any_of HT_.out (by kernel_rfl)) (fun _ _ _ h=>h) (Or.inl ⟨by rfl,?_⟩) ?_ ?_;rotate_left
               · intro w';go_simp;with_reducible rfl
               rotate_left
               · simp only [Act.put,z0_,z1_,z2_,i64_w,i32_w];rfl
               refine pure_ (i:=6) (N:=some 41) (v:=?_) (a':=?_) #[true,true,true,false,true,true,true,false,false,false,false,false,false,false,false] rfl rfl (any_of HT_.out (by kernel_rfl)) (fun _ _ _ h=>h) (Or.inl ⟨by rfl,?_⟩) ?_ ?_;rotate_left
               · intro w';go_simp;with_reducible rfl
               rotate_left
               · simp only [Act.put,z0_,z1_,z2_,i64_w,i32_w];rfl
               refine pure_ (i:=7) (N:=some 42) (v:=?_) (a':=?_) #[true,true,true,false,true,true,true,true,false,false,false,false,false,false,false] rfl rfl (any_of HT_.out (by kernel_rfl)) (fun _ _ _ h=>h) (Or.inl ⟨by rfl,?_⟩) ?_ ?_;rotate_left
               · intro w';go_simp;with_reducible rfl
               rotate_left
               · simp only [Act.put,z0_,z1_,z2_,i64_w,i32_w];rfl
               refine pure_ (i:=10) (N:=some 45) (v:=?_) (a':=?_) #[true,true,true,false,true,true,true,true,false,false,true,false,false,false,false] rfl rfl (any_of HT_.out (by kernel_rfl)) (fun _ _ _ h=>h) (Or.inl ⟨by rfl,?_⟩) ?_ ?_;rotate_left
               · intro w';go_simp;with_reducible rfl
               rotate_left
               · simp only [Act.put,z0_,z1_,z2_,i64_w,i32_w];rfl
               refine take_ (i:=3) (N:=some 38) (v:=?_) (a':=?_) #[true,true,true,true,true,true,true,true,false,false,true,false,false,false,false] rfl rfl (take_ofW HT_.out HW_.out (by kernel_rfl)) (fun _ _ _ h=>h) (Or.inl ⟨by rfl,?_⟩) hHeld ?_ ?_;rotate_left
               · intro w' s0;go_simp;with_reducible rfl
               rotate_left
               · simp only [Act.put,z0_,z1_,z2_,i64_w,i32_w];rfl
               refine one_ (i:=8) (N:=some 43) #[true,true,true,true,true,true,true,true,true,false,true,false,false,false,false] rfl rfl (one_of HT_.out (by kernel_rfl)) (by decide) (fun K hK=>?_);refine goes_ Try.func120 (by kernel_rfl) rfl #[.int .i64 (wrap64 ((wrap64 ((l0.length:Int) - 1)) - x23_1))] (by rfl) rfl rfl (by first|rfl|simp only [z3_,z4_,z5_];try rfl) ?_;(with_reducible refine (impl_factorial.calls k2 (wrap64 ((wrap64 ((l0.length:Int) - 1)) - x23_1)) t111 _ A19.out).mono ?_);rintro e w' ⟨rfl,⟨nd,rfl⟩⟩;refine ⟨_,rfl,?_⟩;have p20:0≤(x30_2:Int):=of_decide_eq_true ‹_›;have q20:(x30_2:Int) < ((x6_2.length:Int):Int):=of_decide_eq_true ‹_›;obtain ⟨go20,co20,eo20,gb20,gl20,cl20,HG20⟩:=Kd.R_form HO_6.out (by omega);(first|cases eo20|(injection eo20 with ea_ en_ ec_;(first|subst ea_|(injection ea_ with ea_;subst ea_));subst ec_;clear en_));have GB20:=za gb20;have GG20:=za HG20;clear gb20 gl20 HG20;(first|simp only [add_plain] at hx110_0|skip);obtain ⟨hx20_0,hf20_0⟩:=Kd.R_celln 0 HO_6.out (x30_2:Int) p20 q20;replace p20:=eq_true p20;replace q20:=eq_true q20;have HP23:=Kd.R_putn HO_6.out (x30_2:Int) (wrap64 ((rd x6_2 x30_2) + (wrap64 ((wrap64 ((rd l0 x23_1) * t111)) * (rd x5_1 x30_2)))));rw [← Ny112.out] at HP23;have HQ23:=za HP23;clear HP23;refine hK.out _ _ (hHeld) (fun hHeld=>?_);clear hK K;refine norm_ (a':=?_) ?_ ?_;rotate_left
               · show Act.put _ (some 43) _=_;simp only [Act.put,z0_,z1_,z2_,i64_w,i32_w];rfl
               refine pure_ (i:=9) (N:=some 44) (v:=?_) (a':=?_) #[true,true,true,true,true,true,true,true,true,true,true,false,false,false,false] rfl rfl (any_of HT_.out (by kernel_rfl)) (fun _ _ _ h=>h) (Or.inl ⟨by rfl,?_⟩) ?_ ?_;rotate_left
               · intro w';go_simp;with_reducible rfl
               rotate_left
               · simp only [Act.put,z0_,z1_,z2_,i64_w,i32_w];rfl
               refine pure_ (i:=11) (N:=some 46) (v:=?_) (a':=?_) #[true,true,true,true,true,true,true,true,true,true,true,true,false,false,false] rfl rfl (any_of HT_.out (by kernel_rfl)) (fun _ _ _ h=>h) (Or.inl ⟨by rfl,?_⟩) ?_ ?_;rotate_left
               · intro w';go_simp;with_reducible rfl
               rotate_left
               · simp only [Act.put,z0_,z1_,z2_,i64_w,i32_w];rfl
               refine pure_ (i:=12) (N:=some 47) (v:=?_) (a':=?_) #[true,true,true,true,true,true,true,true,true,true,true,true,true,false,false] rfl rfl (any_of HT_.out (by kernel_rfl)) (fun _ _ _ h=>h) (Or.inl ⟨by rfl,?_⟩) ?_ ?_;rotate_left
               · intro w';go_simp;with_reducible rfl
               rotate_left
               · simp only [Act.put,z0_,z1_,z2_,i64_w,i32_w];rfl
               refine pure_ (i:=13) (N:=some 48) (v:=?_) (a':=?_) #[true,true,true,true,true,true,true,true,true,true,true,true,true,true,false] rfl rfl (any_of HT_.out (by kernel_rfl)) (fun _ _ _ h=>h) (Or.inl ⟨by rfl,?_⟩) ?_ ?_;rotate_left
               · intro w';go_simp;with_reducible rfl
               rotate_left
               · simp only [Act.put,z0_,z1_,z2_,i64_w,i32_w];rfl
               refine last_ (i:=14) (N:=none) #[true,true,true,true,true,true,true,true,true,true,true,true,true,true,true] rfl rfl (one_of HT_.out (by kernel_rfl)) (by decide) (fun K hK=>?_);refine skip_ (w1:=?_) (by rfl) rfl ?_ ?_;rotate_left
               · go_simp;rfl
               refine hK.out _ _ ?_;clear hK K;refine done_ (done_of HT_.out (by kernel_rfl)) ?_;(try go_wp2);(go_roundg k2);(case measure=>have:=HK1.out;have:=HK2.out;omega);case rel=>exact ⟨(y112),(wrap64 (x30_2 + 1)),(by first|rfl|(simp;done)|(simp [*];done)),H',⟨by have:=HK1.out;have:=HK2.out;omega⟩,⟨by (with_reducible repeat (first|apply zk|apply zl|apply zj));exact zs (zn (p:=⟨go20,(x30_2:Int).toNat,none⟩) (zs HO_5.out (fun k_ hk=>(⟨hk,fun e_=>hk (by rw [e_];rfl)⟩:_∧k_ ≠ go20))) (fun _ hk=>hk.2) (.int .i64 (wrap64 ((rd x6_2 x30_2) + (wrap64 ((wrap64 ((rd l0 x23_1) * t111)) * (rd x5_1 x30_2))))))) (fun _ hk=>hk.1)⟩,⟨by (with_reducible repeat (first|apply zk|apply zl|apply zj));exact HQ23.out⟩,⟨by (with_reducible repeat (first|apply zk|apply zl|apply zj));exact zs (zn (p:=⟨go20,(x30_2:Int).toNat,none⟩) (zs HO_28.out (fun k_ hk=>(⟨hk,fun e_=>hk (by rw [e_];rfl)⟩:_∧k_ ≠ go20))) (fun _ hk=>hk.2) (.int .i64 (wrap64 ((rd x6_2 x30_2) + (wrap64 ((wrap64 ((rd l0 x23_1) * t111)) * (rd x5_1 x30_2))))))) (fun _ hk=>hk.1)⟩,⟨by repeat (first|(with_reducible first|exact HB.out|apply zc|apply zd|apply zb|refine ze ?_ GB20.out)|exact HB.out)⟩⟩
              · rw [if_neg c18] at H;exact absurd H (by simp)
             · rw [if_neg c17] at H;exact absurd H (by simp)
            · rw [if_neg c16] at H;exact absurd H (by simp)
           · rw [if_neg c15] at H;have c15b0:decide (x30_2 < (x5_1.length:Int))=false:=decide_eq_false c15;clear c15;obtain ⟨y113,hy113⟩:∃ y_:List Int,y_=(([(-1),1]:List Int)):=⟨_,rfl⟩;(replace H:((impl_product.f k2 x5_1 y113).bind fun t116=>(impl_HitsFromRooks.l0 k2 (wrap64 ((l0.length:Int) - 1)) t116 x6_2 l0 (l0.length:Int) (wrap64 (x23_1 + 1))))=some (r1,r2):=by first|(rw [hy113];with_reducible exact H)|(have H2_:=(Option.bind_some _ _).symm.trans H;rw [hy113];with_reducible exact H2_)|(have H2_:=(Option.bind_some _ _).symm.trans H;with_reducible exact H2_)|with_reducible exact H|(rw [hy113];exact H)|exact H);have Ny113:=za hy113;clear hy113;obtain ⟨t116,A24,H⟩:=bindAside H;(try dsimp only at H);have H':=za H;clear H;(go_wp2_with (first|((with_reducible refine zA (N:=51) rfl ?_);refine Kd.R_lit (Kd.int .i64) _ 3 ?hg (N:=51) ?hd (xs:=([(-1),1]:List Int)) (inner:=[.int .i64 (-1),.int .i64 1]) (ok:=fun _=>True) (okp:=fun _=>True) ?hr ?hp (fun _ hk=>hk) trivial (Below.refl _ _) (Nat.le_refl _) (by simp) ?_;(case hd=>rfl);(case hg=>rfl);(case hr=>first|(go_simp;done)|(go_simp;rfl));(case hp=>exact (Reps.one (show Kd.M (Kd.int .i64) _ _ _ (-1) [.int .i64 (-1)] from rfl) (Reps.one (show Kd.M (Kd.int .i64) _ _ _ 1 [.int .i64 1] from rfl) (Reps.none _ _))));intro v114 w25 ho26 hb hg_ hnew_;clear hg_ hnew_;(first|rw [← Ny113.out] at ho26|(simp only [Int.reduceToNat] at ho26;rw [← Ny113.out] at ho26));have HO115:=za (zL (zI (zI (zI ho26 (Kd.R_lt (by (with_reducible repeat (first|apply zk|apply zl|apply zj));exact HO_5.out))) (Kd.R_lt (by (with_reducible repeat (first|apply zk|apply zl|apply zj));exact HO_6.out))) (Kd.R_lt (by (with_reducible repeat (first|apply zk|apply zl|apply zj));exact HO_28.out))) (zo (by repeat (first|(with_reducible first|exact HB.out|apply zc|apply zd|apply zb)|exact HB.out))));replace HO_5:=za (zJ (by (with_reducible repeat (first|apply zk|apply zl|apply zj));exact HO_5.out) (zH ho26) hb);replace HO_6:=za (zJ (by (with_reducible repeat (first|apply zk|apply zl|apply zj));exact HO_6.out) (zH ho26) hb);replace HO_28:=za (zJ (by (with_reducible repeat (first|apply zk|apply zl|apply zj));exact HO_28.out) (zH ho26) hb);replace HB:=za (zp (by repeat (first|(with_reducible first|exact HB.out|apply zc|apply zd|apply zb)|exact HB.out)) hb);clear hb ho26;obtain ⟨Ao27,co27,eo27⟩:=Kd.R_slice HO115.out;subst eo27)|((with_reducible refine zq (f:=121) rfl ?_);refine zr (some 52) rfl rfl Try.func121 (by kernel_rfl) rfl #[.slice Ao14 x5_1.length co14,.slice Ao27 y113.length co27] rfl (by first|rfl|simp only [z3_,z4_,z5_];try rfl) ?_;(with_reducible refine (impl_product.calls k2 _ _ x5_1 _ _ y113 t116 _ ?side1 ?side2 ?side3 ?side4 A24.out).mono ?_);(case side1=>repeat (first|exact (zB HO_5.out).2.2|(with_reducible refine zC ?_ _)|(with_reducible refine zD ?_ _)|(with_reducible refine zE ?_)));(case side2=>exact (zB HO_5.out).2.1);(case side3=>repeat (first|exact (zB HO115.out).2.2|(with_reducible refine zC ?_ _)|(with_reducible refine zD ?_ _)|(with_reducible refine zE ?_)));(case side4=>exact (zB HO115.out).2.1);rintro e w28 ⟨v117,rfl,ho0,hb⟩;refine ⟨_,rfl,?_⟩;have HO118:=za (zL (zI (zI (zI (zI ho0 (Kd.R_lt (by (with_reducible repeat (first|apply zk|apply zl|apply zj));exact HO_5.out))) (Kd.R_lt (by (with_reducible repeat (first|apply zk|apply zl|apply zj));exact HO_6.out))) (Kd.R_lt (by (with_reducible repeat (first|apply zk|apply zl|apply zj));exact HO_28.out))) (Kd.R_lt (by (with_reducible repeat (first|apply zk|apply zl|apply zj));exact HO115.out))) (zo (by repeat (first|(with_reducible first|exact HB.out|apply zc|apply zd|apply zb)|exact HB.out))));replace HO_5:=za (zJ (by (with_reducible repeat (first|apply zk|apply zl|apply zj));exact HO_5.out) (zH ho0) hb);replace HO_6:=za (zJ (by (with_reducible repeat (first|apply zk|apply zl|apply zj));exact HO_6.out) (zH ho0) hb);replace HO_28:=za (zJ (by (with_reducible repeat (first|apply zk|apply zl|apply zj));exact HO_28.out) (zH ho0) hb);replace HO115:=za (zJ (by (with_reducible repeat (first|apply zk|apply zl|apply zj));exact HO115.out) (zH ho0) hb);replace HB:=za (zp (by repeat (first|(with_reducible first|exact HB.out|apply zc|apply zd|apply zb)|exact HB.out)) hb))));(go_roundg k2);(case measure=>have:=HK1.out;have:=HK2.out;omega);case rel=>exact ⟨(t116),(x6_2),(wrap64 (x23_1 + 1)),(by first|rfl|(simp;done)|(simp [*];done)),H',⟨by have:=HK1.out;have:=HK2.out;omega⟩,⟨by (with_reducible repeat (first|apply zk|apply zl|apply zj));exact zs HO118.out (fun _ hk=>hk.1.1.2)⟩,⟨by (with_reducible repeat (first|apply zk|apply zl|apply zj));exact zs HO_6.out (fun _ hk=>hk.2)⟩,⟨by repeat (first|(with_reducible first|exact HB.out|apply zc|apply zd|apply zb)|exact HB.out)⟩⟩
        · rw [if_neg c13] at H;exact absurd H (by simp)
       · rw [if_neg c12] at H;exact absurd H (by simp)
      · rw [if_neg c11] at H;have c11b0:decide (x23_1 < (l0.length:Int))=false:=decide_eq_false c11;clear c11;simp only [Option.some.injEq,Prod.mk.injEq] at H;obtain ⟨rfl,rfl⟩:=H;(go_wp2);(go_ret2);exact ⟨_,by first|rfl|(simp [errW_none,errW_some] <;> rfl)|(simp only [← hji4];first|rfl|(simp [errW_none,errW_some] <;> rfl))|(simp [*,errW_none,errW_some] <;> rfl),by (with_reducible repeat (first|apply zk|apply zl|apply zj));exact zs HO_6.out (fun _ hk=>trivial),by repeat (first|(with_reducible first|exact HB.out|apply zc|apply zd|apply zb)|exact HB.out)⟩
   · rw [if_neg c6] at H;exact absurd H (by simp)
  · rw [if_neg c5] at H;exact absurd H (by simp)
 · replace c3:=Bool.eq_false_iff.mpr c3;subst c3;(have H1:(some (([]:List Int),false))=some (r1,r2):=by rw [if_neg (show ¬ (false=true) by decide)] at H;exact H);clear H;have H:=H1;clear H1;simp only [Option.some.injEq,Prod.mk.injEq] at H;obtain ⟨rfl,rfl⟩:=H;(go_enter Try.func66,Try.ntmps66);(go_wp2_with (first|((with_reducible refine zq (f:=119) rfl ?_);refine zr (some 12) rfl rfl Try.func119 (by kernel_rfl) rfl #[.slice A0 l0.length c0] rfl (by first|rfl|simp only [z3_,z4_,z5_];try rfl) ?_;(with_reducible refine (impl_areSums.calls k _ _ l0 false _ ?side1 ?side2 A2.out).mono ?_);(case side1=>repeat (first|exact HR0.out|(with_reducible refine zC ?_ _)|(with_reducible refine zD ?_ _)|(with_reducible refine zE ?_)));(case side2=>exact HC0.out);rintro e w' ⟨rfl,⟨nd,rfl⟩⟩;refine ⟨_,rfl,?_⟩)));(go_ret2);exact ⟨_,by first|rfl|simp [*,errW_none,errW_some] <;> rfl,by first|exact Kd.R_nil _ _ _ _ _|exact Kd.N_nil _ _ _ _ _|exact Kd.V_nil _ _ _ _ _|exact Kd.Q_nil _ _ _ _ _|exact Kd.S_nil _ _ _ _ _,by repeat (first|(with_reducible first|exact HB.out|apply zc|apply zd|apply zb)|exact HB.out)⟩
end Go.Proofs.Ytiopnmgcajohfaa.Q
end
section
namespace Go.Proofs.Ytiopnmgcajohfaa.Q
open Go.RowKit Go.Proofs.YtiopnmgcajohfaaW.PrintWords Go.Proofs.YtiopnmgcajohfaaW.PrintLast Go.Proofs.YtiopnmgcajohfaaW.PrintMore
attribute [local go_sem] max2_int min2_int max_two min_two max_three min_three max_four min_four   -- for this text's walks alone
set_option linter.unusedVariables false
set_option linter.unusedSimpArgs false
def impl_choose.f (k:Nat) (a0:Int) (a1:Int):Option (Int):=(impl_within.f a1 0 a0).bind fun t101=>(if t101=true then ((impl_falling.f k a0 a1).bind fun t102=>((impl_factorial.f k a1).bind fun t103=>(if t103=0 then (none) else (some (wrap64 (Int.tdiv t102 t103)))))) else (some 0))
theorem impl_choose.mono:∀ a0 a1 k,LeO (impl_choose.f k a0 a1) (impl_choose.f (k + 1) a0 a1):=by
 intro a0 a1 k;unfold impl_choose.f
 repeat' first
  |(with_reducible exact impl_factorial.mono _ _)
  |(with_reducible exact impl_falling.mono _ _ _)
  |(with_reducible exact LeO.refl _)
  |(with_reducible exact LeO.none _)
  |(with_reducible refine LeO.ite ?_ ?_)
  |(with_reducible refine LeO.bind ?_ (fun _=>?_))
  |exact impl_factorial.mono _ _
  |exact impl_falling.mono _ _ _
  |exact LeO.none _
  |refine LeO.ite ?_ ?_
  |refine LeO.bind ?_ (fun _=>?_)
set_option maxHeartbeats 8000000 in
set_option maxRecDepth 100000 in
theorem impl_choose.calls (k:Nat) (a0:Int) (a1:Int) (r:Int) (w:World) (h:impl_choose.f k a0 a1=some r) :
  Calls Try.prog 112 #[.int .i64 a0,.int .i64 a1] w fun e w'=>e=.returned (.int .i64 r)∧Drawn0 w w':=by
 have H:((impl_within.f a1 0 a0).bind fun t101=>(if t101=true then ((impl_falling.f k a0 a1).bind fun t102=>((impl_factorial.f k a1).bind fun t103=>(if t103=0 then (none) else (some (wrap64 (Int.tdiv t102 t103)))))) else (some 0)))=some r:=h;clear h;obtain ⟨t101,A3,H⟩:=bindAside H;(try dsimp only at H);by_cases c4:t101=true
 ·
  subst c4;(have H1:((impl_falling.f k a0 a1).bind fun t102=>((impl_factorial.f k a1).bind fun t103=>(if t103=0 then (none) else (some (wrap64 (Int.tdiv t102 t103))))))=some r:=by rw [if_pos rfl] at H;exact H);clear H;have H:=H1;clear H1;obtain ⟨t102,A5,H⟩:=bindAside H;(try dsimp only at H);obtain ⟨t103,A6,H⟩:=bindAside H;(try dsimp only at H);by_cases c7:t103=0
  · rw [if_pos c7] at H;exact absurd H (by simp)
  · rw [if_neg c7] at H;have c7b0:(t103 == 0)=false:=beq_eq_false_iff_ne.mpr c7;have c7b1:(t103 != 0)=true:=bne_iff_ne.mpr c7;obtain rfl:=Option.some.inj H;(go_enter Try.func112,Try.ntmps112);(go_wp2_with (first|((with_reducible refine zq (f:=79) rfl ?_);refine zr (some 7) rfl rfl Try.func79 (by kernel_rfl) rfl #[.int .i64 a1,.int .i64 0,.int .i64 a0] rfl (by first|rfl|simp only [z3_,z4_,z5_];try rfl) ?_;(with_reducible refine (impl_within.calls a1 0 a0 true _ A3.out).mono ?_);rintro e w' ⟨rfl,⟨nd,rfl⟩⟩;refine ⟨_,rfl,?_⟩)|((with_reducible refine zq (f:=146) rfl ?_);refine zr (some 11) rfl rfl Try.func146 (by kernel_rfl) rfl #[.int .i64 a0,.int .i64 a1] rfl (by first|rfl|simp only [z3_,z4_,z5_];try rfl) ?_;(with_reducible refine (impl_falling.calls k a0 a1 t102 _ A5.out).mono ?_);rintro e w' ⟨rfl,⟨nd,rfl⟩⟩;refine ⟨_,rfl,?_⟩)|((with_reducible refine zq (f:=120) rfl ?_);refine zr (some 13) rfl rfl Try.func120 (by kernel_rfl) rfl #[.int .i64 a1] rfl (by first|rfl|simp only [z3_,z4_,z5_];try rfl) ?_;(with_reducible refine (impl_factorial.calls k a1 t103 _ A6.out).mono ?_);rintro e w' ⟨rfl,⟨nd,rfl⟩⟩;refine ⟨_,rfl,?_⟩)));(go_ret);exact ⟨by first|rfl|(simp;done)|(simp [*];done),by repeat (first|exact Drawn0.refl _|apply Drawn0.step)⟩
 · replace c4:=Bool.eq_false_iff.mpr c4;subst c4;(have H1:(some 0)=some r:=by rw [if_neg (show ¬ (false=true) by decide)] at H;exact H);clear H;have H:=H1;clear H1;obtain rfl:=Option.some.inj H;(go_enter Try.func112,Try.ntmps112);(go_wp2_with (first|((with_reducible refine zq (f:=79) rfl ?_);refine zr (some 7) rfl rfl Try.func79 (by kernel_rfl) rfl #[.int .i64 a1,.int .i64 0,.int .i64 a0] rfl (by first|rfl|simp only [z3_,z4_,z5_];try rfl) ?_;(with_reducible refine (impl_within.calls a1 0 a0 false _ A3.out).mono ?_);rintro e w' ⟨rfl,⟨nd,rfl⟩⟩;refine ⟨_,rfl,?_⟩)));(go_ret);exact ⟨by first|rfl|(simp;done)|(simp [*];done),by repeat (first|exact Drawn0.refl _|apply Drawn0.step)⟩
end Go.Proofs.Ytiopnmgcajohfaa.Q
end
