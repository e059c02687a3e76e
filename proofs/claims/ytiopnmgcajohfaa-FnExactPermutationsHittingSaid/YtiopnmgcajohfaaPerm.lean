/- Permutations and how many rows they hit, as the program and the reference ask. -/
import Derived.Test.YtiopnmgcajohfaaQspecHitsOf
import Derived.Test.YtiopnmgcajohfaaQimplHitsOf
import Derived.Test.YtiopnmgcajohfaaBoard
namespace Go.Proofs.Ytiopnmgcajohfaa.PermK
set_option linter.unusedVariables false
open Go.RowKit Go.Proofs.Ytiopnmgcajohfaa.Q Go.Proofs.YtiopnmgcajohfaaW.PrintWords Go.Proofs.YtiopnmgcajohfaaW.PrintLast Go.Proofs.YtiopnmgcajohfaaW.PrintMore
open Go.Proofs.YtiopnmgcajohfaaL Go.Proofs.Ytiopnmgcajohfaa.LawK Go.Proofs.Ytiopnmgcajohfaa.BoardK

theorem l1Has_l0 {l : List Int} (x : Int) (hl : l.length ≤ 4611686018427387904) : ∀ (d i : Nat), i + d = l.length → Ev (fun k => spec_l1Has.l0 k x l (l.length : Int) i) (decide (x ∈ l.drop i))
  | 0, i, hi => by
    refine Ev.step (f := fun _ => some (decide (x ∈ l.drop i))) (fun k => ?_) (Ev.now _)
    rw [spec_l1Has.l0, if_neg (by omega), List.drop_eq_nil_of_le (by omega)]; rfl
  | d + 1, i, hi => by
    have h1 : wrap64 ((i : Int) + 1) = ((i + 1 : Nat) : Int) := by rw [w64 (by omega) (by omega)]; rfl
    have hi2 : i < l.length := by omega
    rw [List.drop_eq_getElem_cons hi2]
    by_cases e : l[i] = x
    · refine Ev.step (f := fun _ => some (decide (x ∈ l[i] :: l.drop (i + 1)))) (fun k => ?_) (Ev.now _)
      rw [spec_l1Has.l0, if_pos (by omega), if_pos (by omega), if_pos (by omega), rd_lt _ _ hi2, if_pos e, decide_eq_true (by simp [e])]
    · have : (x ∈ l[i] :: l.drop (i + 1)) ↔ x ∈ l.drop (i + 1) := by
        rw [List.mem_cons]; exact ⟨fun h => h.resolve_left (fun h => e h.symm), Or.inr⟩
      rw [decide_eq_decide.mpr this]
      refine Ev.step (fun k => ?_) (l1Has_l0 x hl d (i + 1) (by omega))
      rw [spec_l1Has.l0, if_pos (by omega), if_pos (by omega), if_pos (by omega), rd_lt _ _ hi2, if_neg e, h1]
theorem l1Has {l : List Int} (x : Int) (hl : l.length ≤ 4611686018427387904) : Ev (fun k => spec_l1Has.f k l x) (decide (x ∈ l)) := by
  refine Ev.congr (fun k => ?_) (l1Has_l0 x hl l.length 0 (by omega))
  unfold spec_l1Has.f; rfl
theorem index_l0 {l : List Int} (x : Int) (hl : l.length ≤ 4611686018427387904) : ∀ (d i : Nat), i + d = l.length → ∃ r : Int, (decide (r ≥ 0) = decide (x ∈ l.drop i)) ∧ Ev (fun k => slices_Index_int_int.l0 k l x (l.length : Int) i) r
  | 0, i, hi => by
    refine ⟨-1, by rw [List.drop_eq_nil_of_le (by omega)]; rfl, Ev.step (f := fun _ => some (-1)) (fun k => ?_) (Ev.now _)⟩
    rw [slices_Index_int_int.l0, if_neg (by omega)]
  | d + 1, i, hi => by
    have h1 : wrap64 ((i : Int) + 1) = ((i + 1 : Nat) : Int) := by rw [w64 (by omega) (by omega)]; rfl
    have hi2 : i < l.length := by omega
    rw [List.drop_eq_getElem_cons hi2]
    by_cases e : x = l[i]
    · refine ⟨i, by rw [decide_eq_true (show x ∈ l[i] :: l.drop (i + 1) from List.mem_cons.2 (Or.inl e))]; simp, Ev.step (f := fun _ => some (i : Int)) (fun k => ?_) (Ev.now _)⟩
      rw [slices_Index_int_int.l0, if_pos (by omega), if_pos (by omega), if_pos (by omega), rd_lt _ _ hi2, if_pos e]
    · have : (x ∈ l[i] :: l.drop (i + 1)) ↔ x ∈ l.drop (i + 1) := by
        rw [List.mem_cons]; exact ⟨fun h => h.resolve_left e, Or.inr⟩
      rw [decide_eq_decide.mpr this]
      obtain ⟨r, hr, hev⟩ := index_l0 x hl d (i + 1) (by omega)
      refine ⟨r, hr, Ev.step (fun k => ?_) hev⟩
      rw [slices_Index_int_int.l0, if_pos (by omega), if_pos (by omega), if_pos (by omega), rd_lt _ _ hi2, if_neg e, h1]
theorem contains {l : List Int} (x : Int) (hl : l.length ≤ 4611686018427387904) : Ev (fun k => slices_Contains_int_int.f k l x) (decide (x ∈ l)) := by
  obtain ⟨r, hr, hev⟩ := index_l0 x hl l.length 0 (by omega)
  rw [List.drop_zero] at hr
  rw [← hr]
  unfold slices_Contains_int_int.f slices_Index_int_int.f
  exact Ev.bind (a := r) hev (Ev.now _)
/-- The rest's numbers are below n and differ from each other and from those before. -/
def permI (n : Int) : List Int → List Int → Bool
  | [], _ => true
  | x :: t, pre => inR 0 (n - 1) x && (!decide (x ∈ pre) && permI n t (pre ++ [x]))
def permS : List Int → List Int → Bool
  | [], _ => true
  | x :: t, pre => !decide (x ∈ pre) && permS t (pre ++ [x])
theorem permS_permI (n : Int) : ∀ (t pre : List Int), (t.all (inR 0 (n - 1)) && permS t pre) = permI n t pre
  | [], _ => rfl
  | x :: t, pre => by
    rw [List.all_cons, permS, permI, ← permS_permI n t (pre ++ [x])]
    cases inR 0 (n - 1) x <;> cases decide (x ∈ pre) <;> cases t.all (inR 0 (n - 1)) <;> simp
def permB (n : Int) (l : List Int) : Bool := decide ((l.length : Int) = n) && permI n l []
theorem spec_perm {l : List Int} (hl : l.length ≤ 4611686018427387904) : ∀ (d i : Nat), i + d = l.length → Ev (fun k => spec_boOrder.l0 k l l (l.length : Int) i) (permS (l.drop i) (l.take i))
  | 0, i, hi => by
    refine Ev.step (f := fun _ => some (permS (l.drop i) (l.take i))) (fun k => ?_) (Ev.now _)
    rw [spec_boOrder.l0, if_neg (by omega), List.drop_eq_nil_of_le (by omega)]; rfl
  | d + 1, i, hi => by
    have h1 : wrap64 ((i : Int) + 1) = ((i + 1 : Nat) : Int) := by rw [w64 (by omega) (by omega)]; rfl
    have hi2 : i < l.length := by omega
    have ih := spec_perm hl d (i + 1) (by omega)
    rw [List.take_succ_eq_append_getElem hi2] at ih
    rw [List.drop_eq_getElem_cons hi2, permS]
    refine Ev.step (fun k => by rw [spec_boOrder.l0, if_pos (by omega), if_pos (by omega), if_pos (by omega), if_pos (by omega), rd_lt _ _ hi2, Int.toNat_natCast, h1]) ?_
    refine Ev.bind (l1Has l[i] (by rw [List.length_take]; omega)) ?_
    by_cases e : l[i] ∈ l.take i
    · rw [decide_eq_true e, Bool.not_true, Bool.false_and]
      exact Ev.congr (fun k => by rw [if_pos rfl]) (Ev.now _)
    · rw [decide_eq_false e, Bool.not_false, Bool.true_and]
      exact Ev.congr (fun k => by rw [if_neg (by simp)]) ih
theorem boOrder {l : List Int} (n : Int) (hn : -4611686018427387904 ≤ n) (hn2 : n ≤ 4611686018427387904) (hl : l.length ≤ 4611686018427387904) : Ev (fun k => spec_boOrder.f k l n) (permB n l) := by
  unfold spec_boOrder.f permB
  by_cases h : (l.length : Int) = n
  · refine Ev.congr (fun k => by rw [if_pos h, w64 (by omega) (by omega)]) ?_
    rw [decide_eq_true h, Bool.true_and, ← permS_permI]
    refine Ev.bind (l1All _ _ hl) ?_
    by_cases ha : l.all (inR 0 (n - 1)) = true
    · rw [ha, Bool.true_and]
      refine Ev.step (fun k => by rw [spec_boOrder.j0, if_neg (by simp)]) ?_
      exact spec_perm hl l.length 0 (by omega)
    · have haf : l.all (inR 0 (n - 1)) = false := by simpa using ha
      rw [haf, Bool.false_and]
      exact Ev.step (fun k => by rw [spec_boOrder.j0, if_pos (by simp)]) (Ev.now _)
  · rw [decide_eq_false h, Bool.false_and]
    exact Ev.congr (fun k => by rw [if_neg h]) (Ev.step (fun k => by rw [spec_boOrder.j0, if_pos (by simp)]) (Ev.now _))
theorem impl_perm {l : List Int} {n : Int} (hn : -4611686018427387904 ≤ n) (hn2 : n ≤ 4611686018427387904) (hl : l.length ≤ 4611686018427387904) : ∀ (d i : Nat), i + d = l.length → Ev (fun k => impl_isPerm.l0 k l n l (l.length : Int) i) (permI n (l.drop i) (l.take i))
  | 0, i, hi => by
    refine Ev.step (f := fun _ => some (permI n (l.drop i) (l.take i))) (fun k => ?_) (Ev.now _)
    rw [impl_isPerm.l0, if_neg (by omega), List.drop_eq_nil_of_le (by omega)]; rfl
  | d + 1, i, hi => by
    have h1 : wrap64 ((i : Int) + 1) = ((i + 1 : Nat) : Int) := by rw [w64 (by omega) (by omega)]; rfl
    have hi2 : i < l.length := by omega
    have ih := impl_perm hn hn2 hl d (i + 1) (by omega)
    rw [List.take_succ_eq_append_getElem hi2] at ih
    rw [List.drop_eq_getElem_cons hi2, permI]
    refine Ev.step (fun k => by rw [impl_isPerm.l0, if_pos (by omega), if_pos (by omega), if_pos (by omega), within_f, Option.bind_some, rd_lt _ _ hi2, Int.toNat_natCast, h1, w64 (n := n - 1) (by omega) (by omega)]) ?_
    by_cases hin : inR 0 (n - 1) l[i] = true
    · rw [hin, Bool.true_and]
      refine Ev.congr (fun k => by rw [if_pos (show decide (0 ≤ l[i] ∧ l[i] ≤ n - 1) = true from hin), if_pos (by omega)]) ?_
      refine Ev.bind (contains l[i] (by rw [List.length_take]; omega)) ?_
      by_cases e : l[i] ∈ l.take i
      · rw [decide_eq_true e, Bool.not_true, Bool.false_and]
        exact Ev.congr (fun k => by rw [if_pos rfl]) (Ev.now _)
      · rw [decide_eq_false e, Bool.not_false, Bool.true_and]
        exact Ev.congr (fun k => by rw [if_neg (by simp)]) ih
    · have hinf : inR 0 (n - 1) l[i] = false := by simpa using hin
      rw [hinf, Bool.false_and]
      exact Ev.congr (fun k => by rw [if_neg (show ¬ decide (0 ≤ l[i] ∧ l[i] ≤ n - 1) = true from hin)]) (Ev.now _)
theorem isPerm {l : List Int} (n : Int) (hn : -4611686018427387904 ≤ n) (hn2 : n ≤ 4611686018427387904) (hl : l.length ≤ 4611686018427387904) : Ev (fun k => impl_isPerm.f k l n) (permB n l) := by
  unfold impl_isPerm.f permB
  by_cases h : (l.length : Int) = n
  · refine Ev.congr (fun k => by rw [if_pos h]) ?_
    rw [decide_eq_true h, Bool.true_and]
    exact impl_perm hn hn2 hl l.length 0 (by omega)
  · rw [decide_eq_false h, Bool.false_and]
    exact Ev.congr (fun k => by rw [if_neg h]) (Ev.now _)
theorem permI_in (n : Int) : ∀ (t pre : List Int), permI n t pre = true → ∀ x ∈ t, 0 ≤ x ∧ x < n
  | [], _, _, x, hx => by simp at hx
  | y :: t, pre, h, x, hx => by
    rw [permI] at h
    simp only [Bool.and_eq_true, inR, decide_eq_true_eq] at h
    rcases List.mem_cons.1 hx with rfl | hx
    · omega
    · exact permI_in n t _ h.2.2 x hx
/-- How many rows are hit, from a row on, on top of some. -/
def hitsF (l : List Int) : List Int → Nat → Int → Int
  | [], _, s => s
  | c :: t, i, s => hitsF l t (i + 1) (if cell l i c.toNat then s + 1 else s)
theorem spec_hits {l p : List Int} (r c : Int) (hp : p.length = l.length) (hl6 : l.length ≤ 6) (hb : ∀ i (hi : i < l.length), 0 ≤ l[i] ∧ l[i] < 64) (hin : ∀ x ∈ p, 0 ≤ x ∧ x < 64) : ∀ (d i : Nat) (s : Int), i + d = p.length → 0 ≤ s → s ≤ i → Ev (fun k => spec_hiHits.l0 k s p (p.length : Int) i r c l) (hitsF l (p.drop i) i s)
  | 0, i, s, hi, h0, hs => by
    refine Ev.step (f := fun _ => some (hitsF l (p.drop i) i s)) (fun k => ?_) (Ev.now _)
    rw [spec_hiHits.l0, if_neg (by omega), List.drop_eq_nil_of_le (by omega)]; rfl
  | d + 1, i, s, hi, h0, hs => by
    have h1 : wrap64 ((i : Int) + 1) = ((i + 1 : Nat) : Int) := by rw [w64 (by omega) (by omega)]; rfl
    have h2 : wrap64 (s + 1) = s + 1 := w64 (by omega) (by omega)
    have hi2 : i < p.length := by omega
    have hx := hin p[i] (List.getElem_mem hi2)
    obtain ⟨m, hm⟩ : ∃ m : Nat, p[i] = m := ⟨p[i].toNat, by omega⟩
    have hil : i < l.length := by omega
    have hc := boHas_f r c hil (hb i hil).1 (hb i hil).2 (show m ≤ 64 by omega)
    rw [List.drop_eq_getElem_cons hi2, hitsF, hm, Int.toNat_natCast]
    by_cases e : cell l i m = true
    · rw [if_pos e]
      refine Ev.step (fun k => ?_) (spec_hits r c hp hl6 hb hin d (i + 1) (s + 1) (by omega) (by omega) (by omega))
      rw [spec_hiHits.l0, if_pos (by omega), if_pos (by omega), if_pos (by omega), rd_lt _ _ hi2, hm, hc, Option.bind_some, if_pos e, h1, h2]
    · rw [if_neg e]
      refine Ev.step (fun k => ?_) (spec_hits r c hp hl6 hb hin d (i + 1) s (by omega) (by omega) (by omega))
      rw [spec_hiHits.l0, if_pos (by omega), if_pos (by omega), if_pos (by omega), rd_lt _ _ hi2, hm, hc, Option.bind_some, if_neg e, h1]
theorem impl_hits {l p : List Int} (r c : Int) (hp : p.length = l.length) (hl6 : l.length ≤ 6) (hb : ∀ i (hi : i < l.length), 0 ≤ l[i] ∧ l[i] < 64) (hin : ∀ x ∈ p, 0 ≤ x ∧ x < 64) : ∀ (d i : Nat) (s : Int), i + d = p.length → 0 ≤ s → s ≤ i → Ev (fun k => impl_Board_hits.l0 k s p (p.length : Int) i r c l) (hitsF l (p.drop i) i s)
  | 0, i, s, hi, h0, hs => by
    refine Ev.step (f := fun _ => some (hitsF l (p.drop i) i s)) (fun k => ?_) (Ev.now _)
    rw [impl_Board_hits.l0, if_neg (by omega), List.drop_eq_nil_of_le (by omega)]; rfl
  | d + 1, i, s, hi, h0, hs => by
    have h1 : wrap64 ((i : Int) + 1) = ((i + 1 : Nat) : Int) := by rw [w64 (by omega) (by omega)]; rfl
    have h2 : wrap64 (s + 1) = s + 1 := w64 (by omega) (by omega)
    have hi2 : i < p.length := by omega
    have hx := hin p[i] (List.getElem_mem hi2)
    obtain ⟨m, hm⟩ : ∃ m : Nat, p[i] = m := ⟨p[i].toNat, by omega⟩
    have hil : i < l.length := by omega
    have hc := has_f r c hil (hb i hil).1 (hb i hil).2 (show m ≤ 64 by omega)
    rw [List.drop_eq_getElem_cons hi2, hitsF, hm, Int.toNat_natCast]
    by_cases e : cell l i m = true
    · rw [if_pos e]
      refine Ev.step (fun k => ?_) (impl_hits r c hp hl6 hb hin d (i + 1) (s + 1) (by omega) (by omega) (by omega))
      rw [impl_Board_hits.l0, if_pos (by omega), if_pos (by omega), if_pos (by omega), rd_lt _ _ hi2, hm, hc, Option.bind_some, if_pos e, h1, h2]
    · rw [if_neg e]
      refine Ev.step (fun k => ?_) (impl_hits r c hp hl6 hb hin d (i + 1) s (by omega) (by omega) (by omega))
      rw [impl_Board_hits.l0, if_pos (by omega), if_pos (by omega), if_pos (by omega), rd_lt _ _ hi2, hm, hc, Option.bind_some, if_neg e, h1]
def squareB (r c : Int) (l : List Int) : Bool := isBoardB r c l && (r == c)
theorem hiGood {l : List Int} (r c : Int) (hl : l.length ≤ 4611686018427387904) : Ev (fun k => spec_hiGood.f k r c l) (squareB r c l) := by
  unfold spec_hiGood.f squareB
  refine Ev.bind (boGood r c hl) ?_
  by_cases h : isBoardB r c l = true
  · rw [h, Bool.true_and]
    exact Ev.congr (fun k => by rw [if_pos rfl]) (Ev.now _)
  · have hf : isBoardB r c l = false := by simpa using h
    rw [hf, Bool.false_and]
    exact Ev.congr (fun k => by rw [if_neg (by simp)]) (Ev.now _)
theorem isSquare_f (r c : Int) (l : List Int) : impl_isSquare.f r c l = some (squareB r c l) := by
  unfold impl_isSquare.f squareB impl_IsBoard.f
  rw [Option.bind_some]
  by_cases h : isBoardB r c l = true
  · rw [if_pos h, h, Bool.true_and]
  · have hf : isBoardB r c l = false := by simpa using h
    rw [if_neg h, hf, Bool.false_and]
def hitsAnswer (r c : Int) (l p : List Int) : Int × Bool := if squareB r c l && permB r p then (hitsF l p 0 0, true) else (0, false)
theorem board_bits {r c : Int} {l : List Int} (h : squareB r c l = true) : l.length ≤ 6 ∧ (l.length : Int) = r ∧ 1 ≤ l.length ∧ r = c ∧ ∀ i (hi : i < l.length), 0 ≤ l[i] ∧ l[i] < 64 := by
  unfold squareB at h
  simp only [Bool.and_eq_true, beq_iff_eq] at h
  obtain ⟨R, C, rfl, rfl, h3, h4, h5, h6, h7, hb⟩ := board_of h.1
  have h64 := two_pow_six h7
  exact ⟨by omega, by omega, by omega, h.2, fun i hi => ⟨(hb i hi).1, by have := (hb i hi).2; omega⟩⟩
theorem perm_len {n : Int} {p : List Int} (h : permB n p = true) : (p.length : Int) = n ∧ ∀ x ∈ p, 0 ≤ x ∧ x < n := by
  unfold permB at h
  simp only [Bool.and_eq_true, decide_eq_true_eq] at h
  exact ⟨h.1, permI_in n p [] h.2⟩
theorem spec_hitsOf {r c : Int} {l p : List Int} (hl : l.length ≤ 1048576) (hp : p.length ≤ 1048576) : Ev (fun k => spec_HitsOf.f k r c l p) (hitsAnswer r c l p) := by
  unfold spec_HitsOf.f hitsAnswer
  refine Ev.bind (hiGood r c (by omega)) ?_
  by_cases hg : squareB r c l = true
  · obtain ⟨h1, h2, h3, h4, hb⟩ := board_bits hg
    refine Ev.congr (fun k => by rw [if_pos hg]) ?_
    rw [hg, Bool.true_and]
    by_cases hc : (p.length : Int) = r
    · refine Ev.congr (fun k => by rw [if_pos hc]) ?_
      refine Ev.bind (boOrder r (by omega) (by omega) (by omega)) ?_
      by_cases ha : permB r p = true
      · obtain ⟨q1, q2⟩ := perm_len ha
        refine Ev.congr (fun k => by rw [if_pos ha]) ?_
        rw [if_pos ha]
        refine Ev.bind (a := hitsF l p 0 0) ?_ (Ev.now _)
        unfold spec_hiHits.f
        exact spec_hits r c (by omega) h1 hb (fun x hx => by have := q2 x hx; omega) p.length 0 0 (by omega) (by omega) (by omega)
      · rw [if_neg ha]
        exact Ev.congr (fun k => by rw [if_neg ha]) (Ev.now _)
    · rw [if_neg (fun ha => hc (perm_len ha).1)]
      exact Ev.congr (fun k => by rw [if_neg hc]) (Ev.now _)
  · have hgf : squareB r c l = false := by simpa using hg
    rw [hgf, Bool.false_and, if_neg (by simp)]
    exact Ev.congr (fun k => by rw [if_neg (by simp)]) (Ev.now _)
theorem impl_hitsOf {r c : Int} {l p : List Int} (hp : p.length ≤ 1048576) : Ev (fun k => impl_HitsOf.f k r c l p) (hitsAnswer r c l p) := by
  unfold impl_HitsOf.f hitsAnswer
  refine Ev.congr (fun k => by rw [isSquare_f, Option.bind_some]) ?_
  by_cases hg : squareB r c l = true
  · obtain ⟨h1, h2, h3, h4, hb⟩ := board_bits hg
    refine Ev.congr (fun k => by rw [if_pos hg]) ?_
    rw [hg, Bool.true_and]
    refine Ev.bind (isPerm r (by omega) (by omega) (by omega)) ?_
    by_cases ha : permB r p = true
    · obtain ⟨q1, q2⟩ := perm_len ha
      refine Ev.congr (fun k => by rw [if_pos ha]) ?_
      rw [if_pos ha]
      refine Ev.bind (a := hitsF l p 0 0) ?_ (Ev.now _)
      unfold impl_Board_hits.f
      exact impl_hits r c (by omega) h1 hb (fun x hx => by have := q2 x hx; omega) p.length 0 0 (by omega) (by omega) (by omega)
    · rw [if_neg ha]
      exact Ev.congr (fun k => by rw [if_neg ha]) (Ev.now _)
  · have hgf : squareB r c l = false := by simpa using hg
    rw [hgf, Bool.false_and, if_neg (by simp)]
    exact Ev.congr (fun k => by rw [if_neg (by simp)]) (Ev.now _)
end Go.Proofs.Ytiopnmgcajohfaa.PermK
