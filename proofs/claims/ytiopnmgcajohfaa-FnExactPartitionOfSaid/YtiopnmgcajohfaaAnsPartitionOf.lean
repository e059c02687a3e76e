/- What PartitionOf answers, and that the reference answers the same. No conditions but a small list. -/
import Derived.Test.YtiopnmgcajohfaaPlaceA
import Derived.Test.YtiopnmgcajohfaaQimplPartitionOf
import Derived.Test.YtiopnmgcajohfaaQspecPartitionOf
namespace Go.Proofs.Ytiopnmgcajohfaa.PartK
set_option linter.unusedVariables false
open Go.RowKit Go.Proofs.Ytiopnmgcajohfaa.Q Go.Proofs.YtiopnmgcajohfaaW.PrintWords Go.Proofs.YtiopnmgcajohfaaW.PrintLast Go.Proofs.YtiopnmgcajohfaaW.PrintMore
open Go.Proofs.YtiopnmgcajohfaaL Go.Proofs.Ytiopnmgcajohfaa.LawK Go.Proofs.Ytiopnmgcajohfaa.BoardK Go.Proofs.Ytiopnmgcajohfaa.PermK Go.Proofs.Ytiopnmgcajohfaa.PlaceK
/-- The arrow board's rows. -/
def arr (n : Nat) : List Int := (List.range n).map fun i => 2 ^ n - 2 ^ (i + 1)
theorem arr_length (n : Nat) : (arr n).length = n := by simp [arr]
theorem impl_arr : ∀ i : Fin 7, 1 ≤ i.val → impl_ArrowBoard.f 60 (i.val : Int) = some ((i.val : Int), (i.val : Int), arr i.val, true) := by decide +kernel
theorem spec_arr : ∀ i : Fin 7, 1 ≤ i.val → spec_fiArrow.f 60 (i.val : Int) = some ((i.val : Int), (i.val : Int), arr i.val) := by decide +kernel
theorem arr_ok : ∀ n : Fin 7, ∀ i : Fin 6, i.val < n.val → 0 ≤ (arr n.val).getD i.val 0 ∧ (arr n.val).getD i.val 0 < 64 ∧ ∀ c : Fin 6, cell (arr n.val) i.val c.val = true → i.val < c.val := by decide +kernel
theorem place_at {l : List Int} {C : Nat} : ∀ (t : List Int) (i : Nat) (pre : List Int), placeI l C t i pre = true → ∀ j (hj : j < t.length), t[j] = -1 ∨ (0 ≤ t[j] ∧ t[j] ≤ (C : Int) - 1 ∧ cell l (i + j) t[j].toNat = true)
  | [], _, _, _, j, hj => by simp at hj
  | x :: t, i, pre, h, j, hj => by
    rw [placeI, Bool.and_eq_true, Bool.or_eq_true, Bool.and_eq_true, Bool.and_eq_true, decide_eq_true_eq] at h
    cases j with
    | zero =>
      rcases h.1 with h1 | h1
      · exact .inl h1
      · have h2 : 0 ≤ x ∧ x ≤ (C : Int) - 1 := of_decide_eq_true h1.1
        exact .inr ⟨h2.1, h2.2, by simpa using h1.2.1⟩
    | succ j =>
      have := place_at t (i + 1) (pre ++ [x]) h.2 j (by simpa using hj)
      simpa [Nat.add_assoc, Nat.add_comm 1 j] using this
/-- The chain of numbers from one on. -/
def chain (p : List Int) : Nat → Int → List Int
  | 0, _ => []
  | d + 1, x => if x = -1 then [] else x :: chain p d (rd p x)
theorem chain_length (p : List Int) : ∀ d x, (chain p d x).length ≤ d
  | 0, x => by simp [chain]
  | d + 1, x => by
    have := chain_length p d (rd p x)
    rw [chain]
    split
    · simp
    · rw [List.length_cons]; omega
def parts (p : List Int) : Nat → Nat → List (List Int)
  | 0, _ => []
  | d + 1, i => if (i : Int) ∈ p then parts p d (i + 1) else chain p p.length i :: parts p d (i + 1)
theorem parts_length (p : List Int) : ∀ d i, (parts p d i).length ≤ d
  | 0, i => by simp [parts]
  | d + 1, i => by
    have := parts_length p d (i + 1)
    rw [parts]
    split
    · omega
    · rw [List.length_cons]; omega
theorem parts_rows (p : List Int) : ∀ d i, ∀ x ∈ parts p d i, x.length ≤ p.length
  | 0, i => by intro x hx; simp [parts] at hx
  | d + 1, i => by
    intro x hx
    have ih := parts_rows p d (i + 1)
    rw [parts] at hx
    split at hx
    · exact ih x hx
    · rcases List.mem_cons.1 hx with rfl | hx
      · exact chain_length p _ _
      · exact ih x hx
theorem rowOf_l0 {l : List Int} (x : Int) (hl : l.length ≤ 1000) : ∀ (d i : Nat), i + d = l.length → ∃ r : Int, (0 ≤ r ↔ x ∈ l.drop i) ∧ Ev (fun k => spec_lcRowOf.l0 k x l (l.length : Int) i) r
  | 0, i, hi => ⟨-1, by rw [List.drop_eq_nil_of_le (by omega)]; simp, Ev.step (f := fun _ => some (-1)) (fun k => by rw [spec_lcRowOf.l0, if_neg (by omega)]) (Ev.now _)⟩
  | d + 1, i, hi => by
    have hi2 : i < l.length := by omega
    have w1 : wrap64 ((i : Int) + 1) = ((i + 1 : Nat) : Int) := by rw [w64 (by omega) (by omega)]; rfl
    by_cases c : l[i] = x
    · refine ⟨i, ?_, Ev.step (f := fun _ => some (i : Int)) (fun k => by rw [spec_lcRowOf.l0, if_pos (by omega), if_pos (by omega), if_pos (by omega), rd_lt _ _ hi2, if_pos c]) (Ev.now _)⟩
      rw [List.drop_eq_getElem_cons hi2, c]
      exact ⟨fun _ => List.mem_cons_self, fun _ => by omega⟩
    · obtain ⟨r, h1, h2⟩ := rowOf_l0 x hl d (i + 1) (by omega)
      refine ⟨r, ?_, Ev.step (fun k => by rw [spec_lcRowOf.l0, if_pos (by omega), if_pos (by omega), if_pos (by omega), rd_lt _ _ hi2, if_neg c, w1]) h2⟩
      rw [h1, List.drop_eq_getElem_cons hi2, List.mem_cons]
      exact ⟨fun h => .inr h, fun h => h.elim (fun e => absurd e.symm c) id⟩
section
variable {p : List Int} (h6 : p.length ≤ 6) (hp : ∀ i (hi : i < p.length), p[i] = -1 ∨ ((i : Int) < p[i] ∧ p[i] < p.length))
include h6 hp
theorem impl_l1 {X : List (List Int) × Bool} (i : Nat) (hi : i < p.length) (out : List (List Int)) (ho : out.length ≤ 6) : ∀ (d : Nat) (x : Int) (acc : List Int), acc.length + d ≤ 6 → (x = -1 ∨ (0 ≤ x ∧ x < p.length ∧ (p.length : Int) - x ≤ d)) →
    Ev (fun k => impl_PartitionOf.l0 k p (out ++ [acc ++ chain p d x]) (p.length : Int) ((i + 1 : Nat) : Int)) X → Ev (fun k => impl_PartitionOf.l1 k p out acc x (p.length : Int) i) X
  | 0, x, acc, ha, hx, hX => by
    have w1 : wrap64 ((i : Int) + 1) = ((i + 1 : Nat) : Int) := by rw [w64 (by omega) (by omega)]; rfl
    rw [chain, List.append_nil] at hX
    exact Ev.step (fun k => by rw [impl_PartitionOf.l1, if_pos (by omega), if_pos (by omega), w1]) hX
  | d + 1, x, acc, ha, hx, hX => by
    have w1 : wrap64 ((i : Int) + 1) = ((i + 1 : Nat) : Int) := by rw [w64 (by omega) (by omega)]; rfl
    rw [chain] at hX
    by_cases c : x = -1
    · rw [if_pos c, List.append_nil] at hX
      exact Ev.step (fun k => by rw [impl_PartitionOf.l1, if_pos (by omega), if_pos (by omega), w1]) hX
    · rw [if_neg c] at hX
      obtain ⟨j, rfl⟩ : ∃ j : Nat, x = (j : Int) := ⟨x.toNat, by omega⟩
      have hj : j < p.length := by omega
      have hq := hp j hj
      have ih := impl_l1 i hi out ho d (rd p j) (acc ++ [(j : Int)]) (by rw [List.length_append, List.length_singleton]; omega) (by rw [rd_lt _ _ hj]; omega) (by rw [List.append_assoc]; exact hX)
      exact Ev.step (fun k => by rw [impl_PartitionOf.l1, if_neg c, if_pos (by omega), if_pos (by omega), if_pos (by omega)]) ih
theorem spec_l1 {X : List (List Int) × Bool} (i : Nat) (hi : i < p.length) (out : List (List Int)) (ho : out.length ≤ 6) : ∀ (d : Nat) (x : Int) (acc : List Int), acc.length + d ≤ 6 → (x = -1 ∨ (0 ≤ x ∧ x < p.length ∧ (p.length : Int) - x ≤ d)) →
    Ev (fun k => spec_PartitionOf.l0 k p (out ++ [acc ++ chain p d x]) (p.length : Int) ((i + 1 : Nat) : Int)) X → Ev (fun k => spec_PartitionOf.l1 k p out acc x (p.length : Int) i) X
  | 0, x, acc, ha, hx, hX => by
    have w1 : wrap64 ((i : Int) + 1) = ((i + 1 : Nat) : Int) := by rw [w64 (by omega) (by omega)]; rfl
    rw [chain, List.append_nil] at hX
    exact Ev.step (fun k => by rw [spec_PartitionOf.l1, if_neg (by omega), if_pos (by omega), w1]) hX
  | d + 1, x, acc, ha, hx, hX => by
    have w1 : wrap64 ((i : Int) + 1) = ((i + 1 : Nat) : Int) := by rw [w64 (by omega) (by omega)]; rfl
    rw [chain] at hX
    by_cases c : x = -1
    · rw [if_pos c, List.append_nil] at hX
      exact Ev.step (fun k => by rw [spec_PartitionOf.l1, if_neg (by omega), if_pos (by omega), w1]) hX
    · rw [if_neg c] at hX
      obtain ⟨j, rfl⟩ : ∃ j : Nat, x = (j : Int) := ⟨x.toNat, by omega⟩
      have hj : j < p.length := by omega
      have hq := hp j hj
      have ih := spec_l1 i hi out ho d (rd p j) (acc ++ [(j : Int)]) (by rw [List.length_append, List.length_singleton]; omega) (by rw [rd_lt _ _ hj]; omega) (by rw [List.append_assoc]; exact hX)
      exact Ev.step (fun k => by rw [spec_PartitionOf.l1, if_pos (by omega), if_pos (by omega), if_pos (by omega), if_pos (by omega)]) ih
theorem impl_l0 : ∀ (d i : Nat) (out : List (List Int)), i + d = p.length → out.length ≤ i → Ev (fun k => impl_PartitionOf.l0 k p out (p.length : Int) i) (out ++ parts p d i, true)
  | 0, i, out, hi, ho => by
    rw [parts, List.append_nil]
    exact Ev.step (f := fun _ => some (out, true)) (fun k => by rw [impl_PartitionOf.l0, if_neg (by omega)]) (Ev.now _)
  | d + 1, i, out, hi, ho => by
    have w1 : wrap64 ((i : Int) + 1) = ((i + 1 : Nat) : Int) := by rw [w64 (by omega) (by omega)]; rfl
    refine Ev.step (fun k => by rw [impl_PartitionOf.l0, if_pos (by omega)]) (Ev.bind (contains (i : Int) (by omega)) ?_)
    rw [parts]
    by_cases c : (i : Int) ∈ p
    · rw [if_pos c]
      exact Ev.congr (fun k => by rw [if_pos (decide_eq_true c), w1]) (impl_l0 d (i + 1) out (by omega) (by omega))
    · rw [if_neg c]
      have ih := impl_l0 d (i + 1) (out ++ [chain p p.length i]) (by omega) (by rw [List.length_append, List.length_singleton]; omega)
      have := impl_l1 h6 hp i (by omega) out (by omega) p.length (i : Int) [] (by simpa using h6) (by omega) (by rw [List.nil_append]; exact ih)
      refine Ev.congr (fun k => by rw [if_neg (by rw [decide_eq_false c]; simp)]) (evEq this ?_)
      rw [List.append_assoc]
      rfl
theorem spec_l0 : ∀ (d i : Nat) (out : List (List Int)), i + d = p.length → out.length ≤ i → Ev (fun k => spec_PartitionOf.l0 k p out (p.length : Int) i) (out ++ parts p d i, true)
  | 0, i, out, hi, ho => by
    rw [parts, List.append_nil]
    exact Ev.step (f := fun _ => some (out, true)) (fun k => by rw [spec_PartitionOf.l0, if_neg (by omega)]) (Ev.now _)
  | d + 1, i, out, hi, ho => by
    have w1 : wrap64 ((i : Int) + 1) = ((i + 1 : Nat) : Int) := by rw [w64 (by omega) (by omega)]; rfl
    obtain ⟨r, hr1, hr2⟩ := rowOf_l0 (l := p) (i : Int) (by omega) p.length 0 (by omega)
    rw [List.drop_zero] at hr1
    refine Ev.step (fun k => by rw [spec_PartitionOf.l0, if_pos (by omega)]) (Ev.bind (show Ev (fun k => spec_lcRowOf.f k p (i : Int)) r from hr2) ?_)
    rw [parts]
    by_cases c : (i : Int) ∈ p
    · rw [if_pos c]
      exact Ev.congr (fun k => by rw [if_pos (hr1.2 c), w1]) (spec_l0 d (i + 1) out (by omega) (by omega))
    · rw [if_neg c]
      have ih := spec_l0 d (i + 1) (out ++ [chain p p.length i]) (by omega) (by rw [List.length_append, List.length_singleton]; omega)
      have := spec_l1 h6 hp i (by omega) out (by omega) p.length (i : Int) [] (by simpa using h6) (by omega) (by rw [List.nil_append]; exact ih)
      refine Ev.congr (fun k => by rw [if_neg (fun h => c (hr1.1 h))]) (evEq this ?_)
      rw [List.append_assoc]
      rfl
end
def good (p : List Int) : Bool := inR 1 6 (p.length : Int) && placeB (arr p.length) p.length p
def ans (p : List Int) : List (List Int) × Bool := if good p = true then (parts p p.length 0, true) else ([], false)
theorem arr_in {n : Nat} (h : n ≤ 6) : ∀ i (hi : i < (arr n).length), 0 ≤ (arr n)[i] ∧ (arr n)[i] < 64 := by
  intro i hi
  have hi2 : i < n := by rw [arr_length] at hi; exact hi
  have := arr_ok ⟨n, by omega⟩ ⟨i, by omega⟩ hi2
  simp only [List.getD_eq_getElem?_getD, List.getElem?_eq_getElem hi, Option.getD_some] at this
  exact ⟨this.1, this.2.1⟩
theorem good_p {p : List Int} (h1 : p.length ≤ 6) (h : placeB (arr p.length) p.length p = true) : ∀ i (hi : i < p.length), p[i] = -1 ∨ ((i : Int) < p[i] ∧ p[i] < p.length) := by
  intro i hi
  unfold placeB at h
  rw [Bool.and_eq_true] at h
  rcases place_at p 0 [] h.2 i hi with c | ⟨c1, c2, c3⟩
  · exact .inl c
  · have := (arr_ok ⟨p.length, by omega⟩ ⟨i, by omega⟩ hi).2.2 ⟨p[i].toNat, by omega⟩ (by simpa using c3)
    simp only at this
    omega
theorem impl_ans (p : List Int) (hl : p.length ≤ 1048576) : Ev (fun k => impl_PartitionOf.f k p) (ans p) := by
  unfold impl_PartitionOf.f ans good
  have no : Ev (fun k => impl_PartitionOf.j0 k p true) ([], false) := Ev.step (f := fun _ => some ([], false)) (fun k => by rw [impl_PartitionOf.j0, if_pos rfl]) (Ev.now _)
  by_cases h : inR 1 6 (p.length : Int) = true
  · have h2 : 1 ≤ (p.length : Int) ∧ (p.length : Int) ≤ 6 := of_decide_eq_true h
    have hA : Ev (fun k => impl_ArrowBoard.f k (p.length : Int)) ((p.length : Int), (p.length : Int), arr p.length, true) := Ev.of (fun k => impl_ArrowBoard.mono _ k) (impl_arr ⟨p.length, by omega⟩ (by simp only; omega))
    refine Ev.bind hA (Ev.congr (fun k => if_pos rfl) ?_)
    rw [h, Bool.true_and]
    refine Ev.bind (isPlacement (arr_length p.length) (by omega) (by omega) (arr_in (by omega)) p) ?_
    by_cases c : placeB (arr p.length) p.length p = true
    · rw [c, if_pos rfl]
      have := impl_l0 (by omega) (good_p (by omega) c) p.length 0 [] (by omega) (by simp)
      rw [List.nil_append] at this
      exact Ev.step (fun k => by rw [impl_PartitionOf.j0, if_neg (by simp)]; rfl) this
    · rw [show placeB (arr p.length) p.length p = false by simpa using c, if_neg (by simp)]
      exact no
  · rw [show inR 1 6 (p.length : Int) = false by simpa using h, Bool.false_and, if_neg (by simp)]
    have e : ∀ k, impl_ArrowBoard.f k (p.length : Int) = some (0, 0, [], false) := by
      intro k
      unfold impl_ArrowBoard.f impl_isThings.f
      rw [withinR, Option.bind_some, Option.bind_some, if_neg h]
    exact Ev.congr (fun k => by rw [e, Option.bind_some, if_neg (by simp)]) no
theorem spec_ans (p : List Int) (hl : p.length ≤ 1048576) : Ev (fun k => spec_PartitionOf.f k p) (ans p) := by
  unfold spec_PartitionOf.f ans good
  have no : Ev (fun k => spec_PartitionOf.j0 k p true) ([], false) := Ev.step (f := fun _ => some ([], false)) (fun k => by rw [spec_PartitionOf.j0, if_pos rfl]) (Ev.now _)
  refine Ev.congr (fun k => by rw [spec_fiThings.f, l1In_f, Option.bind_some, Option.bind_some]) ?_
  by_cases h : inR 1 6 (p.length : Int) = true
  · have h2 : 1 ≤ (p.length : Int) ∧ (p.length : Int) ≤ 6 := of_decide_eq_true h
    have hA : Ev (fun k => spec_fiArrow.f k (p.length : Int)) ((p.length : Int), (p.length : Int), arr p.length) := Ev.of (fun k => spec_fiArrow.mono _ k) (spec_arr ⟨p.length, by omega⟩ (by simp only; omega))
    refine Ev.congr (fun k => if_pos h) (Ev.bind hA ?_)
    rw [h, Bool.true_and]
    refine Ev.bind (lcGood (arr_length p.length) (by omega) (by omega) (arr_in (by omega)) p) ?_
    by_cases c : placeB (arr p.length) p.length p = true
    · rw [c, if_pos rfl]
      have := spec_l0 (by omega) (good_p (by omega) c) p.length 0 [] (by omega) (by simp)
      rw [List.nil_append] at this
      exact Ev.step (fun k => by rw [spec_PartitionOf.j0, if_neg (by simp)]; rfl) this
    · rw [show placeB (arr p.length) p.length p = false by simpa using c, if_neg (by simp)]
      exact no
  · rw [show inR 1 6 (p.length : Int) = false by simpa using h, Bool.false_and, if_neg (by simp)]
    exact Ev.congr (fun k => if_neg (by simp)) no
theorem ans_PartitionOf (p : List Int) (hl : p.length ≤ 1048576) : ∃ (rows : List (List Int)) (ok : Bool), rows.length ≤ 1000000 ∧ (∀ x ∈ rows, x.length ≤ 1000) ∧ (∃ k, spec_PartitionOf.f k p = some (rows, ok)) ∧ (∃ k, impl_PartitionOf.f k p = some (rows, ok)) := by
  refine ⟨(ans p).1, (ans p).2, ?_, ?_, (spec_ans p hl).rounds, (impl_ans p hl).rounds⟩
  all_goals (unfold ans; by_cases h : good p = true)
  · rw [if_pos h]
    unfold good at h
    rw [Bool.and_eq_true] at h
    have h2 : 1 ≤ (p.length : Int) ∧ (p.length : Int) ≤ 6 := of_decide_eq_true h.1
    have := parts_length p p.length 0
    simp only; omega
  · rw [if_neg h]; simp
  · rw [if_pos h]
    unfold good at h
    rw [Bool.and_eq_true] at h
    have h2 : 1 ≤ (p.length : Int) ∧ (p.length : Int) ≤ 6 := of_decide_eq_true h.1
    intro x hx
    have := parts_rows p p.length 0 x hx
    omega
  · rw [if_neg h]; intro x hx; simp at hx
end Go.Proofs.Ytiopnmgcajohfaa.PartK
