/- Texts of this claim put together (5): words, what the functions compute, and plain facts. No conditions. -/
import Derived.Test.YtlkfmoleehmgcaaSFnExactAllPartitions4
import Derived.Outline
import Derived.Lib.Hide
section
namespace Go.Proofs.Ytlkfmoleehmgcaa.Q
open Go.RowKit Go.Proofs.YtlkfmoleehmgcaaW.PrintWords Go.Proofs.YtlkfmoleehmgcaaW.PrintLast Go.Proofs.YtlkfmoleehmgcaaW.PrintMore
attribute [local go_sem] max2_int min2_int max_two min_two max_three min_three max_four min_four   -- for this text's walks alone
set_option linter.unusedVariables false
set_option linter.unusedSimpArgs false
def spec_l1In.f (a0 : Int) (a1 : Int) (a2 : Int) : Option (Bool) := if a0 ≥ a1 then (some (decide (a0 ≤ a2))) else (some false)
set_option maxHeartbeats 8000000 in
set_option maxRecDepth 100000 in
theorem spec_l1In.calls0 (a0 : Int) (a1 : Int) (a2 : Int) (r : Bool) (w : World) (h : spec_l1In.f a0 a1 a2 = some r) :
    Calls Try.prog 9 #[.int .i64 a0, .int .i64 a1, .int .i64 a2] w fun e w' => e = .returned (.bool r) ∧ w = w' := by
  have H : (if a0 ≥ a1 then (some (decide (a0 ≤ a2))) else (some false)) = some r := h
  clear h
  by_cases c4 : a0 ≥ a1
  · rw [if_pos c4] at H
    have c4b0 : decide (a1 ≤ a0) = true := decide_eq_true c4
    clear c4
    obtain rfl := Option.some.inj H
    go_enter Try.func9, Try.ntmps9
    go_wp2
    go_ret
    exact ⟨by first | rfl | (simp; done) | (simp [*]; done), rfl⟩
  · rw [if_neg c4] at H
    have c4b0 : decide (a1 ≤ a0) = false := decide_eq_false c4
    clear c4
    obtain rfl := Option.some.inj H
    go_enter Try.func9, Try.ntmps9
    go_wp2
    go_ret
    exact ⟨by first | rfl | (simp; done) | (simp [*]; done), rfl⟩
end Go.Proofs.Ytlkfmoleehmgcaa.Q
end
section
namespace Go.Proofs.Ytlkfmoleehmgcaa.Put
set_option linter.unusedVariables false
set_option linter.unusedSectionVars false
open Go.RowKit Go.Proofs.Ytlkfmoleehmgcaa.Q Go.Proofs.YtlkfmoleehmgcaaW.PrintWords Go.Proofs.YtlkfmoleehmgcaaW.PrintLast Go.Proofs.YtlkfmoleehmgcaaW.PrintMore
open Go.Proofs.YtlkfmoleehmgcaaL Go.Proofs.Ytlkfmoleehmgcaa.Sl
theorem in_R (a b c : Int) : spec_l1In.f a b c = some (inR b c a) := by
  unfold spec_l1In.f inR
  by_cases h : a ≥ b
  · rw [if_pos h]; congr 1; exact decide_eq_decide.2 (by omega)
  · rw [if_neg h]; congr 1; exact (decide_eq_false (by omega)).symm
theorem same : ∀ d : Fin 6, ∀ k : Fin 6, fiS k.val d.val [] 0 = putS k.val d.val 0 [] := by decide +kernel
theorem small : ∀ d : Fin 6, ∀ k : Fin 6, ∀ x ∈ putS k.val d.val 0 [], x.length ≤ 1000 ∧ ∀ y ∈ x, y.length ≤ 1000 := by decide +kernel
set_option maxHeartbeats 8000000 in
set_option maxRecDepth 100000 in
theorem spec_AllPartitions.calls (a0 a1 : Int) (r1 : List (List (List Int))) (r2 : Bool) (w : World) (h : impl_AllPartitions.f a0 a1 = some (r1, r2)) :
    Calls Try.prog 4 #[.int .i64 a0, .int .i64 a1] w fun e w' => ∃ v0_ : Value, e = .returned (.tuple #[v0_, .bool r2]) ∧ Kd.R (Kd.slice 32 (Kd.slice 3 (Kd.int .i64))) 31 w' w.heap.size (fun _ => True) v0_ r1 ∧ Below w.heap.size w w' := by
  have WI := Lib.hid (fun (W : World) => spec_l1In.calls0 a0 1 5 (inR 1 5 a0) W (in_R a0 1 5))
  have WJ := Lib.hid (fun (W : World) => spec_l1In.calls0 a1 1 a0 (inR 1 a0 a1) W (in_R a1 1 a0))
  by_cases hn : inR 1 5 a0 = true
  rotate_left
  · have hn2 : inR 1 5 a0 = false := by simpa using hn
    rw [impl_AllPartitions.f, if_neg hn] at h
    simp only [Option.some.injEq, Prod.mk.injEq] at h
    obtain ⟨rfl, rfl⟩ := h
    rw [hn2] at WI
    clear hn hn2 WJ
    go_enter Try.func4, Try.ntmps4
    go_wp2_with (go_at_call 9; (with_reducible refine (WI.out _).mono ?_); rintro e w' ⟨rfl, rfl⟩)
    go_ret2
    exact ⟨_, rfl, Kd.R_nil _ _ _ _ _, (by repeat (first | (with_reducible first | exact (Below.refl _ _) | apply below_alloc | apply pw_below_drewN | apply below_drew1) | exact (Below.refl _ _)))⟩
  rw [impl_AllPartitions.f, if_pos hn] at h
  rw [hn] at WI
  have hn5 : 1 ≤ a0 ∧ a0 ≤ 5 := of_decide_eq_true hn
  by_cases hk : inR 1 a0 a1 = true
  rotate_left
  · have hk2 : inR 1 a0 a1 = false := by simpa using hk
    rw [if_neg hk] at h
    simp only [Option.some.injEq, Prod.mk.injEq] at h
    obtain ⟨rfl, rfl⟩ := h
    rw [hk2] at WJ
    clear hn hk hk2 hn5
    go_enter Try.func4, Try.ntmps4
    go_wp2_with (first
      | (go_at_call 9; (with_reducible refine (WI.out _).mono ?_); rintro e w' ⟨rfl, rfl⟩)
      | (go_at_call 9; (with_reducible refine (WJ.out _).mono ?_); rintro e w' ⟨rfl, rfl⟩))
    go_ret2
    exact ⟨_, rfl, Kd.R_nil _ _ _ _ _, (by repeat (first | (with_reducible first | exact (Below.refl _ _) | apply below_alloc | apply pw_below_drewN | apply below_drew1) | exact (Below.refl _ _)))⟩
  rw [if_pos hk] at h
  rw [hk] at WJ
  have hk5 : 1 ≤ a1 ∧ a1 ≤ a0 := of_decide_eq_true hk
  simp only [Option.some.injEq, Prod.mk.injEq] at h
  obtain ⟨h, rfl⟩ := h
  have hfew := few ⟨a0.toNat, by omega⟩ ⟨a1.toNat, by omega⟩
  have hsame := same ⟨a0.toNat, by omega⟩ ⟨a1.toNat, by omega⟩
  simp only [] at hfew hsame
  have KX := Lib.hid (fun (W : World) => (by
    have := fi_calls a0.toNat a0 a1 0 [] none 0 0 a1.toNat W (by omega) rfl (by rw [List.length_nil]; omega) (by rw [List.length_nil]; omega) (by omega) (by omega) (by omega) (fun x hx => absurd hx (by simp)) (by rw [hsame]; exact hfew) (Kd.C_nil _ _) (Nat.le_refl _)
    rw [hsame, h] at this
    exact this : Calls Try.prog 10 #[.int .i64 a0, .int .i64 a1, .slice none 0 0, .int .i64 0] W fun e w' => ∃ v, e = .returned v ∧ Kd.R (Kd.slice 32 (Kd.slice 3 (Kd.int .i64))) 31 w' W.heap.size (fun _ => True) v r1 ∧ Below W.heap.size W w'))
  clear hn hk hn5 hk5 hfew hsame h
  go_enter Try.func4, Try.ntmps4
  go_wp2_with (first
    | (go_at_call 9; (with_reducible refine (WI.out _).mono ?_); rintro e w' ⟨rfl, rfl⟩)
    | (go_at_call 9; (with_reducible refine (WJ.out _).mono ?_); rintro e w' ⟨rfl, rfl⟩)
    | (go_at_call 10; (with_reducible refine (KX.out _).mono ?_); rintro e w3 ⟨v3, rfl, ho3, hb⟩; have H3 := Aside0.mk (show Kd.R (Kd.slice 32 (Kd.slice 3 (Kd.int .i64))) 31 w3 w.heap.size (fun _ => True) v3 r1 from ho3); have B3 := Aside0.mk (below_step ((by repeat (first | (with_reducible first | exact (Below.refl _ _) | apply below_alloc | apply pw_below_drewN | apply below_drew1) | exact (Below.refl _ _))) : Below w.heap.size w _) hb); clear ho3 hb))
  go_ret2
  exact ⟨_, rfl, (by (with_reducible repeat (first | apply Kd.R_alloc | apply Kd.R_drewN | apply Kd.R_drew)); exact H3.out), (by repeat (first | (with_reducible first | exact B3.out | apply below_alloc | apply pw_below_drewN | apply below_drew1) | exact B3.out))⟩
theorem answer (a0 a1 : Int) : ∃ rows ok, impl_AllPartitions.f a0 a1 = some (rows, ok) ∧ rows.length ≤ 1000000 ∧ ∀ x ∈ rows, x.length ≤ 1000 ∧ ∀ y ∈ x, y.length ≤ 1000 := by
  rw [impl_AllPartitions.f]
  by_cases hn : inR 1 5 a0 = true
  · rw [if_pos hn]
    have hn5 : 1 ≤ a0 ∧ a0 ≤ 5 := of_decide_eq_true hn
    by_cases hk : inR 1 a0 a1 = true
    · rw [if_pos hk]
      have hk5 : 1 ≤ a1 ∧ a1 ≤ a0 := of_decide_eq_true hk
      exact ⟨_, _, rfl, few ⟨a0.toNat, by omega⟩ ⟨a1.toNat, by omega⟩, small ⟨a0.toNat, by omega⟩ ⟨a1.toNat, by omega⟩⟩
    · rw [if_neg hk]; exact ⟨_, _, rfl, Nat.zero_le _, fun x hx => absurd hx (by simp)⟩
  · rw [if_neg hn]; exact ⟨_, _, rfl, Nat.zero_le _, fun x hx => absurd hx (by simp)⟩
end Go.Proofs.Ytlkfmoleehmgcaa.Put
end
section
namespace Go.Proofs.Ytlkfmoleehmgcaa.MarkK
set_option linter.unusedVariables false
open Go.RowKit Go.Proofs.Ytlkfmoleehmgcaa.Q Go.Proofs.YtlkfmoleehmgcaaW.PrintWords Go.Proofs.YtlkfmoleehmgcaaW.PrintLast Go.Proofs.YtlkfmoleehmgcaaW.PrintMore
open Go.Proofs.YtlkfmoleehmgcaaL Go.Proofs.Ytlkfmoleehmgcaa.LawK
def total : List (List Int) → Nat
  | [] => 0
  | x :: t => x.length + total t
def marks : Int → List (List Int) → List (List Int)
  | _, [] => []
  | m, x :: t => iota m x.length :: marks (m + x.length) t
theorem marks_length : ∀ (l : List (List Int)) (m : Int), (marks m l).length = l.length
  | [], m => rfl
  | x :: t, m => by rw [marks, List.length_cons, List.length_cons, marks_length t]
theorem total_take (l : List (List Int)) : ∀ i, total (l.take i) ≤ total l := by
  induction l with
  | nil => intro i; simp [total]
  | cons x t ih =>
    intro i
    cases i with
    | zero => simp [total]
    | succ i => rw [List.take_succ_cons, total, total]; have := ih i; omega
theorem total_snoc (a : List (List Int)) (x : List Int) : total (a ++ [x]) = total a + x.length := by
  induction a with
  | nil => simp [total]
  | cons y t ih => rw [List.cons_append, total, total, ih]; omega
theorem marks_snoc (a : List (List Int)) (x : List Int) : ∀ m, marks m (a ++ [x]) = marks m a ++ [iota (m + total a) x.length] := by
  induction a with
  | nil => intro m; simp [marks, total]
  | cons y t ih =>
    intro m
    rw [List.cons_append, marks, marks, ih, List.cons_append, total]
    congr 3
    congr 1
    push_cast
    omega
section
variable (P : Nat → Prop) (v : Value) (xs : List (List Int)) (m : Int) (w0 w : World) (bs : Nat)
  (ho : Kd.S (Kd.slice 3 (Kd.int .i64)) 32 w bs P v xs) (hbs : w0.heap.size ≤ bs) (hB : Below w0.heap.size w0 w) (h0 : 0 ≤ m) (hm : m + total xs ≤ 4611686018427387904) (hl : xs.length ≤ 1000000000)
include ho hbs hB h0 hm hl
set_option maxHeartbeats 4000000 in
set_option maxRecDepth 100000 in
theorem markIntSS_calls : Calls Try.prog 15 #[v, .int .i64 m] w fun e w' => e = .returned (.int .i64 (m + total xs)) ∧ Kd.S (Kd.slice 3 (Kd.int .i64)) 32 w' bs P v (marks m xs) ∧ Below w0.heap.size w0 w' ∧ Kept w w' P := by
  obtain ⟨A, c, hv⟩ := Kd.S_slice ho
  subst hv
  have HS := Aside0.mk ho
  have HB := Aside0.mk hB
  have HM := Aside0.mk (And.intro h0 hm)
  have HBS := Aside0.mk hbs
  have HL := Aside0.mk hl
  clear ho hB h0 hm hbs hl
  go_enter Try.func15, Try.ntmps15
  go_wp2
  go_loopg [1, 5] (xs.length) (fun kq v1 v5 w' => ∃ (i : Nat), v5 = .int .i64 (i : Int) ∧ v1 = .int .i64 (m + total (xs.take i)) ∧ Aside0 (i + kq = xs.length) ∧ Aside0 (Kd.S (Kd.slice 3 (Kd.int .i64)) 32 w' bs P (.slice A xs.length c) (marks m (xs.take i) ++ xs.drop i)) ∧ Aside0 (Kept w w' P) ∧ Aside0 (Below w0.heap.size w0 w'))
  case atStart => exact ⟨0, rfl, by simp [total], ⟨by omega⟩, ⟨by simpa [marks] using HS.out⟩, ⟨Kept.refl _ _⟩, HB⟩
  case round =>
    obtain ⟨i, rfl, rfl, HI, HS2, HK, HB2⟩ := hrel
    by_cases hlt : i < xs.length
    · have hxi : (marks m (xs.take i) ++ xs.drop i).length = xs.length := by rw [List.length_append, marks_length, List.length_take, List.length_drop]; omega
      have hrow : (marks m (xs.take i) ++ xs.drop i).getD ((i : Nat) : Int).toNat [] = xs[i] := by
        rw [Int.toNat_natCast, List.getD_eq_getElem?_getD, List.getElem?_append_right (by rw [marks_length, List.length_take]; omega), marks_length, List.length_take, Nat.min_eq_left (by omega), Nat.sub_self, List.getElem?_drop, Nat.add_zero, List.getElem?_eq_getElem hlt]; rfl
      obtain ⟨g, c1, e1, hg1, hg2, _⟩ := Kd.S_form HS2.out (by rw [hxi]; omega)
      injection e1 with e1 e2 e3
      clear e2 e3
      subst e1
      obtain ⟨oki, cs, hcl, hM, hcell, hoki, hH⟩ := Kd.S_lend HS2.out [] (i : Int) (by omega) (by omega)
      rw [hrow] at hM
      obtain ⟨vi, rfl, hR⟩ := hM
      obtain ⟨Ai, ci, hvi⟩ := Kd.R_slice hR
      have hc0 : wr.cell? ⟨g, i, none⟩ = some vi := by
        have := hcell 0 vi rfl
        simpa [Kd.slice, Nat.mul_one] using this
      have ht1 := total_take xs i
      have ht2 : total (xs.take (i + 1)) = total (xs.take i) + xs[i].length := by rw [List.take_succ_eq_append_getElem hlt, total_snoc]
      have ht3 := total_take xs (i + 1)
      obtain ⟨k, hk⟩ := (markIntS xs[i] (m := m + total (xs.take i)) (by have := HM.out; omega) (by have := HM.out; omega)).rounds
      have CALL := laws_markIntS.calls k (fun k_ => some k_ = vi.ownBlock) vi xs[i] _ _ _ w0 wr HB2.out (Kd.R_tight rfl (Kd.R_lower hR HBS.out)) hk
      have CX := Lib.hid CALL
      have HH := Aside0.mk hH
      have HO := Aside0.mk hoki
      have HR := Aside0.mk hR
      have HX := Aside0.mk ht2
      have p1 : decide ((i : Int) < (xs.length : Int)) = true := decide_eq_true (by omega)
      have p2 := eq_true (show (0 : Int) ≤ (i : Int) by omega)
      have p3 := eq_true (show (i : Int) < (xs.length : Int) by omega)
      subst hvi
      have HT := Aside0.mk (show ((marks m (xs.take i) ++ xs.drop i).set (i : Int).toNat (iota (m + total (xs.take i)) xs[i].length)) = marks m (xs.take (i + 1)) ++ xs.drop (i + 1) by
        rw [Int.toNat_natCast, List.take_succ_eq_append_getElem hlt, marks_snoc, List.drop_eq_getElem_cons hlt, List.set_append_right _ _ (by rw [marks_length, List.length_take]; omega), marks_length, List.length_take, Nat.min_eq_left (by omega), Nat.sub_self, List.set_cons_zero, List.append_assoc]; rfl)
      have HW := Aside0.mk (show wrap64 ((i : Int) + 1) = ((i + 1 : Nat) : Int) by have := HL.out; rw [w64 (by omega) (by omega)]; rfl)
      have HX2 := Aside0.mk hlt
      clear hxi hrow hg1 hg2 hcl hcell hoki hH hR ht1 ht2 ht3 hk CALL
      generalize xs[i] = row at *
      clear hlt
      go_wp2_with (go_at_call 20; refine CX.out.mono ?_; rintro e w2 ⟨rfl, hr2, hb2, hk2⟩; have HR2 := Aside0.mk hr2; have HB3 := Aside0.mk hb2; have HK2 := Aside0.mk hk2; clear hr2 hb2 hk2)
      cases gk with
      | zero => exact absurd HX2.out (by have := HI.out; omega)
      | succ k1 =>
        go_roundg k1
        case measure => omega
        case rel =>
          refine ⟨i + 1, (by first | exact congrArg (Value.int .i64) HW.out | (rw [HW.out]) | rfl), (by rw [HX.out]; push_cast; congr 1; omega), ⟨by have := HI.out; omega⟩, ⟨?_⟩, ⟨HK.out.then_ HK2.out (fun k hk => .inl ((HO.out k (HR.out.1 k hk.symm)).1))⟩, HB3⟩
          have hM2 : Kd.R (Kd.int .i64) 3 w2 bs (fun k => some k = (Value.slice Ai row.length ci).ownBlock) (.slice Ai row.length ci) (iota (m + total (xs.take i)) row.length) := Kd.R_tight rfl (Kd.R_raise (d := Kd.int .i64) (b := w0.heap.size) (b' := bs) (fun _ _ _ _ h => h) HR2.out (fun k hk => Kd.R_base HR.out k hk))
          have hH2 := Kd.H_step HH.out (w1 := w2) (fun k hk hn hlt => HK2.out.2 k hlt (fun h => hn (HR.out.1 k h.symm)))
          have := Kd.H_back hH2 (okp := fun k => some k = (Value.slice Ai row.length ci).ownBlock) (x' := iota (m + total (xs.take i)) row.length) ⟨_, rfl, hM2⟩ (fun k hk => HR.out.1 k hk.symm)
          rw [HT.out] at this
          exact this
    · have hi : i = xs.length := by have := HI.out; omega
      subst hi
      have p1 : decide ((xs.length : Int) < (xs.length : Int)) = false := decide_eq_false (by omega)
      have T0 := Aside0.mk (show xs.take xs.length = xs from List.take_length)
      have D0 := Aside0.mk (show xs.drop xs.length = [] from List.drop_length)
      clear hlt
      go_wp2
      go_ret
      refine ⟨by first | rfl | (rw [T0.out]; done) | (rw [T0.out]; rfl) | (simp [T0.out]; done), ?_, HB2.out, HK.out⟩
      have := HS2.out
      rw [T0.out, D0.out, List.append_nil] at this
      exact this
end
end Go.Proofs.Ytlkfmoleehmgcaa.MarkK
end
section
namespace Go.Proofs.Ytlkfmoleehmgcaa.Q
open Go.RowKit Go.Proofs.YtlkfmoleehmgcaaW.PrintWords Go.Proofs.YtlkfmoleehmgcaaW.PrintLast Go.Proofs.YtlkfmoleehmgcaaW.PrintMore
attribute [local go_sem] max2_int min2_int max_two min_two max_three min_three max_four min_four   -- for this text's walks alone
set_option linter.unusedVariables false
set_option linter.unusedSimpArgs false
def laws_eqIntSS.l0 : Nat → List (List Int) → List (List Int) → Int → Option (Bool)
  | 0, _, _, _ => none
  | k + 1, x0, x1, x5 => if x5 < (x0.length : Int) then (if 0 ≤ x5 then (if x5 < (x1.length : Int) then ((laws_eqIntS.f k (rd_L1 x0 x5) (rd_L1 x1 x5)).bind fun t103 => (if t103 = true then (laws_eqIntSS.l0 k x0 x1 (wrap64 (x5 + 1))) else (some false))) else (none)) else (none)) else (some true)
def laws_eqIntSS.f (k : Nat) (l0 : List (List Int)) (l1 : List (List Int)) : Option (Bool) := if (l0.length : Int) = (l1.length : Int) then (laws_eqIntSS.l0 k l0 l1 0) else (some false)
set_option maxHeartbeats 8000000 in
set_option maxRecDepth 100000 in
theorem laws_eqIntSS.calls (k : Nat) (A0 : Option Addr) (c0 : Nat) (l0 : List (List Int)) (A1 : Option Addr) (c1 : Nat) (l1 : List (List Int)) (r : Bool) (w : World) (hr0 : Kd.C (Kd.slice 3 (Kd.int .i64)) w A0 l0.length l0) (hc0 : l0.length ≤ c0) (hr1 : Kd.C (Kd.slice 3 (Kd.int .i64)) w A1 l1.length l1) (hc1 : l1.length ≤ c1) (h : laws_eqIntSS.f k l0 l1 = some r) :
    Calls Try.prog 14 #[.slice A0 l0.length c0, .slice A1 l1.length c1] w fun e w' => e = .returned (.bool r) ∧ Drawn0 w w' := by
  have HR0 := Aside0.mk hr0
  have HC0 := Aside0.mk hc0
  clear hr0 hc0
  have HR1 := Aside0.mk hr1
  have HC1 := Aside0.mk hc1
  clear hr1 hc1
  have H : (if (l0.length : Int) = (l1.length : Int) then (laws_eqIntSS.l0 k l0 l1 0) else (some false)) = some r := h
  clear h
  by_cases c3 : (l0.length : Int) = (l1.length : Int)
  · rw [if_pos c3] at H
    have c3b0 : ((l0.length : Int) == (l1.length : Int)) = true := beq_iff_eq.mpr c3
    have c3b1 : ((l0.length : Int) != (l1.length : Int)) = false := bne_eq_false_iff_eq.mpr c3
    have c3b2 : (l0.length == l1.length) = true := by first | simpa using c3 | (simp at c3 ⊢; omega)
    clear c3
    have H' := Aside0.mk H
    clear H
    go_enter Try.func14, Try.ntmps14
    go_wp2
    repeat (go_quiet (fail); try go_wp2)
    go_loopg [5] k (fun kq v5 w' => ∃ (x5_1 : Int), v5 = .int .i64 x5_1 ∧ Aside0 (laws_eqIntSS.l0 kq l0 l1 x5_1 = some r) ∧ Aside0 (kq ≤ k) ∧ Drawn0 w w')
    case atStart => exact ⟨(0), (by first | rfl | (simp; done) | (simp [*]; done)), H', ⟨Nat.le_refl _⟩, by repeat (first | exact Drawn0.refl _ | apply Drawn0.step)⟩
    case round =>
      clear H'
      try clear c1
      try clear p2
      try clear c3
      try clear c3b0
      try clear c3b1
      try clear c3b2
      obtain ⟨x5_1, rfl, HA, HK1, ⟨m1, rfl⟩⟩ := hrel
      cases gk with
      | zero => exact absurd HA.out (by simp [laws_eqIntSS.l0])
      | succ k1 =>
        have H := HA.out
        clear HA
        simp only [laws_eqIntSS.l0] at H
        by_cases c4 : x5_1 < (l0.length : Int)
        · rw [if_pos c4] at H
          have c4b0 : decide (x5_1 < (l0.length : Int)) = true := decide_eq_true c4
          clear c4
          by_cases c5 : 0 ≤ x5_1
          · rw [if_pos c5] at H
            have c5b0 : decide (0 ≤ x5_1) = true := decide_eq_true c5
            clear c5
            by_cases c6 : x5_1 < (l1.length : Int)
            · rw [if_pos c6] at H
              have c6b0 : decide (x5_1 < (l1.length : Int)) = true := decide_eq_true c6
              clear c6
              replace H := Option.bind_eq_some_iff.mp H
              obtain ⟨t103, A70, H⟩ := H
              replace H : (if t103 = true then (laws_eqIntSS.l0 k1 l0 l1 (wrap64 (x5_1 + 1))) else (some false)) = some r := H
              have A7 := Aside0.mk A70
              clear A70
              by_cases c8 : t103 = true
              · subst c8
                have H1 : (laws_eqIntSS.l0 k1 l0 l1 (wrap64 (x5_1 + 1))) = some r := by rw [if_pos rfl] at H; exact H
                clear H
                have H := H1
                clear H1
                have H' := Aside0.mk H
                clear H
                have p101 : 0 ≤ (x5_1 : Int) := of_decide_eq_true (by first | (with_reducible assumption) | assumption)
                have q101 : x5_1 < (l0.length : Int) := of_decide_eq_true (by first | (with_reducible assumption) | assumption)
                obtain ⟨ad101, A101_0, c101_0, e101, hx101_0, hl101_0, hi101_0⟩ := at_L1 HR0.out x5_1 p101 q101
                cases e101
                have HR101_0 := Aside0.mk hi101_0
                have HC101_0 := Aside0.mk hl101_0
                clear hi101_0 hl101_0
                replace p101 := eq_true p101
                replace q101 := eq_true q101
                have p102 : 0 ≤ (x5_1 : Int) := of_decide_eq_true (by first | (with_reducible assumption) | assumption)
                have q102 : x5_1 < (l1.length : Int) := of_decide_eq_true (by first | (with_reducible assumption) | assumption)
                obtain ⟨ad102, A102_0, c102_0, e102, hx102_0, hl102_0, hi102_0⟩ := at_L1 HR1.out x5_1 p102 q102
                cases e102
                have HR102_0 := Aside0.mk hi102_0
                have HC102_0 := Aside0.mk hl102_0
                clear hi102_0 hl102_0
                replace p102 := eq_true p102
                replace q102 := eq_true q102
                go_wp2_with (first | (go_at_call 19; (with_reducible refine (laws_eqIntS.calls k1 _ _ (rd_L1 l0 x5_1) _ _ (rd_L1 l1 x5_1) true _ ?side1 ?side2 ?side3 ?side4 A7.out).mono ?_); (case side1 => repeat (first | exact HR101_0.out | (with_reducible refine Kd.C_alloc ?_ _) | (with_reducible refine Kd.C_drewN ?_ _) | (with_reducible refine Kd.C_drew ?_))); (case side2 => exact HC101_0.out); (case side3 => repeat (first | exact HR102_0.out | (with_reducible refine Kd.C_alloc ?_ _) | (with_reducible refine Kd.C_drewN ?_ _) | (with_reducible refine Kd.C_drew ?_))); (case side4 => exact HC102_0.out); rintro e w' ⟨rfl, ⟨nd, rfl⟩⟩; (try first | exact ⟨rfl, _, World.drewN_drewN _ _ _⟩ | exact ⟨rfl, _, Eq.trans (World.drewN_drewN _ _ _) (congrArg (World.drewN _) (Nat.add_assoc _ _ _))⟩)))
                repeat (go_quiet (first | (go_at_call 19; (with_reducible refine (laws_eqIntS.calls k1 _ _ (rd_L1 l0 x5_1) _ _ (rd_L1 l1 x5_1) true _ ?side1 ?side2 ?side3 ?side4 A7.out).mono ?_); (case side1 => repeat (first | exact HR101_0.out | (with_reducible refine Kd.C_alloc ?_ _) | (with_reducible refine Kd.C_drewN ?_ _) | (with_reducible refine Kd.C_drew ?_))); (case side2 => exact HC101_0.out); (case side3 => repeat (first | exact HR102_0.out | (with_reducible refine Kd.C_alloc ?_ _) | (with_reducible refine Kd.C_drewN ?_ _) | (with_reducible refine Kd.C_drew ?_))); (case side4 => exact HC102_0.out); rintro e w' ⟨rfl, ⟨nd, rfl⟩⟩; (try first | exact ⟨rfl, _, World.drewN_drewN _ _ _⟩ | exact ⟨rfl, _, Eq.trans (World.drewN_drewN _ _ _) (congrArg (World.drewN _) (Nat.add_assoc _ _ _))⟩))); try go_wp2_with (first | (go_at_call 19; (with_reducible refine (laws_eqIntS.calls k1 _ _ (rd_L1 l0 x5_1) _ _ (rd_L1 l1 x5_1) true _ ?side1 ?side2 ?side3 ?side4 A7.out).mono ?_); (case side1 => repeat (first | exact HR101_0.out | (with_reducible refine Kd.C_alloc ?_ _) | (with_reducible refine Kd.C_drewN ?_ _) | (with_reducible refine Kd.C_drew ?_))); (case side2 => exact HC101_0.out); (case side3 => repeat (first | exact HR102_0.out | (with_reducible refine Kd.C_alloc ?_ _) | (with_reducible refine Kd.C_drewN ?_ _) | (with_reducible refine Kd.C_drew ?_))); (case side4 => exact HC102_0.out); rintro e w' ⟨rfl, ⟨nd, rfl⟩⟩; (try first | exact ⟨rfl, _, World.drewN_drewN _ _ _⟩ | exact ⟨rfl, _, Eq.trans (World.drewN_drewN _ _ _) (congrArg (World.drewN _) (Nat.add_assoc _ _ _))⟩))))
                go_roundg k1
                case measure => have := HK1.out; omega
                case rel => exact ⟨(wrap64 (x5_1 + 1)), (by first | rfl | (simp; done) | (simp [*]; done)), H', ⟨by have := HK1.out; omega⟩, by repeat (first | exact Drawn0.refl _ | apply Drawn0.step)⟩
              · replace c8 := Bool.eq_false_iff.mpr c8
                subst c8
                have H1 : (some false) = some r := by rw [if_neg (show ¬ (false = true) by decide)] at H; exact H
                clear H
                have H := H1
                clear H1
                obtain rfl := Option.some.inj H
                have p101 : 0 ≤ (x5_1 : Int) := of_decide_eq_true (by first | (with_reducible assumption) | assumption)
                have q101 : x5_1 < (l0.length : Int) := of_decide_eq_true (by first | (with_reducible assumption) | assumption)
                obtain ⟨ad101, A101_0, c101_0, e101, hx101_0, hl101_0, hi101_0⟩ := at_L1 HR0.out x5_1 p101 q101
                cases e101
                have HR101_0 := Aside0.mk hi101_0
                have HC101_0 := Aside0.mk hl101_0
                clear hi101_0 hl101_0
                replace p101 := eq_true p101
                replace q101 := eq_true q101
                have p102 : 0 ≤ (x5_1 : Int) := of_decide_eq_true (by first | (with_reducible assumption) | assumption)
                have q102 : x5_1 < (l1.length : Int) := of_decide_eq_true (by first | (with_reducible assumption) | assumption)
                obtain ⟨ad102, A102_0, c102_0, e102, hx102_0, hl102_0, hi102_0⟩ := at_L1 HR1.out x5_1 p102 q102
                cases e102
                have HR102_0 := Aside0.mk hi102_0
                have HC102_0 := Aside0.mk hl102_0
                clear hi102_0 hl102_0
                replace p102 := eq_true p102
                replace q102 := eq_true q102
                go_wp2_with (first | (go_at_call 19; (with_reducible refine (laws_eqIntS.calls k1 _ _ (rd_L1 l0 x5_1) _ _ (rd_L1 l1 x5_1) false _ ?side1 ?side2 ?side3 ?side4 A7.out).mono ?_); (case side1 => repeat (first | exact HR101_0.out | (with_reducible refine Kd.C_alloc ?_ _) | (with_reducible refine Kd.C_drewN ?_ _) | (with_reducible refine Kd.C_drew ?_))); (case side2 => exact HC101_0.out); (case side3 => repeat (first | exact HR102_0.out | (with_reducible refine Kd.C_alloc ?_ _) | (with_reducible refine Kd.C_drewN ?_ _) | (with_reducible refine Kd.C_drew ?_))); (case side4 => exact HC102_0.out); rintro e w' ⟨rfl, ⟨nd, rfl⟩⟩; (try first | exact ⟨rfl, _, World.drewN_drewN _ _ _⟩ | exact ⟨rfl, _, Eq.trans (World.drewN_drewN _ _ _) (congrArg (World.drewN _) (Nat.add_assoc _ _ _))⟩)))
                repeat (go_quiet (first | (go_at_call 19; (with_reducible refine (laws_eqIntS.calls k1 _ _ (rd_L1 l0 x5_1) _ _ (rd_L1 l1 x5_1) false _ ?side1 ?side2 ?side3 ?side4 A7.out).mono ?_); (case side1 => repeat (first | exact HR101_0.out | (with_reducible refine Kd.C_alloc ?_ _) | (with_reducible refine Kd.C_drewN ?_ _) | (with_reducible refine Kd.C_drew ?_))); (case side2 => exact HC101_0.out); (case side3 => repeat (first | exact HR102_0.out | (with_reducible refine Kd.C_alloc ?_ _) | (with_reducible refine Kd.C_drewN ?_ _) | (with_reducible refine Kd.C_drew ?_))); (case side4 => exact HC102_0.out); rintro e w' ⟨rfl, ⟨nd, rfl⟩⟩; (try first | exact ⟨rfl, _, World.drewN_drewN _ _ _⟩ | exact ⟨rfl, _, Eq.trans (World.drewN_drewN _ _ _) (congrArg (World.drewN _) (Nat.add_assoc _ _ _))⟩))); try go_wp2_with (first | (go_at_call 19; (with_reducible refine (laws_eqIntS.calls k1 _ _ (rd_L1 l0 x5_1) _ _ (rd_L1 l1 x5_1) false _ ?side1 ?side2 ?side3 ?side4 A7.out).mono ?_); (case side1 => repeat (first | exact HR101_0.out | (with_reducible refine Kd.C_alloc ?_ _) | (with_reducible refine Kd.C_drewN ?_ _) | (with_reducible refine Kd.C_drew ?_))); (case side2 => exact HC101_0.out); (case side3 => repeat (first | exact HR102_0.out | (with_reducible refine Kd.C_alloc ?_ _) | (with_reducible refine Kd.C_drewN ?_ _) | (with_reducible refine Kd.C_drew ?_))); (case side4 => exact HC102_0.out); rintro e w' ⟨rfl, ⟨nd, rfl⟩⟩; (try first | exact ⟨rfl, _, World.drewN_drewN _ _ _⟩ | exact ⟨rfl, _, Eq.trans (World.drewN_drewN _ _ _) (congrArg (World.drewN _) (Nat.add_assoc _ _ _))⟩))))
                go_ret
                exact ⟨by first | rfl | (simp; done) | (simp [*]; done), by repeat (first | exact Drawn0.refl _ | apply Drawn0.step)⟩
            · rw [if_neg c6] at H
              exact absurd H (by simp)
          · rw [if_neg c5] at H
            exact absurd H (by simp)
        · rw [if_neg c4] at H
          have c4b0 : decide (x5_1 < (l0.length : Int)) = false := decide_eq_false c4
          clear c4
          obtain rfl := Option.some.inj H
          go_wp2
          repeat (go_quiet (fail); try go_wp2)
          go_ret
          exact ⟨by first | rfl | (simp; done) | (simp [*]; done), by repeat (first | exact Drawn0.refl _ | apply Drawn0.step)⟩
  · rw [if_neg c3] at H
    have c3b0 : ((l0.length : Int) == (l1.length : Int)) = false := beq_eq_false_iff_ne.mpr c3
    have c3b1 : ((l0.length : Int) != (l1.length : Int)) = true := bne_iff_ne.mpr c3
    have c3b2 : (l0.length == l1.length) = false := by first | simpa using c3 | (simp at c3 ⊢; omega)
    obtain rfl := Option.some.inj H
    go_enter Try.func14, Try.ntmps14
    go_wp2
    repeat (go_quiet (fail); try go_wp2)
    go_ret
    exact ⟨by first | rfl | (simp; done) | (simp [*]; done), by repeat (first | exact Drawn0.refl _ | apply Drawn0.step)⟩
end Go.Proofs.Ytlkfmoleehmgcaa.Q
end
section
namespace Go.Proofs.Ytlkfmoleehmgcaa.Q
open Go.RowKit Go.Proofs.YtlkfmoleehmgcaaW.PrintWords Go.Proofs.YtlkfmoleehmgcaaW.PrintLast Go.Proofs.YtlkfmoleehmgcaaW.PrintMore
attribute [local go_sem] max2_int min2_int max_two min_two max_three min_three max_four min_four   -- for this text's walks alone
set_option linter.unusedVariables false
set_option linter.unusedSimpArgs false
def laws_heldIntSS.l0 : Nat → List (List Int) → Int → Int → Option (Int)
  | 0, _, _, _ => none
  | k + 1, x0, x1, x5 => if x5 < (x0.length : Int) then (if 0 ≤ x5 then ((laws_heldIntS.f k (rd_L1 x0 x5) x1).bind fun t102 => (if t102 < 0 then (some (-1)) else (laws_heldIntSS.l0 k x0 t102 (wrap64 (x5 + 1))))) else (none)) else (some x1)
def laws_heldIntSS.f (k : Nat) (l0 : List (List Int)) (a1 : Int) : Option (Int) := laws_heldIntSS.l0 k l0 a1 0
set_option maxHeartbeats 8000000 in
set_option maxRecDepth 100000 in
theorem laws_heldIntSS.calls (k : Nat) (A0 : Option Addr) (c0 : Nat) (l0 : List (List Int)) (a1 : Int) (r : Int) (w : World) (hr0 : Kd.C (Kd.slice 3 (Kd.int .i64)) w A0 l0.length l0) (hc0 : l0.length ≤ c0) (h : laws_heldIntSS.f k l0 a1 = some r) :
    Calls Try.prog 16 #[.slice A0 l0.length c0, .int .i64 a1] w fun e w' => e = .returned (.int .i64 r) ∧ Drawn0 w w' := by
  have HR0 := Aside0.mk hr0
  have HC0 := Aside0.mk hc0
  clear hr0 hc0
  have H : (laws_heldIntSS.l0 k l0 a1 0) = some r := h
  clear h
  have H' := Aside0.mk H
  clear H
  go_enter Try.func16, Try.ntmps16
  go_wp2
  go_loopg [1, 5] k (fun kq v1 v5 w' => ∃ (x1_1 : Int) (x5_1 : Int), v1 = .int .i64 x1_1 ∧ v5 = .int .i64 x5_1 ∧ Aside0 (laws_heldIntSS.l0 kq l0 x1_1 x5_1 = some r) ∧ Aside0 (kq ≤ k) ∧ Drawn0 w w')
  case atStart => exact ⟨(a1), (0), (by first | rfl | (simp; done) | (simp [*]; done)), (by first | rfl | (simp; done) | (simp [*]; done)), H', ⟨Nat.le_refl _⟩, by repeat (first | exact Drawn0.refl _ | apply Drawn0.step)⟩
  case round =>
    clear H'
    try clear c1
    try clear p2
    obtain ⟨x1_1, x5_1, rfl, rfl, HA, HK1, ⟨m1, rfl⟩⟩ := hrel
    cases gk with
    | zero => exact absurd HA.out (by simp [laws_heldIntSS.l0])
    | succ k1 =>
      have H := HA.out
      clear HA
      simp only [laws_heldIntSS.l0] at H
      by_cases c3 : x5_1 < (l0.length : Int)
      · rw [if_pos c3] at H
        have c3b0 : decide (x5_1 < (l0.length : Int)) = true := decide_eq_true c3
        clear c3
        by_cases c4 : 0 ≤ x5_1
        · rw [if_pos c4] at H
          have c4b0 : decide (0 ≤ x5_1) = true := decide_eq_true c4
          clear c4
          replace H := Option.bind_eq_some_iff.mp H
          obtain ⟨t102, A50, H⟩ := H
          replace H : (if t102 < 0 then (some (-1)) else (laws_heldIntSS.l0 k1 l0 t102 (wrap64 (x5_1 + 1)))) = some r := H
          have A5 := Aside0.mk A50
          clear A50
          by_cases c6 : t102 < 0
          · rw [if_pos c6] at H
            have c6b0 : decide (t102 < 0) = true := decide_eq_true c6
            clear c6
            obtain rfl := Option.some.inj H
            have p101 : 0 ≤ (x5_1 : Int) := of_decide_eq_true (by first | (with_reducible assumption) | assumption)
            have q101 : x5_1 < (l0.length : Int) := of_decide_eq_true (by first | (with_reducible assumption) | assumption)
            obtain ⟨ad101, A101_0, c101_0, e101, hx101_0, hl101_0, hi101_0⟩ := at_L1 HR0.out x5_1 p101 q101
            cases e101
            have HR101_0 := Aside0.mk hi101_0
            have HC101_0 := Aside0.mk hl101_0
            clear hi101_0 hl101_0
            replace p101 := eq_true p101
            replace q101 := eq_true q101
            go_wp2_with (first | ((with_reducible refine gate_callee (f := 21) rfl ?_); refine goesL_ (some 17) rfl rfl Try.func21 (by kernel_rfl) rfl #[.slice A101_0 (rd_L1 l0 x5_1).length c101_0, .int .i64 x1_1] rfl (by (try simp only [List.map_toArray, List.map_cons, List.map_nil]); first | done | rfl | (simp only [List.length_drop, List.length_take]; rfl)) ?_; (with_reducible refine (laws_heldIntS.calls k1 _ _ (rd_L1 l0 x5_1) x1_1 t102 _ ?side1 ?side2 A5.out).mono ?_); (case side1 => repeat (first | exact HR101_0.out | (with_reducible refine Kd.C_alloc ?_ _) | (with_reducible refine Kd.C_drewN ?_ _) | (with_reducible refine Kd.C_drew ?_))); (case side2 => exact HC101_0.out); rintro e w' ⟨rfl, ⟨nd, rfl⟩⟩; refine ⟨_, rfl, ?_⟩))
            go_ret
            exact ⟨by first | rfl | (simp; done) | (simp [*]; done), by repeat (first | exact Drawn0.refl _ | apply Drawn0.step)⟩
          · rw [if_neg c6] at H
            have c6b0 : decide (t102 < 0) = false := decide_eq_false c6
            clear c6
            have H' := Aside0.mk H
            clear H
            have p101 : 0 ≤ (x5_1 : Int) := of_decide_eq_true (by first | (with_reducible assumption) | assumption)
            have q101 : x5_1 < (l0.length : Int) := of_decide_eq_true (by first | (with_reducible assumption) | assumption)
            obtain ⟨ad101, A101_0, c101_0, e101, hx101_0, hl101_0, hi101_0⟩ := at_L1 HR0.out x5_1 p101 q101
            cases e101
            have HR101_0 := Aside0.mk hi101_0
            have HC101_0 := Aside0.mk hl101_0
            clear hi101_0 hl101_0
            replace p101 := eq_true p101
            replace q101 := eq_true q101
            go_wp2_with (first | ((with_reducible refine gate_callee (f := 21) rfl ?_); refine goesL_ (some 17) rfl rfl Try.func21 (by kernel_rfl) rfl #[.slice A101_0 (rd_L1 l0 x5_1).length c101_0, .int .i64 x1_1] rfl (by (try simp only [List.map_toArray, List.map_cons, List.map_nil]); first | done | rfl | (simp only [List.length_drop, List.length_take]; rfl)) ?_; (with_reducible refine (laws_heldIntS.calls k1 _ _ (rd_L1 l0 x5_1) x1_1 t102 _ ?side1 ?side2 A5.out).mono ?_); (case side1 => repeat (first | exact HR101_0.out | (with_reducible refine Kd.C_alloc ?_ _) | (with_reducible refine Kd.C_drewN ?_ _) | (with_reducible refine Kd.C_drew ?_))); (case side2 => exact HC101_0.out); rintro e w' ⟨rfl, ⟨nd, rfl⟩⟩; refine ⟨_, rfl, ?_⟩))
            go_roundg k1
            case measure => have := HK1.out; omega
            case rel => exact ⟨(t102), (wrap64 (x5_1 + 1)), (by first | rfl | (simp; done) | (simp [*]; done)), (by first | rfl | (simp; done) | (simp [*]; done)), H', ⟨by have := HK1.out; omega⟩, by repeat (first | exact Drawn0.refl _ | apply Drawn0.step)⟩
        · rw [if_neg c4] at H
          exact absurd H (by simp)
      · rw [if_neg c3] at H
        have c3b0 : decide (x5_1 < (l0.length : Int)) = false := decide_eq_false c3
        clear c3
        obtain rfl := Option.some.inj H
        go_wp2
        go_ret
        exact ⟨by first | rfl | (simp; done) | (simp [*]; done), by repeat (first | exact Drawn0.refl _ | apply Drawn0.step)⟩
end Go.Proofs.Ytlkfmoleehmgcaa.Q
end
section
namespace Go.Proofs.Ytlkfmoleehmgcaa.MarkK
set_option linter.unusedVariables false
open Go.RowKit Go.Proofs.Ytlkfmoleehmgcaa.Q Go.Proofs.YtlkfmoleehmgcaaW.PrintWords Go.Proofs.YtlkfmoleehmgcaaW.PrintLast Go.Proofs.YtlkfmoleehmgcaaW.PrintMore
open Go.Proofs.YtlkfmoleehmgcaaL Go.Proofs.Ytlkfmoleehmgcaa.LawK
theorem rdL {xs : List (List Int)} {i : Nat} (h : i < xs.length) : rd_L1 xs (i : Int) = xs[i] := by unfold rd_L1; rw [Int.toNat_natCast]; exact gD_lt _ _ h
theorem eqIntSS_l0 {a b : List (List Int)} (hl : a.length ≤ 4611686018427387904) (hx : ∀ x ∈ a, x.length ≤ 4611686018427387904) (h : a.length = b.length) : ∀ (d i : Nat), i + d = a.length → a.take i = b.take i → Ev (fun k => laws_eqIntSS.l0 k a b i) (decide (a = b))
  | 0, i, hi, ht => by
    refine Ev.step (f := fun _ => some (decide (a = b))) (fun k => ?_) (Ev.now _)
    rw [laws_eqIntSS.l0, if_neg (by omega)]
    rw [List.take_of_length_le (by omega), List.take_of_length_le (by omega)] at ht
    simp [ht]
  | d + 1, i, hi, ht => by
    have h1 : wrap64 ((i : Int) + 1) = ((i + 1 : Nat) : Int) := by rw [w64 (by omega) (by omega)]; rfl
    have hi2 : i < a.length := by omega
    refine Ev.step (f := fun k => (laws_eqIntS.f k a[i] (b[i]'(by omega))).bind fun t => if t = true then laws_eqIntSS.l0 k a b ((i + 1 : Nat) : Int) else some false) (fun k => ?_) ?_
    · rw [laws_eqIntSS.l0, if_pos (by omega), if_pos (by omega), if_pos (by omega), h1, rdL hi2, rdL (by omega)]
    · refine Ev.bind (eqIntS (by have := hx _ (List.getElem_mem hi2); omega)) ?_
      by_cases e : a[i] = b[i]'(by omega)
      · refine Ev.congr (fun k => if_pos (decide_eq_true e)) (eqIntSS_l0 hl hx h d (i + 1) (by omega) ?_)
        rw [List.take_succ_eq_append_getElem (by omega), List.take_succ_eq_append_getElem (by omega), ht, e]
      · have : a ≠ b := fun hab => e (by simp [hab])
        rw [decide_eq_false this]
        exact Ev.congr (fun k => if_neg (by simpa using e)) (Ev.now _)
theorem eqIntSS {a b : List (List Int)} (hl : a.length ≤ 4611686018427387904) (hx : ∀ x ∈ a, x.length ≤ 4611686018427387904) : Ev (fun k => laws_eqIntSS.f k a b) (decide (a = b)) := by
  unfold laws_eqIntSS.f
  by_cases h : a.length = b.length
  · refine Ev.congr (fun k => if_pos (by omega)) (eqIntSS_l0 hl hx h a.length 0 (by omega) (by simp))
  · have : a ≠ b := fun hab => h (by simp [hab])
    rw [decide_eq_false this]
    exact Ev.congr (fun k => if_neg (by omega)) (Ev.now _)
theorem marks_get : ∀ (l : List (List Int)) (m : Int) (i : Nat) (h : i < l.length), (marks m l)[i]'(by rw [marks_length]; exact h) = iota (m + total (l.take i)) l[i].length
  | x :: t, m, 0, h => by simp [marks, total]
  | x :: t, m, i + 1, h => by
    have := marks_get t (m + x.length) i (by simpa using h)
    simp only [marks, List.getElem_cons_succ, this, List.take_succ_cons, total]
    congr 1
    push_cast
    omega
theorem heldIntSS_l0 {l : List (List Int)} {m : Int} (h0 : 0 ≤ m) (hm : m + total l ≤ 4611686018427387904) (hl : l.length ≤ 1000000000) : ∀ (d i : Nat), i + d = l.length → Ev (fun k => laws_heldIntSS.l0 k (marks m l) (m + total (l.take i)) i) (m + total l)
  | 0, i, hi => by
    refine Ev.step (f := fun _ => some (m + total l)) (fun k => ?_) (Ev.now _)
    rw [laws_heldIntSS.l0, marks_length, if_neg (by omega), List.take_of_length_le (by omega)]
  | d + 1, i, hi => by
    have h1 : wrap64 ((i : Int) + 1) = ((i + 1 : Nat) : Int) := by rw [w64 (by omega) (by omega)]; rfl
    have hi2 : i < l.length := by omega
    have ht1 := total_take l i
    have ht2 : total (l.take (i + 1)) = total (l.take i) + l[i].length := by rw [List.take_succ_eq_append_getElem hi2, total_snoc]
    have ht3 := total_take l (i + 1)
    have ih := heldIntSS_l0 h0 hm hl d (i + 1) (by omega)
    refine Ev.step (f := fun k => (laws_heldIntS.f k (iota (m + total (l.take i)) l[i].length) (m + total (l.take i))).bind fun t => if t < 0 then some (-1) else laws_heldIntSS.l0 k (marks m l) t ((i + 1 : Nat) : Int)) (fun k => ?_) ?_
    · rw [laws_heldIntSS.l0, marks_length, if_pos (by omega), if_pos (by omega), rdL (by rw [marks_length]; exact hi2), marks_get l m i hi2, h1]
    · refine Ev.bind (heldIntS l[i].length (by omega) (by omega)) ?_
      refine Ev.congr (fun k => ?_) ih
      rw [if_neg (by omega), ht2]
      congr 1
      push_cast
      omega
theorem heldIntSS (l : List (List Int)) {m : Int} (h0 : 0 ≤ m) (hm : m + total l ≤ 4611686018427387904) (hl : l.length ≤ 1000000000) : Ev (fun k => laws_heldIntSS.f k (marks m l) m) (m + total l) := by
  have := heldIntSS_l0 h0 hm hl l.length 0 (by omega)
  simp [total] at this
  exact this
theorem total_le' : ∀ (l : List (List Int)), (∀ x ∈ l, x.length ≤ 1000) → total l ≤ l.length * 1000
  | [], _ => by simp [total]
  | x :: t, h => by
    have h1 := total_le' t (fun y hy => h y (List.mem_cons_of_mem _ hy))
    have h2 := h x List.mem_cons_self
    simp only [total, List.length_cons]
    omega
end Go.Proofs.Ytlkfmoleehmgcaa.MarkK
end
section
namespace Go.Proofs.Ytlkfmoleehmgcaa.MarkK
set_option linter.unusedVariables false
open Go.RowKit Go.Proofs.Ytlkfmoleehmgcaa.Q Go.Proofs.YtlkfmoleehmgcaaW.PrintWords Go.Proofs.YtlkfmoleehmgcaaW.PrintLast Go.Proofs.YtlkfmoleehmgcaaW.PrintMore
open Go.Proofs.YtlkfmoleehmgcaaL Go.Proofs.Ytlkfmoleehmgcaa.LawK Go.Proofs.Ytlkfmoleehmgcaa.Sl
def total3 : List (List (List Int)) → Nat
  | [] => 0
  | x :: t => total x + total3 t
def marks3 : Int → List (List (List Int)) → List (List (List Int))
  | _, [] => []
  | m, x :: t => marks m x :: marks3 (m + total x) t
theorem marks3_length : ∀ (l : List (List (List Int))) (m : Int), (marks3 m l).length = l.length
  | [], m => rfl
  | x :: t, m => by rw [marks3, List.length_cons, List.length_cons, marks3_length t]
theorem total3_take (l : List (List (List Int))) : ∀ i, total3 (l.take i) ≤ total3 l := by
  induction l with
  | nil => intro i; simp [total3]
  | cons x t ih =>
    intro i
    cases i with
    | zero => simp [total3]
    | succ i => rw [List.take_succ_cons, total3, total3]; have := ih i; omega
theorem total3_snoc (a : List (List (List Int))) (x : List (List Int)) : total3 (a ++ [x]) = total3 a + total x := by
  induction a with
  | nil => simp [total3]
  | cons y t ih => rw [List.cons_append, total3, total3, ih]; omega
theorem marks3_snoc (a : List (List (List Int))) (x : List (List Int)) : ∀ m, marks3 m (a ++ [x]) = marks3 m a ++ [marks (m + total3 a) x] := by
  induction a with
  | nil => intro m; simp [marks3, total3]
  | cons y t ih =>
    intro m
    rw [List.cons_append, marks3, marks3, ih, List.cons_append, total3]
    congr 3
    congr 1
    push_cast
    omega
section
variable (P : Nat → Prop) (v : Value) (xs : List (List (List Int))) (m : Int) (w0 w : World) (bs : Nat)
  (ho : Kd.S (sl 32 (Kd.slice 3 (Kd.int .i64))) 31 w bs P v xs) (hbs : w0.heap.size ≤ bs) (hB : Below w0.heap.size w0 w) (h0 : 0 ≤ m) (hm : m + total3 xs ≤ 4611686018427387904) (hl : xs.length ≤ 1000000000) (hx : ∀ x ∈ xs, x.length ≤ 1000000000)
include ho hbs hB h0 hm hl hx
set_option maxHeartbeats 4000000 in
set_option maxRecDepth 100000 in
theorem markIntSSS_calls : Calls Try.prog 7 #[v, .int .i64 m] w fun e w' => e = .returned (.int .i64 (m + total3 xs)) ∧ Kd.S (sl 32 (Kd.slice 3 (Kd.int .i64))) 31 w' bs P v (marks3 m xs) ∧ Below w0.heap.size w0 w' ∧ Kept w w' P := by
  obtain ⟨A, c, hv⟩ := Kd.S_slice ho
  subst hv
  have HS := Aside0.mk ho
  have HB := Aside0.mk hB
  have HM := Aside0.mk (And.intro h0 hm)
  have HBS := Aside0.mk hbs
  have HL := Aside0.mk hl
  have HXS := Aside0.mk hx
  clear ho hB h0 hm hbs hl hx
  go_enter Try.func7, Try.ntmps7
  go_wp2
  go_loopg [1, 5] (xs.length) (fun kq v1 v5 w' => ∃ (i : Nat), v5 = .int .i64 (i : Int) ∧ v1 = .int .i64 (m + total3 (xs.take i)) ∧ Aside0 (i + kq = xs.length) ∧ Aside0 (Kd.S (sl 32 (Kd.slice 3 (Kd.int .i64))) 31 w' bs P (.slice A xs.length c) (marks3 m (xs.take i) ++ xs.drop i)) ∧ Aside0 (Kept w w' P) ∧ Aside0 (Below w0.heap.size w0 w'))
  case atStart => exact ⟨0, rfl, by simp [total3], ⟨by omega⟩, ⟨by simpa [marks3] using HS.out⟩, ⟨Kept.refl _ _⟩, HB⟩
  case round =>
    obtain ⟨i, rfl, rfl, HI, HS2, HK, HB2⟩ := hrel
    by_cases hlt : i < xs.length
    · have hxi : (marks3 m (xs.take i) ++ xs.drop i).length = xs.length := by rw [List.length_append, marks3_length, List.length_take, List.length_drop]; omega
      have hrow : (marks3 m (xs.take i) ++ xs.drop i).getD ((i : Nat) : Int).toNat [] = xs[i] := by
        rw [Int.toNat_natCast, List.getD_eq_getElem?_getD, List.getElem?_append_right (by rw [marks3_length, List.length_take]; omega), marks3_length, List.length_take, Nat.min_eq_left (by omega), Nat.sub_self, List.getElem?_drop, Nat.add_zero, List.getElem?_eq_getElem hlt]; rfl
      obtain ⟨g, c1, e1, hg1, hg2, _⟩ := Kd.S_form HS2.out (by rw [hxi]; omega)
      injection e1 with e1 e2 e3
      clear e2 e3
      subst e1
      obtain ⟨oki, cs, hcl, hM, hcell, hoki, hH⟩ := Kd.S_lend HS2.out [] (i : Int) (by omega) (by omega)
      rw [hrow] at hM
      obtain ⟨vi, rfl, hR⟩ := hM
      obtain ⟨Ai, ci, hvi⟩ := Kd.S_slice hR
      have hc0 : wr.cell? ⟨g, i, none⟩ = some vi := by
        have := hcell 0 vi rfl
        simpa [sl, Nat.mul_one] using this
      have ht1 := total3_take xs i
      have ht2 : total3 (xs.take (i + 1)) = total3 (xs.take i) + total xs[i] := by rw [List.take_succ_eq_append_getElem hlt, total3_snoc]
      have ht3 := total3_take xs (i + 1)
      have CALL := markIntSS_calls oki vi xs[i] (m + total3 (xs.take i)) w0 wr bs hR HBS.out HB2.out (by have := HM.out; omega) (by have := HM.out; omega) (HXS.out _ (List.getElem_mem hlt))
      have CX := Lib.hid CALL
      have HH := Aside0.mk hH
      have HO := Aside0.mk hoki
      have HR := Aside0.mk hR
      have HX := Aside0.mk ht2
      have p1 : decide ((i : Int) < (xs.length : Int)) = true := decide_eq_true (by omega)
      have p2 := eq_true (show (0 : Int) ≤ (i : Int) by omega)
      have p3 := eq_true (show (i : Int) < (xs.length : Int) by omega)
      subst hvi
      have HT := Aside0.mk (show ((marks3 m (xs.take i) ++ xs.drop i).set (i : Int).toNat (marks (m + total3 (xs.take i)) xs[i])) = marks3 m (xs.take (i + 1)) ++ xs.drop (i + 1) by
        rw [Int.toNat_natCast, List.take_succ_eq_append_getElem hlt, marks3_snoc, List.drop_eq_getElem_cons hlt, List.set_append_right _ _ (by rw [marks3_length, List.length_take]; omega), marks3_length, List.length_take, Nat.min_eq_left (by omega), Nat.sub_self, List.set_cons_zero, List.append_assoc]; rfl)
      have HW := Aside0.mk (show wrap64 ((i : Int) + 1) = ((i + 1 : Nat) : Int) by have := HL.out; rw [w64 (by omega) (by omega)]; rfl)
      have HX2 := Aside0.mk hlt
      clear hxi hrow hg1 hg2 hcl hcell hoki hH hR ht1 ht2 ht3 CALL
      generalize xs[i] = row at *
      clear hlt
      go_wp2_with (go_at_call 15; refine CX.out.mono ?_; rintro e w2 ⟨rfl, hr2, hb2, hk2⟩; have HR2 := Aside0.mk hr2; have HB3 := Aside0.mk hb2; have HK2 := Aside0.mk hk2; clear hr2 hb2 hk2)
      cases gk with
      | zero => exact absurd HX2.out (by have := HI.out; omega)
      | succ k1 =>
        go_roundg k1
        case measure => omega
        case rel =>
          refine ⟨i + 1, (by first | exact congrArg (Value.int .i64) HW.out | (rw [HW.out]) | rfl), (by rw [HX.out]; push_cast; congr 1; omega), ⟨by have := HI.out; omega⟩, ⟨?_⟩, ⟨HK.out.then_ HK2.out (fun k hk => .inl ((HO.out k hk).1))⟩, HB3⟩
          have hH2 := Kd.H_step HH.out (w1 := w2) (fun k hk hn hlt => HK2.out.2 k hlt hn)
          have := Kd.H_back hH2 (okp := oki) (x' := marks (m + total3 (xs.take i)) row) ⟨_, rfl, HR2.out⟩ (fun k hk => hk)
          rw [HT.out] at this
          exact this
    · have hi : i = xs.length := by have := HI.out; omega
      subst hi
      have p1 : decide ((xs.length : Int) < (xs.length : Int)) = false := decide_eq_false (by omega)
      have T0 := Aside0.mk (show xs.take xs.length = xs from List.take_length)
      have D0 := Aside0.mk (show xs.drop xs.length = [] from List.drop_length)
      clear hlt
      go_wp2
      go_ret
      refine ⟨by first | rfl | (rw [T0.out]; done) | (rw [T0.out]; rfl) | (simp [T0.out]; done), ?_, HB2.out, HK.out⟩
      have := HS2.out
      rw [T0.out, D0.out, List.append_nil] at this
      exact this
end
end Go.Proofs.Ytlkfmoleehmgcaa.MarkK
end
section
namespace Go.Proofs.Ytlkfmoleehmgcaa.Q
open Go.RowKit Go.Proofs.YtlkfmoleehmgcaaW.PrintWords Go.Proofs.YtlkfmoleehmgcaaW.PrintLast Go.Proofs.YtlkfmoleehmgcaaW.PrintMore
attribute [local go_sem] max2_int min2_int max_two min_two max_three min_three max_four min_four   -- for this text's walks alone
set_option linter.unusedVariables false
set_option linter.unusedSimpArgs false
def laws_eqIntSSS.l0 : Nat → List (List (List Int)) → List (List (List Int)) → Int → Option (Bool)
  | 0, _, _, _ => none
  | k + 1, x0, x1, x5 => if x5 < (x0.length : Int) then (if 0 ≤ x5 then (if x5 < (x1.length : Int) then ((laws_eqIntSS.f k (rd_L2 x0 x5) (rd_L2 x1 x5)).bind fun t103 => (if t103 = true then (laws_eqIntSSS.l0 k x0 x1 (wrap64 (x5 + 1))) else (some false))) else (none)) else (none)) else (some true)
def laws_eqIntSSS.f (k : Nat) (l0 : List (List (List Int))) (l1 : List (List (List Int))) : Option (Bool) := if (l0.length : Int) = (l1.length : Int) then (laws_eqIntSSS.l0 k l0 l1 0) else (some false)
set_option maxHeartbeats 8000000 in
set_option maxRecDepth 100000 in
theorem laws_eqIntSSS.calls (k : Nat) (A0 : Option Addr) (c0 : Nat) (l0 : List (List (List Int))) (A1 : Option Addr) (c1 : Nat) (l1 : List (List (List Int))) (r : Bool) (w : World) (hr0 : Kd.C (Kd.slice 32 (Kd.slice 3 (Kd.int .i64))) w A0 l0.length l0) (hc0 : l0.length ≤ c0) (hr1 : Kd.C (Kd.slice 32 (Kd.slice 3 (Kd.int .i64))) w A1 l1.length l1) (hc1 : l1.length ≤ c1) (h : laws_eqIntSSS.f k l0 l1 = some r) :
    Calls Try.prog 6 #[.slice A0 l0.length c0, .slice A1 l1.length c1] w fun e w' => e = .returned (.bool r) ∧ Drawn0 w w' := by
  have HR0 := Aside0.mk hr0
  have HC0 := Aside0.mk hc0
  clear hr0 hc0
  have HR1 := Aside0.mk hr1
  have HC1 := Aside0.mk hc1
  clear hr1 hc1
  have H : (if (l0.length : Int) = (l1.length : Int) then (laws_eqIntSSS.l0 k l0 l1 0) else (some false)) = some r := h
  clear h
  by_cases c3 : (l0.length : Int) = (l1.length : Int)
  · rw [if_pos c3] at H
    have c3b0 : ((l0.length : Int) == (l1.length : Int)) = true := beq_iff_eq.mpr c3
    have c3b1 : ((l0.length : Int) != (l1.length : Int)) = false := bne_eq_false_iff_eq.mpr c3
    have c3b2 : (l0.length == l1.length) = true := by first | simpa using c3 | (simp at c3 ⊢; omega)
    clear c3
    have H' := Aside0.mk H
    clear H
    go_enter Try.func6, Try.ntmps6
    go_wp2
    repeat (go_quiet (fail); try go_wp2)
    go_loopg [5] k (fun kq v5 w' => ∃ (x5_1 : Int), v5 = .int .i64 x5_1 ∧ Aside0 (laws_eqIntSSS.l0 kq l0 l1 x5_1 = some r) ∧ Aside0 (kq ≤ k) ∧ Drawn0 w w')
    case atStart => exact ⟨(0), (by first | rfl | (simp; done) | (simp [*]; done)), H', ⟨Nat.le_refl _⟩, by repeat (first | exact Drawn0.refl _ | apply Drawn0.step)⟩
    case round =>
      clear H'
      try clear c1
      try clear p2
      try clear c3
      try clear c3b0
      try clear c3b1
      try clear c3b2
      obtain ⟨x5_1, rfl, HA, HK1, ⟨m1, rfl⟩⟩ := hrel
      cases gk with
      | zero => exact absurd HA.out (by simp [laws_eqIntSSS.l0])
      | succ k1 =>
        have H := HA.out
        clear HA
        simp only [laws_eqIntSSS.l0] at H
        by_cases c4 : x5_1 < (l0.length : Int)
        · rw [if_pos c4] at H
          have c4b0 : decide (x5_1 < (l0.length : Int)) = true := decide_eq_true c4
          clear c4
          by_cases c5 : 0 ≤ x5_1
          · rw [if_pos c5] at H
            have c5b0 : decide (0 ≤ x5_1) = true := decide_eq_true c5
            clear c5
            by_cases c6 : x5_1 < (l1.length : Int)
            · rw [if_pos c6] at H
              have c6b0 : decide (x5_1 < (l1.length : Int)) = true := decide_eq_true c6
              clear c6
              replace H := Option.bind_eq_some_iff.mp H
              obtain ⟨t103, A70, H⟩ := H
              replace H : (if t103 = true then (laws_eqIntSSS.l0 k1 l0 l1 (wrap64 (x5_1 + 1))) else (some false)) = some r := H
              have A7 := Aside0.mk A70
              clear A70
              by_cases c8 : t103 = true
              · subst c8
                have H1 : (laws_eqIntSSS.l0 k1 l0 l1 (wrap64 (x5_1 + 1))) = some r := by rw [if_pos rfl] at H; exact H
                clear H
                have H := H1
                clear H1
                have H' := Aside0.mk H
                clear H
                have p101 : 0 ≤ (x5_1 : Int) := of_decide_eq_true (by first | (with_reducible assumption) | assumption)
                have q101 : x5_1 < (l0.length : Int) := of_decide_eq_true (by first | (with_reducible assumption) | assumption)
                obtain ⟨ad101, A101_0, c101_0, e101, hx101_0, hl101_0, hi101_0⟩ := at_L2 HR0.out x5_1 p101 q101
                cases e101
                have HR101_0 := Aside0.mk hi101_0
                have HC101_0 := Aside0.mk hl101_0
                clear hi101_0 hl101_0
                replace p101 := eq_true p101
                replace q101 := eq_true q101
                have p102 : 0 ≤ (x5_1 : Int) := of_decide_eq_true (by first | (with_reducible assumption) | assumption)
                have q102 : x5_1 < (l1.length : Int) := of_decide_eq_true (by first | (with_reducible assumption) | assumption)
                obtain ⟨ad102, A102_0, c102_0, e102, hx102_0, hl102_0, hi102_0⟩ := at_L2 HR1.out x5_1 p102 q102
                cases e102
                have HR102_0 := Aside0.mk hi102_0
                have HC102_0 := Aside0.mk hl102_0
                clear hi102_0 hl102_0
                replace p102 := eq_true p102
                replace q102 := eq_true q102
                go_wp2_with (first | (go_at_call 14; (with_reducible refine (laws_eqIntSS.calls k1 _ _ (rd_L2 l0 x5_1) _ _ (rd_L2 l1 x5_1) true _ ?side1 ?side2 ?side3 ?side4 A7.out).mono ?_); (case side1 => repeat (first | exact HR101_0.out | (with_reducible refine Kd.C_alloc ?_ _) | (with_reducible refine Kd.C_drewN ?_ _) | (with_reducible refine Kd.C_drew ?_))); (case side2 => exact HC101_0.out); (case side3 => repeat (first | exact HR102_0.out | (with_reducible refine Kd.C_alloc ?_ _) | (with_reducible refine Kd.C_drewN ?_ _) | (with_reducible refine Kd.C_drew ?_))); (case side4 => exact HC102_0.out); rintro e w' ⟨rfl, ⟨nd, rfl⟩⟩; (try first | exact ⟨rfl, _, World.drewN_drewN _ _ _⟩ | exact ⟨rfl, _, Eq.trans (World.drewN_drewN _ _ _) (congrArg (World.drewN _) (Nat.add_assoc _ _ _))⟩)))
                repeat (go_quiet (first | (go_at_call 14; (with_reducible refine (laws_eqIntSS.calls k1 _ _ (rd_L2 l0 x5_1) _ _ (rd_L2 l1 x5_1) true _ ?side1 ?side2 ?side3 ?side4 A7.out).mono ?_); (case side1 => repeat (first | exact HR101_0.out | (with_reducible refine Kd.C_alloc ?_ _) | (with_reducible refine Kd.C_drewN ?_ _) | (with_reducible refine Kd.C_drew ?_))); (case side2 => exact HC101_0.out); (case side3 => repeat (first | exact HR102_0.out | (with_reducible refine Kd.C_alloc ?_ _) | (with_reducible refine Kd.C_drewN ?_ _) | (with_reducible refine Kd.C_drew ?_))); (case side4 => exact HC102_0.out); rintro e w' ⟨rfl, ⟨nd, rfl⟩⟩; (try first | exact ⟨rfl, _, World.drewN_drewN _ _ _⟩ | exact ⟨rfl, _, Eq.trans (World.drewN_drewN _ _ _) (congrArg (World.drewN _) (Nat.add_assoc _ _ _))⟩))); try go_wp2_with (first | (go_at_call 14; (with_reducible refine (laws_eqIntSS.calls k1 _ _ (rd_L2 l0 x5_1) _ _ (rd_L2 l1 x5_1) true _ ?side1 ?side2 ?side3 ?side4 A7.out).mono ?_); (case side1 => repeat (first | exact HR101_0.out | (with_reducible refine Kd.C_alloc ?_ _) | (with_reducible refine Kd.C_drewN ?_ _) | (with_reducible refine Kd.C_drew ?_))); (case side2 => exact HC101_0.out); (case side3 => repeat (first | exact HR102_0.out | (with_reducible refine Kd.C_alloc ?_ _) | (with_reducible refine Kd.C_drewN ?_ _) | (with_reducible refine Kd.C_drew ?_))); (case side4 => exact HC102_0.out); rintro e w' ⟨rfl, ⟨nd, rfl⟩⟩; (try first | exact ⟨rfl, _, World.drewN_drewN _ _ _⟩ | exact ⟨rfl, _, Eq.trans (World.drewN_drewN _ _ _) (congrArg (World.drewN _) (Nat.add_assoc _ _ _))⟩))))
                go_roundg k1
                case measure => have := HK1.out; omega
                case rel => exact ⟨(wrap64 (x5_1 + 1)), (by first | rfl | (simp; done) | (simp [*]; done)), H', ⟨by have := HK1.out; omega⟩, by repeat (first | exact Drawn0.refl _ | apply Drawn0.step)⟩
              · replace c8 := Bool.eq_false_iff.mpr c8
                subst c8
                have H1 : (some false) = some r := by rw [if_neg (show ¬ (false = true) by decide)] at H; exact H
                clear H
                have H := H1
                clear H1
                obtain rfl := Option.some.inj H
                have p101 : 0 ≤ (x5_1 : Int) := of_decide_eq_true (by first | (with_reducible assumption) | assumption)
                have q101 : x5_1 < (l0.length : Int) := of_decide_eq_true (by first | (with_reducible assumption) | assumption)
                obtain ⟨ad101, A101_0, c101_0, e101, hx101_0, hl101_0, hi101_0⟩ := at_L2 HR0.out x5_1 p101 q101
                cases e101
                have HR101_0 := Aside0.mk hi101_0
                have HC101_0 := Aside0.mk hl101_0
                clear hi101_0 hl101_0
                replace p101 := eq_true p101
                replace q101 := eq_true q101
                have p102 : 0 ≤ (x5_1 : Int) := of_decide_eq_true (by first | (with_reducible assumption) | assumption)
                have q102 : x5_1 < (l1.length : Int) := of_decide_eq_true (by first | (with_reducible assumption) | assumption)
                obtain ⟨ad102, A102_0, c102_0, e102, hx102_0, hl102_0, hi102_0⟩ := at_L2 HR1.out x5_1 p102 q102
                cases e102
                have HR102_0 := Aside0.mk hi102_0
                have HC102_0 := Aside0.mk hl102_0
                clear hi102_0 hl102_0
                replace p102 := eq_true p102
                replace q102 := eq_true q102
                go_wp2_with (first | (go_at_call 14; (with_reducible refine (laws_eqIntSS.calls k1 _ _ (rd_L2 l0 x5_1) _ _ (rd_L2 l1 x5_1) false _ ?side1 ?side2 ?side3 ?side4 A7.out).mono ?_); (case side1 => repeat (first | exact HR101_0.out | (with_reducible refine Kd.C_alloc ?_ _) | (with_reducible refine Kd.C_drewN ?_ _) | (with_reducible refine Kd.C_drew ?_))); (case side2 => exact HC101_0.out); (case side3 => repeat (first | exact HR102_0.out | (with_reducible refine Kd.C_alloc ?_ _) | (with_reducible refine Kd.C_drewN ?_ _) | (with_reducible refine Kd.C_drew ?_))); (case side4 => exact HC102_0.out); rintro e w' ⟨rfl, ⟨nd, rfl⟩⟩; (try first | exact ⟨rfl, _, World.drewN_drewN _ _ _⟩ | exact ⟨rfl, _, Eq.trans (World.drewN_drewN _ _ _) (congrArg (World.drewN _) (Nat.add_assoc _ _ _))⟩)))
                repeat (go_quiet (first | (go_at_call 14; (with_reducible refine (laws_eqIntSS.calls k1 _ _ (rd_L2 l0 x5_1) _ _ (rd_L2 l1 x5_1) false _ ?side1 ?side2 ?side3 ?side4 A7.out).mono ?_); (case side1 => repeat (first | exact HR101_0.out | (with_reducible refine Kd.C_alloc ?_ _) | (with_reducible refine Kd.C_drewN ?_ _) | (with_reducible refine Kd.C_drew ?_))); (case side2 => exact HC101_0.out); (case side3 => repeat (first | exact HR102_0.out | (with_reducible refine Kd.C_alloc ?_ _) | (with_reducible refine Kd.C_drewN ?_ _) | (with_reducible refine Kd.C_drew ?_))); (case side4 => exact HC102_0.out); rintro e w' ⟨rfl, ⟨nd, rfl⟩⟩; (try first | exact ⟨rfl, _, World.drewN_drewN _ _ _⟩ | exact ⟨rfl, _, Eq.trans (World.drewN_drewN _ _ _) (congrArg (World.drewN _) (Nat.add_assoc _ _ _))⟩))); try go_wp2_with (first | (go_at_call 14; (with_reducible refine (laws_eqIntSS.calls k1 _ _ (rd_L2 l0 x5_1) _ _ (rd_L2 l1 x5_1) false _ ?side1 ?side2 ?side3 ?side4 A7.out).mono ?_); (case side1 => repeat (first | exact HR101_0.out | (with_reducible refine Kd.C_alloc ?_ _) | (with_reducible refine Kd.C_drewN ?_ _) | (with_reducible refine Kd.C_drew ?_))); (case side2 => exact HC101_0.out); (case side3 => repeat (first | exact HR102_0.out | (with_reducible refine Kd.C_alloc ?_ _) | (with_reducible refine Kd.C_drewN ?_ _) | (with_reducible refine Kd.C_drew ?_))); (case side4 => exact HC102_0.out); rintro e w' ⟨rfl, ⟨nd, rfl⟩⟩; (try first | exact ⟨rfl, _, World.drewN_drewN _ _ _⟩ | exact ⟨rfl, _, Eq.trans (World.drewN_drewN _ _ _) (congrArg (World.drewN _) (Nat.add_assoc _ _ _))⟩))))
                go_ret
                exact ⟨by first | rfl | (simp; done) | (simp [*]; done), by repeat (first | exact Drawn0.refl _ | apply Drawn0.step)⟩
            · rw [if_neg c6] at H
              exact absurd H (by simp)
          · rw [if_neg c5] at H
            exact absurd H (by simp)
        · rw [if_neg c4] at H
          have c4b0 : decide (x5_1 < (l0.length : Int)) = false := decide_eq_false c4
          clear c4
          obtain rfl := Option.some.inj H
          go_wp2
          repeat (go_quiet (fail); try go_wp2)
          go_ret
          exact ⟨by first | rfl | (simp; done) | (simp [*]; done), by repeat (first | exact Drawn0.refl _ | apply Drawn0.step)⟩
  · rw [if_neg c3] at H
    have c3b0 : ((l0.length : Int) == (l1.length : Int)) = false := beq_eq_false_iff_ne.mpr c3
    have c3b1 : ((l0.length : Int) != (l1.length : Int)) = true := bne_iff_ne.mpr c3
    have c3b2 : (l0.length == l1.length) = false := by first | simpa using c3 | (simp at c3 ⊢; omega)
    obtain rfl := Option.some.inj H
    go_enter Try.func6, Try.ntmps6
    go_wp2
    repeat (go_quiet (fail); try go_wp2)
    go_ret
    exact ⟨by first | rfl | (simp; done) | (simp [*]; done), by repeat (first | exact Drawn0.refl _ | apply Drawn0.step)⟩
end Go.Proofs.Ytlkfmoleehmgcaa.Q
end
section
namespace Go.Proofs.Ytlkfmoleehmgcaa.Q
open Go.RowKit Go.Proofs.YtlkfmoleehmgcaaW.PrintWords Go.Proofs.YtlkfmoleehmgcaaW.PrintLast Go.Proofs.YtlkfmoleehmgcaaW.PrintMore
attribute [local go_sem] max2_int min2_int max_two min_two max_three min_three max_four min_four   -- for this text's walks alone
set_option linter.unusedVariables false
set_option linter.unusedSimpArgs false
def laws_heldIntSSS.l0 : Nat → List (List (List Int)) → Int → Int → Option (Int)
  | 0, _, _, _ => none
  | k + 1, x0, x1, x5 => if x5 < (x0.length : Int) then (if 0 ≤ x5 then ((laws_heldIntSS.f k (rd_L2 x0 x5) x1).bind fun t102 => (if t102 < 0 then (some (-1)) else (laws_heldIntSSS.l0 k x0 t102 (wrap64 (x5 + 1))))) else (none)) else (some x1)
def laws_heldIntSSS.f (k : Nat) (l0 : List (List (List Int))) (a1 : Int) : Option (Int) := laws_heldIntSSS.l0 k l0 a1 0
set_option maxHeartbeats 8000000 in
set_option maxRecDepth 100000 in
theorem laws_heldIntSSS.calls (k : Nat) (A0 : Option Addr) (c0 : Nat) (l0 : List (List (List Int))) (a1 : Int) (r : Int) (w : World) (hr0 : Kd.C (Kd.slice 32 (Kd.slice 3 (Kd.int .i64))) w A0 l0.length l0) (hc0 : l0.length ≤ c0) (h : laws_heldIntSSS.f k l0 a1 = some r) :
    Calls Try.prog 8 #[.slice A0 l0.length c0, .int .i64 a1] w fun e w' => e = .returned (.int .i64 r) ∧ Drawn0 w w' := by
  have HR0 := Aside0.mk hr0
  have HC0 := Aside0.mk hc0
  clear hr0 hc0
  have H : (laws_heldIntSSS.l0 k l0 a1 0) = some r := h
  clear h
  have H' := Aside0.mk H
  clear H
  go_enter Try.func8, Try.ntmps8
  go_wp2
  go_loopg [1, 5] k (fun kq v1 v5 w' => ∃ (x1_1 : Int) (x5_1 : Int), v1 = .int .i64 x1_1 ∧ v5 = .int .i64 x5_1 ∧ Aside0 (laws_heldIntSSS.l0 kq l0 x1_1 x5_1 = some r) ∧ Aside0 (kq ≤ k) ∧ Drawn0 w w')
  case atStart => exact ⟨(a1), (0), (by first | rfl | (simp; done) | (simp [*]; done)), (by first | rfl | (simp; done) | (simp [*]; done)), H', ⟨Nat.le_refl _⟩, by repeat (first | exact Drawn0.refl _ | apply Drawn0.step)⟩
  case round =>
    clear H'
    try clear p2
    obtain ⟨x1_1, x5_1, rfl, rfl, HA, HK1, ⟨m1, rfl⟩⟩ := hrel
    cases gk with
    | zero => exact absurd HA.out (by simp [laws_heldIntSSS.l0])
    | succ k1 =>
      have H := HA.out
      clear HA
      simp only [laws_heldIntSSS.l0] at H
      by_cases c3 : x5_1 < (l0.length : Int)
      · rw [if_pos c3] at H
        have c3b0 : decide (x5_1 < (l0.length : Int)) = true := decide_eq_true c3
        clear c3
        by_cases c4 : 0 ≤ x5_1
        · rw [if_pos c4] at H
          have c4b0 : decide (0 ≤ x5_1) = true := decide_eq_true c4
          clear c4
          replace H := Option.bind_eq_some_iff.mp H
          obtain ⟨t102, A50, H⟩ := H
          replace H : (if t102 < 0 then (some (-1)) else (laws_heldIntSSS.l0 k1 l0 t102 (wrap64 (x5_1 + 1)))) = some r := H
          have A5 := Aside0.mk A50
          clear A50
          by_cases c6 : t102 < 0
          · rw [if_pos c6] at H
            have c6b0 : decide (t102 < 0) = true := decide_eq_true c6
            clear c6
            obtain rfl := Option.some.inj H
            have p101 : 0 ≤ (x5_1 : Int) := of_decide_eq_true (by first | (with_reducible assumption) | assumption)
            have q101 : x5_1 < (l0.length : Int) := of_decide_eq_true (by first | (with_reducible assumption) | assumption)
            obtain ⟨ad101, A101_0, c101_0, e101, hx101_0, hl101_0, hi101_0⟩ := at_L2 HR0.out x5_1 p101 q101
            cases e101
            have HR101_0 := Aside0.mk hi101_0
            have HC101_0 := Aside0.mk hl101_0
            clear hi101_0 hl101_0
            replace p101 := eq_true p101
            replace q101 := eq_true q101
            go_wp2_with (first | ((with_reducible refine gate_callee (f := 16) rfl ?_); refine goesL_ (some 17) rfl rfl Try.func16 (by kernel_rfl) rfl #[.slice A101_0 (rd_L2 l0 x5_1).length c101_0, .int .i64 x1_1] rfl (by (try simp only [List.map_toArray, List.map_cons, List.map_nil]); first | done | rfl | (simp only [List.length_drop, List.length_take]; rfl)) ?_; (with_reducible refine (laws_heldIntSS.calls k1 _ _ (rd_L2 l0 x5_1) x1_1 t102 _ ?side1 ?side2 A5.out).mono ?_); (case side1 => repeat (first | exact HR101_0.out | (with_reducible refine Kd.C_alloc ?_ _) | (with_reducible refine Kd.C_drewN ?_ _) | (with_reducible refine Kd.C_drew ?_))); (case side2 => exact HC101_0.out); rintro e w' ⟨rfl, ⟨nd, rfl⟩⟩; refine ⟨_, rfl, ?_⟩))
            go_ret
            exact ⟨by first | rfl | (simp; done) | (simp [*]; done), by repeat (first | exact Drawn0.refl _ | apply Drawn0.step)⟩
          · rw [if_neg c6] at H
            have c6b0 : decide (t102 < 0) = false := decide_eq_false c6
            clear c6
            have H' := Aside0.mk H
            clear H
            have p101 : 0 ≤ (x5_1 : Int) := of_decide_eq_true (by first | (with_reducible assumption) | assumption)
            have q101 : x5_1 < (l0.length : Int) := of_decide_eq_true (by first | (with_reducible assumption) | assumption)
            obtain ⟨ad101, A101_0, c101_0, e101, hx101_0, hl101_0, hi101_0⟩ := at_L2 HR0.out x5_1 p101 q101
            cases e101
            have HR101_0 := Aside0.mk hi101_0
            have HC101_0 := Aside0.mk hl101_0
            clear hi101_0 hl101_0
            replace p101 := eq_true p101
            replace q101 := eq_true q101
            go_wp2_with (first | ((with_reducible refine gate_callee (f := 16) rfl ?_); refine goesL_ (some 17) rfl rfl Try.func16 (by kernel_rfl) rfl #[.slice A101_0 (rd_L2 l0 x5_1).length c101_0, .int .i64 x1_1] rfl (by (try simp only [List.map_toArray, List.map_cons, List.map_nil]); first | done | rfl | (simp only [List.length_drop, List.length_take]; rfl)) ?_; (with_reducible refine (laws_heldIntSS.calls k1 _ _ (rd_L2 l0 x5_1) x1_1 t102 _ ?side1 ?side2 A5.out).mono ?_); (case side1 => repeat (first | exact HR101_0.out | (with_reducible refine Kd.C_alloc ?_ _) | (with_reducible refine Kd.C_drewN ?_ _) | (with_reducible refine Kd.C_drew ?_))); (case side2 => exact HC101_0.out); rintro e w' ⟨rfl, ⟨nd, rfl⟩⟩; refine ⟨_, rfl, ?_⟩))
            go_roundg k1
            case measure => have := HK1.out; omega
            case rel => exact ⟨(t102), (wrap64 (x5_1 + 1)), (by first | rfl | (simp; done) | (simp [*]; done)), (by first | rfl | (simp; done) | (simp [*]; done)), H', ⟨by have := HK1.out; omega⟩, by repeat (first | exact Drawn0.refl _ | apply Drawn0.step)⟩
        · rw [if_neg c4] at H
          exact absurd H (by simp)
      · rw [if_neg c3] at H
        have c3b0 : decide (x5_1 < (l0.length : Int)) = false := decide_eq_false c3
        clear c3
        obtain rfl := Option.some.inj H
        go_wp2
        go_ret
        exact ⟨by first | rfl | (simp; done) | (simp [*]; done), by repeat (first | exact Drawn0.refl _ | apply Drawn0.step)⟩
end Go.Proofs.Ytlkfmoleehmgcaa.Q
end
section
namespace Go.Proofs.Ytlkfmoleehmgcaa.MarkK
set_option linter.unusedVariables false
open Go.RowKit Go.Proofs.Ytlkfmoleehmgcaa.Q Go.Proofs.YtlkfmoleehmgcaaW.PrintWords Go.Proofs.YtlkfmoleehmgcaaW.PrintLast Go.Proofs.YtlkfmoleehmgcaaW.PrintMore
open Go.Proofs.YtlkfmoleehmgcaaL Go.Proofs.Ytlkfmoleehmgcaa.LawK
theorem rdL3 {xs : List (List (List Int))} {i : Nat} (h : i < xs.length) : rd_L2 xs (i : Int) = xs[i] := by unfold rd_L2; rw [Int.toNat_natCast]; exact gD_lt _ _ h
theorem eqIntSSS_l0 {a : List (List (List Int))} (hl : a.length ≤ 4611686018427387904) (hx : ∀ x ∈ a, x.length ≤ 4611686018427387904 ∧ ∀ y ∈ x, y.length ≤ 4611686018427387904) : ∀ (d i : Nat), i + d = a.length → Ev (fun k => laws_eqIntSSS.l0 k a a i) true
  | 0, i, hi => Ev.step (f := fun _ => some true) (fun k => by rw [laws_eqIntSSS.l0, if_neg (by omega)]) (Ev.now _)
  | d + 1, i, hi => by
    have h1 : wrap64 ((i : Int) + 1) = ((i + 1 : Nat) : Int) := by rw [w64 (by omega) (by omega)]; rfl
    have hi2 : i < a.length := by omega
    have hh := hx _ (List.getElem_mem hi2)
    have he := eqIntSS (a := a[i]) (b := a[i]) hh.1 hh.2
    rw [decide_eq_true rfl] at he
    refine Ev.step (fun k => by rw [laws_eqIntSSS.l0, if_pos (by omega), if_pos (by omega), if_pos (by omega), h1, rdL3 hi2]) (Ev.bind he ?_)
    exact Ev.congr (fun k => if_pos rfl) (eqIntSSS_l0 hl hx d (i + 1) (by omega))
theorem eqIntSSS {a : List (List (List Int))} (hl : a.length ≤ 4611686018427387904) (hx : ∀ x ∈ a, x.length ≤ 4611686018427387904 ∧ ∀ y ∈ x, y.length ≤ 4611686018427387904) : Ev (fun k => laws_eqIntSSS.f k a a) true := by
  unfold laws_eqIntSSS.f
  exact Ev.congr (fun k => if_pos rfl) (eqIntSSS_l0 hl hx a.length 0 (by omega))
theorem marks3_get : ∀ (l : List (List (List Int))) (m : Int) (i : Nat) (h : i < l.length), (marks3 m l)[i]'(by rw [marks3_length]; exact h) = marks (m + total3 (l.take i)) l[i]
  | x :: t, m, 0, h => by simp [marks3, total3]
  | x :: t, m, i + 1, h => by
    have := marks3_get t (m + total x) i (by simpa using h)
    simp only [marks3, List.getElem_cons_succ, this, List.take_succ_cons, total3]
    congr 1
    push_cast
    omega
theorem heldIntSSS_l0 {l : List (List (List Int))} {m : Int} (h0 : 0 ≤ m) (hm : m + total3 l ≤ 4611686018427387904) (hl : l.length ≤ 1000000000) (hx : ∀ x ∈ l, x.length ≤ 1000000000) : ∀ (d i : Nat), i + d = l.length → Ev (fun k => laws_heldIntSSS.l0 k (marks3 m l) (m + total3 (l.take i)) i) (m + total3 l)
  | 0, i, hi => by
    refine Ev.step (f := fun _ => some (m + total3 l)) (fun k => ?_) (Ev.now _)
    rw [laws_heldIntSSS.l0, marks3_length, if_neg (by omega), List.take_of_length_le (by omega)]
  | d + 1, i, hi => by
    have h1 : wrap64 ((i : Int) + 1) = ((i + 1 : Nat) : Int) := by rw [w64 (by omega) (by omega)]; rfl
    have hi2 : i < l.length := by omega
    have ht1 := total3_take l i
    have ht2 : total3 (l.take (i + 1)) = total3 (l.take i) + total l[i] := by rw [List.take_succ_eq_append_getElem hi2, total3_snoc]
    have ht3 := total3_take l (i + 1)
    have ih := heldIntSSS_l0 h0 hm hl hx d (i + 1) (by omega)
    refine Ev.step (f := fun k => (laws_heldIntSS.f k (marks (m + total3 (l.take i)) l[i]) (m + total3 (l.take i))).bind fun t => if t < 0 then some (-1) else laws_heldIntSSS.l0 k (marks3 m l) t ((i + 1 : Nat) : Int)) (fun k => ?_) ?_
    · rw [laws_heldIntSSS.l0, marks3_length, if_pos (by omega), if_pos (by omega), rdL3 (by rw [marks3_length]; exact hi2), marks3_get l m i hi2, h1]
    · refine Ev.bind (heldIntSS l[i] (by omega) (by omega) (hx _ (List.getElem_mem hi2))) ?_
      refine Ev.congr (fun k => ?_) ih
      rw [if_neg (by omega), ht2]
      congr 1
      push_cast
      omega
theorem heldIntSSS (l : List (List (List Int))) {m : Int} (h0 : 0 ≤ m) (hm : m + total3 l ≤ 4611686018427387904) (hl : l.length ≤ 1000000000) (hx : ∀ x ∈ l, x.length ≤ 1000000000) : Ev (fun k => laws_heldIntSSS.f k (marks3 m l) m) (m + total3 l) := by
  have := heldIntSSS_l0 h0 hm hl hx l.length 0 (by omega)
  simp [total3] at this
  exact this
end Go.Proofs.Ytlkfmoleehmgcaa.MarkK
end
section
namespace Go.Proofs.Ytlkfmoleehmgcaa.Q
set_option linter.unusedVariables false
set_option linter.unusedSimpArgs false
open Go.RowKit Go.Proofs.YtlkfmoleehmgcaaW.PrintWords Go.Proofs.YtlkfmoleehmgcaaW.PrintLast Go.Proofs.YtlkfmoleehmgcaaW.PrintMore
open Go.Proofs.YtlkfmoleehmgcaaL Go.Proofs.Ytlkfmoleehmgcaa.LawK Go.Proofs.Ytlkfmoleehmgcaa.MarkK Go.Proofs.Ytlkfmoleehmgcaa.Sl Go.Proofs.Ytlkfmoleehmgcaa.Put
theorem total3_le : ∀ (l : List (List (List Int))), (∀ x ∈ l, x.length ≤ 1000 ∧ ∀ y ∈ x, y.length ≤ 1000) → total3 l ≤ l.length * 1000000
  | [], _ => by simp [total3]
  | x :: t, h => by
    have h1 := total3_le t (fun y hy => h y (List.mem_cons_of_mem _ hy))
    have h2 := h x List.mem_cons_self
    have h3 := total_le' x h2.2
    simp only [total3, List.length_cons]
    omega
set_option maxHeartbeats 16000000 in
set_option maxRecDepth 100000 in
theorem laws_FnExactAllPartitions.walk (a0 : Int) (a1 : Int) (w : World) (w0 : (Lit.int .i64 a0).wf = true) (w1 : (Lit.int .i64 a1).wf = true) :
    Calls Try.prog 3 #[.int .i64 a0, .int .i64 a1] w fun e w' => e = .returned (.bool true) ∧ Below w.heap.size w w' := by
  obtain ⟨rows, ok, hf, hrl, hrx⟩ := answer a0 a1
  obtain ⟨ke, hke⟩ := (eqIntSSS (a := rows) (by omega) (fun x hx => ⟨by have := (hrx x hx).1; omega, fun y hy => by have := (hrx x hx).2 y hy; omega⟩)).rounds
  have htot : total3 rows ≤ 1000000 * 1000000 := Nat.le_trans (total3_le rows hrx) (Nat.mul_le_mul_right _ hrl)
  obtain ⟨kh, hkh⟩ := (heldIntSSS rows (m := 1) (by omega) (by omega) (by omega) (fun x hx => by have := (hrx x hx).1; omega)).rounds
  obtain ⟨tot, htt⟩ : ∃ tot : Int, tot = 1 + (total3 rows : Int) := ⟨_, rfl⟩
  rw [← htt] at hkh
  have ht0 : decide (tot < 0) = false := decide_eq_false (by omega)
  have hne : (tot != tot) = false := by simp
  have hok : (ok != ok) = false := by simp
  have SP := Lib.hid (fun (W : World) => spec_AllPartitions.calls a0 a1 rows ok W hf)
  have IM := Lib.hid (fun (W : World) => impl_AllPartitions.calls a0 a1 rows ok W hf)
  have ES := Lib.hid (fun (W : World) (A : Option Addr) (c : Nat) (h : Kd.V (Kd.slice 32 (Kd.slice 3 (Kd.int .i64))) 31 W 0 (fun _ => True) (.slice A rows.length c) rows) (A2 : Option Addr) (c2 : Nat) (h2 : Kd.V (Kd.slice 32 (Kd.slice 3 (Kd.int .i64))) 31 W 0 (fun _ => True) (.slice A2 rows.length c2) rows) => laws_eqIntSSS.calls ke A c rows A2 c2 rows true W (Kd.V_reads' h).2.2 (Kd.V_reads' h).2.1 (Kd.V_reads' h2).2.2 (Kd.V_reads' h2).2.1 hke)
  have HD := Lib.hid (fun (W : World) (A : Option Addr) (c : Nat) (h : Kd.V (Kd.slice 32 (Kd.slice 3 (Kd.int .i64))) 31 W 0 (fun _ => True) (.slice A (marks3 1 rows).length c) (marks3 1 rows)) => laws_heldIntSSS.calls kh A c (marks3 1 rows) 1 tot W (Kd.V_reads' h).2.2 (Kd.V_reads' h).2.1 hkh)
  have hml := marks3_length rows 1
  rw [hml] at HD
  have MS := Lib.hid (fun (W w0 : World) (bs : Nat) (P : Nat → Prop) (v : Value) (ho : Kd.S (sl 32 (Kd.slice 3 (Kd.int .i64))) 31 W bs P v rows) (hbs : w0.heap.size ≤ bs) (hB : Below w0.heap.size w0 W) => markIntSSS_calls P v rows 1 w0 W bs ho hbs hB (by omega) (by omega) (by omega) (fun x hx => by have := (hrx x hx).1; omega))
  rw [← htt] at MS
  clear w0 w1 hf hrl hrx hke htot hkh htt hml
  go_enter Try.func3, Try.ntmps3
  go_wp2_with fail
  go_at_call 4; refine (SP.out _).mono ?_; rintro e w4 ⟨v0, rfl, ho, hb⟩; have BW4 := Aside0.mk (below_step ((by repeat (first | (with_reducible first | exact (Below.refl _ _) | apply below_alloc | apply pw_below_drewN | apply below_drew1) | exact (Below.refl _ _))) : Below w.heap.size w _) hb); have OW0 : Kd.V (Kd.slice 32 (Kd.slice 3 (Kd.int .i64))) 31 w4 0 (fun _ => True) v0 rows := Kd.R_V (Kd.R_mono ho (ok' := fun _ => True) (fun _ _ => trivial)); obtain ⟨AW, cW, hv0⟩ := Kd.V_slice OW0; subst hv0; have OW := Aside0.mk (Kd.V_mono (Kd.V_bound OW0) (ok' := fun k => k < w4.heap.size) (fun _ h => h.2)); clear ho hb OW0
  have BX := Aside0.mk (Below.refl w4.heap.size w4)
  go_wp2_with fail
  go_at_call 5; refine (IM.out _).mono ?_; rintro e w7 ⟨v3, rfl, ho, hb⟩; have OW_ := Aside0.mk (Kd.V_below (by (with_reducible repeat (first | apply Kd.V_alloc | apply Kd.V_drewN | apply Kd.V_drew)); exact OW.out) hb); have BX_ := Aside0.mk (below_step (by repeat (first | (with_reducible first | exact BX.out | apply below_alloc | apply pw_below_drewN | apply below_drew1) | exact BX.out)) hb); clear OW; have OW := OW_; clear OW_; clear BX; have BX := BX_; clear BX_; obtain ⟨AG, cG, hv3⟩ := Kd.S_slice ho; subst hv3; have OG := Aside0.mk (show Kd.S (sl 32 (Kd.slice 3 (Kd.int .i64))) 31 w7 w4.heap.size (fun k => w4.heap.size ≤ k) (.slice AG rows.length cG) rows from Kd.S_mono (Kd.S_bound ho) (ok' := fun k => w4.heap.size ≤ k) (fun _ h => h.2.1)); clear ho hb
  go_wp2_with fail
  go_at_call 6; refine (ES.out _ AG cG (Kd.S_V (S_K (Kd.S_mono (by (with_reducible repeat (first | apply Kd.S_alloc | apply Kd.S_drewN | apply Kd.S_drew)); exact OG.out) (ok' := fun _ => True) (fun _ _ => trivial)))) AW cW (Kd.V_mono (by (with_reducible repeat (first | apply Kd.V_alloc | apply Kd.V_drewN | apply Kd.V_drew)); exact OW.out) (fun _ _ => trivial))).mono ?_; rintro e w8 ⟨rfl, hd⟩; have hb := hd.below; have OW_ := Aside0.mk (Kd.V_below (by (with_reducible repeat (first | apply Kd.V_alloc | apply Kd.V_drewN | apply Kd.V_drew)); exact OW.out) hb); have BX_ := Aside0.mk (below_step (by repeat (first | (with_reducible first | exact BX.out | apply below_alloc | apply pw_below_drewN | apply below_drew1) | exact BX.out)) hb); have OG_ := Aside0.mk (Kd.S_below (by (with_reducible repeat (first | apply Kd.S_alloc | apply Kd.S_drewN | apply Kd.S_drew)); exact OG.out) hb); clear OW; have OW := OW_; clear OW_; clear BX; have BX := BX_; clear BX_; clear OG; have OG := OG_; clear OG_; clear hb hd
  go_wp2_with fail
  go_at_call 7; refine (MS.out _ w4 w4.heap.size (fun k => w4.heap.size ≤ k) (.slice AG rows.length cG) (by (with_reducible repeat (first | apply Kd.S_alloc | apply Kd.S_drewN | apply Kd.S_drew)); exact OG.out) (Nat.le_refl _) (by repeat (first | (with_reducible first | exact BX.out | apply below_alloc | apply pw_below_drewN | apply below_drew1) | exact BX.out))).mono ?_; rintro e w14 ⟨rfl, ho, hb, hk⟩; have OW_ := Aside0.mk (Kd.V_kept (by (with_reducible repeat (first | apply Kd.V_alloc | apply Kd.V_drewN | apply Kd.V_drew)); exact OW.out) hk (fun k h1 h2 => absurd (show w4.heap.size ≤ k from h2) (by omega))); clear OW OG BX; have OW := OW_; have OG := Aside0.mk ho; have BX := Aside0.mk hb; clear OW_ ho hb hk
  go_wp2_with fail
  go_at_call 8; refine (HD.out _ AG cG (Kd.S_V (S_K (Kd.S_mono (by (with_reducible repeat (first | apply Kd.S_alloc | apply Kd.S_drewN | apply Kd.S_drew)); exact OG.out) (ok' := fun _ => True) (fun _ _ => trivial))))).mono ?_; rintro e w15 ⟨rfl, hd⟩; have hb := hd.below; have OW_ := Aside0.mk (Kd.V_below (by (with_reducible repeat (first | apply Kd.V_alloc | apply Kd.V_drewN | apply Kd.V_drew)); exact OW.out) hb); have BX_ := Aside0.mk (below_step (by repeat (first | (with_reducible first | exact BX.out | apply below_alloc | apply pw_below_drewN | apply below_drew1) | exact BX.out)) hb); have OG_ := Aside0.mk (Kd.S_below (by (with_reducible repeat (first | apply Kd.S_alloc | apply Kd.S_drewN | apply Kd.S_drew)); exact OG.out) hb); clear OW; have OW := OW_; clear OW_; clear BX; have BX := BX_; clear BX_; clear OG; have OG := OG_; clear OG_; clear hb hd
  go_wp2_with fail
  go_at_call 5; refine (IM.out _).mono ?_; rintro e w17 ⟨v6, rfl, ho, hb⟩; have OW_ := Aside0.mk (Kd.V_below (by (with_reducible repeat (first | apply Kd.V_alloc | apply Kd.V_drewN | apply Kd.V_drew)); exact OW.out) hb); have BX_ := Aside0.mk (below_step (by repeat (first | (with_reducible first | exact BX.out | apply below_alloc | apply pw_below_drewN | apply below_drew1) | exact BX.out)) hb); have OG_ := Aside0.mk (Kd.S_below (by (with_reducible repeat (first | apply Kd.S_alloc | apply Kd.S_drewN | apply Kd.S_drew)); exact OG.out) hb); clear OW; have OW := OW_; clear OW_; clear BX; have BX := BX_; clear BX_; clear OG; have OG := OG_; clear OG_; obtain ⟨AH, cH, hv6⟩ := Kd.S_slice ho; subst hv6; have OH := Aside0.mk (Kd.S_mono ho (ok' := fun _ => True) (fun _ _ => trivial)); clear ho hb
  go_wp2_with fail
  go_at_call 6; refine (ES.out _ AH cH (Kd.S_V (S_K (Kd.S_lower (by (with_reducible repeat (first | apply Kd.S_alloc | apply Kd.S_drewN | apply Kd.S_drew)); exact OH.out) (Nat.zero_le _)))) AW cW (Kd.V_mono (by (with_reducible repeat (first | apply Kd.V_alloc | apply Kd.V_drewN | apply Kd.V_drew)); exact OW.out) (fun _ _ => trivial))).mono ?_; rintro e w18 ⟨rfl, hd⟩; have hb := hd.below; have OW_ := Aside0.mk (Kd.V_below (by (with_reducible repeat (first | apply Kd.V_alloc | apply Kd.V_drewN | apply Kd.V_drew)); exact OW.out) hb); have BX_ := Aside0.mk (below_step (by repeat (first | (with_reducible first | exact BX.out | apply below_alloc | apply pw_below_drewN | apply below_drew1) | exact BX.out)) hb); have OG_ := Aside0.mk (Kd.S_below (by (with_reducible repeat (first | apply Kd.S_alloc | apply Kd.S_drewN | apply Kd.S_drew)); exact OG.out) hb); have OH_ := Aside0.mk (Kd.S_below (by (with_reducible repeat (first | apply Kd.S_alloc | apply Kd.S_drewN | apply Kd.S_drew)); exact OH.out) hb); clear OW; have OW := OW_; clear OW_; clear BX; have BX := BX_; clear BX_; clear OG; have OG := OG_; clear OG_; clear OH; have OH := OH_; clear OH_; clear hb hd
  go_wp2_with fail
  go_at_call 8; refine (HD.out _ AG cG (Kd.S_V (S_K (Kd.S_mono (by (with_reducible repeat (first | apply Kd.S_alloc | apply Kd.S_drewN | apply Kd.S_drew)); exact OG.out) (ok' := fun _ => True) (fun _ _ => trivial))))).mono ?_; rintro e w19 ⟨rfl, hd⟩; have hb := hd.below; have OW_ := Aside0.mk (Kd.V_below (by (with_reducible repeat (first | apply Kd.V_alloc | apply Kd.V_drewN | apply Kd.V_drew)); exact OW.out) hb); have BX_ := Aside0.mk (below_step (by repeat (first | (with_reducible first | exact BX.out | apply below_alloc | apply pw_below_drewN | apply below_drew1) | exact BX.out)) hb); have OG_ := Aside0.mk (Kd.S_below (by (with_reducible repeat (first | apply Kd.S_alloc | apply Kd.S_drewN | apply Kd.S_drew)); exact OG.out) hb); have OH_ := Aside0.mk (Kd.S_below (by (with_reducible repeat (first | apply Kd.S_alloc | apply Kd.S_drewN | apply Kd.S_drew)); exact OH.out) hb); clear OW; have OW := OW_; clear OW_; clear BX; have BX := BX_; clear BX_; clear OG; have OG := OG_; clear OG_; clear OH; have OH := OH_; clear OH_; clear hb hd
  go_wp2_with fail
  go_ret
  exact ⟨by first | rfl | simp, below_step BW4.out (by repeat (first | (with_reducible first | exact BX.out | apply below_alloc | apply pw_below_drewN | apply below_drew1) | exact BX.out))⟩
end Go.Proofs.Ytlkfmoleehmgcaa.Q
end
