/- What the laws' own marks do with rows of one's own: each number of each row is written, one after the other; nothing else turns. No conditions but small lengths. -/
import Derived.Test.YtlhblnphfpijkaaLaw
import Derived.Outline
import Derived.Lib.Hide
namespace Go.Proofs.Ytlhblnphfpijkaa.MarkK
set_option linter.unusedVariables false
open Go.RowKit Go.Proofs.Ytlhblnphfpijkaa.Q Go.Proofs.YtlhblnphfpijkaaW.PrintWords Go.Proofs.YtlhblnphfpijkaaW.PrintLast Go.Proofs.YtlhblnphfpijkaaW.PrintMore
open Go.Proofs.YtlhblnphfpijkaaL Go.Proofs.Ytlhblnphfpijkaa.LawK

/-- How many numbers there are. -/
def total : List (List Int) → Nat
  | [] => 0
  | x :: t => x.length + total t
/-- The marks, row by row, from m on. -/
def marks : Int → List (List Int) → List (List Int)
  | _, [] => []
  | m, x :: t => iota m x.length :: marks (m + x.length) t
theorem marks_length : ∀ (l : List (List Int)) (m : Int), (marks m l).length = l.length
  | [], m => rfl
  | x :: t, m => by rw [marks, List.length_cons, List.length_cons, marks_length t]
theorem total_take (l : List (List Int)) : ∀ i, total (l.take i) ≤ total l := by
  induction l with
  | nil => intro i; simp [total]
  | cons x t ih =>
    intro i
    cases i with
    | zero => simp [total]
    | succ i => rw [List.take_succ_cons, total, total]; have := ih i; omega
theorem total_snoc (a : List (List Int)) (x : List Int) : total (a ++ [x]) = total a + x.length := by
  induction a with
  | nil => simp [total]
  | cons y t ih => rw [List.cons_append, total, total, ih]; omega
theorem marks_snoc (a : List (List Int)) (x : List Int) : ∀ m, marks m (a ++ [x]) = marks m a ++ [iota (m + total a) x.length] := by
  induction a with
  | nil => intro m; simp [marks, total]
  | cons y t ih =>
    intro m
    rw [List.cons_append, marks, marks, ih, List.cons_append, total]
    congr 3
    congr 1
    push_cast
    omega
section
variable (P : Nat → Prop) (v : Value) (xs : List (List Int)) (m : Int) (w0 w : World) (bs : Nat)
  (ho : Kd.S (Kd.slice 3 (Kd.int .i64)) 22 w bs P v xs) (hbs : w0.heap.size ≤ bs) (hB : Below w0.heap.size w0 w) (h0 : 0 ≤ m) (hm : m + total xs ≤ 4611686018427387904) (hl : xs.length ≤ 1000000000)
include ho hbs hB h0 hm hl
set_option maxHeartbeats 4000000 in
set_option maxRecDepth 100000 in
theorem markIntSS_calls : Calls Try.prog 26 #[v, .int .i64 m] w fun e w' => e = .returned (.int .i64 (m + total xs)) ∧ Kd.S (Kd.slice 3 (Kd.int .i64)) 22 w' bs P v (marks m xs) ∧ Below w0.heap.size w0 w' ∧ Kept w w' P := by
  obtain ⟨A, c, hv⟩ := Kd.S_slice ho
  subst hv
  have HS := Aside0.mk ho
  have HB := Aside0.mk hB
  have HM := Aside0.mk (And.intro h0 hm)
  have HBS := Aside0.mk hbs
  have HL := Aside0.mk hl
  clear ho hB h0 hm hbs hl
  go_enter Try.func26, Try.ntmps26
  go_wp2
  go_loopg [1, 5] (xs.length) (fun kq v1 v5 w' => ∃ (i : Nat), v5 = .int .i64 (i : Int) ∧ v1 = .int .i64 (m + total (xs.take i)) ∧ Aside0 (i + kq = xs.length) ∧ Aside0 (Kd.S (Kd.slice 3 (Kd.int .i64)) 22 w' bs P (.slice A xs.length c) (marks m (xs.take i) ++ xs.drop i)) ∧ Aside0 (Kept w w' P) ∧ Aside0 (Below w0.heap.size w0 w'))
  case atStart => exact ⟨0, rfl, by simp [total], ⟨by omega⟩, ⟨by simpa [marks] using HS.out⟩, ⟨Kept.refl _ _⟩, HB⟩
  case round =>
    obtain ⟨i, rfl, rfl, HI, HS2, HK, HB2⟩ := hrel
    by_cases hlt : i < xs.length
    · have hxi : (marks m (xs.take i) ++ xs.drop i).length = xs.length := by rw [List.length_append, marks_length, List.length_take, List.length_drop]; omega
      have hrow : (marks m (xs.take i) ++ xs.drop i).getD ((i : Nat) : Int).toNat [] = xs[i] := by
        rw [Int.toNat_natCast, List.getD_eq_getElem?_getD, List.getElem?_append_right (by rw [marks_length, List.length_take]; omega), marks_length, List.length_take, Nat.min_eq_left (by omega), Nat.sub_self, List.getElem?_drop, Nat.add_zero, List.getElem?_eq_getElem hlt]; rfl
      obtain ⟨g, c1, e1, hg1, hg2, _⟩ := Kd.S_form HS2.out (by rw [hxi]; omega)
      injection e1 with e1 e2 e3
      clear e2 e3
      subst e1
      obtain ⟨oki, cs, hcl, hM, hcell, hoki, hH⟩ := Kd.S_lend HS2.out [] (i : Int) (by omega) (by omega)
      rw [hrow] at hM
      obtain ⟨vi, rfl, hR⟩ := hM
      obtain ⟨Ai, ci, hvi⟩ := Kd.R_slice hR
      have hc0 : wr.cell? ⟨g, i, none⟩ = some vi := by
        have := hcell 0 vi rfl
        simpa [Kd.slice, Nat.mul_one] using this
      have ht1 := total_take xs i
      have ht2 : total (xs.take (i + 1)) = total (xs.take i) + xs[i].length := by rw [List.take_succ_eq_append_getElem hlt, total_snoc]
      have ht3 := total_take xs (i + 1)
      obtain ⟨k, hk⟩ := (markIntS xs[i] (m := m + total (xs.take i)) (by have := HM.out; omega) (by have := HM.out; omega)).rounds
      have CALL := laws_markIntS.calls k (fun k_ => some k_ = vi.ownBlock) vi xs[i] _ _ _ w0 wr HB2.out (Kd.R_tight rfl (Kd.R_lower hR HBS.out)) hk
      have CX := Lib.hid CALL
      have HH := Aside0.mk hH
      have HO := Aside0.mk hoki
      have HR := Aside0.mk hR
      have HX := Aside0.mk ht2
      have p1 : decide ((i : Int) < (xs.length : Int)) = true := decide_eq_true (by omega)
      have p2 := eq_true (show (0 : Int) ≤ (i : Int) by omega)
      have p3 := eq_true (show (i : Int) < (xs.length : Int) by omega)
      subst hvi
      have HT := Aside0.mk (show ((marks m (xs.take i) ++ xs.drop i).set (i : Int).toNat (iota (m + total (xs.take i)) xs[i].length)) = marks m (xs.take (i + 1)) ++ xs.drop (i + 1) by
        rw [Int.toNat_natCast, List.take_succ_eq_append_getElem hlt, marks_snoc, List.drop_eq_getElem_cons hlt, List.set_append_right _ _ (by rw [marks_length, List.length_take]; omega), marks_length, List.length_take, Nat.min_eq_left (by omega), Nat.sub_self, List.set_cons_zero, List.append_assoc]; rfl)
      have HW := Aside0.mk (show wrap64 ((i : Int) + 1) = ((i + 1 : Nat) : Int) by have := HL.out; rw [w64 (by omega) (by omega)]; rfl)
      have HX2 := Aside0.mk hlt
      clear hxi hrow hg1 hg2 hcl hcell hoki hH hR ht1 ht2 ht3 hk CALL
      generalize xs[i] = row at *
      clear hlt
      go_wp2_with (go_at_call 25; refine CX.out.mono ?_; rintro e w2 ⟨rfl, hr2, hb2, hk2⟩; have HR2 := Aside0.mk hr2; have HB3 := Aside0.mk hb2; have HK2 := Aside0.mk hk2; clear hr2 hb2 hk2)
      cases gk with
      | zero => exact absurd HX2.out (by have := HI.out; omega)
      | succ k1 =>
        go_roundg k1
        case measure => omega
        case rel =>
          refine ⟨i + 1, (by first | exact congrArg (Value.int .i64) HW.out | (rw [HW.out]) | rfl), (by rw [HX.out]; push_cast; congr 1; omega), ⟨by have := HI.out; omega⟩, ⟨?_⟩, ⟨HK.out.then_ HK2.out (fun k hk => .inl ((HO.out k (HR.out.1 k hk.symm)).1))⟩, HB3⟩
          have hM2 : Kd.R (Kd.int .i64) 3 w2 bs (fun k => some k = (Value.slice Ai row.length ci).ownBlock) (.slice Ai row.length ci) (iota (m + total (xs.take i)) row.length) := Kd.R_tight rfl (Kd.R_raise (d := Kd.int .i64) (b := w0.heap.size) (b' := bs) (fun _ _ _ _ h => h) HR2.out (fun k hk => Kd.R_base HR.out k hk))
          have hH2 := Kd.H_step HH.out (w1 := w2) (fun k hk hn hlt => HK2.out.2 k hlt (fun h => hn (HR.out.1 k h.symm)))
          have := Kd.H_back hH2 (okp := fun k => some k = (Value.slice Ai row.length ci).ownBlock) (x' := iota (m + total (xs.take i)) row.length) ⟨_, rfl, hM2⟩ (fun k hk => HR.out.1 k hk.symm)
          rw [HT.out] at this
          exact this
    · have hi : i = xs.length := by have := HI.out; omega
      subst hi
      have p1 : decide ((xs.length : Int) < (xs.length : Int)) = false := decide_eq_false (by omega)
      have T0 := Aside0.mk (show xs.take xs.length = xs from List.take_length)
      have D0 := Aside0.mk (show xs.drop xs.length = [] from List.drop_length)
      clear hlt
      go_wp2
      go_ret
      refine ⟨by first | rfl | (rw [T0.out]; done) | (rw [T0.out]; rfl) | (simp [T0.out]; done), ?_, HB2.out, HK.out⟩
      have := HS2.out
      rw [T0.out, D0.out, List.append_nil] at this
      exact this
end
end Go.Proofs.Ytlhblnphfpijkaa.MarkK
