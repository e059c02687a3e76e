/- Texts of this claim put together (4): words, what the functions compute, and plain facts. No conditions. -/
import Derived.Test.YtlkfmoleehmgcaaSFnExactAllPartitions3
import Derived.Laws.BitsLemmas
import Derived.Test.YtlkfmoleehmgcaaProg
import Derived.Below
import Derived.Deep.Draws
import Derived.Deep.AppendLies
import Derived.Maps.AppendAt
import Derived.OwnWalk
import Derived.Laws.BytesArg
import Derived.Laws.MakeOwn
import Derived.Laws.OwnMore
import Derived.Deep.OwnRows
import Derived.Tactics
import Derived.Lib.ConvBytes
import Derived.Laws.Slices
import Derived.WalkKit
import Derived.KernelRfl
import Derived.RowKit3
import Derived.Deep.LoopGhost
import Derived.Deep.QuietTactic
import Derived.BigQuiet
import Derived.WideLaws
import Derived.Deep.DeepCutAuto
import Derived.Deep.CutBlock
import Derived.Deep.RegionHeld3
import Derived.Laws.Rows
import Derived.Lib.AppendStr
import Derived.ArgAppend
import Derived.Laws.IdiomCopy
import Derived.OrdersHeld
import Derived.RowKit
import Derived.Outline
import Derived.Laws.Cover3
import Derived.Lib.Hide
import Derived.Deep.RegionWith
import Derived.Deep.RegionLaw
section
namespace Go.Proofs.YtlkfmoleehmgcaaL
set_option linter.unusedVariables false
open Go.RowKit Go.Proofs.YtlkfmoleehmgcaaW.PrintWords Go.Proofs.YtlkfmoleehmgcaaW.PrintLast Go.Proofs.YtlkfmoleehmgcaaW.PrintMore
theorem w64 {n : Int} (h1 : -9223372036854775808 ≤ n) (h2 : n ≤ 9223372036854775807) : wrap64 n = n := by
  unfold wrap64; omega
theorem gD_lt {α : Type} (xs : List α) (d : α) {i : Nat} (h : i < xs.length) : xs.getD i d = xs[i] := by simp [List.getD, h]
theorem rd_nat (xs : List Int) (i : Nat) : rd xs (i : Int) = xs.getD i 0 := by unfold rd; rw [Int.toNat_natCast]
theorem rd_lt (xs : List Int) (i : Nat) (h : i < xs.length) : rd xs (i : Int) = xs[i] := by
  rw [rd_nat]; simp [List.getD, h]
end Go.Proofs.YtlkfmoleehmgcaaL
end
section
namespace Go.Proofs.Ytlkfmoleehmgcaa.Sl
set_option linter.unusedVariables false
open Go.RowKit Go.Proofs.YtlkfmoleehmgcaaW.PrintWords Go.Proofs.YtlkfmoleehmgcaaW.PrintLast Go.Proofs.YtlkfmoleehmgcaaW.PrintMore
def sl {α : Type} (e : Nat) (d : Kd α) : Kd (List α) where
  sz := 1
  E := e :: d.E
  K := (Kd.slice e d).K
  M := fun w base ok xs cs => ∃ v, cs = [v] ∧ Kd.S d e w base ok v xs
  K_len := (Kd.slice e d).K_len
  K_one := (Kd.slice e d).K_one
  K_below := (Kd.slice e d).K_below
  K_of_M := by
    rintro w base ok x cs ⟨v, rfl, h⟩
    obtain ⟨A, c, rfl, hl, hr⟩ := Kd.S_reads h
    exact ⟨A, c, rfl, hl, hr⟩
  M_mono := by
    rintro w base ok ok' x cs hok ⟨v, rfl, h⟩
    exact ⟨v, rfl, Kd.S_mono h hok⟩
  M_bound := by
    rintro w base ok x cs ⟨v, rfl, h⟩
    exact ⟨v, rfl, Kd.S_bound h⟩
  M_move := by
    rintro w w1 base ok x cs hm ⟨v, rfl, h⟩
    exact ⟨v, rfl, Kd.S_move h hm⟩
  M_lower := by
    rintro w base base' ok x cs hb ⟨v, rfl, h⟩
    exact ⟨v, rfl, Kd.S_lower h hb⟩
section
variable {α : Type} {e e2 : Nat} {d : Kd α} {w w1 W W2 : World} {base n c : Nat} {ok S : Nat → Prop} {v : Value} {A : Option Addr} {xs : List (List α)}
theorem S_K (h : Kd.S (sl e d) e2 w base ok v xs) : Kd.S (Kd.slice e d) e2 w base ok v xs := by
  obtain ⟨f, h0, inner, ho, hr⟩ := h
  exact ⟨f, h0, inner, ho, hr.1, fun j p hj => by
    obtain ⟨u, e1, h1⟩ := hr.2 j p hj
    exact ⟨u, e1, Kd.S_R h1⟩⟩
end
end Go.Proofs.Ytlkfmoleehmgcaa.Sl
end
section
namespace Go.Proofs.Ytlkfmoleehmgcaa.Q
open Go.RowKit Go.Proofs.YtlkfmoleehmgcaaW.PrintWords Go.Proofs.YtlkfmoleehmgcaaW.PrintLast Go.Proofs.YtlkfmoleehmgcaaW.PrintMore
attribute [local go_sem] max2_int min2_int max_two min_two max_three min_three max_four min_four   -- for this text's walks alone
set_option linter.unusedVariables false
set_option linter.unusedSimpArgs false
def errW : Option Int → Value
  | none => .nilIface
  | some c => .iface 0 (.int .i64 c)
theorem errW_none : errW none = .nilIface := rfl
theorem errW_some (c : Int) : errW (some c) = .iface 0 (.int .i64 c) := rfl
theorem info3 : (Try.prog.info? 3).map (fun i => (i.zero, i.size, i.bytes)) = some (some (.int .i64 0), 1, 8) := by kernel_rfl
def rd_L1 (xs : List (List Int)) (i : Int) : (List Int) := xs.getD i.toNat ([] : List Int)
theorem at_L1 {w : World} {A : Option Addr} {n : Nat} {xs : List (List Int)} (h : Kd.C (Kd.slice 3 (Kd.int .i64)) w A n xs) (i : Int) (h0 : 0 ≤ i) (h1 : i < n) : ∃ ad A0 c0, A = some ad ∧ w.cell? (ad.add i.toNat) = some (.slice A0 (rd_L1 xs i).length c0) ∧ (rd_L1 xs i).length ≤ c0 ∧ (Kd.int .i64).C w A0 (rd_L1 xs i).length (rd_L1 xs i) := by
  obtain ⟨ad, c, e, _, hK, hc0⟩ := Kd.C_get h ([] : List Int) i h0 h1
  have hc : ∀ j u, c[j]? = some u → w.cell? (ad.add (i.toNat * 1 + j)) = some u := hc0
  obtain ⟨A0, c0, rfl, l0, g0⟩ := hK
  exact ⟨ad, A0, c0, e, by have hq := hc 0 _ rfl; rwa [Nat.mul_one, Nat.add_zero] at hq, l0, g0⟩
def rd_L2 (xs : List (List (List Int))) (i : Int) : (List (List Int)) := xs.getD i.toNat ([] : List (List Int))
theorem at_L2 {w : World} {A : Option Addr} {n : Nat} {xs : List (List (List Int))} (h : Kd.C (Kd.slice 32 (Kd.slice 3 (Kd.int .i64))) w A n xs) (i : Int) (h0 : 0 ≤ i) (h1 : i < n) : ∃ ad A0 c0, A = some ad ∧ w.cell? (ad.add i.toNat) = some (.slice A0 (rd_L2 xs i).length c0) ∧ (rd_L2 xs i).length ≤ c0 ∧ (Kd.slice 3 (Kd.int .i64)).C w A0 (rd_L2 xs i).length (rd_L2 xs i) := by
  obtain ⟨ad, c, e, _, hK, hc0⟩ := Kd.C_get h ([] : List (List Int)) i h0 h1
  have hc : ∀ j u, c[j]? = some u → w.cell? (ad.add (i.toNat * 1 + j)) = some u := hc0
  obtain ⟨A0, c0, rfl, l0, g0⟩ := hK
  exact ⟨ad, A0, c0, e, by have hq := hc 0 _ rfl; rwa [Nat.mul_one, Nat.add_zero] at hq, l0, g0⟩
end Go.Proofs.Ytlkfmoleehmgcaa.Q
end
section
namespace Go.Proofs.Ytlkfmoleehmgcaa.Q
open Go.RowKit Go.Proofs.YtlkfmoleehmgcaaW.PrintWords Go.Proofs.YtlkfmoleehmgcaaW.PrintLast Go.Proofs.YtlkfmoleehmgcaaW.PrintMore
open Go.Proofs.YtlkfmoleehmgcaaL
set_option linter.unusedVariables false
theorem run_eql_slice_nil_ {w : World} (a : Option Addr) (l c : Nat) : (binOp .eql 32 (.slice a l c) (.slice none 0 0)).run Try.prog w = .ok (.bool a.isNone) w := by
  simp only [binOp]
  simp [run_equal_slice_nil _ _ _ _ _ _ Try.underlying32]
attribute [local go_sem] run_eql_slice_nil_
def slices_Clone_int_int.f (l0 : List Int) : Option (List Int) := if l0.length < 17592186044416 then some l0 else none
set_option maxHeartbeats 8000000 in
set_option maxRecDepth 100000 in
theorem slices_Clone_int_int.calls (A0 : Option Addr) (c0 : Nat) (l0 : List Int) (r : List Int) (w : World) (hr0 : Kd.C (Kd.int .i64) w A0 l0.length l0) (hc0 : l0.length ≤ c0) (h : slices_Clone_int_int.f l0 = some r) :
    Calls Try.prog 13 #[.slice A0 l0.length c0] w fun e w' => ∃ v0_ : Value, e = .returned (v0_) ∧ Kd.R (Kd.int .i64) 3 w' w.heap.size (fun _ => True) v0_ r ∧ Below w.heap.size w w' := by
  rw [slices_Clone_int_int.f] at h
  by_cases c2 : l0.length < 17592186044416
  rotate_left
  · rw [if_neg c2] at h; cases h
  rw [if_pos c2] at h
  obtain rfl := Option.some.inj h
  clear h
  cases A0 with
  | none =>
    have hl : l0 = [] := by
      cases l0 with
      | nil => rfl
      | cons a t =>
        obtain ⟨ad, e, _⟩ := Kd.at_int hr0 0 (by omega) (by simp)
        cases e
    subst hl
    have hu22 := Try.underlying32
    clear hr0 c2
    go_enter Try.func13, Try.ntmps13
    go_wp2
    go_ret
    exact ⟨_, rfl, Kd.R_nil _ _ _ _ _, by repeat (first | exact Below.refl _ _ | apply below_alloc | apply pw_below_drewN | apply below_drew1)⟩
  | some ad =>
    have HR0 := Aside0.mk hr0
    have HC0 := Aside0.mk hc0
    have HB := Aside0.mk (Below.refl w.heap.size w)
    have LMc2 := Aside0.mk c2
    obtain ⟨y101, hy101⟩ : ∃ y_ : List Int, y_ = (([] : List Int)) := ⟨_, rfl⟩
    have Ny101 := Aside0.mk hy101
    obtain ⟨y104, hy104⟩ : ∃ y_ : List Int, y_ = (y101 ++ l0) := ⟨_, rfl⟩
    have Ny104 := Aside0.mk hy104
    have LL := Aside0.mk (show y101.length = 0 by rw [hy101]; rfl)
    have E104 := Aside0.mk (show y104 = l0 by rw [hy104, hy101]; rfl)
    have hu22 := Try.underlying32
    clear hy101 hy104 hr0 hc0 c2
    go_enter Try.func13, Try.ntmps13
    go_wp2_with (first | ((with_reducible refine gate_dst (N := 5) rfl ?_); refine Kd.R_lit (Kd.int .i64) _ 3 ?hg (N := 5) ?hd (xs := ([] : List Int)) (inner := []) (ok := fun _ => True) (okp := fun _ => True) ?hr ?hp (fun _ hk => hk) trivial (Below.refl _ _) (Nat.le_refl _) (by simp) ?_; (case hd => rfl); (case hg => rfl); (case hr => first | (go_simp; done) | (go_simp; rfl)); (case hp => exact (Reps.none _ _)); intro v102 w3 ho4 hb hg_ hnew_; clear hg_ hnew_; (first | rw [← Ny101.out] at ho4 | (simp only [Int.reduceToNat] at ho4; rw [← Ny101.out] at ho4)); have n0_ := Aside0.mk (Kd.R_lower ho4 (below_size (by repeat (first | (with_reducible first | exact HB.out | apply below_alloc | apply pw_below_drewN | apply below_drew1) | exact HB.out)))); have n1_ := Aside0.mk (below_step (by repeat (first | (with_reducible first | exact HB.out | apply below_alloc | apply pw_below_drewN | apply below_drew1) | exact HB.out)) hb); clear HB; have HO103 := n0_; have HB := n1_; clear n0_ n1_; clear hb ho4) | ((with_reducible refine gate_builtin (b := .append) (xs := #[.tmp 5, .tmp 6]) rfl ?_); at_builtin; refine Kd.R_append_rows (Kd.int .i64) (w0 := w) w.heap.size rfl (.tmp 5) (.tmp 6) 32 3 (.int .i64 0) 8 rfl Try.underlying32 info3 rfl (by decide) (by omega) v102 y101 l0 _ _ _ (fun _ => True) (fun _ => False) rfl rfl ?aO ?aR (fun _ _ h => h) (fun _ h => h.elim) ?aF ?aB ?aS ?aL ?_; (case aR => repeat (first | exact (Kd.C_below HR0.out HB.out) | (with_reducible refine Kd.C_alloc ?_ _) | (with_reducible refine Kd.C_drewN ?_ _) | (with_reducible refine Kd.C_drew ?_))); (case aB => exact (by repeat (first | (with_reducible first | exact HB.out | apply below_alloc | apply pw_below_drewN | apply below_drew1) | exact HB.out))); (case aF => exact (fun _ _ => trivial)); (case aO => exact (by (with_reducible repeat (first | apply Kd.R_alloc | apply Kd.R_drewN | apply Kd.R_drew)); exact HO103.out)); (case aS => exact (below_size (by repeat (first | (with_reducible first | exact HB.out | apply below_alloc | apply pw_below_drewN | apply below_drew1) | exact HB.out)))); (case aL => have := LMc2.out; have := LL.out; omega); intro v105 w5 ho hb hg hat; rw [← Ny104.out] at ho; have n0_ := Aside0.mk (hb); have n1_ := Aside0.mk (ho); clear HB; clear HO103; have HB := n0_; have HO106 := n1_; clear n0_ n1_; clear ho hb hg hat))
    go_ret
    exact ⟨_, by first | rfl | (simp [errW_none, errW_some] <;> rfl) | (simp [*, errW_none, errW_some] <;> rfl), by rw [← E104.out]; (with_reducible repeat (first | apply Kd.R_alloc | apply Kd.R_drewN | apply Kd.R_drew)); exact HO106.out, by repeat (first | (with_reducible first | exact HB.out | apply below_alloc | apply pw_below_drewN | apply below_drew1) | exact HB.out)⟩
end Go.Proofs.Ytlkfmoleehmgcaa.Q
end
section
namespace Go.Proofs.Ytlkfmoleehmgcaa.Put
set_option linter.unusedVariables false
set_option linter.unusedSectionVars false
open Go.RowKit Go.Proofs.YtlkfmoleehmgcaaW.PrintWords Go.Proofs.YtlkfmoleehmgcaaW.PrintLast Go.Proofs.YtlkfmoleehmgcaaW.PrintMore
open Go.Proofs.YtlkfmoleehmgcaaL Go.Proofs.Ytlkfmoleehmgcaa.Sl
theorem info31 : (Try.prog.info? 31).map (fun i => (i.zero, i.size, i.bytes)) = some (some (.slice none 0 0), 1, 24) := by kernel_rfl
theorem info32 : (Try.prog.info? 32).map (fun i => (i.zero, i.size, i.bytes)) = some (some (.slice none 0 0), 1, 24) := by kernel_rfl
theorem size32 : (Try.prog.info? 32).map (·.size) = some 1 := by kernel_rfl
def upF {α : Type} (f : Nat → List α) : Nat → List α
  | 0 => []
  | m + 1 => upF f m ++ f m
def nx (bl : List (List Int)) (j : Nat) : List (List Int) := if j = bl.length then bl ++ [[]] else bl
def nextB (bl : List (List Int)) (j i : Nat) : List (List Int) := (nx bl j).set j ((nx bl j).getD j [] ++ [(i : Int)])
def putS (k : Nat) : Nat → Nat → List (List Int) → List (List (List Int))
  | 0, _, bl => if bl.length = k then [bl] else []
  | d + 1, i, bl => upF (fun j => putS k d (i + 1) (nextB bl j i)) (bl.length + 1)
theorem upF_le {α : Type} (f : Nat → List α) (m : Nat) : ∀ e, (upF f m).length ≤ (upF f (m + e)).length
  | 0 => Nat.le_refl _
  | e + 1 => by
    have := upF_le f m e
    rw [← Nat.add_assoc, upF, List.length_append]
    omega
theorem nx_len {bl : List (List Int)} {j : Nat} (hj : j ≤ bl.length) : j < (nx bl j).length ∧ bl.length ≤ (nx bl j).length ∧ (nx bl j).length ≤ bl.length + 1 := by
  unfold nx
  by_cases h : j = bl.length
  · rw [if_pos h, List.length_append, List.length_singleton]; omega
  · rw [if_neg h]; omega
theorem nextB_len (bl : List (List Int)) (j i : Nat) : (nextB bl j i).length = (nx bl j).length := by unfold nextB; rw [List.length_set]
theorem nextB_in {bl : List (List Int)} {j i : Nat} {B : Nat} (hb : ∀ x ∈ bl, x.length ≤ B) : ∀ x ∈ nextB bl j i, x.length ≤ B + 1 := by
  have h1 : ∀ x ∈ nx bl j, x.length ≤ B := by
    intro x hx
    unfold nx at hx
    by_cases h : j = bl.length
    · rw [if_pos h, List.mem_append, List.mem_singleton] at hx
      rcases hx with hx | hx
      · exact hb x hx
      · rw [hx]; exact Nat.zero_le _
    · rw [if_neg h] at hx; exact hb x hx
  intro x hx
  unfold nextB at hx
  rcases List.mem_or_eq_of_mem_set hx with g | g
  · have := h1 x g; omega
  · rw [g, List.length_append, List.length_singleton]
    by_cases hj : j < (nx bl j).length
    · have e : (nx bl j).getD j [] = (nx bl j)[j] := gD_lt _ _ hj
      have := h1 _ (List.getElem_mem hj)
      rw [e]; omega
    · have e : (nx bl j).getD j [] = [] := by simp [List.getD, List.getElem?_eq_none (Nat.le_of_not_lt hj)]
      rw [e, List.length_nil]; omega
structure Still (S : Nat → Prop) (w w' : World) : Prop where
  kept : Kept w w' S
  os : w'.os = w.os
  tape : w'.tape = w.tape
  output : w'.output = w.output
theorem Still.refl (S : Nat → Prop) (w : World) : Still S w w := ⟨Kept.refl _ _, rfl, rfl, rfl⟩
theorem Still.of_below {S : Nat → Prop} {w w' : World} (h : Below w.heap.size w w') : Still S w w' := ⟨Kept.of_below h S, h.os, h.tape, h.output⟩
theorem Still.set {S : Nat → Prop} {w w' : World} (h : Still S w w') {a : Addr} (ha : S a.block) (v : Value) : Still S w (w'.setCell a v) := ⟨Kept.setCell h.kept (.inl ha) v, h.os, h.tape, h.output⟩
theorem Still.grown {S : Nat → Prop} {w W w' : World} (h : Still S w W) {row : Option Nat} (hg : W.grownBy w' row) (hr : ∀ k, row = some k → S k) : Still S w w' := ⟨Kept.of_grown hg h.kept (fun k hk => .inl (hr k hk)), hg.os.trans h.os, hg.tape.trans h.tape, hg.output.trans h.output⟩
theorem Still.trans {S T : Nat → Prop} {a b c : World} (h : Still S a b) (k : Still T b c) (hs : ∀ i, T i → S i ∨ a.heap.size ≤ i) : Still S a c := ⟨h.kept.then_ k.kept hs, k.os.trans h.os, k.tape.trans h.tape, k.output.trans h.output⟩
theorem Still.below {S : Nat → Prop} {w0 w w' : World} (h : Below w0.heap.size w0 w) (k : Still S w w') (hS : ∀ i, S i → w0.heap.size ≤ i) : Below w0.heap.size w0 w' :=
  ⟨k.os.trans h.os, k.tape.trans h.tape, k.output.trans h.output, Nat.le_trans h.size k.kept.1, fun i hi => (k.kept.2 i (Nat.lt_of_lt_of_le hi h.size) (fun hs => by have := hS i hs; omega)).trans (h.block i hi)⟩
def OkP (base : Nat) (L : Nat → Prop) (gn gk go gp b : Nat) : Prop := base ≤ b ∧ ¬ L b ∧ b ≠ gn ∧ b ≠ gk ∧ b ≠ go ∧ b ≠ gp
structure PSt (n k : Int) (base gn gk go gp : Nat) (L : Nat → Prop) (rows : List (List (List Int))) (w : World) : Prop where
  n : w.heap[gn]? = some (.cells #[.int .i64 n] 3 (0, 0))
  k : w.heap[gk]? = some (.cells #[.int .i64 k] 3 (0, 0))
  f : w.heap[gp]? = some (.cells #[.func (.func 12) #[] #[.pointer (some ⟨gn, 0, none⟩), .pointer (some ⟨gk, 0, none⟩), .pointer (some ⟨go, 0, none⟩), .pointer (some ⟨gp, 0, none⟩)]] 30 (0, 0))
  o : ∃ v, w.heap[go]? = some (.cells #[v] 22 (0, 0)) ∧ Kd.S (sl 32 (Kd.slice 3 (Kd.int .i64))) 31 w base (OkP base L gn gk go gp) v rows
  ne : gn ≠ go ∧ gk ≠ go ∧ gp ≠ go
  b : base ≤ go
section
variable {n k : Int} {base gn gk go gp : Nat} {L M okb : Nat → Prop} {rows : List (List (List Int))} {w w' W : World}
theorem PSt.below (h : PSt n k base gn gk go gp L rows w) (hb : Below w.heap.size w w') : PSt n k base gn gk go gp L rows w' := by
  obtain ⟨v, h1, h2⟩ := h.o
  exact ⟨blk_below h.n hb, blk_below h.k hb, blk_below h.f hb, ⟨v, blk_below h1 hb, Kd.S_below h2 hb⟩, h.ne, h.b⟩
theorem PSt.mono (h : PSt n k base gn gk go gp L rows w) (hL : ∀ b, M b → L b) : PSt n k base gn gk go gp M rows w := by
  obtain ⟨v, h1, h2⟩ := h.o
  exact ⟨h.n, h.k, h.f, ⟨v, h1, Kd.S_mono h2 (fun b hb => ⟨hb.1, fun hm => hb.2.1 (hL b hm), hb.2.2⟩)⟩, h.ne, h.b⟩
theorem PSt.more (h : PSt n k base gn gk go gp L rows w) (hM : ∀ b, M b → L b ∨ w.heap.size ≤ b) : PSt n k base gn gk go gp M rows w := by
  obtain ⟨v, h1, h2⟩ := h.o
  exact ⟨h.n, h.k, h.f, ⟨v, h1, Kd.S_mono (Kd.S_bound h2) (fun b hb => ⟨hb.1.1, fun hm => (hM b hm).elim hb.1.2.1 (fun h3 => by have := hb.2.2.1; omega), hb.1.2.2⟩)⟩, h.ne, h.b⟩
theorem PSt.size (h : PSt n k base gn gk go gp L rows w) : base ≤ w.heap.size := by
  obtain ⟨v, h1, h2⟩ := h.o
  have := blk_lt h1
  have := h.b
  omega
theorem PSt.leaf {bl : List (List Int)} {v v4 : Value} {w4 : World} (h : PSt n k base gn gk go gp (fun b => L b ∨ okb b) rows w) (hv : w.heap[go]? = some (.cells #[v] 22 (0, 0))) (ho : ∀ b, v.ownBlock = some b → OkP base (fun b => L b ∨ okb b) gn gk go gp b)
    (hB : Below w.heap.size w W) (hs : Kd.S (sl 32 (Kd.slice 3 (Kd.int .i64))) 31 w4 base (OkP base L gn gk go gp) v4 (rows ++ [bl])) (hg : W.grownBy w4 v.ownBlock) :
    PSt n k base gn gk go gp L (rows ++ [bl]) (w4.setCell ⟨go, 0, none⟩ v4) ∧ Still (fun b => b = go ∨ OkP base (fun b => L b ∨ okb b) gn gk go gp b) w (w4.setCell ⟨go, 0, none⟩ v4) := by
  have cell : ∀ {g t : Nat} {cs : Array Value}, w.heap[g]? = some (.cells cs t (0, 0)) → g ≠ go → (¬ OkP base (fun b => L b ∨ okb b) gn gk go gp g) → (w4.setCell ⟨go, 0, none⟩ v4).heap[g]? = some (.cells cs t (0, 0)) := fun hc hne hno =>
    blk_far (p := ⟨go, 0, none⟩) (blk_grown (blk_below hc hB) hg (fun he => hno (ho _ he.symm))) hne _
  have hgo : w4.heap[go]? = some (.cells #[v] 22 (0, 0)) := blk_grown (blk_below hv hB) hg (fun he => (ho _ he.symm).2.2.2.2.1 rfl)
  refine ⟨⟨cell h.n h.ne.1 (fun h2 => h2.2.2.1 rfl), cell h.k h.ne.2.1 (fun h2 => h2.2.2.2.1 rfl), cell h.f h.ne.2.2 (fun h2 => h2.2.2.2.2.2 rfl), ⟨v4, blk_put hgo 0 v4 rfl, ?_⟩, h.ne, h.b⟩, ?_⟩
  · exact Kd.S_far (p := ⟨go, 0, none⟩) hs (fun b hb => hb.2.2.2.2.1) v4
  · exact Still.set (Still.grown (Still.of_below hB) hg (fun b hb => .inr (ho b hb))) (.inl rfl) v4
end
structure Lo (n k : Int) (base gn gk go gp : Nat) (L okb : Nat → Prop) (v : Value) (bl : List (List Int)) (w : World) (rows : List (List (List Int))) (w' : World) : Prop where
  p : PSt n k base gn gk go gp (fun b => L b ∨ okb b) rows w'
  b : Kd.S (Kd.slice 3 (Kd.int .i64)) 32 w' base okb v bl
  s : Still (fun b => b = go ∨ OkP base (fun b => L b ∨ okb b) gn gk go gp b) w w'
def OkN (wr W : World) (b : Nat) : Prop := wr.heap.size ≤ b ∧ b < W.heap.size
section
variable {n k : Int} {base gn gk go gp : Nat} {L okb : Nat → Prop} {rows more : List (List (List Int))} {v u : Value} {bl nb : List (List Int)} {w wr W W2 : World}
theorem Lo.below (h : Lo n k base gn gk go gp L okb v bl w rows wr) (hb : Below wr.heap.size wr W) : Lo n k base gn gk go gp L okb v bl w rows W := ⟨h.p.below hb, Kd.S_below h.b hb, h.s.trans (Still.of_below (S := fun _ => False) hb) (fun _ h => h.elim)⟩
theorem Lo.call (h : Lo n k base gn gk go gp L okb v bl w rows wr) (hb : Below wr.heap.size wr W) : PSt n k base gn gk go gp (fun b => (L b ∨ okb b) ∨ OkN wr W b) rows W := (h.p.more (fun b hb => hb.imp_right (fun h2 => h2.1))).below hb
theorem Lo.own (h : Lo n k base gn gk go gp L okb v bl w rows wr) (hs : Kd.S (Kd.slice 3 (Kd.int .i64)) 32 W wr.heap.size (fun _ => True) u nb) : Kd.S (Kd.slice 3 (Kd.int .i64)) 32 W base (OkN wr W) u nb := Kd.S_lower (Kd.S_mono (Kd.S_bound hs) (fun b hb => ⟨hb.2.1, hb.2.2.1⟩)) h.p.size
theorem Lo.apart (h : Lo n k base gn gk go gp L okb v bl w rows wr) (hL : ∀ b, L b → b < w.heap.size) (hO : ∀ b, okb b → b < w.heap.size) : ∀ b, OkN wr W b → base ≤ b ∧ b < W.heap.size ∧ ¬ (L b ∨ okb b) ∧ b ≠ gn ∧ b ≠ gk ∧ b ≠ go ∧ b ≠ gp := by
  intro b hb
  obtain ⟨x, h1, h2⟩ := h.p.o
  have s0 := h.s.kept.1
  have s1 := h.p.size
  have s2 := blk_lt h.p.n
  have s3 := blk_lt h.p.k
  have s4 := blk_lt h1
  have s5 := blk_lt h.p.f
  have s6 := hb.1
  refine ⟨by omega, hb.2, fun h3 => ?_, by omega, by omega, by omega, by omega⟩
  rcases h3 with h3 | h3
  · have := hL b h3; omega
  · have := hO b h3; omega
theorem Lo.back (h : Lo n k base gn gk go gp L okb v bl w rows wr) (hb : Below wr.heap.size wr W) (hO : ∀ b, okb b → b ≠ go) (hp : PSt n k base gn gk go gp (fun b => L b ∨ okb b) more W2)
    (hs : Still (fun b => b = go ∨ OkP base (fun b => (L b ∨ okb b) ∨ OkN wr W b) gn gk go gp b) W W2) : Lo n k base gn gk go gp L okb v bl w more W2 := by
  refine ⟨hp, ?_, (h.below hb).s.trans hs (fun b h2 => .inl (h2.imp_right (fun h3 => ⟨h3.1, fun h4 => h3.2.1 (.inl h4), h3.2.2⟩)))⟩
  exact Kd.S_kept (h.below hb).b hs.kept (fun b h1 h2 => h2.elim (hO b h1) (fun h3 => h3.2.1 (.inl (.inr h1))))
end
end Go.Proofs.Ytlkfmoleehmgcaa.Put
end
section
namespace Go.Proofs.Ytlkfmoleehmgcaa.Q
open Go.RowKit Go.Proofs.YtlkfmoleehmgcaaW.PrintWords Go.Proofs.YtlkfmoleehmgcaaW.PrintLast Go.Proofs.YtlkfmoleehmgcaaW.PrintMore
attribute [local go_sem] max2_int min2_int max_two min_two max_three min_three max_four min_four   -- for this text's walks alone
set_option linter.unusedVariables false
set_option linter.unusedSimpArgs false
def spec_l1Own.f (l0 : List Int) : Option (List Int) := (some (([] : List Int) : List Int)).bind fun y101 => (if y101.length + l0.length < 17592186044416 then (some (y101 ++ l0)) else (none))
set_option maxHeartbeats 8000000 in
set_option maxRecDepth 100000 in
theorem spec_l1Own.calls (A0 : Option Addr) (c0 : Nat) (l0 : List Int) (r : List Int) (w : World) (hr0 : Kd.C (Kd.int .i64) w A0 l0.length l0) (hc0 : l0.length ≤ c0) (h : spec_l1Own.f l0 = some r) :
    Calls Try.prog 17 #[.slice A0 l0.length c0] w fun e w' => ∃ v0_ : Value, e = .returned (v0_) ∧ Kd.R (Kd.int .i64) 3 w' w.heap.size (fun _ => True) v0_ r ∧ Below w.heap.size w w' := by
  have HR0 := Aside0.mk hr0
  have HC0 := Aside0.mk hc0
  clear hr0 hc0
  have HB := Aside0.mk (Below.refl w.heap.size w)
  have H : ((some (([] : List Int) : List Int)).bind fun y101 => (if y101.length + l0.length < 17592186044416 then (some (y101 ++ l0)) else (none))) = some r := h
  clear h
  obtain ⟨y101, hy101⟩ : ∃ y_ : List Int, y_ = (([] : List Int)) := ⟨_, rfl⟩
  replace H : (if y101.length + l0.length < 17592186044416 then (some (y101 ++ l0)) else (none)) = some r := by first | (rw [hy101]; with_reducible exact H) | (have H2_ := (Option.bind_some _ _).symm.trans H; rw [hy101]; with_reducible exact H2_) | (have H2_ := (Option.bind_some _ _).symm.trans H; with_reducible exact H2_) | with_reducible exact H | (rw [hy101]; exact H) | exact H
  have Ny101 := Aside0.mk hy101
  clear hy101
  by_cases c2 : y101.length + l0.length < 17592186044416
  · rw [if_pos c2] at H
    have LMc2 := Aside0.mk c2
    clear c2
    obtain ⟨y104, hy104⟩ : ∃ y_ : List Int, y_ = (y101 ++ l0) := ⟨_, rfl⟩
    replace H : (some y104) = some r := by first | (rw [hy104]; with_reducible exact H) | (have H2_ := (Option.bind_some _ _).symm.trans H; rw [hy104]; with_reducible exact H2_) | (have H2_ := (Option.bind_some _ _).symm.trans H; with_reducible exact H2_) | with_reducible exact H | (rw [hy104]; exact H) | exact H
    have Ny104 := Aside0.mk hy104
    clear hy104
    obtain rfl := Option.some.inj H
    go_enter Try.func17, Try.ntmps17
    go_wp2_with (first | ((with_reducible refine gate_dst (N := 3) rfl ?_); refine Kd.R_lit (Kd.int .i64) _ 3 ?hg (N := 3) ?hd (xs := ([] : List Int)) (inner := []) (ok := fun _ => True) (okp := fun _ => True) ?hr ?hp (fun _ hk => hk) trivial (Below.refl _ _) (Nat.le_refl _) (by simp) ?_; (case hd => rfl); (case hg => rfl); (case hr => first | (go_simp; done) | (go_simp; rfl)); (case hp => exact (Reps.none _ _)); intro v102 w3 ho4 hb hg_ hnew_; clear hg_ hnew_; (first | rw [← Ny101.out] at ho4 | (simp only [Int.reduceToNat] at ho4; rw [← Ny101.out] at ho4)); have n0_ := Aside0.mk (Kd.R_lower ho4 (below_size (by repeat (first | (with_reducible first | exact HB.out | apply below_alloc | apply pw_below_drewN | apply below_drew1) | exact HB.out)))); have n1_ := Aside0.mk (below_step (by repeat (first | (with_reducible first | exact HB.out | apply below_alloc | apply pw_below_drewN | apply below_drew1) | exact HB.out)) hb); clear HB; have HO103 := n0_; have HB := n1_; clear n0_ n1_; clear hb ho4) | ((with_reducible refine gate_builtin (b := .append) (xs := #[.tmp 3, .tmp 4]) rfl ?_); at_builtin; refine Kd.R_append_rows (Kd.int .i64) (w0 := w) w.heap.size rfl (.tmp 3) (.tmp 4) 32 3 (.int .i64 0) 8 rfl Try.underlying32 info3 rfl (by decide) (by omega) v102 y101 l0 _ _ _ (fun _ => True) (fun _ => False) rfl rfl ?aO ?aR (fun _ _ h => h) (fun _ h => h.elim) ?aF ?aB ?aS ?aL ?_; (case aR => repeat (first | exact (Kd.C_below HR0.out HB.out) | (with_reducible refine Kd.C_alloc ?_ _) | (with_reducible refine Kd.C_drewN ?_ _) | (with_reducible refine Kd.C_drew ?_))); (case aB => exact (by repeat (first | (with_reducible first | exact HB.out | apply below_alloc | apply pw_below_drewN | apply below_drew1) | exact HB.out))); (case aF => exact (fun _ _ => trivial)); (case aO => exact (by (with_reducible repeat (first | apply Kd.R_alloc | apply Kd.R_drewN | apply Kd.R_drew)); exact HO103.out)); (case aS => exact (below_size (by repeat (first | (with_reducible first | exact HB.out | apply below_alloc | apply pw_below_drewN | apply below_drew1) | exact HB.out)))); (case aL => have := LMc2.out; omega); intro v105 w5 ho hb hg hat; rw [← Ny104.out] at ho; have n0_ := Aside0.mk (hb); have n1_ := Aside0.mk (ho); clear HB; clear HO103; have HB := n0_; have HO106 := n1_; clear n0_ n1_; clear ho hb hg hat))
    go_ret
    exact ⟨_, by first | rfl | (simp [errW_none, errW_some] <;> rfl) | (simp [*, errW_none, errW_some] <;> rfl), by (with_reducible repeat (first | apply Kd.R_alloc | apply Kd.R_drewN | apply Kd.R_drew)); exact HO106.out, by repeat (first | (with_reducible first | exact HB.out | apply below_alloc | apply pw_below_drewN | apply below_drew1) | exact HB.out)⟩
  · rw [if_neg c2] at H
    exact absurd H (by simp)
end Go.Proofs.Ytlkfmoleehmgcaa.Q
end
section
namespace Go.Proofs.Ytlkfmoleehmgcaa.Q
open Go.RowKit Go.Proofs.YtlkfmoleehmgcaaW.PrintWords Go.Proofs.YtlkfmoleehmgcaaW.PrintLast Go.Proofs.YtlkfmoleehmgcaaW.PrintMore
attribute [local go_sem] max2_int min2_int max_two min_two max_three min_three max_four min_four   -- for this text's walks alone
set_option linter.unusedVariables false
set_option linter.unusedSimpArgs false
def spec_l1Most.f (a0 : Int) (a1 : Int) : Option (Int) := if a0 > a1 then (some a0) else (some a1)
set_option maxHeartbeats 8000000 in
set_option maxRecDepth 100000 in
theorem spec_l1Most.calls0 (a0 : Int) (a1 : Int) (r : Int) (w : World) (h : spec_l1Most.f a0 a1 = some r) :
    Calls Try.prog 18 #[.int .i64 a0, .int .i64 a1] w fun e w' => e = .returned (.int .i64 r) ∧ w = w' := by
  have H : (if a0 > a1 then (some a0) else (some a1)) = some r := h
  clear h
  by_cases c3 : a0 > a1
  · rw [if_pos c3] at H
    have c3b0 : decide (a1 < a0) = true := decide_eq_true c3
    clear c3
    obtain rfl := Option.some.inj H
    go_enter Try.func18, Try.ntmps18
    go_wp2
    go_ret
    exact ⟨by first | rfl | (simp; done) | (simp [*]; done), rfl⟩
  · rw [if_neg c3] at H
    have c3b0 : decide (a1 < a0) = false := decide_eq_false c3
    clear c3
    obtain rfl := Option.some.inj H
    go_enter Try.func18, Try.ntmps18
    go_wp2
    go_ret
    exact ⟨by first | rfl | (simp; done) | (simp [*]; done), rfl⟩
end Go.Proofs.Ytlkfmoleehmgcaa.Q
end
section
namespace Go.Proofs.Ytlkfmoleehmgcaa.Put
set_option linter.unusedVariables false
set_option linter.unusedSectionVars false
open Go.RowKit Go.Proofs.Ytlkfmoleehmgcaa.Q Go.Proofs.YtlkfmoleehmgcaaW.PrintWords Go.Proofs.YtlkfmoleehmgcaaW.PrintLast Go.Proofs.YtlkfmoleehmgcaaW.PrintMore
open Go.Proofs.YtlkfmoleehmgcaaL Go.Proofs.Ytlkfmoleehmgcaa.Sl
def putB (bl : List (List Int)) (b x : Nat) : List (List Int) := bl.set b (bl.getD b [] ++ [(x : Int)])
def blocksF (k : Nat) (idx : List Int) : Nat → List (List Int)
  | 0 => List.replicate k []
  | x + 1 => putB (blocksF k idx x) (idx.getD x 0).toNat x
def fiS (k : Nat) : Nat → List Int → Nat → List (List (List Int))
  | 0, idx, used => if used < k then [] else [blocksF k idx idx.length]
  | d + 1, idx, used => upF (fun b => fiS k d (idx ++ [(b : Int)]) (max used (b + 1))) (min (used + 1) k)
theorem blocksF_len (k : Nat) (idx : List Int) : ∀ x, (blocksF k idx x).length = k
  | 0 => List.length_replicate ..
  | x + 1 => by rw [blocksF, putB, List.length_set, blocksF_len k idx x]
theorem blocksF_in (k : Nat) (idx : List Int) : ∀ x, ∀ b, ((blocksF k idx x).getD b []).length ≤ x
  | 0, b => by
    rw [blocksF]
    by_cases h : b < k
    · rw [gD_lt _ _ (by rw [List.length_replicate]; exact h), List.getElem_replicate]; exact Nat.le_refl _
    · rw [List.getD_eq_getElem?_getD, List.getElem?_eq_none (by rw [List.length_replicate]; omega)]; exact Nat.le_refl _
  | x + 1, b => by
    have ih := blocksF_in k idx x
    rw [blocksF, putB]
    by_cases h : (idx.getD x 0).toNat = b
    · by_cases h2 : b < (blocksF k idx x).length
      · rw [List.getD_eq_getElem?_getD, h, List.getElem?_set_self h2, Option.getD_some, List.length_append, List.length_singleton]
        have := ih b
        omega
      · rw [List.getD_eq_getElem?_getD, List.getElem?_eq_none (by rw [List.length_set]; omega)]; exact Nat.zero_le _
    · rw [List.getD_eq_getElem?_getD, List.getElem?_set_ne h, ← List.getD_eq_getElem?_getD]
      have := ih b
      omega
theorem R_rows {α : Type} {d : Kd α} {e : Nat} {W : World} {base n c : Nat} {ok : Nat → Prop} {A : Option Addr} {ys : List α} (h : d.R e W base ok (.slice A n c) ys) : ReadsRow (d.M W base ok) d.sz W A n ys := by
  obtain ⟨A2, c2, e2, hl, hr⟩ := OwnRow.reads h.2
  injection e2 with e2 e3 e4
  subst e2; subst e3
  exact hr.imp_ (Below.refl _ _) (fun _ _ hp => d.M_mono (fun _ hk => hk.1) hp)
theorem R_append_own {P : Program} {ops : Array Oper} {rest : List Oper} {o : Oper} {a : Act} {Q : Exit → Act → World → Prop} {α : Type} (d : Kd α) {w0 W : World} (base base2 : Nat) (hgd : o.guard = none) (s x : Operand) (t e : TypeId) (z : Value) (bytes : Nat)
    (ho : o.op = .call { callee := .builtin .append, args := #[s, x], argTypes := #[t, t] })
    (ht : P.underlying t = some (.slice e)) (hinfo : (P.info? e).map (fun i => (i.zero, i.size, i.bytes)) = some (some z, d.sz, bytes)) (hz : z.cells.size = d.sz) (hs0 : 0 < d.sz) (hb0 : 0 < bytes)
    (v : Value) (xs ys : List α) (A : Option Addr) (m c : Nat) (hs : a.eval s = v) (hx : a.eval x = .slice A m c)
    (HO : d.R e W base (fun _ => True) v xs) (HR : d.R e W base2 (fun _ => True) (.slice A m c) ys) (hle : base ≤ base2) (hv : ∀ k, v.ownBlock = some k → k < base2)
    (HB : Below base w0 W) (hbase : base ≤ W.heap.size) (hl : (xs.length + m) * bytes ≤ 140737488355328)
    (h : ∀ v1 w1, d.R e w1 base (fun _ => True) v1 (xs ++ ys) → Below base w0 w1 → wpList P ops Q rest (a.put o.dst v1) w1) : wpList P ops Q (o :: rest) a W :=
  Kd.R_append_rows d base hgd s x t e z bytes ho ht hinfo hz hs0 hb0 v xs ys A m c (fun _ => True) (fun k => base2 ≤ k) hs hx HO (R_rows HR) (fun x cs hM => d.M_lower hle (d.M_mono (fun k hk => hk.2.1) (d.M_bound hM))) (fun k hk => ⟨trivial, fun he => by have := hv k he.symm; omega⟩) (fun _ _ => trivial) HB hbase hl (fun v1 w1 hr hb _ _ => h v1 w1 hr hb)
set_option maxHeartbeats 8000000 in
set_option maxRecDepth 100000 in
theorem fi_leaf (nI kI usedI : Int) (idx : List Int) (A : Option Addr) (c : Nat) (used k : Nat) (w : World) (hk : kI = k) (hu : usedI = used) (hn : nI = (idx.length : Int)) (h5 : idx.length ≤ 5) (k1 : 1 ≤ k) (k5 : k ≤ 5) (hx : ∀ x ∈ idx, 0 ≤ x ∧ x < k)
    (hC : Kd.C (Kd.int .i64) w A idx.length idx) (hc : idx.length ≤ c) :
    Calls Try.prog 10 #[.int .i64 nI, .int .i64 kI, .slice A idx.length c, .int .i64 usedI] w fun e w' => ∃ v, e = .returned v ∧ Kd.R (Kd.slice 32 (Kd.slice 3 (Kd.int .i64))) 31 w' w.heap.size (fun _ => True) v (fiS k 0 idx used) ∧ Below w.heap.size w w' := by
  have e0 : ((idx.length : Int) == nI) = true := beq_iff_eq.mpr (by omega)
  rw [fiS]
  by_cases c0 : used < k
  · have e1 : decide (usedI < kI) = true := decide_eq_true (by omega)
    rw [if_pos c0]
    clear hC hc hx hk hu hn c0
    go_enter Try.func10, Try.ntmps10
    go_wp2
    go_ret
    exact ⟨_, rfl, Kd.R_nil _ _ _ _ _, (by repeat (first | (with_reducible first | exact (Below.refl _ _) | apply below_alloc | apply pw_below_drewN | apply below_drew1) | exact (Below.refl _ _)))⟩
  · have e1 : decide (usedI < kI) = false := decide_eq_false (by omega)
    rw [if_neg c0]
    have HC := Aside0.mk hC
    have HK := Aside0.mk (And.intro hk (And.intro k1 k5))
    have H5 := Aside0.mk h5
    have HX := Lib.hid (fun (x : Nat) (h : x < idx.length) => hx _ (List.getElem_mem h))
    have p1 := Aside0.mk (show 0 ≤ kI by omega)
    have p2 := Aside0.mk (show kI.toNat * 24 ≤ 281474976710656 by omega)
    have p3 := Aside0.mk (show kI.toNat = k by omega)
    clear hC hc hx hk hu hn c0 k1 k5 h5
    go_enter Try.func10, Try.ntmps10
    go_wp2_with (first
      | ((with_reducible refine gate_dst (N := 22) rfl ?_); refine Kd.S_make (Kd.slice 3 (Kd.int .i64)) (w0 := w) w.heap.size 32 rfl (N := 22) rfl 31 _ _ rfl kI rfl rfl Try.underlying31 (.slice none 0 0) 24 info32 rfl (by decide) (by omega) ([] : List Int) (ok := fun _ => True) (okp := fun _ => True) ⟨_, rfl, Kd.R_nil _ _ _ _ _⟩ (fun _ hk => hk) trivial p1.out p2.out (by repeat (first | (with_reducible first | exact (Below.refl _ _) | apply below_alloc | apply pw_below_drewN | apply below_drew1) | exact (Below.refl _ _))) (Nat.le_refl _) ?_; intro v3 w3 ho3 hb hg_ hnew_; clear hg_ hnew_; rw [p3.out] at ho3; obtain ⟨g, cp, hv3, hga, hga2, cells3, hc3⟩ := Kd.S_form ho3 (by rw [List.length_replicate]; exact HK.out.2.1); rw [List.length_replicate] at hv3; subst hv3; clear hga hga2 hc3; have O3 := Aside0.mk ho3; have B3 := Aside0.mk hb; clear ho3 hb))
    go_loopg [25] idx.length (fun kq v25 w' => ∃ (x : Nat), v25 = .int .i64 (x : Int) ∧ Aside0 (x + kq = idx.length) ∧ Aside0 (Kd.S (Kd.slice 3 (Kd.int .i64)) 32 w' w.heap.size (fun _ => True) (.slice (some ⟨g, 0, none⟩) k cp) (blocksF k idx x)) ∧ Aside0 (Below w.heap.size w w'))
    case atStart => exact ⟨0, rfl, ⟨by omega⟩, O3, B3⟩
    case round =>
      clear O3 B3
      obtain ⟨x, rfl, HJ, HN, HB⟩ := hrel
      by_cases c2 : x < idx.length
      · have c2b : decide ((x : Int) < (idx.length : Int)) = true := decide_eq_true (by omega)
        cases gk with
        | zero => exact absurd c2 (by have := HJ.out; omega)
        | succ k2 =>
          obtain ⟨ad, eA, hx0⟩ := Kd.at_int (Kd.C_below HC.out HB.out) (x : Int) (by omega) (by omega)
          subst eA
          rw [Int.toNat_natCast, rd_lt _ _ c2] at hx0
          have hxb := HX.out x c2
          obtain ⟨bn, hbn⟩ : ∃ bn : Nat, idx[x] = (bn : Int) := ⟨idx[x].toNat, by omega⟩
          rw [hbn] at hx0 hxb
          have HS1 := Aside0.mk (show blocksF k idx (x + 1) = (blocksF k idx x).set bn ((blocksF k idx x).getD bn [] ++ [(x : Int)]) by rw [blocksF, putB, gD_lt _ _ c2, hbn]; rfl)
          have HXW := Aside0.mk (show wrap64 ((x : Int) + 1) = ((x + 1 : Nat) : Int) by have h2 := H5.out; rw [w64 (by omega) (by omega)]; rfl)
          have HL := Aside0.mk (show (blocksF k idx x).length = k from blocksF_len k idx x)
          have HBN := Aside0.mk (show bn < k by omega)
          have p4 := eq_true (show (0 : Int) ≤ (x : Int) by omega)
          have p5 := eq_true (show (x : Int) < (idx.length : Int) by omega)
          have q1 := eq_true (show (0 : Int) ≤ (bn : Int) by omega)
          have q2 := eq_true (show (bn : Int) < (k : Int) by omega)
          have q3 := eq_true (show bn < k by omega)
          obtain ⟨oki, cs, hcl, hM, hcell, hfr, hoki, hH⟩ := Kd.S_elem HN.out [] (bn : Int) (by omega) (by omega)
          obtain ⟨vi, rfl, hR⟩ := hM
          obtain ⟨row2, hrow2⟩ : ∃ row2, row2 = (blocksF k idx x).getD (bn : Int).toNat [] := ⟨_, rfl⟩
          rw [← hrow2] at hR
          obtain ⟨Ai, ci, rfl⟩ := Kd.R_slice hR
          have hc0 : wr.cell? ⟨g, bn, none⟩ = some (.slice Ai row2.length ci) := (by have := hcell 0 _ rfl; simpa [Kd.slice, Nat.mul_one] using this)
          have HRi := Aside0.mk hR
          have HHo := Aside0.mk (Kd.H_widen hH)
          have HR2 := Aside0.mk (show (blocksF k idx x).getD bn [] = row2 by rw [hrow2, Int.toNat_natCast])
          have HR5 := Aside0.mk (show row2.length ≤ 5 by have h1 := blocksF_in k idx x bn; rw [HR2.out] at h1; have := H5.out; omega)
          clear hcl hcell hfr hoki hH hR hrow2 hxb hbn c2
          go_wp2_with (first
            | ((with_reducible refine gate_builtin (b := .append) (xs := #[.tmp 35, .tmp 37]) rfl ?_); at_builtin; refine Kd.R_append (Kd.int .i64) (w0 := w) w.heap.size rfl (.tmp 35) (.tmp 37) 32 3 (.int .i64 0) 8 rfl Try.underlying32 info3 rfl (by decide) (by omega) (.slice Ai row2.length ci) row2 (x : Int) [.int .i64 (x : Int)] (fun k_ => oki k_ ∨ wr.heap.size ≤ k_) (fun _ => False) rfl rfl ?bP (fun _ h => h.elim) ?bF ?bO ?bB ?bS ?bL ?_;
               (case bP => exact rfl); (case bF => exact fun k_ hk_ => .inr hk_); (case bO => exact (by (with_reducible repeat (first | apply Kd.R_alloc | apply Kd.R_drewN | apply Kd.R_drew)); exact Kd.R_mono HRi.out (fun _ h => .inl h))); (case bB => exact (by repeat (first | (with_reducible first | exact HB.out | apply below_alloc | apply pw_below_drewN | apply below_drew1) | exact HB.out))); (case bS => exact HB.out.size); (case bL => have := HR5.out; omega);
               intro v6 w6 hr6 hb6 hg6 hat6; obtain ⟨A6, c6, hv6⟩ := Kd.R_slice hr6; obtain ⟨m6, hm6⟩ : ∃ m, m = (row2 ++ [(x : Int)]).length := ⟨_, rfl⟩; rw [← hm6] at hv6; subst hv6; have HR6 := Aside0.mk hr6; have HB6 := Aside0.mk hb6; have HH6 := Aside0.mk (Kd.H_grown (by (with_reducible repeat (first | apply Kd.H_alloc | apply Kd.H_drewN | apply Kd.H_drew)); exact HHo.out) hg6 (fun k_ hk_ => Or.inl (HRi.out.1 k_ hk_))); have HE6 := Aside0.mk (Kd.H_at HH6.out (by omega) (by have := HBN.out; omega)); have hc6 : w6.cell? ⟨g, bn, none⟩ = some (.slice Ai row2.length ci) := (by have := HE6.out.1 0 _ rfl; simpa [Kd.slice, Nat.mul_one] using this); clear hr6 hb6 hg6 hat6 hm6)
            | ((with_reducible refine gate_store (t := 32) (p := 39) rfl ?_); refine Kd.H_store (Kd.slice 3 (Kd.int .i64)) (w0 := w) w.heap.size rfl rfl 32 (.tmp 39) (.tmp 38) rfl 32 (g := g) (n := k) (cap := cp) (o' := bn) (bn : Int) 0 (blocksF k idx x) (row2 ++ [(x : Int)]) (.slice A6 m6 c6) [.slice A6 m6 c6] [.slice Ai row2.length ci] (fun _ => True) (fun k_ => oki k_ ∨ True ∧ wr.heap.size ≤ k_) (fun k_ => oki k_ ∨ wr.heap.size ≤ k_) rfl ?hoff rfl rfl ?ht ?hone ?hH ?h0 ?hi (Nat.le_refl 1) ?hM ?hokp ?hB ?_;
               (case hoff => (show bn = (bn : Int).toNat * 1 + 0); omega); (case ht => exact size32); (case hone => exact fun q hq => (by rw [List.mem_singleton.1 hq]; rfl)); (case hH => exact (by (with_reducible repeat (first | apply Kd.H_alloc | apply Kd.H_drewN | apply Kd.H_drew)); exact HH6.out)); (case h0 => omega); (case hi => have := HBN.out; omega); (case hM => exact ⟨_, rfl, (by (with_reducible repeat (first | apply Kd.R_alloc | apply Kd.R_drewN | apply Kd.R_drew)); exact HR6.out)⟩); (case hokp => exact fun k_ hk_ => hk_.imp_right (fun h => ⟨trivial, h⟩)); (case hB => exact (by repeat (first | (with_reducible first | exact HB6.out | apply below_alloc | apply pw_below_drewN | apply below_drew1) | exact HB6.out)));
               intro w7 hs7 hb7 hg7; rw [Int.toNat_natCast, ← HR2.out, ← HS1.out] at hs7; have HN7 := Aside0.mk hs7; have HB7 := Aside0.mk hb7; clear hs7 hb7 hg7 HHo HRi HH6 HE6 HR6 HB6))
          go_roundg k2
          case measure => omega
          case rel => exact ⟨x + 1, (by first | exact congrArg (Value.int .i64) HXW.out | (rw [HXW.out]) | rfl), ⟨by have := HJ.out; omega⟩, ⟨(by (with_reducible repeat (first | apply Kd.S_alloc | apply Kd.S_drewN | apply Kd.S_drew)); exact HN7.out)⟩, ⟨(by repeat (first | (with_reducible first | exact HB7.out | apply below_alloc | apply pw_below_drewN | apply below_drew1) | exact HB7.out))⟩⟩
      · have hxe : x = idx.length := by have := HJ.out; omega
        subst hxe
        have c2b : decide ((idx.length : Int) < (idx.length : Int)) = false := decide_eq_false (by omega)
        have HLN := Aside0.mk (show (blocksF k idx idx.length).length = k from blocksF_len k idx _)
        clear c2
        go_wp2_with (first
          | ((with_reducible refine gate_dst (N := 42) rfl ?_); refine Kd.R_lit (Kd.slice 32 (Kd.slice 3 (Kd.int .i64))) (w0 := w) w.heap.size 31 ?hg (N := 42) ?hd (xs := [blocksF k idx idx.length]) (inner := [.slice (some ⟨g, 0, none⟩) k cp]) (ok := fun _ => True) (okp := fun _ => True) ?hr ?hp (fun _ hk => hk) trivial ?hB ?hs (by simp) ?_; (case hd => rfl); (case hg => rfl); (case hr => first | (go_simp; done) | (go_simp; rfl)); (case hp => exact Reps.one ⟨_, rfl, Kd.S_R (by (with_reducible repeat (first | apply Kd.S_alloc | apply Kd.S_drewN | apply Kd.S_drew)); exact HN.out)⟩ (Reps.none _ _)); (case hB => exact (by repeat (first | (with_reducible first | exact HB.out | apply below_alloc | apply pw_below_drewN | apply below_drew1) | exact HB.out))); (case hs => exact HB.out.size); intro v8 w8 ho8 hb8 hg_ hnew_; clear hg_ hnew_; have O8 := Aside0.mk ho8; have B8 := Aside0.mk hb8; clear ho8 hb8))
        go_ret
        exact ⟨_, rfl, (by (with_reducible repeat (first | apply Kd.R_alloc | apply Kd.R_drewN | apply Kd.R_drew)); exact O8.out), (by repeat (first | (with_reducible first | exact B8.out | apply below_alloc | apply pw_below_drewN | apply below_drew1) | exact B8.out))⟩
set_option maxHeartbeats 8000000 in
set_option maxRecDepth 100000 in
theorem fi_calls : ∀ (d : Nat) (nI kI usedI : Int) (idx : List Int) (A : Option Addr) (c : Nat) (used k : Nat) (w : World), kI = k → usedI = used → nI = ((idx.length + d : Nat) : Int) → idx.length + d ≤ 5 → 1 ≤ k → k ≤ 5 → used ≤ 5 → (∀ x ∈ idx, 0 ≤ x ∧ x < k) → (fiS k d idx used).length ≤ 1000000 →
    Kd.C (Kd.int .i64) w A idx.length idx → idx.length ≤ c →
    Calls Try.prog 10 #[.int .i64 nI, .int .i64 kI, .slice A idx.length c, .int .i64 usedI] w fun e w' => ∃ v, e = .returned v ∧ Kd.R (Kd.slice 32 (Kd.slice 3 (Kd.int .i64))) 31 w' w.heap.size (fun _ => True) v (fiS k d idx used) ∧ Below w.heap.size w w'
  | 0, nI, kI, usedI, idx, A, c, used, k, w, hk, hu, hn, h5, k1, k5, u5, hx, hlen, hC, hc => fi_leaf nI kI usedI idx A c used k w hk hu hn h5 k1 k5 hx hC hc
  | d + 1, nI, kI, usedI, idx, A, c, used, k, w, hk, hu, hn, h5, k1, k5, u5, hx, hlen, hC, hc => by
    have IH := Lib.hid (fun (b : Nat) (hb : b < k) (A2 : Option Addr) (c2 : Nat) (W : World) (hl : (fiS k d (idx ++ [(b : Int)]) (max used (b + 1))).length ≤ 1000000) (hC2 : Kd.C (Kd.int .i64) W A2 (idx ++ [(b : Int)]).length (idx ++ [(b : Int)])) (hc2 : (idx ++ [(b : Int)]).length ≤ c2) =>
      fi_calls d nI kI ((max used (b + 1) : Nat) : Int) (idx ++ [(b : Int)]) A2 c2 (max used (b + 1)) k W hk rfl (by rw [hn, List.length_append, List.length_singleton]; congr 1; omega) (by rw [List.length_append, List.length_singleton]; omega) k1 k5 (by omega)
        (fun x hx2 => by rw [List.mem_append, List.mem_singleton] at hx2; rcases hx2 with hx2 | hx2; (· exact hx x hx2); (· omega)) hl hC2 hc2)
    obtain ⟨F, hF⟩ : ∃ F : Nat → List (List (List Int)), F = fun (b : Nat) => fiS k d (idx ++ [(b : Int)]) (max used (b + 1)) := ⟨_, rfl⟩
    rw [fiS, ← hF] at hlen ⊢
    have HF := Lib.hid (fun j => congrFun hF j)
    have e0 : ((idx.length : Int) == nI) = false := beq_eq_false_iff_ne.mpr (by omega)
    have HC := Aside0.mk hC
    have HCc := Aside0.mk hc
    have HKU := Aside0.mk (And.intro hk hu)
    have H5 := Aside0.mk (show idx.length ≤ 5 ∧ k ≤ 5 ∧ used ≤ 5 by omega)
    have HLEN := Aside0.mk hlen
    clear fi_calls hk hu hn h5 k1 k5 u5 hx hlen hC hc hF
    go_enter Try.func10, Try.ntmps10
    go_wp2
    go_loopg [12, 13] (min (used + 1) k) (fun kq v12 v13 w' => ∃ (b : Nat), v13 = .int .i64 (b : Int) ∧ Aside0 (b + kq = min (used + 1) k) ∧ Aside0 (Kd.R (Kd.slice 32 (Kd.slice 3 (Kd.int .i64))) 31 w' w.heap.size (fun _ => True) v12 (upF F b)) ∧ Aside0 (Below w.heap.size w w'))
    case atStart => exact ⟨0, rfl, ⟨by omega⟩, ⟨Kd.R_nil _ _ _ _ _⟩, ⟨(by repeat (first | (with_reducible first | exact (Below.refl _ _) | apply below_alloc | apply pw_below_drewN | apply below_drew1) | exact (Below.refl _ _)))⟩⟩
    case round =>
      obtain ⟨b, rfl, HJ, HOb, HB⟩ := hrel
      by_cases c1 : b < min (used + 1) k
      · have c1a : decide ((b : Int) ≤ usedI) = true := decide_eq_true (by have := HKU.out; omega)
        have c1b : decide ((b : Int) < kI) = true := decide_eq_true (by have := HKU.out; omega)
        cases gk with
        | zero => exact absurd c1 (by have := HJ.out; omega)
        | succ k2 =>
          have HUP := Aside0.mk (show (upF F b).length + (F b).length ≤ 1000000 by
            have h1 := upF_le F (b + 1) (min (used + 1) k - (b + 1))
            rw [show b + 1 + (min (used + 1) k - (b + 1)) = min (used + 1) k by omega, upF, List.length_append] at h1
            have := HLEN.out
            omega)
          have HBW := Aside0.mk (show wrap64 ((b : Int) + 1) = ((b + 1 : Nat) : Int) by have := H5.out; rw [w64 (by omega) (by omega)]; rfl)
          have HBK := Aside0.mk (show b < k by omega)
          have MO := Lib.hid (fun (W : World) => spec_l1Most.calls0 usedI (wrap64 ((b : Int) + 1)) ((max used (b + 1) : Nat) : Int) W (by
            rw [spec_l1Most.f, HBW.out, HKU.out.2]
            by_cases h : (used : Int) > ((b + 1 : Nat) : Int)
            · rw [if_pos h]; congr 2; omega
            · rw [if_neg h]; congr 2; omega))
          have CC := Lib.hid (fun (W : World) (hb : Below wr.heap.size wr W) => by
            have := spec_l1Own.calls A c idx idx W (Kd.C_below HC.out (below_step HB.out hb)) HCc.out (by rw [spec_l1Own.f, Option.bind_some, List.length_nil, if_pos (by have := H5.out; omega), List.nil_append])
            have h2 : Calls Try.prog 17 #[.slice A idx.length c] W fun e w' => ∃ v0_ : Value, e = .returned v0_ ∧ Kd.R (Kd.int .i64) 3 w' wr.heap.size (fun _ => True) v0_ idx ∧ Below wr.heap.size wr w' := this.mono (by rintro e w' ⟨v0, rfl, h3, h4⟩; exact ⟨v0, rfl, Kd.R_lower h3 hb.size, hb.trans (h4.mono hb.size)⟩)
            exact h2)
          have IX := Lib.hid (fun (W : World) (A4 : Option Addr) (m4 c4 : Nat) (hm : m4 = (idx ++ [(b : Int)]).length) (hr : Kd.R (Kd.int .i64) 3 W wr.heap.size (fun _ => True) (.slice A4 m4 c4) (idx ++ [(b : Int)])) (hb : Below wr.heap.size wr W) => (by
            subst hm
            have h1 := HUP.out
            have := IH.out b HBK.out A4 c4 W (by rw [← HF.out b]; omega) (Kd.R_reads' hr).2.2 (Kd.R_reads' hr).2.1
            rw [← HF.out b] at this
            exact this.mono (by rintro e w' ⟨v0, rfl, h3, h4⟩; exact ⟨v0, rfl, Kd.R_lower h3 hb.size, hb.trans (h4.mono hb.size)⟩) :
            Calls Try.prog 10 #[.int .i64 nI, .int .i64 kI, .slice A4 m4 c4, .int .i64 ((max used (b + 1) : Nat) : Int)] W fun e w' => ∃ v, e = .returned v ∧ Kd.R (Kd.slice 32 (Kd.slice 3 (Kd.int .i64))) 31 w' wr.heap.size (fun _ => True) v (F b) ∧ Below wr.heap.size wr w'))
          obtain ⟨mx_, hmx⟩ : ∃ z : Int, z = ((max used (b + 1) : Nat) : Int) := ⟨_, rfl⟩
          rw [← hmx] at MO IX
          clear c1 hmx
          go_wp2_with (first
            | (go_at_call 17; (with_reducible refine (CC.out _ ?cc).mono ?_); (case cc => exact (by repeat (first | (with_reducible first | exact (Below.refl _ _) | apply below_alloc | apply pw_below_drewN | apply below_drew1) | exact (Below.refl _ _)))); rintro e w3 ⟨v3, rfl, ho3, hb⟩; obtain ⟨A3, c3, rfl⟩ := Kd.R_slice ho3; have B3 := Aside0.mk hb; have H3 := Aside0.mk ho3; clear ho3 hb)
            | ((with_reducible refine gate_builtin (b := .append) (xs := #[.tmp 57, .tmp 59]) rfl ?_); at_builtin; refine Kd.R_append (Kd.int .i64) (w0 := wr) wr.heap.size rfl (.tmp 57) (.tmp 59) 32 3 (.int .i64 0) 8 rfl Try.underlying32 info3 rfl (by decide) (by omega) (.slice A3 idx.length c3) idx (b : Int) [.int .i64 (b : Int)] (fun _ => True) (fun _ => False) rfl rfl ?aP (fun _ h => h.elim) (fun _ _ => trivial) ?aO ?aB ?aS ?aL ?_;
               (case aP => exact rfl); (case aO => exact (by (with_reducible repeat (first | apply Kd.R_alloc | apply Kd.R_drewN | apply Kd.R_drew)); exact H3.out)); (case aB => exact (by repeat (first | (with_reducible first | exact B3.out | apply below_alloc | apply pw_below_drewN | apply below_drew1) | exact B3.out))); (case aS => exact B3.out.size); (case aL => have := H5.out; omega);
               intro v4 w4 hr4 hb4 hg4 hat4; obtain ⟨A4, c4, hv4⟩ := Kd.R_slice hr4; obtain ⟨m4, hm4⟩ : ∃ m, m = (idx ++ [(b : Int)]).length := ⟨_, rfl⟩; rw [← hm4] at hv4; subst hv4; have H4 := Aside0.mk hr4; have B4 := Aside0.mk hb4; have M4 := Aside0.mk hm4; clear hr4 hb4 hg4 hat4 hm4)
            | (go_at_call 18; (with_reducible refine (MO.out _).mono ?_); rintro e w' ⟨rfl, rfl⟩)
            | (go_at_call 10; (with_reducible refine (IX.out _ A4 m4 c4 M4.out ?ia ?ib).mono ?_); (case ia => exact (by (with_reducible repeat (first | apply Kd.R_alloc | apply Kd.R_drewN | apply Kd.R_drew)); exact H4.out)); (case ib => exact (by repeat (first | (with_reducible first | exact B4.out | apply below_alloc | apply pw_below_drewN | apply below_drew1) | exact B4.out))); rintro e w5 ⟨v5, rfl, ho5, hb⟩; obtain ⟨A5, c5, rfl⟩ := Kd.R_slice ho5; have H55 := Aside0.mk ho5; have B5 := Aside0.mk hb; have O5 := Aside0.mk (Kd.R_below HOb.out hb); clear ho5 hb)
            | ((with_reducible refine gate_builtin (b := .append) (xs := #[.tmp 53, .tmp 65]) rfl ?_); at_builtin; refine R_append_own (Kd.slice 32 (Kd.slice 3 (Kd.int .i64))) (w0 := w) w.heap.size wr.heap.size rfl (.tmp 53) (.tmp 65) 22 31 (.slice none 0 0) 24 rfl Try.underlying22 info31 rfl (by decide) (by omega) u12 (upF F b) (F b) A5 (F b).length c5 rfl rfl ?rO ?rR HB.out.size ?rp ?rB ?rS ?rL ?_;
               (case rO => exact (by (with_reducible repeat (first | apply Kd.R_alloc | apply Kd.R_drewN | apply Kd.R_drew)); exact O5.out)); (case rR => exact (by (with_reducible repeat (first | apply Kd.R_alloc | apply Kd.R_drewN | apply Kd.R_drew)); exact H55.out)); (case rp => exact fun k_ hk_ => Kd.R_lt HOb.out k_ hk_); (case rB => exact below_step HB.out (by repeat (first | (with_reducible first | exact B5.out | apply below_alloc | apply pw_below_drewN | apply below_drew1) | exact B5.out))); (case rS => exact Nat.le_trans HB.out.size B5.out.size); (case rL => have := HUP.out; omega);
               intro v6 w6 hr6 hb6; have O6 := Aside0.mk (show Kd.R (Kd.slice 32 (Kd.slice 3 (Kd.int .i64))) 31 w6 w.heap.size (fun _ => True) v6 (upF F (b + 1)) from hr6); have B6 := Aside0.mk hb6; clear hr6 hb6))
          go_roundg k2
          case measure => omega
          case rel => exact ⟨b + 1, (by first | exact congrArg (Value.int .i64) HBW.out | (rw [HBW.out]) | rfl), ⟨by have := HJ.out; omega⟩, ⟨(by (with_reducible repeat (first | apply Kd.R_alloc | apply Kd.R_drewN | apply Kd.R_drew)); exact O6.out)⟩, ⟨(by repeat (first | (with_reducible first | exact B6.out | apply below_alloc | apply pw_below_drewN | apply below_drew1) | exact B6.out))⟩⟩
      · have hbe : b = min (used + 1) k := by have := HJ.out; omega
        by_cases c3 : used < k
        · have c3a : decide ((b : Int) ≤ usedI) = false := decide_eq_false (by have := HKU.out; omega)
          have HBE := Aside0.mk hbe
          clear c1 c3 hbe
          go_wp2
          go_ret
          exact ⟨_, rfl, by rw [← HBE.out]; exact (by (with_reducible repeat (first | apply Kd.R_alloc | apply Kd.R_drewN | apply Kd.R_drew)); exact HOb.out), (by repeat (first | (with_reducible first | exact HB.out | apply below_alloc | apply pw_below_drewN | apply below_drew1) | exact HB.out))⟩
        · have c3a : decide ((b : Int) ≤ usedI) = true := decide_eq_true (by have := HKU.out; omega)
          have c3b : decide ((b : Int) < kI) = false := decide_eq_false (by have := HKU.out; omega)
          have HBE := Aside0.mk hbe
          clear c1 c3 hbe
          go_wp2
          go_ret
          exact ⟨_, rfl, by rw [← HBE.out]; exact (by (with_reducible repeat (first | apply Kd.R_alloc | apply Kd.R_drewN | apply Kd.R_drew)); exact HOb.out), (by repeat (first | (with_reducible first | exact HB.out | apply below_alloc | apply pw_below_drewN | apply below_drew1) | exact HB.out))⟩
end Go.Proofs.Ytlkfmoleehmgcaa.Put
end
section
namespace Go.Proofs.Ytlkfmoleehmgcaa.Put
set_option linter.unusedVariables false
set_option linter.unusedSectionVars false
open Go.RowKit Go.Proofs.Ytlkfmoleehmgcaa.Q Go.Proofs.YtlkfmoleehmgcaaW.PrintWords Go.Proofs.YtlkfmoleehmgcaaW.PrintLast Go.Proofs.YtlkfmoleehmgcaaW.PrintMore
open Go.Proofs.YtlkfmoleehmgcaaL Go.Proofs.Ytlkfmoleehmgcaa.Sl
theorem run_store_func {P : Program} {w : World} {a : Addr} {m : Mode} (f : Fn) (xs : Array Value) (ys : Array Value) : (store a (.func f xs ys) m).run P w = stored P w a (.func f xs ys) m := run_store P w a _ m rfl
attribute [local go_sem] run_store_func
section
variable (n k : Int) (kN base gn gk_ go gp : Nat) (hk : k = kN)
include hk
set_option maxHeartbeats 4000000 in
set_option maxRecDepth 100000 in
theorem leaf_take (bl : List (List Int)) (A : Option Addr) (c : Nat) (L okb : Nat → Prop) (rows : List (List (List Int))) (w : World) (hbk : bl.length = kN) (hr : rows.length ≤ 1000000)
    (hp : PSt n k base gn gk_ go gp (fun b => L b ∨ okb b) rows w) (hb : Kd.S (Kd.slice 3 (Kd.int .i64)) 32 w base okb (.slice A bl.length c) bl)
    (hO : ∀ b, okb b → base ≤ b ∧ b < w.heap.size ∧ ¬ L b ∧ b ≠ gn ∧ b ≠ gk_ ∧ b ≠ go ∧ b ≠ gp) (hL : ∀ b, L b → b < w.heap.size) :
    Calls Try.prog 12 #[.int .i64 n, .slice A bl.length c, .pointer (some ⟨gn, 0, none⟩), .pointer (some ⟨gk_, 0, none⟩), .pointer (some ⟨go, 0, none⟩), .pointer (some ⟨gp, 0, none⟩)] w fun e w' => e = .returned (.tuple #[]) ∧
      PSt n k base gn gk_ go gp L (rows ++ [bl]) w' ∧ Still (fun b => b = go ∨ OkP base (fun b => L b ∨ okb b) gn gk_ go gp b) w w' := by
  obtain ⟨v, ho1, ho2⟩ := hp.o
  obtain ⟨Ao, co, hv⟩ := Kd.S_slice ho2
  have hown := (Kd.S_R ho2).1
  have hz1 : w.cell? ⟨gn, 0, none⟩ = some (.int .i64 n) := (blk_cell hp.n 0).trans rfl
  have hz2 : w.cell? ⟨gk_, 0, none⟩ = some (.int .i64 k) := (blk_cell hp.k 0).trans rfl
  have hz3 : w.cell? ⟨go, 0, none⟩ = some v := (blk_cell ho1 0).trans rfl
  have hf3 : w.frozen? ⟨go, 0, none⟩ = false := blk_frozen ho1 0
  have HLT := Aside0.mk (And.intro (blk_lt hp.n) (And.intro (blk_lt hp.k) (And.intro (blk_lt ho1) (blk_lt hp.f))))
  have HGO := Aside0.mk ho1
  have HS := Aside0.mk ho2
  have HW := Lib.hid hown
  have HP := Aside0.mk hp
  have HB := Aside0.mk hb
  have HO := Lib.hid hO
  have HL := Lib.hid hL
  have HR := Aside0.mk hr
  have HBS := Aside0.mk hp.size
  have e0 : (n == n) = true := beq_self_eq_true n
  have e1 : ((bl.length : Int) == k) = true := beq_iff_eq.mpr (by omega)
  clear hp hb hO hL hr ho1 ho2 hown hbk hk
  subst hv
  go_enter Try.func12, Try.ntmps12
  go_wp2_with (first
    | ((with_reducible refine gate_builtin (b := .append) (xs := #[.tmp 19, .tmp 21]) rfl ?_); at_builtin; refine Kd.S_append (sl 32 (Kd.slice 3 (Kd.int .i64))) (w0 := w) base rfl (.tmp 19) (.tmp 21) 22 31 (.slice none 0 0) 24 rfl Try.underlying22 info31 rfl (by decide) (by omega) (.slice Ao rows.length co) rows bl [.slice A bl.length c] (OkP base L gn gk_ go gp) okb rfl rfl ?aP ?aK ?aF ?aO ?aB ?aS ?aL ?_;
       (case aP => exact ⟨_, rfl, (by (with_reducible repeat (first | apply Kd.S_alloc | apply Kd.S_drewN | apply Kd.S_drew)); exact HB.out)⟩);
       (case aK => exact fun b hb => ⟨⟨(HO.out b hb).1, (HO.out b hb).2.2.1, (HO.out b hb).2.2.2⟩, fun he => (HW.out b he.symm).2.1 (.inr hb)⟩);
       (case aF => exact fun b hb => (have hb2 : w.heap.size ≤ b := hb; have h1 := HLT.out; have h2 := HBS.out; ⟨by omega, fun h3 => (have := HL.out b h3; by omega), by omega, by omega, by omega, by omega⟩));
       (case aO => ((with_reducible repeat (first | apply Kd.S_alloc | apply Kd.S_drewN | apply Kd.S_drew)); exact Kd.S_mono HS.out (fun b hb => ⟨⟨hb.1, fun h => hb.2.1 (.inl h), hb.2.2⟩, fun h => hb.2.1 (.inr h)⟩)));
       (case aB => exact (by repeat (first | (with_reducible first | exact (Below.refl _ _) | apply below_alloc | apply pw_below_drewN | apply below_drew1) | exact (Below.refl _ _))));
       (case aS => exact HBS.out); (case aL => have := HR.out; omega);
       intro v4 w4 hs4 hb4 hg4 hat4; obtain ⟨A4, c4, hv4⟩ := Kd.S_slice hs4; obtain ⟨m4, hm4⟩ : ∃ m, m = (rows ++ [bl]).length := ⟨_, rfl⟩; rw [← hm4] at hv4; subst hv4;
       have K4 := Aside0.mk (blk_grown (g := go) (o := .cells #[.slice Ao rows.length co] 22 (0, 0)) (by (with_reducible repeat (first | refine blk_drewN ?_ _ | refine blk_drew ?_ | refine blk_alloc ?_ _)); exact HGO.out) hg4 (fun he => (HW.out go he.symm).2.2.2.2.1 rfl));
       have S4 := Aside0.mk hs4; have B4 := Aside0.mk hb4; have G4 := Aside0.mk hg4; have hz9 : w4.cell? ⟨go, 0, none⟩ = some (.slice Ao rows.length co) := (blk_cell K4.out 0).trans rfl; have hf9 : w4.frozen? ⟨go, 0, none⟩ = false := blk_frozen K4.out 0; clear hs4 hb4 hg4 hat4 hm4))
  first | go_end0 | ((try simp only [Exit.inBlock, Exit.then]); refine bodyPost_ret (results_none rfl _ _ _) rfl ?_)
  exact ⟨rfl, PSt.leaf HP.out HGO.out (fun b hb => HW.out b hb) (by repeat (first | (with_reducible first | exact (Below.refl _ _) | apply below_alloc | apply pw_below_drewN | apply below_drew1) | exact (Below.refl _ _))) S4.out G4.out⟩
set_option maxHeartbeats 4000000 in
set_option maxRecDepth 100000 in
theorem leaf_skip (bl : List (List Int)) (A : Option Addr) (c : Nat) (L okb : Nat → Prop) (rows : List (List (List Int))) (w : World) (hbk : bl.length ≠ kN)
    (hp : PSt n k base gn gk_ go gp (fun b => L b ∨ okb b) rows w) :
    Calls Try.prog 12 #[.int .i64 n, .slice A bl.length c, .pointer (some ⟨gn, 0, none⟩), .pointer (some ⟨gk_, 0, none⟩), .pointer (some ⟨go, 0, none⟩), .pointer (some ⟨gp, 0, none⟩)] w fun e w' => e = .returned (.tuple #[]) ∧
      PSt n k base gn gk_ go gp L rows w' ∧ Still (fun b => b = go ∨ OkP base (fun b => L b ∨ okb b) gn gk_ go gp b) w w' := by
  have hz1 : w.cell? ⟨gn, 0, none⟩ = some (.int .i64 n) := (blk_cell hp.n 0).trans rfl
  have hz2 : w.cell? ⟨gk_, 0, none⟩ = some (.int .i64 k) := (blk_cell hp.k 0).trans rfl
  have FIN := Lib.hid (fun (w' : World) (hB : Below w.heap.size w w') => And.intro (show PSt n k base gn gk_ go gp L rows w' from (hp.below hB).mono (fun b h => Or.inl h)) (show Still (fun b => b = go ∨ OkP base (fun b => L b ∨ okb b) gn gk_ go gp b) w w' from Still.of_below hB))
  have e0 : (n == n) = true := beq_self_eq_true n
  have e1 : ((bl.length : Int) == k) = false := beq_eq_false_iff_ne.mpr (by omega)
  clear hp hbk hk
  go_enter Try.func12, Try.ntmps12
  go_wp2
  first | go_end0 | ((try simp only [Exit.inBlock, Exit.then]); refine bodyPost_ret (results_none rfl _ _ _) rfl ?_)
  exact ⟨rfl, FIN.out _ (by repeat (first | (with_reducible first | exact (Below.refl _ _) | apply below_alloc | apply pw_below_drewN | apply below_drew1) | exact (Below.refl _ _)))⟩
set_option maxHeartbeats 16000000 in
set_option maxRecDepth 100000 in
theorem put_calls : ∀ (d i : Nat) (iI : Int) (bl : List (List Int)) (A : Option Addr) (c : Nat) (L okb : Nat → Prop) (rows : List (List (List Int))) (w : World), iI = i → n = ((i + d : Nat) : Int) → i + d ≤ 5 → bl.length ≤ i → (∀ x ∈ bl, x.length ≤ i) → rows.length + (putS kN d i bl).length ≤ 1000000 →
    PSt n k base gn gk_ go gp (fun b => L b ∨ okb b) rows w → Kd.S (Kd.slice 3 (Kd.int .i64)) 32 w base okb (.slice A bl.length c) bl →
    (∀ b, okb b → base ≤ b ∧ b < w.heap.size ∧ ¬ L b ∧ b ≠ gn ∧ b ≠ gk_ ∧ b ≠ go ∧ b ≠ gp) → (∀ b, L b → b < w.heap.size) →
    Calls Try.prog 12 #[.int .i64 iI, .slice A bl.length c, .pointer (some ⟨gn, 0, none⟩), .pointer (some ⟨gk_, 0, none⟩), .pointer (some ⟨go, 0, none⟩), .pointer (some ⟨gp, 0, none⟩)] w fun e w' => e = .returned (.tuple #[]) ∧
      PSt n k base gn gk_ go gp L (rows ++ putS kN d i bl) w' ∧ Still (fun b => b = go ∨ OkP base (fun b => L b ∨ okb b) gn gk_ go gp b) w w'
  | 0, i, iI, bl, A, c, L, okb, rows, w, hi, hn, h5, hbl, hbx, hlen, hp, hb, hO, hL => by
    have e : iI = n := by omega
    subst e
    by_cases hbk : bl.length = kN
    · rw [putS, if_pos hbk] at hlen ⊢
      exact leaf_take iI k kN base gn gk_ go gp hk bl A c L okb rows w hbk (by omega) hp hb hO hL
    · rw [putS, if_neg hbk, List.append_nil]
      exact leaf_skip iI k kN base gn gk_ go gp hk bl A c L okb rows w hbk hp
  | d + 1, i, iI, bl, A, c, L, okb, rows, w, hi, hn, h5, hbl, hbx, hlen, hp, hb, hO, hL => by
    have IH := Lib.hid (fun (bl2 : List (List Int)) (A2 : Option Addr) (c2 : Nat) (L2 okb2 : Nat → Prop) (rows2 : List (List (List Int))) (w2 : World) (hl2 : bl2.length ≤ i + 1) (hx2 : ∀ x ∈ bl2, x.length ≤ i + 1) (hlen2 : rows2.length + (putS kN d (i + 1) bl2).length ≤ 1000000) (hp2 : PSt n k base gn gk_ go gp (fun b => L2 b ∨ okb2 b) rows2 w2) (hb2 : Kd.S (Kd.slice 3 (Kd.int .i64)) 32 w2 base okb2 (.slice A2 bl2.length c2) bl2)
      (hO2 : ∀ b, okb2 b → base ≤ b ∧ b < w2.heap.size ∧ ¬ L2 b ∧ b ≠ gn ∧ b ≠ gk_ ∧ b ≠ go ∧ b ≠ gp) (hL2 : ∀ b, L2 b → b < w2.heap.size) => put_calls d (i + 1) (wrap64 (iI + 1)) bl2 A2 c2 L2 okb2 rows2 w2 (by rw [hi, w64 (by omega) (by omega)]; rfl) (by omega) (by omega) hl2 hx2 hlen2 hp2 hb2 hO2 hL2)
    obtain ⟨F, hF⟩ : ∃ F : Nat → List (List (List Int)), F = fun j => putS kN d (i + 1) (nextB bl j i) := ⟨_, rfl⟩
    rw [putS, ← hF] at hlen ⊢
    have HF := Lib.hid (fun j => congrFun hF j)
    have e0 : (iI == n) = false := beq_eq_false_iff_ne.mpr (by omega)
    have hz1 : w.cell? ⟨gn, 0, none⟩ = some (.int .i64 n) := (blk_cell hp.n 0).trans rfl
    have LO := Aside0.mk (Lo.mk hp hb (Still.refl _ _) : Lo n k base gn gk_ go gp L okb (.slice A bl.length c) bl w rows w)
    have HO := Lib.hid hO
    have HL := Lib.hid hL
    have HI := Aside0.mk hi
    have HBL := Aside0.mk (show bl.length ≤ i ∧ i ≤ 5 by omega)
    have HBX := Lib.hid hbx
    have HLEN := Aside0.mk hlen
    have W1 := Aside0.mk (show wrap64 ((bl.length : Int) + 1) = ((bl.length + 1 : Nat) : Int) by rw [w64 (by omega) (by omega)]; rfl)
    clear put_calls hi hn h5 hbl hbx hlen hp hb hO hL hF hk
    go_enter Try.func12, Try.ntmps12
    go_wp2
    go_loopg [26] (bl.length + 1) (fun kq v26 w' => ∃ (j : Nat), v26 = .int .i64 (j : Int) ∧ Aside0 (j + kq = bl.length + 1) ∧ Aside0 (Lo n k base gn gk_ go gp L okb (.slice A bl.length c) bl w (rows ++ upF F j) w'))
    case atStart => exact ⟨0, rfl, ⟨by omega⟩, by simpa [upF] using LO⟩
    case round =>
      clear LO hz1
      obtain ⟨j, rfl, HJ, HLo⟩ := hrel
      obtain ⟨w1, hw1⟩ : ∃ W : World, W = wr := ⟨_, rfl⟩
      subst hw1
      by_cases c1 : j ≤ bl.length
      · have c1b : decide ((j : Int) < wrap64 ((bl.length : Int) + 1)) = true := decide_eq_true (by have := W1.out; omega)
        cases gk with
        | zero => exact absurd c1 (by have := HJ.out; omega)
        | succ k1 =>
          have C1 := Aside0.mk c1
          have NXL := Aside0.mk (nx_len c1)
          have NXB := Lib.hid (fun (z : Nat) => (by
            have h1 := nextB_in (j := j) (i := i) HBX.out
            have h2 := HBL.out
            by_cases hz : z < (nx bl j).length
            · have h3 : (nx bl j).getD z [] = (nx bl j)[z] := gD_lt _ _ hz
              rw [h3]
              have h4 : ∀ x ∈ nx bl j, x.length ≤ i := fun x hx => by
                unfold nx at hx
                by_cases h : j = bl.length
                · rw [if_pos h, List.mem_append, List.mem_singleton] at hx
                  rcases hx with hx | hx
                  · exact HBX.out x hx
                  · rw [hx]; exact Nat.zero_le _
                · rw [if_neg h] at hx; exact HBX.out x hx
              have := h4 _ (List.getElem_mem hz)
              omega
            · have h3 : (nx bl j).getD z [] = [] := by simp [List.getD, List.getElem?_eq_none (Nat.le_of_not_lt hz)]
              rw [h3, List.length_nil]; exact Nat.zero_le _ : ((nx bl j).getD z []).length ≤ 5))
          have HJW := Aside0.mk (show wrap64 ((j : Int) + 1) = ((j + 1 : Nat) : Int) by have h2 := HBL.out; rw [w64 (by omega) (by omega)]; rfl)
          have KEY := Lib.hid (fun (W : World) (g cap : Nat) (hb : Below w1.heap.size w1 W) (hs : Kd.S (Kd.slice 3 (Kd.int .i64)) 32 W w1.heap.size (fun _ => True) (.slice (some ⟨g, 0, none⟩) (nx bl j).length cap) (nextB bl j i)) => (by
            have h2 := HBL.out
            have h3 := NXL.out
            have h4 := upF_le F (j + 1) (bl.length - j)
            rw [show j + 1 + (bl.length - j) = bl.length + 1 by omega, upF, List.length_append, HF.out j] at h4
            have h5 := HLEN.out
            have hC := IH.out (nextB bl j i) (some ⟨g, 0, none⟩) cap (fun b => L b ∨ okb b) (OkN w1 W) (rows ++ upF F j) W (by rw [nextB_len]; omega) (nextB_in HBX.out) (by rw [List.length_append]; omega) (HLo.out.call hb) (by rw [nextB_len]; exact HLo.out.own hs)
              (HLo.out.apart HL.out (fun b hb => (HO.out b hb).2.1)) (fun b hb2 => by have s0 := HLo.out.s.kept.1; have s1 := hb.size; rcases hb2 with hb2 | hb2; (· have := HL.out b hb2; omega); (· have := (HO.out b hb2).2.1; omega))
            rw [nextB_len] at hC
            refine hC.mono ?_
            rintro e w8 ⟨rfl, hp8, hs8⟩
            refine ⟨rfl, ?_⟩
            have hL := HLo.out.back hb (fun b hb => (HO.out b hb).2.2.2.2.2.1) hp8 hs8
            rw [List.append_assoc, ← HF.out j] at hL
            exact hL : Calls Try.prog 12 #[.int .i64 (wrap64 (iI + 1)), .slice (some ⟨g, 0, none⟩) (nx bl j).length cap, .pointer (some ⟨gn, 0, none⟩), .pointer (some ⟨gk_, 0, none⟩), .pointer (some ⟨go, 0, none⟩), .pointer (some ⟨gp, 0, none⟩)] W fun e w' => e = .returned (.tuple #[]) ∧ Lo n k base gn gk_ go gp L okb (.slice A bl.length c) bl w (rows ++ upF F (j + 1)) w'))
          clear c1
          go_wp2_with (first
            | ((with_reducible refine gate_dst (N := 29) rfl ?_); refine Kd.S_lit (Kd.slice 3 (Kd.int .i64)) _ 32 ?hg (N := 29) ?hd (xs := ([] : List (List Int))) (inner := []) (ok := fun _ => True) (okp := fun _ => True) ?hr ?hp (fun _ hk => hk) trivial (Below.refl _ _) (Nat.le_refl _) (by simp) ?_; (case hd => rfl); (case hg => rfl); (case hr => first | (go_simp; done) | (go_simp; rfl)); (case hp => exact (Reps.none _ _)); intro v5 w5 ho5 hb hg_ hnew_; clear hg_ hnew_; have O5 := Aside0.mk (show Kd.S (Kd.slice 3 (Kd.int .i64)) 32 w5 w1.heap.size (fun _ => True) v5 [] from ho5); have B5 := Aside0.mk (below_step (by repeat (first | (with_reducible first | exact (Below.refl _ _) | apply below_alloc | apply pw_below_drewN | apply below_drew1) | exact (Below.refl _ _)) : Below w1.heap.size w1 _) hb); clear ho5 hb))
          go_loopg [9, 32] bl.length (fun kq v9 v32 w' => ∃ (x : Nat), v32 = .int .i64 (x : Int) ∧ Aside0 (x + kq = bl.length) ∧ Aside0 (Kd.S (Kd.slice 3 (Kd.int .i64)) 32 w' w1.heap.size (fun _ => True) v9 (bl.take x)) ∧ Aside0 (Below w1.heap.size w1 w'))
          case atStart => exact ⟨0, rfl, ⟨by omega⟩, ⟨by simpa using O5.out⟩, B5⟩
          case round =>
            clear O5 B5
            obtain ⟨x, rfl, HX, H9, HB9⟩ := hrel
            by_cases c2 : x < bl.length
            · have c2b : decide ((x : Int) < (bl.length : Int)) = true := decide_eq_true (by omega)
              cases gk with
              | zero => exact absurd c2 (by have := HX.out; omega)
              | succ k2 =>
                have hC := (Kd.S_reads' (HLo.out.below HB9.out).b).2.2
                have p2 := eq_true (show (0 : Int) ≤ (x : Int) by omega)
                have p3 := eq_true (show (x : Int) < (bl.length : Int) by omega)
                obtain ⟨ad, A0, c0, eA, hx0, hl0, hi0⟩ := at_L1 hC (x : Int) (by omega) (by omega)
                subst eA
                rw [Int.toNat_natCast] at hx0
                have erow : rd_L1 bl (x : Int) = bl[x] := by unfold rd_L1; rw [Int.toNat_natCast]; exact gD_lt _ _ c2
                obtain ⟨row, hrow⟩ : ∃ row, row = rd_L1 bl (x : Int) := ⟨_, rfl⟩
                rw [← hrow] at hx0 hl0 hi0 erow
                have hrl : row.length ≤ 5 := by have h1 := HBX.out bl[x] (List.getElem_mem c2); have h2 := HBL.out; rw [erow]; omega
                have CC := Lib.hid (fun (W : World) (hb : Below wr.heap.size wr W) => by
                  have := slices_Clone_int_int.calls A0 c0 row row W (Kd.C_below hi0 hb) hl0 (by rw [slices_Clone_int_int.f, if_pos (by omega)])
                  have h2 : Calls Try.prog 13 #[.slice A0 row.length c0] W fun e w' => ∃ v0_ : Value, e = .returned v0_ ∧ Kd.R (Kd.int .i64) 3 w' wr.heap.size (fun _ => True) v0_ row ∧ Below wr.heap.size wr w' := this.mono (by rintro e w' ⟨v0, rfl, h3, h4⟩; exact ⟨v0, rfl, Kd.R_lower h3 hb.size, hb.trans (h4.mono hb.size)⟩)
                  exact h2)
                have HTK := Aside0.mk (show bl.take (x + 1) = bl.take x ++ [row] by rw [List.take_succ_eq_append_getElem c2, erow])
                have HTL := Aside0.mk (show (bl.take x).length ≤ 5 by have h2 := HBL.out; rw [List.length_take]; omega)
                have HXW := Aside0.mk (show wrap64 ((x : Int) + 1) = ((x + 1 : Nat) : Int) by have h2 := HBL.out; rw [w64 (by omega) (by omega)]; rfl)
                clear hC hl0 hi0 erow hrow hrl c2
                go_wp2_with (first
                  | (go_at_call 13; refine (CC.out _ (by repeat (first | (with_reducible first | exact (Below.refl _ _) | apply below_alloc | apply pw_below_drewN | apply below_drew1) | exact (Below.refl _ _)))).mono ?_; rintro e w3 ⟨v3, rfl, ho3, hb⟩; obtain ⟨A3, c3, rfl⟩ := Kd.R_slice ho3; have B3 := Aside0.mk hb; have H3 := Aside0.mk ho3; have S3 := Aside0.mk (Kd.S_below (Kd.S_bound H9.out) hb); clear ho3 hb)
                  | ((with_reducible refine gate_builtin (b := .append) (xs := #[.tmp 36, .tmp 39]) rfl ?_); at_builtin; refine Kd.S_append (Kd.slice 3 (Kd.int .i64)) (w0 := w1) w1.heap.size rfl (.tmp 36) (.tmp 39) 31 32 (.slice none 0 0) 24 rfl Try.underlying31 info32 rfl (by decide) (by omega) u9 (bl.take x) row [.slice A3 row.length c3] (fun _ => True) (fun k_ => some k_ = (Value.slice A3 row.length c3).ownBlock) rfl rfl ?aP ?aK (fun _ _ => trivial) ?aO ?aB ?aS ?aL ?_;
                     (case aP => exact ⟨_, rfl, Kd.R_tight rfl (Kd.R_lower (by (with_reducible repeat (first | apply Kd.R_alloc | apply Kd.R_drewN | apply Kd.R_drew)); exact H3.out) HB9.out.size)⟩);
                     (case aK => exact fun k_ hk_ => ⟨trivial, fun he => (by have h1 := Kd.R_base H3.out k_ hk_.symm; have h2 := Kd.S_lt H9.out k_ he.symm; omega)⟩);
                     (case aO => exact Kd.S_mono (by (with_reducible repeat (first | apply Kd.S_alloc | apply Kd.S_drewN | apply Kd.S_drew)); exact S3.out) (fun k_ hk_ => ⟨trivial, fun he => (by have h1 := Kd.R_base H3.out k_ he.symm; have h2 := hk_.2.2.1; omega)⟩));
                     (case aB => exact below_step HB9.out (by repeat (first | (with_reducible first | exact B3.out | apply below_alloc | apply pw_below_drewN | apply below_drew1) | exact B3.out))); (case aS => exact Nat.le_trans HB9.out.size B3.out.size); (case aL => have := HTL.out; omega);
                     intro v4 w4 hs4 hb4 hg4 hat4; rw [← HTK.out] at hs4; have S4 := Aside0.mk hs4; have B4 := Aside0.mk hb4; clear hs4 hb4 hg4 hat4))
                go_roundg k2
                case measure => omega
                case rel => exact ⟨x + 1, (by first | exact congrArg (Value.int .i64) HXW.out | (rw [HXW.out]) | rfl), ⟨by have := HX.out; omega⟩, ⟨(by (with_reducible repeat (first | apply Kd.S_alloc | apply Kd.S_drewN | apply Kd.S_drew)); exact S4.out)⟩, ⟨(by repeat (first | (with_reducible first | exact B4.out | apply below_alloc | apply pw_below_drewN | apply below_drew1) | exact B4.out))⟩⟩
            · have hxe : x = bl.length := by have := HX.out; omega
              subst hxe
              have c2b : decide ((bl.length : Int) < (bl.length : Int)) = false := decide_eq_false (by omega)
              have H10 := Aside0.mk (show Kd.S (Kd.slice 3 (Kd.int .i64)) 32 wr w1.heap.size (fun _ => True) u9 bl from by have := H9.out; rwa [List.take_length] at this)
              clear H9 c2 HX
              by_cases c3 : j = bl.length
              · have c3b : ((j : Int) == (bl.length : Int)) = true := beq_iff_eq.mpr (by omega)
                have C3 := Aside0.mk c3
                clear c3
                go_wp2_with (first
                  | ((with_reducible refine gate_builtin (b := .append) (xs := #[.tmp 46, .tmp 47]) rfl ?_); at_builtin; refine Kd.S_append (Kd.slice 3 (Kd.int .i64)) (w0 := w1) w1.heap.size rfl (.tmp 46) (.tmp 47) 31 32 (.slice none 0 0) 24 rfl Try.underlying31 info32 rfl (by decide) (by omega) u9 bl [] [.slice none 0 0] (fun _ => True) (fun _ => False) rfl rfl ?aP (fun _ h => h.elim) (fun _ _ => trivial) ?aO ?aB ?aS ?aL ?_; (case aP => exact ⟨_, rfl, Kd.R_nil _ _ _ _ _⟩); (case aO => exact Kd.S_mono (by (with_reducible repeat (first | apply Kd.S_alloc | apply Kd.S_drewN | apply Kd.S_drew)); exact H10.out) (fun _ _ => ⟨trivial, fun h => h⟩)); (case aB => exact (by repeat (first | (with_reducible first | exact HB9.out | apply below_alloc | apply pw_below_drewN | apply below_drew1) | exact HB9.out))); (case aS => exact HB9.out.size); (case aL => have := HBL.out; omega); intro v4 w4 hs4 hb4 hg4 hat4; have HN := Aside0.mk (show Kd.S (Kd.slice 3 (Kd.int .i64)) 32 w4 w1.heap.size (fun _ => True) v4 (nx bl j) by unfold nx; rw [if_pos C3.out]; exact hs4); have HBN := Aside0.mk hb4; clear hs4 hb4 hg4 hat4; obtain ⟨g, cap, e9, hg1, hg2, hg3⟩ := Kd.S_form HN.out (by have := NXL.out.1; omega); clear hg1 hg2 hg3; subst e9; obtain ⟨oki, cs, hcl, hM, hcell, hfr, hoki, hH⟩ := Kd.S_elem HN.out [] (j : Int) (by omega) (by have := NXL.out.1; omega); obtain ⟨vi, rfl, hR⟩ := hM; obtain ⟨row2, hrow2⟩ : ∃ row2, row2 = (nx bl j).getD (j : Int).toNat [] := ⟨_, rfl⟩; rw [← hrow2] at hR; obtain ⟨Ai, ci, rfl⟩ := Kd.R_slice hR; have hc0 : w4.cell? ⟨g, j, none⟩ = some (.slice Ai row2.length ci) := (by have := hcell 0 _ rfl; simpa [Kd.slice, Nat.mul_one] using this); have HRi := Aside0.mk hR; have HHo := Aside0.mk (Kd.H_widen hH); have HR2 := Aside0.mk (show (nx bl j).getD j [] = row2 by rw [hrow2, Int.toNat_natCast]); have HB8 := Aside0.mk (show Below w1.heap.size w1 w4 from HBN.out); have q1 := eq_true (show (0 : Int) ≤ (j : Int) by omega); have q2 := eq_true (show (j : Int) < ((nx bl j).length : Int) by have := NXL.out.1; omega); have q3 := eq_true NXL.out.1; have HR5 := Aside0.mk (show row2.length ≤ 5 by rw [← HR2.out]; exact NXB.out j); clear hcl hcell hfr hoki hH hR hrow2)
                  | ((with_reducible refine gate_builtin (b := .append) (xs := #[.tmp 54, .tmp 56]) rfl ?_); at_builtin; refine Kd.R_append (Kd.int .i64) (w0 := w1) w1.heap.size rfl (.tmp 54) (.tmp 56) 32 3 (.int .i64 0) 8 rfl Try.underlying32 info3 rfl (by decide) (by omega) (.slice Ai row2.length ci) row2 iI [.int .i64 iI] (fun k_ => oki k_ ∨ w4.heap.size ≤ k_) (fun _ => False) rfl rfl ?bP (fun _ h => h.elim) ?bF ?bO ?bB ?bS ?bL ?_;
                     (case bP => exact rfl); (case bF => exact fun k_ hk_ => .inr hk_); (case bO => exact (by (with_reducible repeat (first | apply Kd.R_alloc | apply Kd.R_drewN | apply Kd.R_drew)); exact Kd.R_mono HRi.out (fun _ h => .inl h))); (case bB => exact (by repeat (first | (with_reducible first | exact HB8.out | apply below_alloc | apply pw_below_drewN | apply below_drew1) | exact HB8.out))); (case bS => exact HB8.out.size); (case bL => have := HR5.out; omega);
                     intro v6 w6 hr6 hb6 hg6 hat6; obtain ⟨A6, c6, hv6⟩ := Kd.R_slice hr6; obtain ⟨m6, hm6⟩ : ∃ m, m = (row2 ++ [iI]).length := ⟨_, rfl⟩; rw [← hm6] at hv6; subst hv6; have HR6 := Aside0.mk hr6; have HB6 := Aside0.mk hb6; have HH6 := Aside0.mk (Kd.H_grown (by (with_reducible repeat (first | apply Kd.H_alloc | apply Kd.H_drewN | apply Kd.H_drew)); exact HHo.out) hg6 (fun k_ hk_ => Or.inl (HRi.out.1 k_ hk_))); have HE6 := Aside0.mk (Kd.H_at HH6.out (by omega) (by have := NXL.out.1; omega)); have hc6 : w6.cell? ⟨g, j, none⟩ = some (.slice Ai row2.length ci) := (by have := HE6.out.1 0 _ rfl; simpa [Kd.slice, Nat.mul_one] using this); clear hr6 hb6 hg6 hat6 hm6)
                  | ((with_reducible refine gate_store (t := 32) (p := 58) rfl ?_); refine Kd.H_store (Kd.slice 3 (Kd.int .i64)) (w0 := w1) w1.heap.size rfl rfl 32 (.tmp 58) (.tmp 57) rfl 32 (g := g) (n := (nx bl j).length) (cap := cap) (o' := j) (j : Int) 0 (nx bl j) (row2 ++ [iI]) (.slice A6 m6 c6) [.slice A6 m6 c6] [.slice Ai row2.length ci] (fun _ => True) (fun k_ => oki k_ ∨ True ∧ w4.heap.size ≤ k_) (fun k_ => oki k_ ∨ w4.heap.size ≤ k_) rfl ?hoff rfl rfl ?ht ?hone ?hH ?h0 ?hi (Nat.le_refl 1) ?hM ?hokp ?hB ?_;
                     (case hoff => (show j = (j : Int).toNat * 1 + 0); omega); (case ht => exact size32); (case hone => exact fun q hq => (by rw [List.mem_singleton.1 hq]; rfl)); (case hH => exact (by (with_reducible repeat (first | apply Kd.H_alloc | apply Kd.H_drewN | apply Kd.H_drew)); exact HH6.out)); (case h0 => omega); (case hi => have := NXL.out.1; omega); (case hM => exact ⟨_, rfl, (by (with_reducible repeat (first | apply Kd.R_alloc | apply Kd.R_drewN | apply Kd.R_drew)); exact HR6.out)⟩); (case hokp => exact fun k_ hk_ => hk_.imp_right (fun h => ⟨trivial, h⟩)); (case hB => exact (by repeat (first | (with_reducible first | exact HB6.out | apply below_alloc | apply pw_below_drewN | apply below_drew1) | exact HB6.out)));
                     intro w7 hs7 hb7 hg7; rw [show (nx bl j).set (j : Int).toNat (row2 ++ [iI]) = nextB bl j i by rw [Int.toNat_natCast, nextB, HR2.out, HI.out]] at hs7; have HN7 := Aside0.mk hs7; have HB7 := Aside0.mk hb7; clear hs7 hb7 hg7 HHo HRi HH6 HE6 HR6 HB6;
                     have CX := Lib.hid (fun (W : World) (hb : Below w7.heap.size w7 W) => KEY.out W g cap (below_step HB7.out hb) (Kd.S_below HN7.out hb));
                     have hz5 : w7.cell? ⟨gp, 0, none⟩ = some (.func (.func 12) #[] #[.pointer (some ⟨gn, 0, none⟩), .pointer (some ⟨gk_, 0, none⟩), .pointer (some ⟨go, 0, none⟩), .pointer (some ⟨gp, 0, none⟩)]) := (blk_cell (HLo.out.below HB7.out).p.f 0).trans rfl)
                  | (go_at_call 12; refine (CX.out _ (by repeat (first | (with_reducible first | exact (Below.refl _ _) | apply below_alloc | apply pw_below_drewN | apply below_drew1) | exact (Below.refl _ _)))).mono ?_; rintro e w8 ⟨rfl, hlo8⟩; have HLo8 := Aside0.mk hlo8; clear hlo8))
                go_roundg k1
                case measure => omega
                case rel => exact ⟨j + 1, (by first | exact congrArg (Value.int .i64) HJW.out | (rw [HJW.out]) | rfl), ⟨by have := HJ.out; omega⟩, ⟨(by first | exact HLo8.out | exact HLo8.out.below (by repeat (first | (with_reducible first | exact (Below.refl _ _) | apply below_alloc | apply pw_below_drewN | apply below_drew1) | exact (Below.refl _ _))))⟩⟩
              · have c3b : ((j : Int) == (bl.length : Int)) = false := beq_eq_false_iff_ne.mpr (by omega)
                have HN := Aside0.mk (show Kd.S (Kd.slice 3 (Kd.int .i64)) 32 wr w1.heap.size (fun _ => True) u9 (nx bl j) by unfold nx; rw [if_neg c3]; exact H10.out)
                clear c3 H10
                obtain ⟨g, cap, e9, hg1, hg2, hg3⟩ := Kd.S_form HN.out (by have := NXL.out.1; omega)
                clear hg1 hg2 hg3
                subst e9
                obtain ⟨oki, cs, hcl, hM, hcell, hfr, hoki, hH⟩ := Kd.S_elem HN.out [] (j : Int) (by omega) (by have := NXL.out.1; omega)
                obtain ⟨vi, rfl, hR⟩ := hM
                obtain ⟨row2, hrow2⟩ : ∃ row2, row2 = (nx bl j).getD (j : Int).toNat [] := ⟨_, rfl⟩
                rw [← hrow2] at hR
                obtain ⟨Ai, ci, rfl⟩ := Kd.R_slice hR
                have hc0 : wr.cell? ⟨g, j, none⟩ = some (.slice Ai row2.length ci) := (by have := hcell 0 _ rfl; simpa [Kd.slice, Nat.mul_one] using this)
                have HRi := Aside0.mk hR
                have HHo := Aside0.mk (Kd.H_widen hH)
                have HR2 := Aside0.mk (show (nx bl j).getD j [] = row2 by rw [hrow2, Int.toNat_natCast])
                have HB8 := Aside0.mk (show Below w1.heap.size w1 wr from HB9.out)
                have q1 := eq_true (show (0 : Int) ≤ (j : Int) by omega); have q2 := eq_true (show (j : Int) < ((nx bl j).length : Int) by have := NXL.out.1; omega); have q3 := eq_true NXL.out.1
                have HR5 := Aside0.mk (show row2.length ≤ 5 by rw [← HR2.out]; exact NXB.out j)
                clear hcl hcell hfr hoki hH hR hrow2
                go_wp2_with (first
                  | ((with_reducible refine gate_builtin (b := .append) (xs := #[.tmp 54, .tmp 56]) rfl ?_); at_builtin; refine Kd.R_append (Kd.int .i64) (w0 := w1) w1.heap.size rfl (.tmp 54) (.tmp 56) 32 3 (.int .i64 0) 8 rfl Try.underlying32 info3 rfl (by decide) (by omega) (.slice Ai row2.length ci) row2 iI [.int .i64 iI] (fun k_ => oki k_ ∨ wr.heap.size ≤ k_) (fun _ => False) rfl rfl ?bP (fun _ h => h.elim) ?bF ?bO ?bB ?bS ?bL ?_;
                     (case bP => exact rfl); (case bF => exact fun k_ hk_ => .inr hk_); (case bO => exact (by (with_reducible repeat (first | apply Kd.R_alloc | apply Kd.R_drewN | apply Kd.R_drew)); exact Kd.R_mono HRi.out (fun _ h => .inl h))); (case bB => exact (by repeat (first | (with_reducible first | exact HB8.out | apply below_alloc | apply pw_below_drewN | apply below_drew1) | exact HB8.out))); (case bS => exact HB8.out.size); (case bL => have := HR5.out; omega);
                     intro v6 w6 hr6 hb6 hg6 hat6; obtain ⟨A6, c6, hv6⟩ := Kd.R_slice hr6; obtain ⟨m6, hm6⟩ : ∃ m, m = (row2 ++ [iI]).length := ⟨_, rfl⟩; rw [← hm6] at hv6; subst hv6; have HR6 := Aside0.mk hr6; have HB6 := Aside0.mk hb6; have HH6 := Aside0.mk (Kd.H_grown (by (with_reducible repeat (first | apply Kd.H_alloc | apply Kd.H_drewN | apply Kd.H_drew)); exact HHo.out) hg6 (fun k_ hk_ => Or.inl (HRi.out.1 k_ hk_))); have HE6 := Aside0.mk (Kd.H_at HH6.out (by omega) (by have := NXL.out.1; omega)); have hc6 : w6.cell? ⟨g, j, none⟩ = some (.slice Ai row2.length ci) := (by have := HE6.out.1 0 _ rfl; simpa [Kd.slice, Nat.mul_one] using this); clear hr6 hb6 hg6 hat6 hm6)
                  | ((with_reducible refine gate_store (t := 32) (p := 58) rfl ?_); refine Kd.H_store (Kd.slice 3 (Kd.int .i64)) (w0 := w1) w1.heap.size rfl rfl 32 (.tmp 58) (.tmp 57) rfl 32 (g := g) (n := (nx bl j).length) (cap := cap) (o' := j) (j : Int) 0 (nx bl j) (row2 ++ [iI]) (.slice A6 m6 c6) [.slice A6 m6 c6] [.slice Ai row2.length ci] (fun _ => True) (fun k_ => oki k_ ∨ True ∧ wr.heap.size ≤ k_) (fun k_ => oki k_ ∨ wr.heap.size ≤ k_) rfl ?hoff rfl rfl ?ht ?hone ?hH ?h0 ?hi (Nat.le_refl 1) ?hM ?hokp ?hB ?_;
                     (case hoff => (show j = (j : Int).toNat * 1 + 0); omega); (case ht => exact size32); (case hone => exact fun q hq => (by rw [List.mem_singleton.1 hq]; rfl)); (case hH => exact (by (with_reducible repeat (first | apply Kd.H_alloc | apply Kd.H_drewN | apply Kd.H_drew)); exact HH6.out)); (case h0 => omega); (case hi => have := NXL.out.1; omega); (case hM => exact ⟨_, rfl, (by (with_reducible repeat (first | apply Kd.R_alloc | apply Kd.R_drewN | apply Kd.R_drew)); exact HR6.out)⟩); (case hokp => exact fun k_ hk_ => hk_.imp_right (fun h => ⟨trivial, h⟩)); (case hB => exact (by repeat (first | (with_reducible first | exact HB6.out | apply below_alloc | apply pw_below_drewN | apply below_drew1) | exact HB6.out)));
                     intro w7 hs7 hb7 hg7; rw [show (nx bl j).set (j : Int).toNat (row2 ++ [iI]) = nextB bl j i by rw [Int.toNat_natCast, nextB, HR2.out, HI.out]] at hs7; have HN7 := Aside0.mk hs7; have HB7 := Aside0.mk hb7; clear hs7 hb7 hg7 HHo HRi HH6 HE6 HR6 HB6;
                     have CX := Lib.hid (fun (W : World) (hb : Below w7.heap.size w7 W) => KEY.out W g cap (below_step HB7.out hb) (Kd.S_below HN7.out hb));
                     have hz5 : w7.cell? ⟨gp, 0, none⟩ = some (.func (.func 12) #[] #[.pointer (some ⟨gn, 0, none⟩), .pointer (some ⟨gk_, 0, none⟩), .pointer (some ⟨go, 0, none⟩), .pointer (some ⟨gp, 0, none⟩)]) := (blk_cell (HLo.out.below HB7.out).p.f 0).trans rfl)
                  | (go_at_call 12; refine (CX.out _ (by repeat (first | (with_reducible first | exact (Below.refl _ _) | apply below_alloc | apply pw_below_drewN | apply below_drew1) | exact (Below.refl _ _)))).mono ?_; rintro e w8 ⟨rfl, hlo8⟩; have HLo8 := Aside0.mk hlo8; clear hlo8))
                go_roundg k1
                case measure => omega
                case rel => exact ⟨j + 1, (by first | exact congrArg (Value.int .i64) HJW.out | (rw [HJW.out]) | rfl), ⟨by have := HJ.out; omega⟩, ⟨(by first | exact HLo8.out | exact HLo8.out.below (by repeat (first | (with_reducible first | exact (Below.refl _ _) | apply below_alloc | apply pw_below_drewN | apply below_drew1) | exact (Below.refl _ _))))⟩⟩
      · have hje : j = bl.length + 1 := by have := HJ.out; omega
        have c1b : decide ((j : Int) < wrap64 ((bl.length : Int) + 1)) = false := decide_eq_false (by have := W1.out; omega)
        have HJE := Aside0.mk hje
        clear c1 hje
        go_wp2
        refine bodyPost_end (v := .tuple #[]) (results_none rfl _ _ _) rfl ?_
        have FIN := Lib.hid (fun (w' : World) (hB : Below w1.heap.size w1 w') => And.intro ((HLo.out.below hB).p.mono (M := L) (fun b h => Or.inl h)) (HLo.out.below hB).s)
        rw [← HJE.out]
        exact ⟨rfl, FIN.out _ (by repeat (first | (with_reducible first | exact (Below.refl _ _) | apply below_alloc | apply pw_below_drewN | apply below_drew1) | exact (Below.refl _ _)))⟩
end
end Go.Proofs.Ytlkfmoleehmgcaa.Put
end
section
namespace Go.Proofs.Ytlkfmoleehmgcaa.Q
open Go.RowKit Go.Proofs.YtlkfmoleehmgcaaW.PrintWords Go.Proofs.YtlkfmoleehmgcaaW.PrintLast Go.Proofs.YtlkfmoleehmgcaaW.PrintMore
attribute [local go_sem] max2_int min2_int max_two min_two max_three min_three max_four min_four   -- for this text's walks alone
set_option linter.unusedVariables false
set_option linter.unusedSimpArgs false
def impl_within.f (a0 : Int) (a1 : Int) (a2 : Int) : Option (Bool) := if a1 ≤ a0 then (some (decide (a0 ≤ a2))) else (some false)
set_option maxHeartbeats 8000000 in
set_option maxRecDepth 100000 in
theorem impl_within.calls0 (a0 : Int) (a1 : Int) (a2 : Int) (r : Bool) (w : World) (h : impl_within.f a0 a1 a2 = some r) :
    Calls Try.prog 11 #[.int .i64 a0, .int .i64 a1, .int .i64 a2] w fun e w' => e = .returned (.bool r) ∧ w = w' := by
  have H : (if a1 ≤ a0 then (some (decide (a0 ≤ a2))) else (some false)) = some r := h
  clear h
  by_cases c4 : a1 ≤ a0
  · rw [if_pos c4] at H
    have c4b0 : decide (a1 ≤ a0) = true := decide_eq_true c4
    clear c4
    obtain rfl := Option.some.inj H
    go_enter Try.func11, Try.ntmps11
    go_wp2
    go_ret
    exact ⟨by first | rfl | (simp; done) | (simp [*]; done), rfl⟩
  · rw [if_neg c4] at H
    have c4b0 : decide (a1 ≤ a0) = false := decide_eq_false c4
    clear c4
    obtain rfl := Option.some.inj H
    go_enter Try.func11, Try.ntmps11
    go_wp2
    go_ret
    exact ⟨by first | rfl | (simp; done) | (simp [*]; done), rfl⟩
end Go.Proofs.Ytlkfmoleehmgcaa.Q
end
section
namespace Go.Proofs.Ytlkfmoleehmgcaa.Q
open Go.RowKit Go.Proofs.YtlkfmoleehmgcaaW.PrintWords Go.Proofs.YtlkfmoleehmgcaaW.PrintLast Go.Proofs.YtlkfmoleehmgcaaW.PrintMore
attribute [local go_sem] max2_int min2_int max_two min_two max_three min_three max_four min_four   -- for this text's walks alone
set_option linter.unusedVariables false
set_option linter.unusedSimpArgs false
def laws_eqIntS.l0 : Nat → List Int → List Int → Int → Option (Bool)
  | 0, _, _, _ => none
  | k + 1, x0, x1, x5 => if x5 < (x0.length : Int) then (if 0 ≤ x5 then (if x5 < (x1.length : Int) then (if (rd x0 x5) = (rd x1 x5) then (laws_eqIntS.l0 k x0 x1 (wrap64 (x5 + 1))) else (some false)) else (none)) else (none)) else (some true)
def laws_eqIntS.f (k : Nat) (l0 : List Int) (l1 : List Int) : Option (Bool) := if (l0.length : Int) = (l1.length : Int) then (laws_eqIntS.l0 k l0 l1 0) else (some false)
set_option maxHeartbeats 8000000 in
set_option maxRecDepth 100000 in
theorem laws_eqIntS.calls (k : Nat) (A0 : Option Addr) (c0 : Nat) (l0 : List Int) (A1 : Option Addr) (c1 : Nat) (l1 : List Int) (r : Bool) (w : World) (hr0 : Kd.C (Kd.int .i64) w A0 l0.length l0) (hc0 : l0.length ≤ c0) (hr1 : Kd.C (Kd.int .i64) w A1 l1.length l1) (hc1 : l1.length ≤ c1) (h : laws_eqIntS.f k l0 l1 = some r) :
    Calls Try.prog 19 #[.slice A0 l0.length c0, .slice A1 l1.length c1] w fun e w' => e = .returned (.bool r) ∧ Drawn0 w w' := by
  have HR0 := Aside0.mk hr0
  have HC0 := Aside0.mk hc0
  clear hr0 hc0
  have HR1 := Aside0.mk hr1
  have HC1 := Aside0.mk hc1
  clear hr1 hc1
  have H : (if (l0.length : Int) = (l1.length : Int) then (laws_eqIntS.l0 k l0 l1 0) else (some false)) = some r := h
  clear h
  by_cases c3 : (l0.length : Int) = (l1.length : Int)
  · rw [if_pos c3] at H
    have c3b0 : ((l0.length : Int) == (l1.length : Int)) = true := beq_iff_eq.mpr c3
    have c3b1 : ((l0.length : Int) != (l1.length : Int)) = false := bne_eq_false_iff_eq.mpr c3
    have c3b2 : (l0.length == l1.length) = true := by first | simpa using c3 | (simp at c3 ⊢; omega)
    clear c3
    have H' := Aside0.mk H
    clear H
    go_enter Try.func19, Try.ntmps19
    go_wp2
    repeat (go_quiet (fail); try go_wp2)
    go_loopg [5] k (fun kq v5 w' => ∃ (x5_1 : Int), v5 = .int .i64 x5_1 ∧ Aside0 (laws_eqIntS.l0 kq l0 l1 x5_1 = some r) ∧ Aside0 (kq ≤ k) ∧ Drawn0 w w')
    case atStart => exact ⟨(0), (by first | rfl | (simp; done) | (simp [*]; done)), H', ⟨Nat.le_refl _⟩, by repeat (first | exact Drawn0.refl _ | apply Drawn0.step)⟩
    case round =>
      clear H'
      try clear c1
      try clear p2
      try clear c3
      try clear c3b0
      try clear c3b1
      try clear c3b2
      obtain ⟨x5_1, rfl, HA, HK1, ⟨m1, rfl⟩⟩ := hrel
      cases gk with
      | zero => exact absurd HA.out (by simp [laws_eqIntS.l0])
      | succ k1 =>
        have H := HA.out
        clear HA
        simp only [laws_eqIntS.l0] at H
        by_cases c4 : x5_1 < (l0.length : Int)
        · rw [if_pos c4] at H
          have c4b0 : decide (x5_1 < (l0.length : Int)) = true := decide_eq_true c4
          clear c4
          by_cases c5 : 0 ≤ x5_1
          · rw [if_pos c5] at H
            have c5b0 : decide (0 ≤ x5_1) = true := decide_eq_true c5
            clear c5
            by_cases c6 : x5_1 < (l1.length : Int)
            · rw [if_pos c6] at H
              have c6b0 : decide (x5_1 < (l1.length : Int)) = true := decide_eq_true c6
              clear c6
              by_cases c7 : (rd l0 x5_1) = (rd l1 x5_1)
              · rw [if_pos c7] at H
                have c7b0 : ((rd l0 x5_1) == (rd l1 x5_1)) = true := beq_iff_eq.mpr c7
                have c7b1 : ((rd l0 x5_1) != (rd l1 x5_1)) = false := bne_eq_false_iff_eq.mpr c7
                clear c7
                have H' := Aside0.mk H
                clear H
                have p101 : 0 ≤ (x5_1 : Int) := of_decide_eq_true (by first | (with_reducible assumption) | assumption)
                have q101 : x5_1 < (l0.length : Int) := of_decide_eq_true (by first | (with_reducible assumption) | assumption)
                obtain ⟨ad101, e101, hx101_0⟩ := Kd.at_int HR0.out x5_1 p101 q101
                cases e101
                replace p101 := eq_true p101
                replace q101 := eq_true q101
                have p102 : 0 ≤ (x5_1 : Int) := of_decide_eq_true (by first | (with_reducible assumption) | assumption)
                have q102 : x5_1 < (l1.length : Int) := of_decide_eq_true (by first | (with_reducible assumption) | assumption)
                obtain ⟨ad102, e102, hx102_0⟩ := Kd.at_int HR1.out x5_1 p102 q102
                cases e102
                replace p102 := eq_true p102
                replace q102 := eq_true q102
                go_wp2
                repeat (go_quiet (fail); try go_wp2)
                go_roundg k1
                case measure => have := HK1.out; omega
                case rel => exact ⟨(wrap64 (x5_1 + 1)), (by first | rfl | (simp; done) | (simp [*]; done)), H', ⟨by have := HK1.out; omega⟩, by repeat (first | exact Drawn0.refl _ | apply Drawn0.step)⟩
              · rw [if_neg c7] at H
                have c7b0 : ((rd l0 x5_1) == (rd l1 x5_1)) = false := beq_eq_false_iff_ne.mpr c7
                have c7b1 : ((rd l0 x5_1) != (rd l1 x5_1)) = true := bne_iff_ne.mpr c7
                obtain rfl := Option.some.inj H
                have p101 : 0 ≤ (x5_1 : Int) := of_decide_eq_true (by first | (with_reducible assumption) | assumption)
                have q101 : x5_1 < (l0.length : Int) := of_decide_eq_true (by first | (with_reducible assumption) | assumption)
                obtain ⟨ad101, e101, hx101_0⟩ := Kd.at_int HR0.out x5_1 p101 q101
                cases e101
                replace p101 := eq_true p101
                replace q101 := eq_true q101
                have p102 : 0 ≤ (x5_1 : Int) := of_decide_eq_true (by first | (with_reducible assumption) | assumption)
                have q102 : x5_1 < (l1.length : Int) := of_decide_eq_true (by first | (with_reducible assumption) | assumption)
                obtain ⟨ad102, e102, hx102_0⟩ := Kd.at_int HR1.out x5_1 p102 q102
                cases e102
                replace p102 := eq_true p102
                replace q102 := eq_true q102
                go_wp2
                repeat (go_quiet (fail); try go_wp2)
                go_ret
                exact ⟨by first | rfl | (simp; done) | (simp [*]; done), by repeat (first | exact Drawn0.refl _ | apply Drawn0.step)⟩
            · rw [if_neg c6] at H
              exact absurd H (by simp)
          · rw [if_neg c5] at H
            exact absurd H (by simp)
        · rw [if_neg c4] at H
          have c4b0 : decide (x5_1 < (l0.length : Int)) = false := decide_eq_false c4
          clear c4
          obtain rfl := Option.some.inj H
          go_wp2
          repeat (go_quiet (fail); try go_wp2)
          go_ret
          exact ⟨by first | rfl | (simp; done) | (simp [*]; done), by repeat (first | exact Drawn0.refl _ | apply Drawn0.step)⟩
  · rw [if_neg c3] at H
    have c3b0 : ((l0.length : Int) == (l1.length : Int)) = false := beq_eq_false_iff_ne.mpr c3
    have c3b1 : ((l0.length : Int) != (l1.length : Int)) = true := bne_iff_ne.mpr c3
    have c3b2 : (l0.length == l1.length) = false := by first | simpa using c3 | (simp at c3 ⊢; omega)
    obtain rfl := Option.some.inj H
    go_enter Try.func19, Try.ntmps19
    go_wp2
    repeat (go_quiet (fail); try go_wp2)
    go_ret
    exact ⟨by first | rfl | (simp; done) | (simp [*]; done), by repeat (first | exact Drawn0.refl _ | apply Drawn0.step)⟩
end Go.Proofs.Ytlkfmoleehmgcaa.Q
end
section
namespace Go.Proofs.Ytlkfmoleehmgcaa.Q
open Go.RowKit Go.Proofs.YtlkfmoleehmgcaaW.PrintWords Go.Proofs.YtlkfmoleehmgcaaW.PrintLast Go.Proofs.YtlkfmoleehmgcaaW.PrintMore
attribute [local go_sem] max2_int min2_int max_two min_two max_three min_three max_four min_four   -- for this text's walks alone
set_option linter.unusedVariables false
set_option linter.unusedSimpArgs false
def laws_markIntS.l0 : Nat → List Int → Int → Int → Option (Int × List Int)
  | 0, _, _, _ => none
  | k + 1, x0, x1, x5 => if x5 < (x0.length : Int) then (if 0 ≤ x5 then (laws_markIntS.l0 k (x0.set (x5 : Int).toNat x1) (wrap64 (x1 + 1)) (wrap64 (x5 + 1))) else (none)) else (some (x1, x0))
def laws_markIntS.f (k : Nat) (l0 : List Int) (a1 : Int) : Option (Int × List Int) := laws_markIntS.l0 k l0 a1 0
set_option maxHeartbeats 8000000 in
set_option maxRecDepth 100000 in
theorem laws_markIntS.calls (k : Nat) (P0_ : Nat → Prop) (u9000_ : Value) (l0 : List Int) (a1 : Int) (r1 : Int) (r2 : List Int) (w0 w : World) (hB : Below w0.heap.size w0 w) (ho0 : Kd.R (Kd.int .i64) 3 w w0.heap.size P0_ u9000_ l0) (h : laws_markIntS.f k l0 a1 = some (r1, r2)) :
    Calls Try.prog 20 #[u9000_, .int .i64 a1] w fun e w' => e = .returned (.int .i64 r1) ∧ Kd.R (Kd.int .i64) 3 w' w0.heap.size (fun k_ => (P0_ k_ ∨ w.heap.size ≤ k_)) u9000_ r2 ∧ Below w0.heap.size w0 w' ∧ Kept w w' (fun k_ => P0_ k_) := by
  have HO0 := Aside0.mk (show Kd.R (Kd.int .i64) 3 w w0.heap.size (fun k_ => (P0_ k_ ∨ w.heap.size ≤ k_)) u9000_ l0 from Kd.R_mono ho0 (fun k_ hk => (.inl hk)))
  have HK := Aside0.mk (Kept.refl w (fun k_ => P0_ k_))
  have HW0 := Aside0.mk hB.size
  have HB := Aside0.mk hB
  clear hB
  have H : (laws_markIntS.l0 k l0 a1 0) = some (r1, r2) := h
  clear h
  have H' := Aside0.mk H
  clear H
  go_enter Try.func20, Try.ntmps20
  go_wp2
  go_loopg [1, 5] k (fun kq v1 v5 w' => ∃ (x0_1 : List Int) (x1_1 : Int) (x5_1 : Int), v1 = .int .i64 x1_1 ∧ v5 = .int .i64 x5_1 ∧ Aside0 (laws_markIntS.l0 kq x0_1 x1_1 x5_1 = some (r1, r2)) ∧ Aside0 (kq ≤ k) ∧ Aside0 (Kd.R (Kd.int .i64) 3 w' w0.heap.size (fun k_ => (P0_ k_ ∨ w.heap.size ≤ k_)) u9000_ x0_1) ∧ Aside0 (Kept w w' (fun k_ => P0_ k_)) ∧ Aside0 (Below w0.heap.size w0 w'))
  case atStart => exact ⟨(l0), (a1), (0), (by first | rfl | (simp; done) | (simp [*]; done)), (by first | rfl | (simp; done) | (simp [*]; done)), H', ⟨Nat.le_refl _⟩, ⟨by (with_reducible repeat (first | apply Kd.R_alloc | apply Kd.R_drewN | apply Kd.R_drew)); exact HO0.out⟩, ⟨by repeat (first | (with_reducible first | exact HK.out | apply Kept.alloc | apply Kept.drewN | apply Kept.drew) | exact HK.out)⟩, ⟨by repeat (first | (with_reducible first | exact HB.out | apply below_alloc | apply pw_below_drewN | apply below_drew1) | exact HB.out)⟩⟩
  case round =>
    clear H'
    try clear c2
    try clear p2
    obtain ⟨x0_1, x1_1, x5_1, rfl, rfl, HA, HK1, HO_0, HK, HB⟩ := hrel
    cases gk with
    | zero => exact absurd HA.out (by simp [laws_markIntS.l0])
    | succ k1 =>
      have H := HA.out
      clear HA
      simp only [laws_markIntS.l0] at H
      by_cases c3 : x5_1 < (x0_1.length : Int)
      · rw [if_pos c3] at H
        have c3b0 : decide (x5_1 < (x0_1.length : Int)) = true := decide_eq_true c3
        clear c3
        by_cases c4 : 0 ≤ x5_1
        · rw [if_pos c4] at H
          have c4b0 : decide (0 ≤ x5_1) = true := decide_eq_true c4
          clear c4
          obtain ⟨y101, hy101⟩ : ∃ y_ : List Int, y_ = (x0_1.set (x5_1 : Int).toNat x1_1) := ⟨_, rfl⟩
          replace H : (laws_markIntS.l0 k1 y101 (wrap64 (x1_1 + 1)) (wrap64 (x5_1 + 1))) = some (r1, r2) := by first | (rw [hy101]; with_reducible exact H) | (have H2_ := (Option.bind_some _ _).symm.trans H; rw [hy101]; with_reducible exact H2_) | (have H2_ := (Option.bind_some _ _).symm.trans H; with_reducible exact H2_) | with_reducible exact H | (rw [hy101]; exact H) | exact H
          have Ny101 := Aside0.mk hy101
          clear hy101
          have H' := Aside0.mk H
          clear H
          obtain ⟨Ao6, co6, eo6⟩ := Kd.R_slice HO_0.out
          subst eo6
          have p5 : 0 ≤ (x5_1 : Int) := of_decide_eq_true (by first | (with_reducible assumption) | assumption)
          have q5 : (x5_1 : Int) < ((x0_1.length : Int) : Int) := of_decide_eq_true (by first | (with_reducible assumption) | assumption)
          obtain ⟨go5, co5, eo5, gb5, gl5, cl5, HG5⟩ := Kd.R_form HO_0.out (by omega)
          (first | cases eo5 | (injection eo5 with ea_ en_ ec_; (first | subst ea_ | (injection ea_ with ea_; subst ea_)); subst ec_; clear en_))
          have GB5 := Aside0.mk gb5
          have GG5 := Aside0.mk HG5
          clear gb5 gl5 HG5
          have HMgo5 := Aside0.mk (show (P0_ go5 ∨ w.heap.size ≤ go5) from (HO_0.out.1 _ rfl))
          obtain ⟨hx5_0, hf5_0⟩ := Kd.R_celln 0 HO_0.out (x5_1 : Int) p5 q5
          replace p5 := eq_true p5
          replace q5 := eq_true q5
          have HP7 := Kd.R_putg HO_0.out (x5_1 : Int) x1_1
          go_wp2_with (first | ((with_reducible refine gate_store (t := 3) (p := 15) rfl ?_); refine store_event (t := 3) (p := 15) (v := ?vo_w8) (w1 := (wr.setCell ⟨go5, (x5_1 : Int).toNat, none⟩ (.int .i64 x1_1))) ?hg ?ho ?hn ?hr ?_; (case ho => rfl); (case hg => rfl); (case hn => rfl); (case hr => first | (go_simp; done) | (go_simp; rfl)); intro w8 hw; have hg : wr.grownBy w8 (some go5) := (by rw [hw]; exact HP7.2); have hp_ : Kd.R (Kd.int .i64) 3 w8 w0.heap.size (fun k_ => (P0_ k_ ∨ w.heap.size ≤ k_)) (.slice (some ⟨go5, 0, none⟩) x0_1.length co6) y101 := (by rw [hw, Ny101.out]; exact HP7.1); clear HP7; have n0_ := Aside0.mk (hp_); have n1_ := Aside0.mk ((by rw [hw]; exact below_set (HB.out) GB5.out : Below w0.heap.size w0 w8)); have n2_ := Aside0.mk (Kept.of_grown (S := (fun k_ => P0_ k_)) hg (by repeat (first | (with_reducible first | exact HK.out | apply Kept.alloc | apply Kept.drewN | apply Kept.drew) | exact HK.out)) (fun k_ e_ => (HO_0.out.1 k_ e_))); clear HO_0; clear HB; clear HK; have HO_0 := n0_; have HB := n1_; have HK := n2_; clear n0_ n1_ n2_; clear hg hw hp_))
          go_roundg k1
          case measure => have := HK1.out; omega
          case rel => exact ⟨(y101), (wrap64 (x1_1 + 1)), (wrap64 (x5_1 + 1)), (by first | rfl | (simp; done) | (simp [*]; done)), (by first | rfl | (simp; done) | (simp [*]; done)), H', ⟨by have := HK1.out; omega⟩, ⟨by (with_reducible repeat (first | apply Kd.R_alloc | apply Kd.R_drewN | apply Kd.R_drew)); exact HO_0.out⟩, ⟨by repeat (first | (with_reducible first | exact HK.out | apply Kept.alloc | apply Kept.drewN | apply Kept.drew) | exact HK.out)⟩, ⟨by repeat (first | (with_reducible first | exact HB.out | apply below_alloc | apply pw_below_drewN | apply below_drew1) | exact HB.out)⟩⟩
        · rw [if_neg c4] at H
          exact absurd H (by simp)
      · rw [if_neg c3] at H
        have c3b0 : decide (x5_1 < (x0_1.length : Int)) = false := decide_eq_false c3
        clear c3
        simp only [Option.some.injEq, Prod.mk.injEq] at H
        obtain ⟨rfl, rfl⟩ := H
        obtain ⟨Ao9, co9, eo9⟩ := Kd.R_slice HO_0.out
        subst eo9
        go_wp2
        go_ret
        exact ⟨by first | rfl | (simp [errW_none, errW_some] <;> rfl) | (simp [*, errW_none, errW_some] <;> rfl), by (with_reducible repeat (first | apply Kd.R_alloc | apply Kd.R_drewN | apply Kd.R_drew)); exact HO_0.out, by repeat (first | (with_reducible first | exact HB.out | apply below_alloc | apply pw_below_drewN | apply below_drew1) | exact HB.out), by repeat (first | (with_reducible first | exact HK.out | apply Kept.alloc | apply Kept.drewN | apply Kept.drew) | exact HK.out)⟩
end Go.Proofs.Ytlkfmoleehmgcaa.Q
end
section
namespace Go.Proofs.Ytlkfmoleehmgcaa.Q
open Go.RowKit Go.Proofs.YtlkfmoleehmgcaaW.PrintWords Go.Proofs.YtlkfmoleehmgcaaW.PrintLast Go.Proofs.YtlkfmoleehmgcaaW.PrintMore
attribute [local go_sem] max2_int min2_int max_two min_two max_three min_three max_four min_four   -- for this text's walks alone
set_option linter.unusedVariables false
set_option linter.unusedSimpArgs false
def laws_heldIntS.l0 : Nat → List Int → Int → Int → Option (Int)
  | 0, _, _, _ => none
  | k + 1, x0, x1, x5 => if x5 < (x0.length : Int) then (if 0 ≤ x5 then (if (rd x0 x5) = x1 then (laws_heldIntS.l0 k x0 (wrap64 (x1 + 1)) (wrap64 (x5 + 1))) else (some (-1))) else (none)) else (some x1)
def laws_heldIntS.f (k : Nat) (l0 : List Int) (a1 : Int) : Option (Int) := laws_heldIntS.l0 k l0 a1 0
set_option maxHeartbeats 8000000 in
set_option maxRecDepth 100000 in
theorem laws_heldIntS.calls (k : Nat) (A0 : Option Addr) (c0 : Nat) (l0 : List Int) (a1 : Int) (r : Int) (w : World) (hr0 : Kd.C (Kd.int .i64) w A0 l0.length l0) (hc0 : l0.length ≤ c0) (h : laws_heldIntS.f k l0 a1 = some r) :
    Calls Try.prog 21 #[.slice A0 l0.length c0, .int .i64 a1] w fun e w' => e = .returned (.int .i64 r) ∧ Drawn0 w w' := by
  have HR0 := Aside0.mk hr0
  have HC0 := Aside0.mk hc0
  clear hr0 hc0
  have H : (laws_heldIntS.l0 k l0 a1 0) = some r := h
  clear h
  have H' := Aside0.mk H
  clear H
  go_enter Try.func21, Try.ntmps21
  go_wp2
  go_loopg [1, 5] k (fun kq v1 v5 w' => ∃ (x1_1 : Int) (x5_1 : Int), v1 = .int .i64 x1_1 ∧ v5 = .int .i64 x5_1 ∧ Aside0 (laws_heldIntS.l0 kq l0 x1_1 x5_1 = some r) ∧ Aside0 (kq ≤ k) ∧ Drawn0 w w')
  case atStart => exact ⟨(a1), (0), (by first | rfl | (simp; done) | (simp [*]; done)), (by first | rfl | (simp; done) | (simp [*]; done)), H', ⟨Nat.le_refl _⟩, by repeat (first | exact Drawn0.refl _ | apply Drawn0.step)⟩
  case round =>
    clear H'
    try clear c2
    try clear p2
    obtain ⟨x1_1, x5_1, rfl, rfl, HA, HK1, ⟨m1, rfl⟩⟩ := hrel
    cases gk with
    | zero => exact absurd HA.out (by simp [laws_heldIntS.l0])
    | succ k1 =>
      have H := HA.out
      clear HA
      simp only [laws_heldIntS.l0] at H
      by_cases c3 : x5_1 < (l0.length : Int)
      · rw [if_pos c3] at H
        have c3b0 : decide (x5_1 < (l0.length : Int)) = true := decide_eq_true c3
        clear c3
        by_cases c4 : 0 ≤ x5_1
        · rw [if_pos c4] at H
          have c4b0 : decide (0 ≤ x5_1) = true := decide_eq_true c4
          clear c4
          by_cases c5 : (rd l0 x5_1) = x1_1
          · rw [if_pos c5] at H
            have c5b0 : ((rd l0 x5_1) == x1_1) = true := beq_iff_eq.mpr c5
            have c5b1 : ((rd l0 x5_1) != x1_1) = false := bne_eq_false_iff_eq.mpr c5
            clear c5
            have H' := Aside0.mk H
            clear H
            have p101 : 0 ≤ (x5_1 : Int) := of_decide_eq_true (by first | (with_reducible assumption) | assumption)
            have q101 : x5_1 < (l0.length : Int) := of_decide_eq_true (by first | (with_reducible assumption) | assumption)
            obtain ⟨ad101, e101, hx101_0⟩ := Kd.at_int HR0.out x5_1 p101 q101
            cases e101
            replace p101 := eq_true p101
            replace q101 := eq_true q101
            go_wp2
            go_roundg k1
            case measure => have := HK1.out; omega
            case rel => exact ⟨(wrap64 (x1_1 + 1)), (wrap64 (x5_1 + 1)), (by first | rfl | (simp; done) | (simp [*]; done)), (by first | rfl | (simp; done) | (simp [*]; done)), H', ⟨by have := HK1.out; omega⟩, by repeat (first | exact Drawn0.refl _ | apply Drawn0.step)⟩
          · rw [if_neg c5] at H
            have c5b0 : ((rd l0 x5_1) == x1_1) = false := beq_eq_false_iff_ne.mpr c5
            have c5b1 : ((rd l0 x5_1) != x1_1) = true := bne_iff_ne.mpr c5
            obtain rfl := Option.some.inj H
            have p101 : 0 ≤ (x5_1 : Int) := of_decide_eq_true (by first | (with_reducible assumption) | assumption)
            have q101 : x5_1 < (l0.length : Int) := of_decide_eq_true (by first | (with_reducible assumption) | assumption)
            obtain ⟨ad101, e101, hx101_0⟩ := Kd.at_int HR0.out x5_1 p101 q101
            cases e101
            replace p101 := eq_true p101
            replace q101 := eq_true q101
            go_wp2
            go_ret
            exact ⟨by first | rfl | (simp; done) | (simp [*]; done), by repeat (first | exact Drawn0.refl _ | apply Drawn0.step)⟩
        · rw [if_neg c4] at H
          exact absurd H (by simp)
      · rw [if_neg c3] at H
        have c3b0 : decide (x5_1 < (l0.length : Int)) = false := decide_eq_false c3
        clear c3
        obtain rfl := Option.some.inj H
        go_wp2
        go_ret
        exact ⟨by first | rfl | (simp; done) | (simp [*]; done), by repeat (first | exact Drawn0.refl _ | apply Drawn0.step)⟩
end Go.Proofs.Ytlkfmoleehmgcaa.Q
end
section
namespace Go.Proofs.Ytlkfmoleehmgcaa.LawK
set_option linter.unusedVariables false
open Go.RowKit Go.Proofs.Ytlkfmoleehmgcaa.Q Go.Proofs.YtlkfmoleehmgcaaW.PrintWords Go.Proofs.YtlkfmoleehmgcaaW.PrintLast Go.Proofs.YtlkfmoleehmgcaaW.PrintMore
open Go.Proofs.YtlkfmoleehmgcaaL
theorem eqIntS_l0 {a b : List Int} (hl : a.length ≤ 9223372036854775806) (h : a.length = b.length) : ∀ (d i : Nat), i + d = a.length → a.take i = b.take i → Ev (fun k => laws_eqIntS.l0 k a b i) (decide (a = b))
  | 0, i, hi, ht => by
    refine Ev.step (f := fun _ => some (decide (a = b))) (fun k => ?_) (Ev.now _)
    rw [laws_eqIntS.l0, if_neg (by omega)]
    rw [List.take_of_length_le (by omega), List.take_of_length_le (by omega)] at ht
    simp [ht]
  | d + 1, i, hi, ht => by
    have h1 : wrap64 ((i : Int) + 1) = ((i + 1 : Nat) : Int) := by rw [w64 (by omega) (by omega)]; rfl
    by_cases e : a[i] = b[i]
    · refine Ev.step (fun k => ?_) (eqIntS_l0 hl h d (i + 1) (by omega) ?_)
      · rw [laws_eqIntS.l0, if_pos (by omega), if_pos (by omega), if_pos (by omega), h1, rd_lt _ _ (by omega), rd_lt _ _ (by omega), if_pos e]
      · rw [List.take_succ_eq_append_getElem (by omega), List.take_succ_eq_append_getElem (by omega), ht, e]
    · refine Ev.step (f := fun _ => some (decide (a = b))) (fun k => ?_) (Ev.now _)
      rw [laws_eqIntS.l0, if_pos (by omega), if_pos (by omega), if_pos (by omega), rd_lt _ _ (by omega), rd_lt _ _ (by omega), if_neg e]
      have : a ≠ b := fun hab => e (by simp [hab])
      simp [this]
theorem eqIntS {a b : List Int} (hl : a.length ≤ 9223372036854775806) : Ev (fun k => laws_eqIntS.f k a b) (decide (a = b)) := by
  by_cases h : a.length = b.length
  · refine Ev.congr (fun k => ?_) (eqIntS_l0 hl h a.length 0 (by omega) (by simp))
    unfold laws_eqIntS.f
    rw [if_pos (by omega)]; rfl
  · refine Ev.congr (f := fun _ => some (decide (a = b))) (fun k => ?_) (Ev.now _)
    unfold laws_eqIntS.f
    rw [if_neg (by omega)]
    have : a ≠ b := fun hab => h (by simp [hab])
    simp [this]
def iota : Int → Nat → List Int
  | _, 0 => []
  | m, n + 1 => m :: iota (m + 1) n
theorem iota_length : ∀ (m : Int) (n : Nat), (iota m n).length = n
  | _, 0 => rfl
  | m, n + 1 => by rw [iota, List.length_cons, iota_length]
theorem iota_get : ∀ (n : Nat) (m : Int) (i : Nat) (h : i < (iota m n).length), (iota m n)[i] = m + i
  | 0, _, _, h => by simp [iota] at h
  | n + 1, m, 0, _ => by simp [iota]
  | n + 1, m, i + 1, h => by
    have := iota_get n (m + 1) i (by simpa [iota] using h)
    simp only [iota, List.getElem_cons_succ, this]; omega
theorem iota_snoc : ∀ (n : Nat) (m : Int), iota m (n + 1) = iota m n ++ [m + n]
  | 0, m => by simp [iota]
  | n + 1, m => by
    rw [iota, iota_snoc n (m + 1), iota, List.cons_append]
    congr 2
    simp; omega
theorem markIntS_l0 {n : Nat} {m : Int} (h0 : 0 ≤ m) (hm : m + n ≤ 4611686018427387904) : ∀ (d i : Nat) (x : List Int), i + d = n → x.length = n → x.take i = iota m i → Ev (fun k => laws_markIntS.l0 k x (m + i) i) (m + n, iota m n)
  | 0, i, x, hi, hx, ht => by
    refine Ev.step (f := fun _ => some (m + n, iota m n)) (fun k => ?_) (Ev.now _)
    rw [laws_markIntS.l0, if_neg (by omega)]
    obtain rfl : i = n := by omega
    rw [List.take_of_length_le (by omega)] at ht
    rw [ht]
  | d + 1, i, x, hi, hx, ht => by
    have h1 : wrap64 ((i : Int) + 1) = ((i + 1 : Nat) : Int) := by rw [w64 (by omega) (by omega)]; rfl
    have h2 : wrap64 (m + (i : Int) + 1) = m + ((i + 1 : Nat) : Int) := by rw [w64 (by omega) (by omega)]; omega
    refine Ev.step (fun k => ?_) (markIntS_l0 h0 hm d (i + 1) (x.set i (m + i)) (by omega) (by simpa using hx) ?_)
    · rw [laws_markIntS.l0, if_pos (by omega), if_pos (by omega), h1, h2, Int.toNat_natCast]
    · rw [List.take_succ_eq_append_getElem (by simp; omega), List.take_set_of_le (by omega), ht, iota_snoc]
      simp
theorem markIntS (l : List Int) {m : Int} (h0 : 0 ≤ m) (hm : m + l.length ≤ 4611686018427387904) : Ev (fun k => laws_markIntS.f k l m) (m + l.length, iota m l.length) := by
  refine Ev.congr (fun k => ?_) (markIntS_l0 h0 hm l.length 0 l (by omega) rfl (by simp [iota]))
  unfold laws_markIntS.f
  simp
theorem heldIntS_l0 {n : Nat} {m : Int} (h0 : 0 ≤ m) (hm : m + n ≤ 4611686018427387904) : ∀ (d i : Nat), i + d = n → Ev (fun k => laws_heldIntS.l0 k (iota m n) (m + i) i) (m + n)
  | 0, i, hi => by
    refine Ev.step (f := fun _ => some (m + n)) (fun k => ?_) (Ev.now _)
    rw [laws_heldIntS.l0, iota_length, if_neg (by omega)]
    obtain rfl : i = n := by omega
    rfl
  | d + 1, i, hi => by
    have h1 : wrap64 ((i : Int) + 1) = ((i + 1 : Nat) : Int) := by rw [w64 (by omega) (by omega)]; rfl
    have h2 : wrap64 (m + (i : Int) + 1) = m + ((i + 1 : Nat) : Int) := by rw [w64 (by omega) (by omega)]; omega
    refine Ev.step (fun k => ?_) (heldIntS_l0 h0 hm d (i + 1) (by omega))
    rw [laws_heldIntS.l0, iota_length, if_pos (by omega), if_pos (by omega), rd_lt _ _ (by rw [iota_length]; omega), iota_get, if_pos rfl, h1, h2]
theorem heldIntS (n : Nat) {m : Int} (h0 : 0 ≤ m) (hm : m + n ≤ 4611686018427387904) : Ev (fun k => laws_heldIntS.f k (iota m n) m) (m + n) := by
  refine Ev.congr (fun k => ?_) (heldIntS_l0 h0 hm n 0 (by omega))
  unfold laws_heldIntS.f
  simp
end Go.Proofs.Ytlkfmoleehmgcaa.LawK
end
section
namespace Go.Proofs.Ytlkfmoleehmgcaa.Put
set_option linter.unusedVariables false
set_option linter.unusedSectionVars false
open Go.RowKit Go.Proofs.Ytlkfmoleehmgcaa.Q Go.Proofs.YtlkfmoleehmgcaaW.PrintWords Go.Proofs.YtlkfmoleehmgcaaW.PrintLast Go.Proofs.YtlkfmoleehmgcaaW.PrintMore
open Go.Proofs.YtlkfmoleehmgcaaL Go.Proofs.Ytlkfmoleehmgcaa.Sl Go.Proofs.Ytlkfmoleehmgcaa.LawK
attribute [local go_sem] run_store_func
def inR (a b x : Int) : Bool := decide (a ≤ x ∧ x ≤ b)
theorem within_R (a b c : Int) : impl_within.f a b c = some (inR b c a) := by
  unfold impl_within.f inR
  by_cases h : b ≤ a
  · rw [if_pos h]; simp [h]
  · rw [if_neg h]; congr 1; exact (decide_eq_false (by omega)).symm
def impl_AllPartitions.f (a0 a1 : Int) : Option (List (List (List Int)) × Bool) :=
  if inR 1 5 a0 = true then (if inR 1 a0 a1 = true then some (putS a1.toNat a0.toNat 0 [], true) else some ([], false)) else some ([], false)
theorem few : ∀ d : Fin 6, ∀ k : Fin 6, (putS k.val d.val 0 []).length ≤ 1000000 := by decide +kernel
theorem PSt.start {n k : Int} {w w1 w2 w5 w6 w7 w8 w9 : World} {gn gk go gp : Nat} {v5 : Value}
    (k1 : w1.heap[gn]? = some (.cells #[.int .i64 n] 3 (0, 0))) (b1 : Below w.heap.size w w1) (g1 : gn = w.heap.size)
    (k2 : w2.heap[gk]? = some (.cells #[.int .i64 k] 3 (0, 0))) (b2 : Below w1.heap.size w1 w2) (g2 : gk = w1.heap.size)
    (o5 : Kd.S (sl 32 (Kd.slice 3 (Kd.int .i64))) 31 w5 w2.heap.size (fun _ => True) v5 []) (b5 : Below w2.heap.size w2 w5)
    (k6 : w6.heap[go]? = some (.cells #[.slice none 0 0] 22 (0, 0))) (b6 : Below w5.heap.size w5 w6) (g6 : go = w5.heap.size)
    (e7 : w7 = w6.setCell ⟨go, 0, none⟩ v5)
    (k8 : w8.heap[gp]? = some (.cells #[.nilFunc] 30 (0, 0))) (b8 : Below w7.heap.size w7 w8) (g8 : gp = w7.heap.size)
    (e9 : w9 = w8.setCell ⟨gp, 0, none⟩ (.func (.func 12) #[] #[.pointer (some ⟨gn, 0, none⟩), .pointer (some ⟨gk, 0, none⟩), .pointer (some ⟨go, 0, none⟩), .pointer (some ⟨gp, 0, none⟩)])) :
    PSt n k w.heap.size gn gk go gp (fun b => False ∨ False) [] w9 ∧ Below w.heap.size w w9 := by
  have s1 := blk_lt k1
  have s2 := blk_lt k2
  have s5 := b5.size
  have s6 := blk_lt k6
  have s8 := blk_lt k8
  have t1 := b1.size
  have t2 := b2.size
  have t6 := b6.size
  have t8 := b8.size
  have z7 : w7.heap.size = w6.heap.size := by rw [e7]; simp [World.setCell]
  have near : ∀ {W : World} {g t : Nat} {cs : Array Value}, W.heap[g]? = some (.cells cs t (0, 0)) → Below W.heap.size W w6 → g ≠ go → g ≠ gp → w9.heap[g]? = some (.cells cs t (0, 0)) := by
    intro W g t cs h hb hne hnp
    rw [e9]
    refine blk_far (p := ⟨gp, 0, none⟩) (blk_below ?_ b8) hnp _
    rw [e7]
    exact blk_far (p := ⟨go, 0, none⟩) (blk_below h hb) hne _
  have b26 : Below w2.heap.size w2 w6 := b5.trans (b6.mono s5)
  refine ⟨⟨near k1 (b2.trans (b26.mono t2)) (by omega) (by omega), near k2 b26 (by omega) (by omega), by rw [e9]; exact blk_put k8 0 _ rfl, ⟨v5, ?_, ?_⟩, ⟨by omega, by omega, by omega⟩, by omega⟩, ?_⟩
  · rw [e9]
    refine blk_far (p := ⟨gp, 0, none⟩) (blk_below ?_ b8) (by show go ≠ gp; omega) _
    rw [e7]
    exact blk_put k6 0 v5 rfl
  · have h1 := Kd.S_lower (Kd.S_mono (ok' := fun b => w2.heap.size ≤ b ∧ b < w5.heap.size) (Kd.S_bound o5) (fun b hb => ⟨hb.2.1, hb.2.2.1⟩)) (show w.heap.size ≤ w2.heap.size by omega)
    have h2 := Kd.S_far (p := ⟨go, 0, none⟩) (Kd.S_below h1 b6) (fun b hb => by show b ≠ go; omega) v5
    rw [← e7] at h2
    have h3 := Kd.S_far (p := ⟨gp, 0, none⟩) (Kd.S_below h2 b8) (fun b hb => by show b ≠ gp; omega) (.func (.func 12) #[] #[.pointer (some ⟨gn, 0, none⟩), .pointer (some ⟨gk, 0, none⟩), .pointer (some ⟨go, 0, none⟩), .pointer (some ⟨gp, 0, none⟩)])
    rw [← e9] at h3
    exact Kd.S_mono h3 (fun b hb => ⟨by omega, fun h => h.elim id id, by omega, by omega, by omega, by omega⟩)
  · have c6 : Below w.heap.size w w6 := b1.trans ((b2.trans (b26.mono t2)).mono t1)
    have c7 : Below w.heap.size w w7 := by rw [e7]; exact Below.setCell c6 (by show w.heap.size ≤ go; omega) _
    have c8 : Below w.heap.size w w8 := c7.trans (b8.mono c7.size)
    rw [e9]
    exact Below.setCell c8 (by show w.heap.size ≤ gp; omega) _
set_option maxHeartbeats 8000000 in
set_option maxRecDepth 100000 in
theorem impl_AllPartitions.calls (a0 a1 : Int) (r1 : List (List (List Int))) (r2 : Bool) (w : World) (h : impl_AllPartitions.f a0 a1 = some (r1, r2)) :
    Calls Try.prog 5 #[.int .i64 a0, .int .i64 a1] w fun e w' => ∃ v0_ : Value, e = .returned (.tuple #[v0_, .bool r2]) ∧ Kd.S (sl 32 (Kd.slice 3 (Kd.int .i64))) 31 w' w.heap.size (fun _ => True) v0_ r1 ∧ Below w.heap.size w w' := by
  have WI := Lib.hid (fun (W : World) => impl_within.calls0 a0 1 5 (inR 1 5 a0) W (within_R a0 1 5))
  have WJ := Lib.hid (fun (W : World) => impl_within.calls0 a1 1 a0 (inR 1 a0 a1) W (within_R a1 1 a0))
  by_cases hn : inR 1 5 a0 = true
  rotate_left
  · have hn2 : inR 1 5 a0 = false := by simpa using hn
    rw [impl_AllPartitions.f, if_neg hn] at h
    simp only [Option.some.injEq, Prod.mk.injEq] at h
    obtain ⟨rfl, rfl⟩ := h
    rw [hn2] at WI
    clear hn hn2 WJ
    go_enter Try.func5, Try.ntmps5
    go_wp2_with (first
      | ((with_reducible refine gate_dst (N := 2) rfl ?_); refine box_event ?hg (N := 2) ?hd (cs := #[.int .i64 a0]) (t := 3) ?hr ?_; (case hd => rfl); (case hg => rfl); (case hr => first | (go_simp; done) | (go_simp; rfl)); intro gn hg w1 hbox hb; have K1 := Aside0.mk hbox; have B1 := Aside0.mk hb; clear hg hbox hb)
      | ((with_reducible refine gate_dst (N := 3) rfl ?_); refine box_event ?hg (N := 3) ?hd (cs := #[.int .i64 a1]) (t := 3) ?hr ?_; (case hd => rfl); (case hg => rfl); (case hr => first | (go_simp; done) | (go_simp; rfl)); intro gk hg w2 hbox hb; have K2 := Aside0.mk hbox; have B2 := Aside0.mk hb; clear hg hbox hb; have z1 : w2.cell? ⟨gn, 0, none⟩ = some (.int .i64 a0) := (blk_cell (blk_below K1.out B2.out) 0).trans rfl; have z2 : w2.cell? ⟨gk, 0, none⟩ = some (.int .i64 a1) := (blk_cell K2.out 0).trans rfl)
      | (go_at_call 11; (with_reducible refine (WI.out _).mono ?_); rintro e w' ⟨rfl, rfl⟩))
    go_ret2
    exact ⟨_, rfl, Kd.S_nil _ _ _ _ _, by repeat (first | exact B1.out.trans (B2.out.mono B1.out.size) | apply below_drew1 | apply pw_below_drewN)⟩
  rw [impl_AllPartitions.f, if_pos hn] at h
  rw [hn] at WI
  have hn5 : 1 ≤ a0 ∧ a0 ≤ 5 := of_decide_eq_true hn
  by_cases hk : inR 1 a0 a1 = true
  rotate_left
  · have hk2 : inR 1 a0 a1 = false := by simpa using hk
    rw [if_neg hk] at h
    simp only [Option.some.injEq, Prod.mk.injEq] at h
    obtain ⟨rfl, rfl⟩ := h
    rw [hk2] at WJ
    clear hn hk hk2 hn5
    go_enter Try.func5, Try.ntmps5
    go_wp2_with (first
      | ((with_reducible refine gate_dst (N := 2) rfl ?_); refine box_event ?hg (N := 2) ?hd (cs := #[.int .i64 a0]) (t := 3) ?hr ?_; (case hd => rfl); (case hg => rfl); (case hr => first | (go_simp; done) | (go_simp; rfl)); intro gn hg w1 hbox hb; have K1 := Aside0.mk hbox; have B1 := Aside0.mk hb; clear hg hbox hb)
      | ((with_reducible refine gate_dst (N := 3) rfl ?_); refine box_event ?hg (N := 3) ?hd (cs := #[.int .i64 a1]) (t := 3) ?hr ?_; (case hd => rfl); (case hg => rfl); (case hr => first | (go_simp; done) | (go_simp; rfl)); intro gk hg w2 hbox hb; have K2 := Aside0.mk hbox; have B2 := Aside0.mk hb; clear hg hbox hb; have z1 : w2.cell? ⟨gn, 0, none⟩ = some (.int .i64 a0) := (blk_cell (blk_below K1.out B2.out) 0).trans rfl; have z2 : w2.cell? ⟨gk, 0, none⟩ = some (.int .i64 a1) := (blk_cell K2.out 0).trans rfl)
      | (go_at_call 11; (with_reducible refine (WI.out _).mono ?_); rintro e w' ⟨rfl, rfl⟩)
      | (go_at_call 11; (with_reducible refine (WJ.out _).mono ?_); rintro e w' ⟨rfl, rfl⟩))
    go_ret2
    exact ⟨_, rfl, Kd.S_nil _ _ _ _ _, by repeat (first | exact B1.out.trans (B2.out.mono B1.out.size) | apply below_drew1 | apply pw_below_drewN)⟩
  rw [if_pos hk] at h
  rw [hk] at WJ
  have hk5 : 1 ≤ a1 ∧ a1 ≤ a0 := of_decide_eq_true hk
  simp only [Option.some.injEq, Prod.mk.injEq] at h
  obtain ⟨h, rfl⟩ := h
  have hfew := few ⟨a0.toNat, by omega⟩ ⟨a1.toNat, by omega⟩
  simp only [] at hfew
  have KX := Lib.hid (fun (W : World) (gn gk go gp : Nat) (hp : PSt a0 a1 w.heap.size gn gk go gp (fun b => False ∨ False) [] W) (hB : Below w.heap.size w W) => (by
    refine (put_calls a0 a1 a1.toNat w.heap.size gn gk go gp (by omega) a0.toNat 0 0 [] none 0 (fun _ => False) (fun _ => False) [] W rfl (by omega) (by omega) (Nat.le_refl _) (fun x hx => absurd hx (by simp)) (by rw [List.length_nil, Nat.zero_add]; exact hfew) hp (Kd.S_nil _ _ _ _ _) (fun b hb => hb.elim) (fun b hb => hb.elim)).mono ?_
    rintro e w' ⟨rfl, hp', hs'⟩
    obtain ⟨v, hv1, hv2⟩ := hp'.o
    rw [List.nil_append, h] at hv2
    exact ⟨rfl, v, hv1, Kd.S_mono hv2 (fun _ _ => trivial), Still.below hB hs' (fun b hb => hb.elim (fun h => by have := hp.b; omega) (fun h => h.1))⟩ :
    Calls Try.prog 12 #[.int .i64 0, .slice none 0 0, .pointer (some ⟨gn, 0, none⟩), .pointer (some ⟨gk, 0, none⟩), .pointer (some ⟨go, 0, none⟩), .pointer (some ⟨gp, 0, none⟩)] W fun e w' => e = .returned (.tuple #[]) ∧ ∃ v, w'.heap[go]? = some (.cells #[v] 22 (0, 0)) ∧ Kd.S (sl 32 (Kd.slice 3 (Kd.int .i64))) 31 w' w.heap.size (fun _ => True) v r1 ∧ Below w.heap.size w w'))
  clear hn hk hn5 hk5 hfew h
  go_enter Try.func5, Try.ntmps5
  go_wp2_with (first
    | ((with_reducible refine gate_dst (N := 2) rfl ?_); refine box_event ?hg (N := 2) ?hd (cs := #[.int .i64 a0]) (t := 3) ?hr ?_; (case hd => rfl); (case hg => rfl); (case hr => first | (go_simp; done) | (go_simp; rfl)); intro gn hg w1 hbox hb; have G1 := Aside0.mk (show gn = w.heap.size from hg); have K1 := Aside0.mk hbox; have B1 := Aside0.mk (below_step ((by repeat (first | (with_reducible first | exact (Below.refl _ _) | apply below_alloc | apply pw_below_drewN | apply below_drew1) | exact (Below.refl _ _))) : Below w.heap.size w _) hb); clear hg hbox hb)
    | ((with_reducible refine gate_dst (N := 3) rfl ?_); refine box_event ?hg (N := 3) ?hd (cs := #[.int .i64 a1]) (t := 3) ?hr ?_; (case hd => rfl); (case hg => rfl); (case hr => first | (go_simp; done) | (go_simp; rfl)); intro gk hg w2 hbox hb; have G2 := Aside0.mk (show gk = w1.heap.size from hg); have K2 := Aside0.mk hbox; have B2 := Aside0.mk (below_step ((by repeat (first | (with_reducible first | exact (Below.refl _ _) | apply below_alloc | apply pw_below_drewN | apply below_drew1) | exact (Below.refl _ _))) : Below w1.heap.size w1 _) hb); clear hg hbox hb; have z1 : w2.cell? ⟨gn, 0, none⟩ = some (.int .i64 a0) := (blk_cell (blk_below K1.out B2.out) 0).trans rfl; have z2 : w2.cell? ⟨gk, 0, none⟩ = some (.int .i64 a1) := (blk_cell K2.out 0).trans rfl)
    | (go_at_call 11; (with_reducible refine (WI.out _).mono ?_); rintro e w' ⟨rfl, rfl⟩)
    | (go_at_call 11; (with_reducible refine (WJ.out _).mono ?_); rintro e w' ⟨rfl, rfl⟩)
    | ((with_reducible refine gate_dst (N := 17) rfl ?_); refine Kd.S_lit (sl 32 (Kd.slice 3 (Kd.int .i64))) _ 31 ?hg (N := 17) ?hd (xs := ([] : List (List (List Int)))) (inner := []) (ok := fun _ => True) (okp := fun _ => True) ?hr ?hp (fun _ hk => hk) trivial (Below.refl _ _) (Nat.le_refl _) (by simp) ?_; (case hd => rfl); (case hg => rfl); (case hr => first | (go_simp; done) | (go_simp; rfl)); (case hp => exact (Reps.none _ _)); intro v5 w5 ho5 hb hg_ hnew_; clear hg_ hnew_; obtain ⟨A5, c5, hv5⟩ := Kd.S_slice ho5; have hv6 : v5 = .slice A5 0 c5 := hv5; clear hv5; subst hv6; have O5 := Aside0.mk (show Kd.S (sl 32 (Kd.slice 3 (Kd.int .i64))) 31 w5 w2.heap.size (fun _ => True) (.slice A5 0 c5) [] from ho5); have B5 := Aside0.mk (below_step ((by repeat (first | (with_reducible first | exact (Below.refl _ _) | apply below_alloc | apply pw_below_drewN | apply below_drew1) | exact (Below.refl _ _))) : Below w2.heap.size w2 _) hb); clear ho5 hb)
    | ((with_reducible refine gate_dst (N := 6) rfl ?_); refine box_event ?hg (N := 6) ?hd (cs := #[.slice none 0 0]) (t := 22) ?hr ?_; (case hd => rfl); (case hg => rfl); (case hr => first | (go_simp; done) | (go_simp; rfl)); intro go hg w6 hbox hb; have G6 := Aside0.mk (show go = w5.heap.size from hg); have K6 := Aside0.mk hbox; have B6 := Aside0.mk (below_step ((by repeat (first | (with_reducible first | exact (Below.refl _ _) | apply below_alloc | apply pw_below_drewN | apply below_drew1) | exact (Below.refl _ _))) : Below w5.heap.size w5 _) hb); clear hg hbox hb; have y1 : w6.cell? ⟨go, 0, none⟩ = some (.slice none 0 0) := (blk_cell K6.out 0).trans rfl; have f1 : w6.frozen? ⟨go, 0, none⟩ = false := blk_frozen K6.out 0)
    | ((with_reducible refine gate_store (t := 22) (p := 6) rfl ?_); refine store_event (t := 22) (p := 6) (v := ?vo) (w1 := (w6.setCell ⟨go, 0, none⟩ (.slice A5 0 c5))) ?hg ?ho ?hn ?hr ?_; (case ho => rfl); (case hg => rfl); (case hn => rfl); (case hr => first | (go_simp; done) | (go_simp; rfl)); intro w7 hw; have E7 := Aside0.mk hw; clear hw)
    | ((with_reducible refine gate_dst (N := 7) rfl ?_); refine box_event ?hg (N := 7) ?hd (cs := #[.nilFunc]) (t := 30) ?hr ?_; (case hd => rfl); (case hg => rfl); (case hr => first | (go_simp; done) | (go_simp; rfl)); intro gp hg w8 hbox hb; have G8 := Aside0.mk (show gp = w7.heap.size from hg); have K8 := Aside0.mk hbox; have B8 := Aside0.mk (below_step ((by repeat (first | (with_reducible first | exact (Below.refl _ _) | apply below_alloc | apply pw_below_drewN | apply below_drew1) | exact (Below.refl _ _))) : Below w7.heap.size w7 _) hb); clear hg hbox hb; have y3 : w8.cell? ⟨gp, 0, none⟩ = some .nilFunc := (blk_cell K8.out 0).trans rfl; have f3 : w8.frozen? ⟨gp, 0, none⟩ = false := blk_frozen K8.out 0)
    | ((with_reducible refine gate_store (t := 30) (p := 7) rfl ?_); refine store_event (t := 30) (p := 7) (v := ?vo2) (w1 := (w8.setCell ⟨gp, 0, none⟩ (.func (.func 12) #[] #[.pointer (some ⟨gn, 0, none⟩), .pointer (some ⟨gk, 0, none⟩), .pointer (some ⟨go, 0, none⟩), .pointer (some ⟨gp, 0, none⟩)]))) ?hg ?ho ?hn ?hr ?_; (case ho => rfl); (case hg => rfl); (case hn => rfl); (case hr => first | (go_simp; done) | (go_simp; rfl)); intro w9 hw; have P9 := Aside0.mk (PSt.start K1.out B1.out G1.out K2.out B2.out G2.out O5.out B5.out K6.out B6.out G6.out E7.out K8.out B8.out G8.out hw); clear hw; have y5 : w9.cell? ⟨gp, 0, none⟩ = some (.func (.func 12) #[] #[.pointer (some ⟨gn, 0, none⟩), .pointer (some ⟨gk, 0, none⟩), .pointer (some ⟨go, 0, none⟩), .pointer (some ⟨gp, 0, none⟩)]) := (blk_cell P9.out.1.f 0).trans rfl)
    | (go_at_call 12; refine (KX.out _ gn gk go gp (P9.out.1.below (by repeat (first | (with_reducible first | exact (Below.refl _ _) | apply below_alloc | apply pw_below_drewN | apply below_drew1) | exact (Below.refl _ _)))) (below_step P9.out.2 (by repeat (first | (with_reducible first | exact (Below.refl _ _) | apply below_alloc | apply pw_below_drewN | apply below_drew1) | exact (Below.refl _ _))))).mono ?_; rintro e w10 ⟨rfl, v, hv1, hv2, hv3⟩; have F2 := Aside0.mk hv2; have F3 := Aside0.mk hv3; have y6 : w10.cell? ⟨go, 0, none⟩ = some v := (blk_cell hv1 0).trans rfl; clear hv1 hv2 hv3))
  go_ret2
  exact ⟨_, rfl, (by (with_reducible repeat (first | apply Kd.S_alloc | apply Kd.S_drewN | apply Kd.S_drew)); exact F2.out), (by repeat (first | (with_reducible first | exact F3.out | apply below_alloc | apply pw_below_drewN | apply below_drew1) | exact F3.out))⟩
end Go.Proofs.Ytlkfmoleehmgcaa.Put
end
