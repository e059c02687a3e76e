/- What weights' own function does with a placement: one more in the row of its rooks, at the place of its free cells. No conditions. -/
import Derived.Test.YtlhblnphfpijkaaLaw
import Derived.Test.YtlhblnphfpijkaaQimplrooks
import Derived.Test.YtlhblnphfpijkaaQimplfree
import Derived.Outline
import Derived.Lib.Hide
import Derived.Deep.RegionWith
import Derived.Deep.RegionLaw
namespace Go.Proofs.Ytlhblnphfpijkaa.W1
set_option linter.unusedVariables false
set_option linter.unusedSectionVars false
open Go.RowKit Go.Proofs.YtlhblnphfpijkaaW.PrintWords Go.Proofs.YtlhblnphfpijkaaW.PrintLast Go.Proofs.YtlhblnphfpijkaaW.PrintMore
open Go.Proofs.YtlhblnphfpijkaaL Go.Proofs.Ytlhblnphfpijkaa.LawK Go.Proofs.Ytlhblnphfpijkaa.Q
/-- A row, long enough for a place. -/
def pad (row : List Int) (e : Nat) : List Int := row ++ List.replicate (e + 1 - row.length) 0
/-- One more at a place. -/
def bump (row : List Int) (e : Nat) : List Int := (pad row e).set e (wrap64 (rd (pad row e) (e : Int) + 1))
theorem set_self {α : Type} {l : List α} {i : Nat} {x : α} (h : l[i]? = some x) : l.set i x = l := by
  obtain ⟨h1, h2⟩ := List.getElem?_eq_some_iff.1 h
  rw [← h2, List.set_getElem_self]
/-- A row is put into a lent cell. -/
theorem put_row {W : World} {base g n cap : Nat} {ok oki okp : Nat → Prop} {xs : List (List Int)} {i : Int} {vi v' : Value} {row' : List Int} (h : Kd.H (Kd.slice 3 (Kd.int .i64)) 22 W base ok (.slice (some ⟨g, 0, none⟩) n cap) xs i oki [vi]) (h0 : 0 ≤ i) (h1 : i < n)
    (hR : Kd.R (Kd.int .i64) 3 W base okp v' row') (hp : ∀ k, okp k → oki k) (hng : ∀ k, okp k → k ≠ g) : Kd.S (Kd.slice 3 (Kd.int .i64)) 22 (W.setCell ⟨g, i.toNat, none⟩ v') base ok (.slice (some ⟨g, 0, none⟩) n cap) (xs.set i.toNat row') := by
  obtain ⟨A, c, rfl⟩ := Kd.R_slice hR
  obtain ⟨h2, _⟩ := Kd.H_seg (seg := [.slice A row'.length c]) (j := 0) h h0 h1 (Nat.le_refl _) (by intro q hq; rw [List.mem_singleton] at hq; subst hq; rfl)
  have e1 : W.setCells g (i.toNat * (Kd.slice 3 (Kd.int .i64)).sz + 0) [.slice A row'.length c] = W.setCell ⟨g, i.toNat, none⟩ (.slice A row'.length c) := by
    show W.setCell ⟨g, i.toNat * 1 + 0, none⟩ _ = _
    rw [Nat.mul_one, Nat.add_zero]
  rw [e1] at h2
  exact Kd.H_back (okp := okp) h2 ⟨_, rfl, Kd.R_far hR (fun k hk => hng k hk) _⟩ hp
section
variable (kI eI : Nat) (R cp a gl go bs kk g c1 : Nat) (l ps : List Int) (out : List (List Int)) (A0 : Option Addr) (c0 : Nat) (row : List Int) (OKP : Nat → Prop) (w : World)
  (hps : ps.length = R) (hcp : R ≤ cp) (hc0 : l.length ≤ c0) (hr : Kd.C (Kd.int .i64) w (some ⟨a, 0, none⟩) R ps) (hL : Kd.C (Kd.int .i64) w A0 l.length l)
  (hgl : w.heap[gl]? = some (.cells #[.slice A0 l.length c0] 22 (0, 0))) (hgo : w.heap[go]? = some (.cells #[.slice (some ⟨g, 0, none⟩) out.length c1] 23 (0, 0))) (hng : ∀ k, OKP k → k ≠ go) (hbs : bs ≤ w.heap.size) (hnew : ∀ k, w.heap.size ≤ k → OKP k)
  (ho : Kd.S (Kd.slice 3 (Kd.int .i64)) 22 w bs OKP (.slice (some ⟨g, 0, none⟩) out.length c1) out)
  (hk : kI < out.length) (he : eI ≤ 1000) (hrow : out[kI]? = some row) (hrl : row.length ≤ 1000) (hol : out.length ≤ 1000)
  (hh : impl_rooks.f kk ps = some (kI : Int)) (hf : impl_free.f kk l ps = some (eI : Int))
include hps hcp hc0 hr hL hgl hgo hng hbs hnew ho hk he hrow hrl hol hh hf
set_option maxHeartbeats 8000000 in
set_option maxRecDepth 100000 in
theorem w1_calls : Calls Try.prog 113 #[.slice (some ⟨a, 0, none⟩) R cp, .pointer (some ⟨gl, 0, none⟩), .pointer (some ⟨go, 0, none⟩)] w
    fun e w' => e = .returned (.bool true) ∧ Kd.S (Kd.slice 3 (Kd.int .i64)) 22 w' bs OKP (.slice (some ⟨g, 0, none⟩) out.length c1) (out.set kI (bump row eI)) ∧ Kept w w' OKP ∧ Below bs w w' := by
  have CR := Lib.hid (fun (W : World) (hb : Below w.heap.size w W) => by
    have := impl_rooks.calls kk (some ⟨a, 0, none⟩) cp ps (kI : Int) W (by rw [hps]; exact Kd.C_below hr hb) (by rw [hps]; exact hcp) hh
    rw [hps] at this
    have h2 : Calls Try.prog 105 #[.slice (some ⟨a, 0, none⟩) R cp] W fun e w' => e = .returned (.int .i64 (kI : Int)) ∧ Below w.heap.size w w' := this.mono (by rintro e w' ⟨rfl, h3⟩; exact ⟨rfl, hb.trans (h3.below.mono hb.size)⟩)
    exact h2)
  have CF := Lib.hid (fun (W : World) (hb : Below w.heap.size w W) => by
    have := impl_free.calls kk A0 c0 l (some ⟨a, 0, none⟩) cp ps (eI : Int) W (Kd.C_below hL hb) hc0 (by rw [hps]; exact Kd.C_below hr hb) (by rw [hps]; exact hcp) hf
    rw [hps] at this
    have h2 : Calls Try.prog 114 #[.slice A0 l.length c0, .slice (some ⟨a, 0, none⟩) R cp] W fun e w' => e = .returned (.int .i64 (eI : Int)) ∧ Below w.heap.size w w' := this.mono (by rintro e w' ⟨rfl, h3⟩; exact ⟨rfl, hb.trans (h3.below.mono hb.size)⟩)
    exact h2)
  have BL := Aside0.mk hgl
  have BO := Aside0.mk hgo
  have HS := Aside0.mk ho
  have HN := Lib.hid hnew
  have HBS := Aside0.mk hbs
  have HGL := Lib.hid hng
  have HW := Aside0.mk (And.intro hk (And.intro he (And.intro hrl hol)))
  have HR0 := Aside0.mk hrow
  have hz1 : w.cell? ⟨gl, 0, none⟩ = some (.slice A0 l.length c0) := (blk_cell hgl 0).trans rfl
  clear hps hcp hc0 hr hL hgl hgo hng hbs hnew ho hk he hrow hrl hol hh hf
  go_enter Try.func113, Try.ntmps113
  go_wp2
  go_region_with (first | (go_at_call 105; refine (CR.out _ (by repeat (first | exact Below.refl _ _ | apply below_drew1 | apply pw_below_drewN))).mono ?_; rintro e w2 ⟨rfl, hb⟩; have hb2 := Aside0.mk hb; have hz2 : w2.cell? ⟨gl, 0, none⟩ = some (.slice A0 l.length c0) := (blk_cell (blk_below BL.out hb) 0).trans rfl; clear hb) | (go_at_call 114; refine (CF.out _ hb2.out).mono ?_; rintro e w3 ⟨rfl, hb⟩; have hb3 := Aside0.mk hb; clear hb))
  all_goals clear hz1 hz2
  all_goals have S3 := Aside0.mk (Kd.S_below HS.out hb3.out)
  all_goals have O3 := Aside0.mk (blk_below BO.out hb3.out)
  all_goals have K3 := Aside0.mk (Kept.of_below hb3.out OKP)
  all_goals have B3 := Aside0.mk (hb3.out.mono HBS.out)
  all_goals clear hb2 hb3
  all_goals go_simp
  all_goals go_wp2
  all_goals (
    go_loopg [18] (max row.length (eI + 1) - row.length) (fun kq v18 w' => ∃ (j : Nat), Aside0 (row.length + j + kq = max row.length (eI + 1)) ∧ Aside0 (Kd.S (Kd.slice 3 (Kd.int .i64)) 22 w' bs OKP (.slice (some ⟨g, 0, none⟩) out.length c1) (out.set kI (row ++ List.replicate j 0))) ∧ Aside0 (Kept w w' OKP) ∧ Aside0 (Below bs w w'))
    case atStart => exact ⟨0, ⟨by have := HW.out; omega⟩, ⟨by rw [List.replicate_zero, List.append_nil, set_self HR0.out]; exact S3.out⟩, K3, B3⟩
    case round =>
      obtain ⟨j, HJ, HS2, HK, HB2⟩ := hrel
      have hW := HW.out
      have hj := HJ.out
      obtain ⟨rj, hrj⟩ : ∃ rj, rj = row ++ List.replicate j (0 : Int) := ⟨_, rfl⟩
      have hrjl : rj.length = row.length + j := by rw [hrj, List.length_append, List.length_replicate]
      rw [← hrj] at HS2
      obtain ⟨oki, cs, hcl, hM, hcell, hoki, hH⟩ := Kd.S_lend HS2.out [] (kI : Int) (by omega) (by omega)
      have hrow : (out.set kI rj).getD ((kI : Nat) : Int).toNat [] = rj := by
        rw [Int.toNat_natCast, List.getD_eq_getElem?_getD, List.getElem?_set_self (by omega)]; rfl
      rw [hrow] at hM
      obtain ⟨vi, rfl, hR⟩ := hM
      obtain ⟨Ai, ci, hvi⟩ := Kd.R_slice hR
      subst hvi
      have hzi : wr.cell? ⟨g, kI, none⟩ = some (.slice Ai rj.length ci) := by
        have := hcell 0 _ rfl
        simpa [Kd.slice, Nat.mul_one] using this
      have OW := Aside0.mk (show wr.heap[go]? = some (Obj.cells #[.slice (some ⟨g, 0, none⟩) out.length c1] 23 (0, 0)) from blk_kept BO.out HK.out (fun h => HGL.out go h rfl))
      have hzo : wr.cell? ⟨go, 0, none⟩ = some (.slice (some ⟨g, 0, none⟩) out.length c1) := (blk_cell OW.out 0).trans rfl
      have hHat := Kd.H_at hH (by omega) (by omega)
      have hfi : wr.frozen? ⟨g, kI, none⟩ = false := by
        have := hHat.2 0
        simpa [Kd.slice, Nat.mul_one] using this
      have p2 := eq_true (show (0 : Int) ≤ (kI : Int) by omega)
      have p3 := eq_true (show (kI : Int) < (out.length : Int) by omega)
      have HH := Aside0.mk hH
      have HO := Aside0.mk hoki
      have HR := Aside0.mk hR
      have HX := Aside0.mk (And.intro hrj hrjl)
      by_cases hlt : row.length + j ≤ eI
      · have p1 : decide (rj.length ≤ eI) = true := decide_eq_true (by omega)
        have HLT := Aside0.mk hlt
        have hat5 := Kd.H_at (Kd.H_drew (Kd.H_alloc hH (Obj.cells #[Value.int .i64 0] 3))) (by omega) (by omega)
        have hzi5 : ((wr.alloc (Obj.cells #[Value.int .i64 0] 3)).drew).cell? ⟨g, kI, none⟩ = some (.slice Ai rj.length ci) := by
          have := hat5.1 0 _ rfl
          simpa [Kd.slice, Nat.mul_one] using this
        have hzo5 : ((wr.alloc (Obj.cells #[Value.int .i64 0] 3)).drew).cell? ⟨go, 0, none⟩ = some (.slice (some ⟨g, 0, none⟩) out.length c1) := (blk_cell (blk_drew (blk_alloc OW.out _)) 0).trans rfl
        clear hW hj hrjl hcl hcell hrow hHat hoki hH hR hlt hrj hat5
        go_wp2
        go_region_law (first | ((try rw [show (wr.alloc (Obj.cells #[Value.int .i64 0] 3)).drew = (wr.drew).alloc (Obj.cells #[Value.int .i64 0] 3) from rfl]); refine Kd.R_append_step (Kd.int .i64) (w0 := w) bs (by kernel_rfl) (.tmp 24) (.tmp 25) 22 3 (.int .i64 0) 8 (by rfl) Try.underlying22 info3 rfl (by decide) (by decide) (.slice Ai rj.length ci) rj 0 [.int .i64 0] (fun k => oki k ∨ (OKP k ∧ wr.heap.size ≤ k)) (fun _ => False) (by rfl) (by rfl) ?x1 (fun _ hk => hk.elim) ?x3 ?x4 ?x5 ?x6 ?x7 ?_; (case x1 => exact rfl); (case x3 => exact fun k hk => .inr ⟨HN.out k (Nat.le_trans HK.out.1 hk), hk⟩); (case x4 => (((with_reducible repeat (first | apply Kd.R_alloc | apply Kd.R_drewN | apply Kd.R_drew))); exact Kd.R_mono HR.out (fun k hk => .inl hk))); (case x5 => exact (by repeat (first | (with_reducible first | exact HB2.out | apply pw_below_drewN | apply below_drew1) | exact HB2.out))); (case x6 => exact Nat.le_trans HBS.out HK.out.1); (case x7 => (have h1 := HX.out.2; have h2 := HLT.out; have h3 := HW.out; omega)); intro v4 w4 hr4 hb4 hg4 hat4; obtain ⟨A4, c4, hv4⟩ := Kd.R_slice hr4; subst hv4; have H4 := Aside0.mk (Kd.H_grown (Kd.H_widen (by ((with_reducible repeat (first | apply Kd.H_alloc | apply Kd.H_drewN | apply Kd.H_drew))); exact HH.out)) hg4 (fun k hk => .inl (HR.out.1 k hk))); have hat := Kd.H_at H4.out (by have := HW.out; omega) (by have := HW.out; omega); have hz4 : w4.cell? ⟨g, kI, none⟩ = some (.slice Ai rj.length ci) := (by have := hat.1 0 _ rfl; simpa [Kd.slice, Nat.mul_one] using this); have hf4 : w4.frozen? ⟨g, kI, none⟩ = false := (by have := hat.2 0; simpa [Kd.slice, Nat.mul_one] using this); have O4 := Aside0.mk (blk_grown (g := go) (o := .cells #[.slice (some ⟨g, 0, none⟩) out.length c1] 23 (0, 0)) (by (with_reducible repeat (first | refine blk_drewN ?_ _ | refine blk_drew ?_ | refine blk_alloc ?_ _)); exact OW.out) hg4 (fun he => HGL.out go (HO.out go (HR.out.1 go he.symm)).1 rfl)); have hzo4 : w4.cell? ⟨go, 0, none⟩ = some (.slice (some ⟨g, 0, none⟩) out.length c1) := (blk_cell O4.out 0).trans rfl; have R4 := Aside0.mk hr4; have B4 := Aside0.mk hb4; have G4 := Aside0.mk hg4; clear hat hr4 hb4 hg4 hat4))
        all_goals go_wp2
        all_goals (
          have hg0 : OKP g := (Kd.S_R HS2.out).1 g rfl
          have hg1 : bs ≤ g := Kd.R_base (Kd.S_R HS2.out) g rfl
          have hg2 : g < wr.heap.size := Kd.S_lt HS2.out g rfl
          have S5 := put_row H4.out (by omega) (by have := HW.out; omega) R4.out (fun k hk => hk) (fun k hk => hk.elim (fun h => (HO.out k h).2) (fun h he => by have := h.2; omega))
          have e5 : (rj ++ [(0 : Int)]).length = rj.length + 1 := by simp
          rw [Int.toNat_natCast, List.set_set, e5] at S5
          cases gk with
          | zero => exact absurd HJ.out (by have := HLT.out; omega)
          | succ k1 =>
            go_roundg k1
            case measure => omega
            case rel => exact ⟨j + 1, ⟨by have := HJ.out; omega⟩, ⟨by rw [List.replicate_succ', ← List.append_assoc, ← HX.out.1]; exact S5⟩, ⟨Kept.setCell (Kept.of_grown G4.out (Kept.drew HK.out) (fun k hk => .inl (HO.out k (HR.out.1 k hk)).1)) (.inl hg0) _⟩, ⟨B4.out.setCell hg1 _⟩⟩)
      · have p1 : decide (rj.length ≤ eI) = false := decide_eq_false (by omega)
        obtain ⟨gi, ci2, ei, _, _, _, _⟩ := Kd.R_form hR (by omega)
        cases ei
        obtain ⟨hxe, hfe⟩ := Kd.R_celln (0 : Int) hR (eI : Int) (by omega) (by omega)
        rw [Int.toNat_natCast] at hxe hfe
        have hpad : rj = pad row eI := by rw [hrj, pad, show j = eI + 1 - row.length by omega]
        have R6 := Kd.R_putn hR (eI : Int) (wrap64 (rd rj (eI : Int) + 1))
        rw [Int.toNat_natCast] at R6
        have hgi : oki gi := hR.1 gi rfl
        have H6 := Kd.H_step hH (w1 := wr.setCell ⟨gi, eI, none⟩ (.int .i64 (wrap64 (rd rj (eI : Int) + 1)))) (fun k _ hn _ => Below.heap_setCell wr ⟨gi, eI, none⟩ _ k (fun he => hn (by rw [he]; exact hgi)))
        have S6 := Kd.H_back H6 (okp := oki) (x' := rj.set eI (wrap64 (rd rj (eI : Int) + 1))) ⟨_, rfl, by first | exact R6 | simpa using R6⟩ (fun k hk => hk)
        rw [Int.toNat_natCast, List.set_set, hpad] at S6
        have SS := Aside0.mk S6
        have HP := Aside0.mk hpad
        have hb6 := Aside0.mk (show bs ≤ gi from Kd.R_base hR gi rfl)
        have ho6 := Aside0.mk (hoki gi hgi).1
        have p4 := eq_true (show (0 : Int) ≤ (eI : Int) by omega)
        have p5 := eq_true (show eI < rj.length by omega)
        clear hW hj hrjl hcl hcell hrow hHat hoki hH hR hlt hrj R6 H6 S6 hpad hgi
        go_wp2
        go_ret
        exact ⟨rfl, by rw [HP.out]; exact SS.out, Kept.setCell HK.out (.inl ho6.out) _, HB2.out.setCell hb6.out _⟩)
end
end Go.Proofs.Ytlhblnphfpijkaa.W1
