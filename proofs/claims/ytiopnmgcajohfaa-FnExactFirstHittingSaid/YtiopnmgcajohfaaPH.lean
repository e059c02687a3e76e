/- What PermutationsHitting's own function does with a permutation: it appends a copy where so many rows are hit. No conditions. -/
import Derived.Test.YtiopnmgcajohfaaPermsPH
import Derived.Test.YtiopnmgcajohfaaQimplBoardhits
import Derived.Test.YtiopnmgcajohfaaPerm
import Derived.Test.YtiopnmgcajohfaaHandClone
import Derived.Deep.RegionWith
import Derived.Deep.RegionLaw
namespace Go.Proofs.Ytiopnmgcajohfaa.PH
set_option linter.unusedVariables false
set_option linter.unusedSectionVars false
open Go.RowKit Go.Proofs.YtiopnmgcajohfaaW.PrintWords Go.Proofs.YtiopnmgcajohfaaW.PrintLast Go.Proofs.YtiopnmgcajohfaaW.PrintMore
open Go.Proofs.YtiopnmgcajohfaaL Go.Proofs.Ytiopnmgcajohfaa.LawK Go.Proofs.Ytiopnmgcajohfaa.BoardK Go.Proofs.Ytiopnmgcajohfaa.Walk Go.Proofs.Ytiopnmgcajohfaa.Q Go.Proofs.Ytiopnmgcajohfaa.PermK

section
variable (RI CI hI kI : Int) (R cp a gb gk go kk : Nat) (l ps : List Int) (A0 : Option Addr) (c0 : Nat) (w : World)
  (hps : ps.length = R) (hcp : R ≤ cp) (hc0 : l.length ≤ c0) (hr : Kd.C (Kd.int .i64) w (some ⟨a, 0, none⟩) R ps) (hL : Kd.C (Kd.int .i64) w A0 l.length l)
  (hgb : w.heap[gb]? = some (.cells #[.int .i64 RI, .int .i64 CI, .slice A0 l.length c0] 43 (0, 0))) (hgk : w.heap[gk]? = some (.cells #[.int .i64 kI] 3 (0, 0)))
  (hh : impl_Board_hits.f kk RI CI l ps = some hI)
include hps hcp hc0 hr hL hgb hgk hh
set_option maxHeartbeats 4000000 in
set_option maxRecDepth 100000 in
theorem ph1_skip (hne : hI ≠ kI) : Calls Try.prog 95 #[.slice (some ⟨a, 0, none⟩) R cp, .pointer (some ⟨gb, 0, none⟩), .pointer (some ⟨gk, 0, none⟩), .pointer (some ⟨go, 0, none⟩)] w
    fun e w' => e = .returned (.tuple #[]) ∧ Below w.heap.size w w' := by
  have CX := Lib.hid (fun (W : World) (hb : Below w.heap.size w W) => by
    have := impl_Board_hits.calls kk RI CI A0 c0 l (some ⟨a, 0, none⟩) cp ps hI W (Kd.C_below hL hb) hc0 (by rw [hps]; exact Kd.C_below hr hb) (by rw [hps]; exact hcp) hh
    rw [hps] at this
    have h2 : Calls Try.prog 96 #[.agg #[.int .i64 RI, .int .i64 CI, .slice A0 l.length c0], .slice (some ⟨a, 0, none⟩) R cp] W fun e w' => e = .returned (.int .i64 hI) ∧ Below w.heap.size w w' := this.mono (by rintro e w' ⟨rfl, h3⟩; exact ⟨rfl, hb.trans (h3.mono hb.size)⟩)
    exact h2)
  have c1 : (hI == kI) = false := beq_eq_false_iff_ne.mpr hne
  have BK := Aside0.mk hgk
  have hz2 : w.cell? ⟨gb, 0, none⟩ = some (.int .i64 RI) := (blk_cell hgb 0).trans rfl
  have hz3 : w.cell? ⟨gb, 1, none⟩ = some (.int .i64 CI) := (blk_cell hgb 1).trans rfl
  have hz4 : w.cell? ⟨gb, 2, none⟩ = some (.slice A0 l.length c0) := (blk_cell hgb 2).trans rfl
  have hz5 : w.cell? ⟨gk, 0, none⟩ = some (.int .i64 kI) := (blk_cell hgk 0).trans rfl
  have hu24 := Try.underlying43
  clear hps hcp hc0 hr hL hgb hgk hh hne
  go_enter Try.func95, Try.ntmps95
  go_wp2
  go_region_with (go_at_call 96; refine (CX.out _ (by repeat (first | exact Below.refl _ _ | apply below_drew1 | apply pw_below_drewN))).mono ?_; rintro e w2 ⟨rfl, hb⟩; have hb2 := Aside0.mk hb; have hz6 : w2.cell? ⟨gk, 0, none⟩ = some (.int .i64 kI) := (blk_cell (blk_below BK.out hb) 0).trans rfl; clear hb)
  all_goals go_wp2
  all_goals first | go_end0 | ((try simp only [Exit.inBlock, Exit.then]); refine bodyPost_ret (results_none rfl _ _ _) rfl ?_)
  all_goals exact ⟨rfl, hb2.out⟩
end
section
variable (RI CI hI : Int) (R cp a gb gk go kk bs : Nat) (l ps : List Int) (out : List (List Int)) (A0 : Option Addr) (c0 : Nat) (v : Value) (OKP : Nat → Prop) (w : World)
  (hps : ps.length = R) (hR6 : R ≤ 6) (hcp : R ≤ cp) (hc0 : l.length ≤ c0) (hr : Kd.C (Kd.int .i64) w (some ⟨a, 0, none⟩) R ps) (hL : Kd.C (Kd.int .i64) w A0 l.length l)
  (hgb : w.heap[gb]? = some (.cells #[.int .i64 RI, .int .i64 CI, .slice A0 l.length c0] 43 (0, 0))) (hgk : w.heap[gk]? = some (.cells #[.int .i64 hI] 3 (0, 0)))
  (hgo : w.heap[go]? = some (.cells #[v] 29 (0, 0))) (hng : ∀ k, OKP k → k ≠ go) (hbs : bs ≤ w.heap.size) (hnew : ∀ k, w.heap.size ≤ k → OKP k)
  (ho : Kd.S (Kd.slice 3 (Kd.int .i64)) 28 w bs OKP v out) (hol : out.length ≤ 1000000)
  (hh : impl_Board_hits.f kk RI CI l ps = some hI)
include hps hR6 hcp hc0 hr hL hgb hgk hgo hng hbs hnew ho hol hh
set_option maxHeartbeats 8000000 in
set_option maxRecDepth 100000 in
theorem ph1_take : Calls Try.prog 95 #[.slice (some ⟨a, 0, none⟩) R cp, .pointer (some ⟨gb, 0, none⟩), .pointer (some ⟨gk, 0, none⟩), .pointer (some ⟨go, 0, none⟩)] w
    fun e w' => e = .returned (.tuple #[]) ∧ ∃ v', w'.heap[go]? = some (.cells #[v'] 29 (0, 0)) ∧ Kd.S (Kd.slice 3 (Kd.int .i64)) 28 w' bs OKP v' (out ++ [ps]) ∧ Still (fun k => k = go ∨ OKP k) w w' := by
  have CX := Lib.hid (fun (W : World) (hb : Below w.heap.size w W) => by
    have := impl_Board_hits.calls kk RI CI A0 c0 l (some ⟨a, 0, none⟩) cp ps hI W (Kd.C_below hL hb) hc0 (by rw [hps]; exact Kd.C_below hr hb) (by rw [hps]; exact hcp) hh
    rw [hps] at this
    have h2 : Calls Try.prog 96 #[.agg #[.int .i64 RI, .int .i64 CI, .slice A0 l.length c0], .slice (some ⟨a, 0, none⟩) R cp] W fun e w' => e = .returned (.int .i64 hI) ∧ Below w.heap.size w w' := this.mono (by rintro e w' ⟨rfl, h3⟩; exact ⟨rfl, hb.trans (h3.mono hb.size)⟩)
    exact h2)
  have CC := Lib.hid (fun (W : World) (hb : Below w.heap.size w W) => by
    have := slices_Clone_int_int.calls (some ⟨a, 0, none⟩) cp ps ps W (by rw [hps]; exact Kd.C_below hr hb) (by rw [hps]; exact hcp) (by rw [slices_Clone_int_int.f, if_pos (by omega)])
    rw [hps] at this
    have h2 : Calls Try.prog 81 #[.slice (some ⟨a, 0, none⟩) R cp] W fun e w' => ∃ v0_ : Value, e = .returned v0_ ∧ Kd.R (Kd.int .i64) 3 w' w.heap.size (fun _ => True) v0_ ps ∧ Below w.heap.size w w' := this.mono (by rintro e w' ⟨v0, rfl, h3, h4⟩; exact ⟨v0, rfl, Kd.R_lower h3 hb.size, hb.trans (h4.mono hb.size)⟩)
    exact h2)
  have BK := Aside0.mk hgk
  have BO := Aside0.mk hgo
  have HS := Aside0.mk ho
  have HN := Lib.hid hnew
  have HL := Aside0.mk hol
  have HBS := Aside0.mk hbs
  have HGL := Lib.hid hng
  have hz2 : w.cell? ⟨gb, 0, none⟩ = some (.int .i64 RI) := (blk_cell hgb 0).trans rfl
  have hz3 : w.cell? ⟨gb, 1, none⟩ = some (.int .i64 CI) := (blk_cell hgb 1).trans rfl
  have hz4 : w.cell? ⟨gb, 2, none⟩ = some (.slice A0 l.length c0) := (blk_cell hgb 2).trans rfl
  have hz5 : w.cell? ⟨gk, 0, none⟩ = some (.int .i64 hI) := (blk_cell hgk 0).trans rfl
  have hu24 := Try.underlying43
  clear hps hR6 hcp hc0 hr hL hgb hgk hgo hh hnew ho hol hbs hng
  go_enter Try.func95, Try.ntmps95
  go_wp2
  go_region_with (go_at_call 96; refine (CX.out _ (by repeat (first | exact Below.refl _ _ | apply below_drew1 | apply pw_below_drewN))).mono ?_; rintro e w2 ⟨rfl, hb⟩; have hb2 := Aside0.mk hb; have hz6 : w2.cell? ⟨gk, 0, none⟩ = some (.int .i64 hI) := (blk_cell (blk_below BK.out hb) 0).trans rfl; have hz7 : w2.cell? ⟨go, 0, none⟩ = some v := (blk_cell (blk_below BO.out hb) 0).trans rfl; have hf7 : w2.frozen? ⟨go, 0, none⟩ = false := blk_frozen (blk_below BO.out hb) 0; clear hb)
  all_goals go_wp2
  all_goals clear hz2 hz3 hz4 hz5 hz6
  all_goals go_region_law (first | (refine Kd.S_append_step (Kd.slice 3 (Kd.int .i64)) (w0 := w) bs (by kernel_rfl) (.tmp 10) (.tmp 13) 29 28 (.slice none 0 0) 24 (by rfl) Try.underlying29 info28 rfl (by decide) (by decide) v out ps [.slice A3 ps.length c3] OKP (fun k => some k = (Value.slice A3 ps.length c3).ownBlock) (by rfl) (by rfl) ?x1 ?x2 ?x3 ?x4 ?x5 ?x6 ?x7 ?_; (case x1 => exact ⟨_, rfl, (by (with_reducible repeat (first | apply Kd.R_alloc | apply Kd.R_drewN | apply Kd.R_drew)); exact Kd.R_tight rfl (Kd.R_lower H3.out HBS.out))⟩); (case x2 => exact fun k hk => (have h1 := Kd.R_base H3.out k hk.symm; ⟨HN.out k h1, fun he => (by have h2 := Kd.S_lt HS.out k he.symm; omega)⟩)); (case x3 => exact fun k hk => HN.out k (Nat.le_trans hb3.out.size hk)); (case x4 => ((with_reducible repeat (first | apply Kd.S_alloc | apply Kd.S_drewN | apply Kd.S_drew)); exact Kd.S_mono (Kd.S_below (Kd.S_bound HS.out) hb3.out) (fun k hk => ⟨hk.1, fun he => (by have h1 := Kd.R_base H3.out k he.symm; have h2 := hk.2.2.1; omega)⟩))); (case x5 => exact (by repeat (first | (with_reducible first | exact hb3.out.mono HBS.out | apply pw_below_drewN | apply below_drew1) | exact hb3.out.mono HBS.out))); (case x6 => exact Nat.le_trans HBS.out hb3.out.size); (case x7 => (have := HL.out; omega)); intro v4 w4 hs4 hb4 hg4 hat4; obtain ⟨A4, c4, rfl⟩ := Kd.S_slice hs4; have K4 := Aside0.mk (blk_grown (g := go) (o := .cells #[v] 29 (0, 0)) (by (with_reducible repeat (first | refine blk_drewN ?_ _ | refine blk_drew ?_ | refine blk_alloc ?_ _)); exact blk_below BO.out hb3.out) hg4 (fun he => HGL.out go ((Kd.S_R HS.out).1 go he.symm) rfl)); have S4 := Aside0.mk hs4; have B4 := Aside0.mk hb4; have G4 := Aside0.mk hg4; have T4 := Aside0.mk hat4; have hz9 : w4.cell? ⟨go, 0, none⟩ = some v := (blk_cell K4.out 0).trans rfl; have hf9 : w4.frozen? ⟨go, 0, none⟩ = false := blk_frozen K4.out 0; clear hs4 hb4 hg4 hat4) | (rw [if_pos (by kernel_rfl)]; go_wp2_with (go_at_call 81; refine (CC.out _ (by repeat (first | exact hb2.out | exact Below.refl _ _ | apply below_drew1 | apply pw_below_drewN))).mono ?_; rintro e w3 ⟨v3, rfl, ho3, hb⟩; obtain ⟨A3, c3, rfl⟩ := Kd.R_slice ho3; have hb3 := Aside0.mk hb; have H3 := Aside0.mk ho3; have hz8 : w3.cell? ⟨go, 0, none⟩ = some v := (blk_cell (blk_below BO.out hb) 0).trans rfl; have hz8a : (w3.alloc (Obj.cells #[Value.slice A3 ps.length c3] 28)).cell? ⟨go, 0, none⟩ = some v := (blk_cell (blk_alloc (blk_below BO.out hb) _) 0).trans rfl; have hf8 : w3.frozen? ⟨go, 0, none⟩ = false := blk_frozen (blk_below BO.out hb) 0; clear hb ho3)))
  all_goals go_wp2
  all_goals first | go_end0 | ((try simp only [Exit.inBlock, Exit.then]); refine bodyPost_ret (results_none rfl _ _ _) rfl ?_)
  all_goals have S5 := Kd.S_far (p := ⟨go, 0, none⟩) (Kd.S_bound S4.out) (fun k hk => HGL.out k hk.1) (.slice A4 (out ++ [ps]).length c4)
  all_goals rw [show (out ++ [ps]).length = out.length + 1 by simp] at S5
  all_goals replace S5 := Kd.S_mono (ok' := OKP) S5 (fun _ hk => hk.1)
  all_goals exact ⟨rfl, _, blk_put K4.out 0 _ rfl, S5, ⟨Kept.setCell (Kept.of_grown G4.out (by repeat (first | (with_reducible first | exact Kept.of_below hb3.out _ | apply Kept.alloc | apply Kept.drewN | apply Kept.drew) | exact Kept.of_below hb3.out _)) (fun k hk => .inl (.inr ((Kd.S_R HS.out).1 k hk)))) (.inl (.inl rfl)) _, B4.out.os, B4.out.tape, B4.out.output⟩⟩
end
end Go.Proofs.Ytiopnmgcajohfaa.PH
