/- Texts of this claim put together (9): words, what the functions compute, and plain facts. No conditions. -/
import Derived.Test.YtgnmcfoenmfhcaaSFnExactAllLargest8
import Derived.Test.YtgnmcfoenmfhcaaSFnExactAllLargest6
import Derived.Deep.RegionWith
import Derived.Test.YtgnmcfoenmfhcaaSFnExactAllLargest4
import Derived.Test.YtgnmcfoenmfhcaaSFnExactAllLargest5
section
namespace Go.Proofs.Ytgnmcfoenmfhcaa.NumK
set_option linter.unusedVariables false
set_option linter.unusedSectionVars false
open Go.RowKit Go.Proofs.YtgnmcfoenmfhcaaW.PrintWords Go.Proofs.YtgnmcfoenmfhcaaW.PrintLast Go.Proofs.YtgnmcfoenmfhcaaW.PrintMore
open Go.Proofs.YtgnmcfoenmfhcaaL Go.Proofs.Ytgnmcfoenmfhcaa.LawK Go.Proofs.Ytgnmcfoenmfhcaa.BoardK Go.Proofs.Ytgnmcfoenmfhcaa.Walk Go.Proofs.Ytgnmcfoenmfhcaa.Q
def numsF (m : Nat) (vis : List (List Int)) : List Int := vis.foldl (fun o p => o.set ((rooksN p : Nat) : Int).toNat (IntKind.i64.wrap (rdOf 0 o ((rooksN p : Nat) : Int) + 1))) (List.replicate m 0)
section
variable (hI : Int) (R m cp a go ga cp2 kk bs : Nat) (ps out : List Int) (w : World)
  (hps : ps.length = R) (hcp : R ≤ cp) (hr : Kd.C (Kd.int .i64) w (some ⟨a, 0, none⟩) R ps)
  (hgo : w.heap[go]? = some (.cells #[.slice (some ⟨ga, 0, none⟩) m cp2] 24 (0, 0)))
  (ho : Kd.R (Kd.int .i64) 3 w bs (fun i => i = ga) (.slice (some ⟨ga, 0, none⟩) m cp2) out)
  (hh : impl_rooks.f kk ps = some hI) (h0 : 0 ≤ hI) (h1 : hI < (m : Int))
include hps hcp hr hgo ho hh h0 h1
set_option maxHeartbeats 4000000 in
set_option maxRecDepth 100000 in
theorem nm1 : Calls Try.prog 143 #[.slice (some ⟨a, 0, none⟩) R cp, .pointer (some ⟨go, 0, none⟩)] w
    fun e w' => e = .returned (.bool true) ∧ ∃ W2, Below w.heap.size w W2 ∧ w' = W2.setCell ⟨ga, hI.toNat, none⟩ (.int .i64 (IntKind.i64.wrap (rdOf 0 out hI + 1))) := by
  have CX := Lib.hid (fun (W : World) (hb : Below w.heap.size w W) => by
    have := impl_rooks.calls kk (some ⟨a, 0, none⟩) cp ps hI W (by rw [hps]; exact Kd.C_below hr hb) (by rw [hps]; exact hcp) hh
    rw [hps] at this
    have h2 : Calls Try.prog 97 #[.slice (some ⟨a, 0, none⟩) R cp] W fun e w' => e = .returned (.int .i64 hI) ∧ Below w.heap.size w w' := this.mono (by rintro e w' ⟨rfl, h3⟩; exact ⟨rfl, hb.trans (h3.below.mono hb.size)⟩)
    exact h2)
  have FX := Lib.hid (fun (W : World) (hb : Below w.heap.size w W) => Kd.R_celln 0 (Kd.R_below ho hb) hI h0 h1)
  have BO := Aside0.mk hgo
  have hz1 : w.cell? ⟨go, 0, none⟩ = some (.slice (some ⟨ga, 0, none⟩) m cp2) := (blk_cell hgo 0).trans rfl
  have p1 := eq_true h0
  have p2 := eq_true h1
  clear hps hcp hr hgo ho hh h0 h1
  go_enter Try.func143, Try.ntmps143
  go_wp2
  go_region_with ((go_at_call 97; refine (CX.out _ (by repeat (first | exact Below.refl _ _ | apply below_drew1 | apply pw_below_drewN))).mono ?_; rintro e w2 ⟨rfl, hb⟩; have hb2 := Aside0.mk hb; have hz5 : w2.cell? ⟨go, 0, none⟩ = some (.slice (some ⟨ga, 0, none⟩) m cp2) := (blk_cell (blk_below BO.out hb) 0).trans rfl; obtain ⟨hx, hf⟩ := FX.out w2 hb; clear hb))
  all_goals (try go_wp2)
  all_goals go_ret
  all_goals exact ⟨rfl, w2, hb2.out, rfl⟩
end
end Go.Proofs.Ytgnmcfoenmfhcaa.NumK
namespace Go.Proofs.Ytgnmcfoenmfhcaa.Q
set_option linter.unusedVariables false
open Go.RowKit Go.Proofs.YtgnmcfoenmfhcaaW.PrintWords Go.Proofs.YtgnmcfoenmfhcaaW.PrintLast Go.Proofs.YtgnmcfoenmfhcaaW.PrintMore
open Go.Proofs.YtgnmcfoenmfhcaaL Go.Proofs.Ytgnmcfoenmfhcaa.LawK Go.Proofs.Ytgnmcfoenmfhcaa.BoardK Go.Proofs.Ytgnmcfoenmfhcaa.Walk Go.Proofs.Ytgnmcfoenmfhcaa.NumK Go.Proofs.Ytgnmcfoenmfhcaa.MostK
def impl_Board_numbers.f (a0_0 : Int) (a0_1 : Int) (l0_2 : List Int) : Option (List Int) := if isBoardB a0_0 a0_1 l0_2 = true then some (numsF (min a0_0 a0_1 + 1).toNat (waysFrom l0_2 a0_1.toNat l0_2.length 0 0 [])) else none
structure NInv (m go ga cp2 : Nat) (l : List Int) (A0 : Option Addr) (c0 : Nat) (w0 W : World) (S : Nat → Prop) (vis : List (List Int)) (w : World) : Prop where
  o : w.heap[go]? = some (.cells #[.slice (some ⟨ga, 0, none⟩) m cp2] 24 (0, 0))
  r : Kd.R (Kd.int .i64) 3 w w0.heap.size (fun i => i = ga) (.slice (some ⟨ga, 0, none⟩) m cp2) (numsF m vis)
  B : Below w0.heap.size w0 w
  s : ∀ i, S i → W.heap.size ≤ i
set_option maxHeartbeats 4000000 in
set_option maxRecDepth 100000 in
theorem impl_Board_numbers.calls (a0_0 a0_1 : Int) (A0_2 : Option Addr) (c0_2 : Nat) (l0_2 : List Int) (r : List Int) (w : World) (hr0_2 : Kd.C (Kd.int .i64) w A0_2 l0_2.length l0_2) (hc0_2 : l0_2.length ≤ c0_2) (h : impl_Board_numbers.f a0_0 a0_1 l0_2 = some r) :
    Calls Try.prog 124 #[.agg #[.int .i64 a0_0, .int .i64 a0_1, .slice A0_2 l0_2.length c0_2]] w fun e w' => ∃ v0_ : Value, e = .returned (v0_) ∧ Kd.R (Kd.int .i64) 3 w' w.heap.size (fun _ => True) v0_ r ∧ Below w.heap.size w w' := by
  by_cases hs : isBoardB a0_0 a0_1 l0_2 = true
  rotate_left
  · rw [impl_Board_numbers.f, if_neg hs] at h; cases h
  rw [impl_Board_numbers.f, if_pos hs] at h
  have h := Option.some.inj h
  obtain ⟨R, C, rfl, rfl, hlR, h1R, hR, h1C, hC, hbits⟩ := board_of hs
  obtain ⟨m, hm⟩ : ∃ m, m = (min (R : Int) (C : Int) + 1).toNat := ⟨_, rfl⟩
  rw [← hm, Int.toNat_natCast] at h
  have hmR : (m : Int) = (min (R : Int) (C : Int)) + 1 := by omega
  have hways := ways_le hlR hR hC hbits
  have KEY : ∀ (W : World) (go ga cp2 : Nat), Below w.heap.size w W → w.heap.size ≤ go → w.heap.size ≤ ga → go ≠ ga → go < W.heap.size → ga < W.heap.size →
      NInv m go ga cp2 l0_2 A0_2 c0_2 w W (fun _ => False) [] W →
      Calls Try.prog 142 #[.agg #[.int .i64 (R : Int), .int .i64 (C : Int), .slice A0_2 l0_2.length c0_2], .func (.func 143) #[] #[.pointer (some ⟨go, 0, none⟩)]] W fun e w' => e = .returned (.tuple #[]) ∧
        w'.heap[go]? = some (.cells #[.slice (some ⟨ga, 0, none⟩) m cp2] 24 (0, 0)) ∧ Kd.R (Kd.int .i64) 3 w' w.heap.size (fun i => i = ga) (.slice (some ⟨ga, 0, none⟩) m cp2) r ∧ Below w.heap.size w w' := by
    intro W go ga cp2 hBW bo ba noa lo la hst
    refine (WalkNum.walk_calls (NInv m go ga cp2 l0_2 A0_2 c0_2 w W)
      (by
        intro S vis w1 w2 hi hs1
        have kp : ∀ g, g < W.heap.size → ∀ {o}, w1.heap[g]? = some o → w2.heap[g]? = some o := fun g hg o ho => (hs1.kept.2 g (blk_lt ho) (fun h => by have := hi.s g h; omega)).trans ho
        exact ⟨kp go lo hi.o, Kd.R_step hi.r (fun i e hlt => by subst e; exact hs1.kept.2 _ hlt (fun h => by have := hi.s _ h; omega)), Still.below hi.B hs1 (fun i h => Nat.le_trans hBW.size (hi.s i h)), hi.s⟩)
      R C R C rfl rfl l0_2 A0_2 c0_2 hc0_2 (.pointer (some ⟨go, 0, none⟩))
      (fun S vis w1 hi => Kd.C_below hr0_2 hi.B)
      hlR h1R hR hC hbits W
      (by
        intro S w1 hS hB1
        exact ⟨blk_below hst.o hB1, Kd.R_below hst.r hB1, hBW.trans (hB1.mono hBW.size), hS⟩)
      (by
        intro S vis ps w1 a cp hS hSlt hps hmem hSa hC2 hcp hi
        have hk2 := hways ps (by obtain ⟨b, hb2⟩ := hmem; rw [hb2]; simp)
        obtain ⟨kk, hk⟩ := rooks_f (l := ps) (by omega)
        refine (nm1 ((rooksN ps : Nat) : Int) R m cp a go ga cp2 kk w.heap.size ps (numsF m vis) w1 hps hcp hC2 hi.o hi.r hk (by omega) (by omega)).mono ?_
        rintro e w2 ⟨rfl, W2, hb2, rfl⟩
        have hga : a ≠ ga := fun e => by have := hi.s a hSa; omega
        refine ⟨rfl, ⟨blk_far (blk_below hi.o hb2) noa _, ?_, Below.setCell (hi.B.trans (hb2.mono hi.B.size)) (by (try simp only []); exact ba) _, hi.s⟩, fun i hSi hlt => ?_⟩
        · have := Kd.R_putn (Kd.R_below hi.r hb2) ((rooksN ps : Nat) : Int) (IntKind.i64.wrap (rdOf 0 (numsF m vis) ((rooksN ps : Nat) : Int) + 1))
          unfold numsF at this ⊢
          rw [List.foldl_append]
          exact this
        · have := hi.s i hSi
          rw [Below.heap_setCell _ _ _ _ (by (try simp only []); omega)]
          exact hb2.block i hlt)).mono ?_
    rintro e w' ⟨rfl, S, hS, hi⟩
    rw [hlR] at h
    exact ⟨rfl, hi.o, by rw [← h]; exact hi.r, hi.B⟩
  have KX := Lib.hid KEY
  have HJC := Lib.hid (show (C : Int) < (R : Int) → (wrap64 ((C : Int) + 1)).toNat = m from fun hc => by rw [w64 (by omega) (by omega)]; omega)
  have HJR := Lib.hid (show ¬ (C : Int) < (R : Int) → (wrap64 ((R : Int) + 1)).toNat = m from fun hc => by rw [w64 (by omega) (by omega)]; omega)
  have HPC := Aside0.mk (show 0 ≤ wrap64 ((C : Int) + 1) from by rw [w64 (by omega) (by omega)]; omega)
  have HPR := Aside0.mk (show 0 ≤ wrap64 ((R : Int) + 1) from by rw [w64 (by omega) (by omega)]; omega)
  have HQC := Aside0.mk (show (wrap64 ((C : Int) + 1)).toNat * 8 ≤ 281474976710656 from by rw [w64 (by omega) (by omega)]; omega)
  have HQR := Aside0.mk (show (wrap64 ((R : Int) + 1)).toNat * 8 ≤ 281474976710656 from by rw [w64 (by omega) (by omega)]; omega)
  have HM := Aside0.mk (And.intro (show 0 < m by omega) (show m ≤ 7 by omega))
  have hu24 := Try.underlying26
  clear KEY h hs hlR h1R hR h1C hC hbits hm hmR hways hr0_2 hc0_2
  generalize (R : Int) = RI at *
  generalize (C : Int) = CI at *
  clear R C
  have HCR : (CI < RI ∧ (CI < RI) = True) ∨ (¬ CI < RI ∧ (CI < RI) = False) := by
    by_cases hcr : CI < RI
    · exact .inl ⟨hcr, eq_true hcr⟩
    · exact .inr ⟨hcr, eq_false hcr⟩
  rcases HCR with ⟨hcr, q1⟩ | ⟨hcr, q1⟩
  all_goals have HCR := Aside0.mk hcr
  all_goals clear hcr
  all_goals go_enter Try.func124, Try.ntmps124
  all_goals go_wp2_with (first
    | ((with_reducible refine gate_dst (N := 1) rfl ?_); refine box_event ?hg (N := 1) ?hd (cs := #[.int .i64 RI, .int .i64 CI, .slice A0_2 l0_2.length c0_2]) (t := 26) ?hr ?_; (case hd => rfl); (case hg => rfl); (case hr => first | (go_simp; done) | (go_simp; rfl)); intro gb hg w1 hbox hb; have G1 := Aside0.mk hg; have K1 := Aside0.mk hbox; have B1 := Aside0.mk hb; clear hg hbox hb; have z1 : w1.cell? ⟨gb, 0, none⟩ = some (.int .i64 RI) := (blk_cell K1.out 0).trans rfl; have z2 : w1.cell? ⟨gb, 1, none⟩ = some (.int .i64 CI) := (blk_cell K1.out 1).trans rfl)
    | ((with_reducible refine gate_dst (N := 10) rfl ?_); refine Kd.R_make (Kd.int .i64) (w0 := w1) w1.heap.size 3 rfl (N := 10) rfl 24 _ _ rfl (wrap64 (CI + 1)) rfl rfl Try.underlying24 (.int .i64 0) 8 info3 rfl (by decide) (by omega) 0 (ok := fun _ => True) (okp := fun _ => True) rfl (fun _ hk => hk) trivial HPC.out HQC.out (Below.refl _ _) (Nat.le_refl _) ?_; intro v3 w3 ho3 hb hg_ hnew_; clear hg_ hnew_; rw [HJC.out HCR.out] at ho3; obtain ⟨ga, cp2, hv3, hga, hga2, cells3, hc3⟩ := Kd.R_form ho3 (by rw [List.length_replicate]; exact HM.out.1); rw [List.length_replicate] at hv3; subst hv3; have G3 := Aside0.mk (And.intro hga hga2); clear hga hga2 hc3; have B3 := Aside0.mk hb; have O3 := Aside0.mk ho3; clear hb ho3)
    | ((with_reducible refine gate_dst (N := 10) rfl ?_); refine Kd.R_make (Kd.int .i64) (w0 := w1) w1.heap.size 3 rfl (N := 10) rfl 24 _ _ rfl (wrap64 (RI + 1)) rfl rfl Try.underlying24 (.int .i64 0) 8 info3 rfl (by decide) (by omega) 0 (ok := fun _ => True) (okp := fun _ => True) rfl (fun _ hk => hk) trivial HPR.out HQR.out (Below.refl _ _) (Nat.le_refl _) ?_; intro v3 w3 ho3 hb hg_ hnew_; clear hg_ hnew_; rw [HJR.out HCR.out] at ho3; obtain ⟨ga, cp2, hv3, hga, hga2, cells3, hc3⟩ := Kd.R_form ho3 (by rw [List.length_replicate]; exact HM.out.1); rw [List.length_replicate] at hv3; subst hv3; have G3 := Aside0.mk (And.intro hga hga2); clear hga hga2 hc3; have B3 := Aside0.mk hb; have O3 := Aside0.mk ho3; clear hb ho3)
    | ((with_reducible refine gate_dst (N := 3) rfl ?_); refine box_event ?hg (N := 3) ?hd (cs := #[.slice none 0 0]) (t := 24) ?hr ?_; (case hd => rfl); (case hg => rfl); (case hr => first | (go_simp; done) | (go_simp; rfl)); intro go hg w4 hbox hb; have G4 := Aside0.mk hg; have K4 := Aside0.mk hbox; have B4 := Aside0.mk hb; clear hg hbox hb; have y1 : w4.cell? ⟨go, 0, none⟩ = some (.slice none 0 0) := (blk_cell K4.out 0).trans rfl; have f1 : w4.frozen? ⟨go, 0, none⟩ = false := blk_frozen K4.out 0; have nbo := Aside0.mk (show gb ≠ go from Nat.ne_of_lt (by rw [G4.out]; exact Nat.lt_of_lt_of_le (blk_lt K1.out) B3.out.size)); have K5 := Aside0.mk (show (w4.setCell ⟨go, 0, none⟩ (.slice (some ⟨ga, 0, none⟩) m cp2)).heap[gb]? = some (.cells #[.int .i64 RI, .int .i64 CI, .slice A0_2 l0_2.length c0_2] 26 (0, 0)) from blk_far (blk_below (blk_below K1.out B3.out) B4.out) nbo.out _); have z5 : (w4.setCell ⟨go, 0, none⟩ (.slice (some ⟨ga, 0, none⟩) m cp2)).cell? ⟨gb, 0, none⟩ = some (.int .i64 RI) := (blk_cell K5.out 0).trans rfl; have z6 : (w4.setCell ⟨go, 0, none⟩ (.slice (some ⟨ga, 0, none⟩) m cp2)).cell? ⟨gb, 1, none⟩ = some (.int .i64 CI) := (blk_cell K5.out 1).trans rfl; have z7 : (w4.setCell ⟨go, 0, none⟩ (.slice (some ⟨ga, 0, none⟩) m cp2)).cell? ⟨gb, 2, none⟩ = some (.slice A0_2 l0_2.length c0_2) := (blk_cell K5.out 2).trans rfl)
    | (go_at_call 142; (refine (KX.out _ go ga cp2 ?sB ?s1 ?s2 ?s3 ?s4 ?s5 ?s6).mono ?_); (all_goals have o1 := blk_lt K1.out); (all_goals have o2 := G1.out); (all_goals have o4 := G3.out); (all_goals have o5 := G4.out); (all_goals have o6 := blk_lt K4.out); (all_goals have o7 := B4.out.size); (all_goals have o8 : ∀ v, (w4.setCell ⟨go, 0, none⟩ v).heap.size = w4.heap.size := (fun v => by simp [World.setCell])); (all_goals have bb : Below w.heap.size w (w4.setCell ⟨go, 0, none⟩ (.slice (some ⟨ga, 0, none⟩) m cp2)) := Below.setCell ((B1.out.trans (B3.out.mono (by omega))).trans (B4.out.mono (by omega))) (by (try simp only []); omega) _); (case sB => exact bb); (case s1 => omega); (case s2 => omega); (case s3 => omega); (case s4 => rw [o8]; omega); (case s5 => rw [o8]; omega); (case s6 => exact ⟨blk_put K4.out 0 _ rfl, Kd.R_far (Kd.R_mono (Kd.R_lower (Kd.R_tight rfl (Kd.R_below O3.out B4.out)) (by omega)) (fun i hi => (by simpa [Value.ownBlock] using hi : i = ga))) (fun k hk => by (try simp only []); omega) _, bb, fun _ hf => hf.elim⟩); rintro e w5 ⟨rfl, h1, h2, h3⟩; clear o1 o2 o4 o5 o6 o7 o8 bb; have FR := Aside0.mk h2; have FB := Aside0.mk h3; have z8 : w5.cell? ⟨go, 0, none⟩ = some (.slice (some ⟨ga, 0, none⟩) m cp2) := (blk_cell h1 0).trans rfl; clear h1 h2 h3))
  all_goals go_ret
  all_goals exact ⟨_, rfl, Kd.R_mono FR.out (fun _ _ => trivial), FB.out⟩
end Go.Proofs.Ytgnmcfoenmfhcaa.Q
end
section
namespace Go.Proofs.Ytgnmcfoenmfhcaa.Q
open Go.RowKit Go.Proofs.YtgnmcfoenmfhcaaW.PrintWords Go.Proofs.YtgnmcfoenmfhcaaW.PrintLast Go.Proofs.YtgnmcfoenmfhcaaW.PrintMore
attribute [local go_sem] max2_int min2_int max_two min_two max_three min_three max_four min_four   -- for this text's walks alone
set_option linter.unusedVariables false
set_option linter.unusedSimpArgs false
def impl_trimmed.l0 : Nat → List Int → Option (List Int)
  | 0, _ => none
  | k + 1, x0 => if (x0.length : Int) > 0 then (if 0 ≤ (wrap64 ((x0.length : Int) - 1)) then (if (wrap64 ((x0.length : Int) - 1)) < (x0.length : Int) then (if (rd x0 (wrap64 ((x0.length : Int) - 1))) = 0 then (if (wrap64 ((x0.length : Int) - 1)) ≤ (x0.length : Int) then (impl_trimmed.l0 k (x0.take ((wrap64 ((x0.length : Int) - 1)) : Int).toNat)) else (none)) else (some x0)) else (none)) else (none)) else (some x0)
def impl_trimmed.f (k : Nat) (l0 : List Int) : Option (List Int) := impl_trimmed.l0 k l0
set_option maxHeartbeats 8000000 in
set_option maxRecDepth 100000 in
theorem impl_trimmed.calls (k : Nat) (P0_ : Nat → Prop) (A0 : Option Addr) (c0 : Nat) (l0 : List Int) (r : List Int) (w : World) (hs0 : Kd.V (Kd.int .i64) 3 w w.heap.size (fun k_ => P0_ k_) (.slice A0 l0.length c0) l0) (h : impl_trimmed.f k l0 = some r) :
    Calls Try.prog 123 #[.slice A0 l0.length c0] w fun e w' => ∃ v0_ : Value, e = .returned (v0_) ∧ Kd.V (Kd.int .i64) 3 w' w.heap.size (fun k_ => (P0_ k_ ∨ w.heap.size ≤ k_)) v0_ r ∧ Below w.heap.size w w' := by
  have HO0 := Aside0.mk (show Kd.V (Kd.int .i64) 3 w w.heap.size (fun k_ => (P0_ k_ ∨ w.heap.size ≤ k_)) (.slice A0 l0.length c0) l0 from Kd.V_mono hs0 (fun k_ hk => .inl hk))
  have HB := Aside0.mk (Below.refl w.heap.size w)
  have H : (impl_trimmed.l0 k l0) = some r := h
  clear h
  have H' := Aside0.mk H
  clear H
  go_enter Try.func123, Try.ntmps123
  go_wp2
  go_loopg [0] k (fun kq v0 w' => ∃ (x0_1 : List Int), Aside0 (impl_trimmed.l0 kq x0_1 = some r) ∧ Aside0 (kq ≤ k) ∧ Aside0 (Kd.V (Kd.int .i64) 3 w' w.heap.size (fun k_ => (P0_ k_ ∨ w.heap.size ≤ k_)) v0 x0_1) ∧ Aside0 (Below w.heap.size w w'))
  case atStart => exact ⟨(l0), H', ⟨Nat.le_refl _⟩, ⟨by (with_reducible repeat (first | apply Kd.V_alloc | apply Kd.V_drewN | apply Kd.V_drew)); exact HO0.out⟩, ⟨by repeat (first | (with_reducible first | exact HB.out | apply below_alloc | apply pw_below_drewN | apply below_drew1) | exact HB.out)⟩⟩
  case round =>
    clear H'
    try clear c1
    obtain ⟨x0_1, HA, HK1, HO_0, HB⟩ := hrel
    cases gk with
    | zero => exact absurd HA.out (by simp [impl_trimmed.l0])
    | succ k1 =>
      have H := HA.out
      clear HA
      simp only [impl_trimmed.l0] at H
      by_cases c2 : (x0_1.length : Int) > 0
      · rw [if_pos c2] at H
        have c2b0 : decide (0 < (x0_1.length : Int)) = true := decide_eq_true c2
        have c2b1 : decide (0 < x0_1.length) = true := decide_eq_true (by omega)
        clear c2
        obtain ⟨ji3, hji3⟩ : ∃ j_ : Int, (wrap64 ((x0_1.length : Int) - 1)) = j_ := ⟨_, rfl⟩
        replace H : (if 0 ≤ (ji3) then (if (ji3) < (x0_1.length : Int) then (if (rd x0_1 (ji3)) = 0 then (if (ji3) ≤ (x0_1.length : Int) then (impl_trimmed.l0 k1 (x0_1.take ((ji3) : Int).toNat)) else (none)) else (some x0_1)) else (none)) else (none)) = some r := by first | (rw [hji3] at H; exact H) | (simp only [hji3] at H ⊢; exact H)
        have hji3w : (IntKind.i64.wrap ((x0_1.length : Int) - 1)) = ji3 := (i64_w _).trans hji3
        by_cases c4 : 0 ≤ (ji3)
        · rw [if_pos c4] at H
          have c4b0 : decide (0 ≤ (ji3)) = true := decide_eq_true c4
          clear c4
          by_cases c5 : (ji3) < (x0_1.length : Int)
          · rw [if_pos c5] at H
            have c5b0 : decide ((ji3) < (x0_1.length : Int)) = true := decide_eq_true c5
            clear c5
            by_cases c6 : (rd x0_1 (ji3)) = 0
            · rw [if_pos c6] at H
              have c6b0 : ((rd x0_1 (ji3)) == 0) = true := beq_iff_eq.mpr c6
              have c6b1 : ((rd x0_1 (ji3)) != 0) = false := bne_eq_false_iff_eq.mpr c6
              clear c6
              have c7b0 := eq_true (of_decide_eq_true (by first | (with_reducible assumption) | assumption) : 0 ≤ (ji3))
              by_cases c8 : (ji3) ≤ (x0_1.length : Int)
              · rw [if_pos c8] at H
                have c8b0 := eq_true c8
                have c8b1 : decide ((ji3) ≤ (x0_1.length : Int)) = true := decide_eq_true c8
                clear c8
                obtain ⟨y102, hy102⟩ : ∃ y_ : List Int, y_ = (x0_1.take ((ji3) : Int).toNat) := ⟨_, rfl⟩
                replace H : (impl_trimmed.l0 k1 y102) = some r := by first | (rw [hy102]; with_reducible exact H) | (have H2_ := (Option.bind_some _ _).symm.trans H; rw [hy102]; with_reducible exact H2_) | (have H2_ := (Option.bind_some _ _).symm.trans H; with_reducible exact H2_) | with_reducible exact H | (rw [hy102]; exact H) | exact H
                have Ny102 := Aside0.mk hy102
                clear hy102
                have H' := Aside0.mk H
                clear H
                obtain ⟨Ao9, co9, eo9⟩ := Kd.V_slice HO_0.out
                subst eo9
                have p101 : 0 ≤ ((ji3) : Int) := of_decide_eq_true (by first | (with_reducible assumption) | assumption)
                have q101 : (ji3) < (x0_1.length : Int) := of_decide_eq_true (by first | (with_reducible assumption) | assumption)
                obtain ⟨ad101, e101, hx101_0⟩ := Kd.at_int (Kd.V_reads' HO_0.out).2.2 (ji3) p101 q101
                cases e101
                replace p101 := eq_true p101
                replace q101 := eq_true q101
                have q10 : ((ji3) : Int) ≤ ((x0_1.length : Int) : Int) := of_decide_eq_true (by first | (with_reducible assumption) | assumption)
                obtain ⟨i010, hi010, _, hsz10, _⟩ := info_parts info3
                have hroom10 : x0_1.length ≤ co9 := (Kd.V_reads' HO_0.out).2.1
                have hC10 : Kd.F (Kd.int .i64) _ _ (some ad101) x0_1.length x0_1 := (Kd.V_at (base := w.heap.size) HO_0.out).2.2
                have hcut10 := cut_to (P := Try.prog) 24 3 .i64 Try.underlying24 hi010 (some ad101) x0_1.length co9 (ji3) (of_decide_eq_true (by first | (with_reducible assumption) | assumption)) q10 hroom10
                have hr10 := Kd.F_take (m := ((ji3) : Int).toNat) hC10 (by omega)
                have hy10 : y102.length = ((ji3) : Int).toNat := (by rw [Ny102.out, List.length_take]; omega)
                rw [← Ny102.out] at hr10
                rw [← hy10] at hcut10
                have HO106 := Aside0.mk (show Kd.V (Kd.int .i64) 3 _ w.heap.size _ (.slice (some ad101) y102.length co9) y102 from Kd.V_mk (by omega) hr10)
                have HC106 := Aside0.mk (show y102.length ≤ co9 from by omega)
                clear hr10 hC10 hroom10 hi010 hsz10
                have KY10 := Aside0.mk hy10
                clear hy10
                replace q10 := eq_true q10
                go_wp2
                go_roundg k1
                case measure => have := HK1.out; omega
                case rel => exact ⟨(y102), H', ⟨by have := HK1.out; omega⟩, ⟨by (with_reducible repeat (first | apply Kd.V_alloc | apply Kd.V_drewN | apply Kd.V_drew)); exact HO106.out⟩, ⟨by repeat (first | (with_reducible first | exact HB.out | apply below_alloc | apply pw_below_drewN | apply below_drew1) | exact HB.out)⟩⟩
              · rw [if_neg c8] at H
                exact absurd H (by simp)
            · rw [if_neg c6] at H
              have c6b0 : ((rd x0_1 (ji3)) == 0) = false := beq_eq_false_iff_ne.mpr c6
              have c6b1 : ((rd x0_1 (ji3)) != 0) = true := bne_iff_ne.mpr c6
              obtain rfl := Option.some.inj H
              obtain ⟨Ao11, co11, eo11⟩ := Kd.V_slice HO_0.out
              subst eo11
              have p101 : 0 ≤ ((ji3) : Int) := of_decide_eq_true (by first | (with_reducible assumption) | assumption)
              have q101 : (ji3) < (x0_1.length : Int) := of_decide_eq_true (by first | (with_reducible assumption) | assumption)
              obtain ⟨ad101, e101, hx101_0⟩ := Kd.at_int (Kd.V_reads' HO_0.out).2.2 (ji3) p101 q101
              cases e101
              replace p101 := eq_true p101
              replace q101 := eq_true q101
              go_wp2
              go_ret
              exact ⟨_, by first | rfl | (simp [errW_none, errW_some] <;> rfl) | (simp only [← hji3]; first | rfl | (simp [errW_none, errW_some] <;> rfl)) | (simp [*, errW_none, errW_some] <;> rfl), by (with_reducible repeat (first | apply Kd.V_alloc | apply Kd.V_drewN | apply Kd.V_drew)); exact HO_0.out, by repeat (first | (with_reducible first | exact HB.out | apply below_alloc | apply pw_below_drewN | apply below_drew1) | exact HB.out)⟩
          · rw [if_neg c5] at H
            exact absurd H (by simp)
        · rw [if_neg c4] at H
          exact absurd H (by simp)
      · rw [if_neg c2] at H
        have c2b0 : decide (0 < (x0_1.length : Int)) = false := decide_eq_false c2
        have c2b1 : decide (0 < x0_1.length) = false := decide_eq_false (by omega)
        clear c2
        obtain rfl := Option.some.inj H
        obtain ⟨Ao12, co12, eo12⟩ := Kd.V_slice HO_0.out
        subst eo12
        go_wp2
        go_ret
        exact ⟨_, by first | rfl | (simp [errW_none, errW_some] <;> rfl) | (simp [*, errW_none, errW_some] <;> rfl), by (with_reducible repeat (first | apply Kd.V_alloc | apply Kd.V_drewN | apply Kd.V_drew)); exact HO_0.out, by repeat (first | (with_reducible first | exact HB.out | apply below_alloc | apply pw_below_drewN | apply below_drew1) | exact HB.out)⟩
end Go.Proofs.Ytgnmcfoenmfhcaa.Q
end
section
namespace Go.Proofs.Ytgnmcfoenmfhcaa.Q
open Go.RowKit Go.Proofs.YtgnmcfoenmfhcaaW.PrintWords Go.Proofs.YtgnmcfoenmfhcaaW.PrintLast Go.Proofs.YtgnmcfoenmfhcaaW.PrintMore
attribute [local go_sem] max2_int min2_int max_two min_two max_three min_three max_four min_four   -- for this text's walks alone
set_option linter.unusedVariables false
set_option linter.unusedSimpArgs false
def impl_Board_most.f (k : Nat) (a0_0 : Int) (a0_1 : Int) (l0_2 : List Int) : Option (Int) := (impl_Board_numbers.f a0_0 a0_1 l0_2).bind fun t102 => ((impl_trimmed.f k t102).bind fun t105 => (some (wrap64 ((t105.length : Int) - 1))))
set_option maxHeartbeats 8000000 in
set_option maxRecDepth 100000 in
theorem impl_Board_most.calls (k : Nat) (a0_0 : Int) (a0_1 : Int) (A0_2 : Option Addr) (c0_2 : Nat) (l0_2 : List Int) (r : Int) (w : World) (hr0_2 : Kd.C (Kd.int .i64) w A0_2 l0_2.length l0_2) (hc0_2 : l0_2.length ≤ c0_2) (h : impl_Board_most.f k a0_0 a0_1 l0_2 = some r) :
    Calls Try.prog 80 #[.agg #[.int .i64 a0_0, .int .i64 a0_1, .slice A0_2 l0_2.length c0_2]] w fun e w' => e = .returned (.int .i64 r) ∧ Below w.heap.size w w' := by
  have hu26 := Try.underlying26
  have HR0_2 := Aside0.mk hr0_2
  have HC0_2 := Aside0.mk hc0_2
  clear hr0_2 hc0_2
  have HB := Aside0.mk (Below.refl w.heap.size w)
  have H : ((impl_Board_numbers.f a0_0 a0_1 l0_2).bind fun t102 => ((impl_trimmed.f k t102).bind fun t105 => (some (wrap64 ((t105.length : Int) - 1))))) = some r := h
  clear h
  replace H := Option.bind_eq_some_iff.mp H
  obtain ⟨t102, A20, H⟩ := H
  replace H : ((impl_trimmed.f k t102).bind fun t105 => (some (wrap64 ((t105.length : Int) - 1)))) = some r := H
  have A2 := Aside0.mk A20
  clear A20
  replace H := Option.bind_eq_some_iff.mp H
  obtain ⟨t105, A30, H⟩ := H
  replace H : (some (wrap64 ((t105.length : Int) - 1))) = some r := H
  have A3 := Aside0.mk A30
  clear A30
  obtain rfl := Option.some.inj H
  go_enter Try.func80, Try.ntmps80
  go_wp2_with (first | ((with_reducible refine gate_dst (N := 1) rfl ?_); refine box_event ?hg (N := 1) ?hd (cs := #[.int .i64 a0_0, .int .i64 a0_1, .slice A0_2 l0_2.length c0_2]) (t := 26) ?hr ?_; (case hd => rfl); (case hg => rfl); (case hr => first | (go_simp; done) | (go_simp; rfl)); intro gb101 hg w4 hbox hb; have n0_ := Aside0.mk (below_step (by repeat (first | (with_reducible first | exact HB.out | apply below_alloc | apply pw_below_drewN | apply below_drew1) | exact HB.out)) hb); have n1_ := Aside0.mk (hbox); have n2_ := Aside0.mk ((by rw [hg]; exact (below_size (by repeat (first | (with_reducible first | exact HB.out | apply below_alloc | apply pw_below_drewN | apply below_drew1) | exact HB.out))) : w.heap.size ≤ gb101)); have n3_ := Aside0.mk ((by rw [hg]; exact (below_size (by repeat (first | (with_reducible first | exact HB.out | apply below_alloc | apply pw_below_drewN | apply below_drew1) | exact HB.out))) : w.heap.size ≤ gb101)); clear HB; have HB := n0_; have BK101 := n1_; have GW101 := n2_; have GE101 := n3_; clear n0_ n1_ n2_ n3_; clear hb hbox hg; have hcz5_0 : w4.cell? ⟨gb101, 0, none⟩ = some (.int .i64 a0_0) := (blk_cell BK101.out 0).trans rfl; have hcz5_1 : w4.cell? ⟨gb101, 1, none⟩ = some (.int .i64 a0_1) := (blk_cell BK101.out 1).trans rfl; have hcz5_2 : w4.cell? ⟨gb101, 2, none⟩ = some (.slice A0_2 l0_2.length c0_2) := (blk_cell BK101.out 2).trans rfl; have hfz5_0 := blk_frozen BK101.out 0; have hfz5_1 := blk_frozen BK101.out 1; have hfz5_2 := blk_frozen BK101.out 2) | ((with_reducible refine gate_callee (f := 124) rfl ?_); refine goesL_ (some 4) rfl rfl Try.func124 (by kernel_rfl) rfl #[.agg #[.int .i64 a0_0, .int .i64 a0_1, .slice A0_2 l0_2.length c0_2]] rfl (by (try simp only [List.map_toArray, List.map_cons, List.map_nil]); first | done | rfl | (simp only [List.length_drop, List.length_take]; rfl)) ?_; (with_reducible refine (impl_Board_numbers.calls a0_0 a0_1 _ _ l0_2 t102 _ ?side1 ?side2 A2.out).mono ?_); (case side1 => repeat (first | exact (Kd.C_below HR0_2.out HB.out) | (with_reducible refine Kd.C_alloc ?_ _) | (with_reducible refine Kd.C_drewN ?_ _) | (with_reducible refine Kd.C_drew ?_))); (case side2 => exact HC0_2.out); rintro e w6 ⟨v103, rfl, ho0, hb⟩; refine ⟨_, rfl, ?_⟩; have n0_ := Aside0.mk (Kd.R_lower ho0 (below_size (by repeat (first | (with_reducible first | exact HB.out | apply below_alloc | apply pw_below_drewN | apply below_drew1 | refine below_set ?_ GE101.out) | exact HB.out)))); have n1_ := Aside0.mk (blk_below (g := gb101) (o := .cells #[.int .i64 a0_0, .int .i64 a0_1, .slice A0_2 l0_2.length c0_2] 26 (0, 0)) (by (with_reducible repeat (first | refine blk_drewN ?_ _ | refine blk_drew ?_ | refine blk_alloc ?_ _)); exact BK101.out) hb); have n2_ := Aside0.mk (below_step (by repeat (first | (with_reducible first | exact HB.out | apply below_alloc | apply pw_below_drewN | apply below_drew1 | refine below_set ?_ GE101.out) | exact HB.out)) hb); clear BK101; clear HB; have HO104 := n0_; have BK101 := n1_; have HB := n2_; clear n0_ n1_ n2_; (try clear hb); (try clear hb2); (try clear hk); (try clear hi); (try clear ho0); obtain ⟨Ao7, co7, eo7⟩ := Kd.R_slice HO104.out; subst eo7) | ((with_reducible refine gate_callee (f := 123) rfl ?_); refine goesL_ (some 5) rfl rfl Try.func123 (by kernel_rfl) rfl #[.slice Ao7 t102.length co7] rfl (by (try simp only [List.map_toArray, List.map_cons, List.map_nil]); first | done | rfl | (simp only [List.length_drop, List.length_take]; rfl)) ?_; (with_reducible refine (impl_trimmed.calls k (fun k_ => some k_ = (.slice Ao7 t102.length co7 : Value).ownBlock) _ _ t102 t105 _ ?side1 A3.out).mono ?_); (case side1 => exact Kd.R_V (Kd.R_tight rfl (Kd.R_types (HO104.out) BK101.out (by decide)))); rintro e w8 ⟨v106, rfl, ho0, hb⟩; refine ⟨_, rfl, ?_⟩; have n0_ := Aside0.mk (Kd.R_below (by (with_reducible repeat (first | apply Kd.R_alloc | apply Kd.R_drewN | apply Kd.R_drew)); exact HO104.out) hb); have n1_ := Aside0.mk (Kd.V_lower (Kd.V_mono (ok' := fun k_ => k_ ≠ gb101) ho0 (fun k_ hk_ => Or.elim hk_ (fun hs_ => ((Kd.R_types (HO104.out) BK101.out (by decide)).1 k_ hs_.symm).2) (fun hn_ => (Kd.freshB (g := gb101) (o := .cells #[.int .i64 a0_0, .int .i64 a0_1, .slice A0_2 l0_2.length c0_2] 26 (0, 0)) (by (with_reducible repeat (first | refine blk_drewN ?_ _ | refine blk_drew ?_ | refine blk_alloc ?_ _)); exact BK101.out) k_ hn_)))) (below_size (by repeat (first | (with_reducible first | exact HB.out | apply below_alloc | apply pw_below_drewN | apply below_drew1 | refine below_set ?_ GE101.out) | exact HB.out)))); have n2_ := Aside0.mk (blk_below (g := gb101) (o := .cells #[.int .i64 a0_0, .int .i64 a0_1, .slice A0_2 l0_2.length c0_2] 26 (0, 0)) (by (with_reducible repeat (first | refine blk_drewN ?_ _ | refine blk_drew ?_ | refine blk_alloc ?_ _)); exact BK101.out) hb); have n3_ := Aside0.mk (below_step (by repeat (first | (with_reducible first | exact HB.out | apply below_alloc | apply pw_below_drewN | apply below_drew1 | refine below_set ?_ GE101.out) | exact HB.out)) hb); clear HO104; clear BK101; clear HB; have HO104 := n0_; have HO107 := n1_; have BK101 := n2_; have HB := n3_; clear n0_ n1_ n2_ n3_; (try clear hb); (try clear hb2); (try clear hk); (try clear hi); (try clear ho0); obtain ⟨Ao9, co9, eo9⟩ := Kd.V_slice HO107.out; subst eo9))
  go_ret
  exact ⟨by first | rfl | (simp [errW_none, errW_some] <;> rfl) | (simp [*, errW_none, errW_some] <;> rfl), by repeat (first | (with_reducible first | exact HB.out | apply below_alloc | apply pw_below_drewN | apply below_drew1 | refine below_set ?_ GE101.out) | exact HB.out)⟩
end Go.Proofs.Ytgnmcfoenmfhcaa.Q
end
section
namespace Go.Proofs.Ytgnmcfoenmfhcaa.MostK
set_option linter.unusedVariables false
open Go.RowKit Go.Proofs.Ytgnmcfoenmfhcaa.Q Go.Proofs.YtgnmcfoenmfhcaaW.PrintWords Go.Proofs.YtgnmcfoenmfhcaaW.PrintLast Go.Proofs.YtgnmcfoenmfhcaaW.PrintMore
open Go.Proofs.YtgnmcfoenmfhcaaL Go.Proofs.Ytgnmcfoenmfhcaa.LawK Go.Proofs.Ytgnmcfoenmfhcaa.BoardK Go.Proofs.Ytgnmcfoenmfhcaa.LinesK Go.Proofs.Ytgnmcfoenmfhcaa.Walk Go.Proofs.Ytgnmcfoenmfhcaa.NumK
theorem nums_fold (m : Nat) : ∀ (vis : List (List Int)) (out : List Int) (f : Nat → Nat), out.length = m → (∀ n, n < m → out[n]? = some ((f n : Nat) : Int)) → (∀ p ∈ vis, rooksN p < m) → (∀ n, f n + vis.length ≤ 4611686018427387904) →
    (vis.foldl (fun o p => o.set ((rooksN p : Nat) : Int).toNat (IntKind.i64.wrap (rdOf 0 o ((rooksN p : Nat) : Int) + 1))) out).length = m ∧ ∀ n, n < m → (vis.foldl (fun o p => o.set ((rooksN p : Nat) : Int).toNat (IntKind.i64.wrap (rdOf 0 o ((rooksN p : Nat) : Int) + 1))) out)[n]? = some ((f n + vis.countP (fun p => rooksN p == n) : Nat) : Int)
  | [], out, f, h1, h2, _, _ => ⟨h1, fun n hn => by rw [List.foldl_nil, h2 n hn]; simp⟩
  | p :: t, out, f, h1, h2, h3, h4 => by
    have hp := h3 p (by simp)
    have e : rdOf 0 out ((rooksN p : Nat) : Int) = ((f (rooksN p) : Nat) : Int) := by
      unfold rdOf
      rw [Int.toNat_natCast, List.getD_eq_getElem?_getD, h2 _ hp]
      rfl
    have h5 := h4 (rooksN p)
    rw [List.length_cons] at h5
    have ew : IntKind.i64.wrap (((f (rooksN p) : Nat) : Int) + 1) = ((f (rooksN p) + 1 : Nat) : Int) := by rw [wrap_i64', w64 (by omega) (by omega)]; rfl
    rw [List.foldl_cons, e, ew, Int.toNat_natCast]
    obtain ⟨g1, g2⟩ := nums_fold m t (out.set (rooksN p) ((f (rooksN p) + 1 : Nat) : Int)) (fun n => f n + if rooksN p = n then 1 else 0) (by rw [List.length_set]; exact h1) (fun n hn => by
      rw [List.getElem?_set]
      by_cases c : rooksN p = n
      · subst c
        rw [if_pos rfl, if_pos (by omega), if_pos rfl]
      · rw [if_neg c, if_neg c, h2 n hn]; rfl) (fun q hq => h3 q (by simp [hq])) (fun n => by
      have := h4 n
      rw [List.length_cons] at this
      split <;> omega)
    refine ⟨g1, fun n hn => ?_⟩
    rw [g2 n hn, List.countP_cons]
    congr 2
    by_cases c : rooksN p = n
    · rw [if_pos c, if_pos (by simpa using c)]; omega
    · rw [if_neg c, if_neg (by simpa using c)]; omega
theorem nums_get {m : Nat} {vis : List (List Int)} (h3 : ∀ p ∈ vis, rooksN p < m) (h4 : vis.length ≤ 4611686018427387904) : (numsF m vis).length = m ∧ ∀ n, n < m → (numsF m vis)[n]? = some ((vis.countP (fun p => rooksN p == n) : Nat) : Int) := by
  have h := nums_fold m vis (List.replicate m 0) (fun _ => 0) (by simp) (fun n hn => by rw [List.getElem?_replicate, if_pos hn]; rfl) h3 (fun n => by omega)
  simp only [Nat.zero_add] at h
  exact h
theorem trimmed {j : Nat} : ∀ (d : Nat) (xs : List Int), xs.length = j + 1 + d → xs.length ≤ 1048576 → (∀ (h : j < xs.length), xs[j] ≠ 0) → (∀ n (h : n < xs.length), j < n → xs[n] = 0) → Ev (fun k => impl_trimmed.l0 k xs) (xs.take (j + 1))
  | 0, xs, hl, h6, h1, h2 => by
    have w1 := Aside0.mk (show wrap64 ((xs.length : Int) - 1) = ((j : Nat) : Int) from by rw [w64 (by omega) (by omega)]; omega)
    refine Ev.step (f := fun _ => some xs) (fun k => ?_) (evEq (Ev.now _) (by rw [List.take_of_length_le (by omega)]))
    rw [impl_trimmed.l0, if_pos (by omega), w1.out, if_pos (by omega), if_pos (by omega), rd_lt _ _ (show j < xs.length by omega), if_neg (h1 (by omega))]
  | d + 1, xs, hl, h6, h1, h2 => by
    have w1 := Aside0.mk (show wrap64 ((xs.length : Int) - 1) = ((j + 1 + d : Nat) : Int) from by rw [w64 (by omega) (by omega)]; omega)
    have hlen : (xs.take (j + 1 + d)).length = j + 1 + d := by rw [List.length_take]; omega
    have ih := trimmed d (xs.take (j + 1 + d)) hlen (by omega) (fun h => by rw [List.getElem_take]; exact h1 (by omega)) (fun n h hj => by rw [List.getElem_take]; exact h2 n (by omega) hj)
    rw [List.take_take, Nat.min_eq_left (by omega)] at ih
    refine Ev.step (fun k => ?_) ih
    rw [impl_trimmed.l0, if_pos (by omega), w1.out, if_pos (by omega), if_pos (by omega), rd_lt _ _ (show j + 1 + d < xs.length by omega), if_pos (h2 _ _ (by omega)), if_pos (by omega), Int.toNat_natCast]
theorem most {l : List Int} {R C : Nat} (hb : isBoardB R C l = true) : Ev (fun k => impl_Board_most.f k R C l) ((mostN l C R 0 0 : Nat) : Int) := by
  obtain ⟨R', C', e1, e2, hlR, h1R, hR, h1C, hC, hbits⟩ := board_of hb
  have e1 : R' = R := by omega
  have e2 : C' = C := by omega
  subst e1 e2
  obtain ⟨M, hM⟩ : ∃ M, M = mostN l C' R' 0 0 := ⟨_, rfl⟩
  have hmr := mostN_le l C' R' 0 0
  have hmc := most_cols hlR hR hC hbits
  obtain ⟨m, hm⟩ : ∃ m, m = (min (R' : Int) (C' : Int) + 1).toNat := ⟨_, rfl⟩
  obtain ⟨vis, hvis⟩ : ∃ vis, vis = waysFrom l C' R' 0 0 [] := ⟨_, rfl⟩
  have hlt : ∀ p ∈ vis, rooksN p < m := fun p hp => by
    rw [hvis] at hp
    have := ways_le hlR hR hC hbits p hp
    omega
  have hvl : vis.length ≤ 4611686018427387904 := by
    have h1 := ways_len l C' R' 0 0 []
    rw [← hvis] at h1
    have h2 : (C' + 1) ^ R' ≤ 7 ^ 6 := Nat.le_trans (Nat.pow_le_pow_left (by omega) _) (Nat.pow_le_pow_right (by decide) hR)
    have h3 : (7 : Nat) ^ 6 = 117649 := by decide
    omega
  obtain ⟨hnl, hng⟩ := nums_get hlt hvl
  obtain ⟨hup, q, hq, hqe⟩ := ways_most l C' R' 0 0 []
  rw [← hvis] at hup hq
  have h0 : rooksN [] = 0 := rfl
  unfold impl_Board_most.f
  refine Ev.congr (fun k => by rw [impl_Board_numbers.f, if_pos hb, Option.bind_some, Int.toNat_natCast, hlR, ← hm, ← hvis]) ?_
  have hMm : M < m := by omega
  have htr := trimmed (j := M) (m - (M + 1)) (numsF m vis) (by omega) (by omega) (fun h => by
    have h2 := hng M hMm
    rw [List.getElem?_eq_getElem h] at h2
    rw [Option.some.inj h2]
    have : 0 < vis.countP (fun p => rooksN p == M) := List.countP_pos_iff.2 ⟨q, hq, by simp; omega⟩
    omega) (fun n h hj => by
    have h2 := hng n (by omega)
    rw [List.getElem?_eq_getElem h] at h2
    rw [Option.some.inj h2]
    have : vis.countP (fun p => rooksN p == n) = 0 := by
      rw [List.countP_eq_zero]
      intro p hp
      have := hup p hp
      simp
      omega
    omega)
  refine Ev.bind (show Ev (fun k => impl_trimmed.f k (numsF m vis)) _ from htr) ?_
  refine evEq (Ev.now (wrap64 ((((numsF m vis).take (M + 1)).length : Int) - 1))) ?_
  rw [List.length_take, hnl, Nat.min_eq_left (by omega), w64 (by omega) (by omega), ← hM]
  omega
end Go.Proofs.Ytgnmcfoenmfhcaa.MostK
end
section
namespace Go.Proofs.Ytgnmcfoenmfhcaa.Q
open Go.RowKit Go.Proofs.YtgnmcfoenmfhcaaW.PrintWords Go.Proofs.YtgnmcfoenmfhcaaW.PrintLast Go.Proofs.YtgnmcfoenmfhcaaW.PrintMore
attribute [local go_sem] max2_int min2_int max_two min_two max_three min_three max_four min_four   -- for this text's walks alone
set_option linter.unusedVariables false
set_option linter.unusedSimpArgs false
def spec_AllLargest.f (k : Nat) (a0_0 : Int) (a0_1 : Int) (l0_2 : List Int) : Option ((List (List Int)) × Bool) := (spec_boGood.f k a0_0 a0_1 l0_2).bind fun t102 => (if t102 = true then ((spec_lcLargest.f k a0_0 a0_1 l0_2).bind fun t103 => (if (t103.length : Int) > 300 then (some (([] : List (List Int)), false)) else (some (t103, true)))) else (some (([] : List (List Int)), false)))
set_option maxHeartbeats 8000000 in
set_option maxRecDepth 100000 in
theorem spec_AllLargest.calls (k : Nat) (a0_0 : Int) (a0_1 : Int) (A0_2 : Option Addr) (c0_2 : Nat) (l0_2 : List Int) (r1 : List (List Int)) (r2 : Bool) (w : World) (hr0_2 : Kd.C (Kd.int .i64) w A0_2 l0_2.length l0_2) (hc0_2 : l0_2.length ≤ c0_2) (h : spec_AllLargest.f k a0_0 a0_1 l0_2 = some (r1, r2)) :
    Calls Try.prog 52 #[.agg #[.int .i64 a0_0, .int .i64 a0_1, .slice A0_2 l0_2.length c0_2]] w fun e w' => ∃ v0_ : Value, e = .returned (.tuple #[v0_, .bool r2]) ∧ Kd.N (Kd.slice 3 (Kd.int .i64)) 24 w' w.heap.size (fun k_ => (w.heap.size ≤ k_)) v0_ r1 ∧ Below w.heap.size w w' := by
  have hu26 := Try.underlying26
  have HR0_2 := Aside0.mk hr0_2
  have HC0_2 := Aside0.mk hc0_2
  clear hr0_2 hc0_2
  have HB := Aside0.mk (Below.refl w.heap.size w)
  have H : ((spec_boGood.f k a0_0 a0_1 l0_2).bind fun t102 => (if t102 = true then ((spec_lcLargest.f k a0_0 a0_1 l0_2).bind fun t103 => (if (t103.length : Int) > 300 then (some (([] : List (List Int)), false)) else (some (t103, true)))) else (some (([] : List (List Int)), false)))) = some (r1, r2) := h
  clear h
  replace H := Option.bind_eq_some_iff.mp H
  obtain ⟨t102, A20, H⟩ := H
  replace H : (if t102 = true then ((spec_lcLargest.f k a0_0 a0_1 l0_2).bind fun t103 => (if (t103.length : Int) > 300 then (some (([] : List (List Int)), false)) else (some (t103, true)))) else (some (([] : List (List Int)), false))) = some (r1, r2) := H
  have A2 := Aside0.mk A20
  clear A20
  by_cases c3 : t102 = true
  · subst c3
    have H1 : ((spec_lcLargest.f k a0_0 a0_1 l0_2).bind fun t103 => (if (t103.length : Int) > 300 then (some (([] : List (List Int)), false)) else (some (t103, true)))) = some (r1, r2) := by rw [if_pos rfl] at H; exact H
    clear H
    have H := H1
    clear H1
    replace H := Option.bind_eq_some_iff.mp H
    obtain ⟨t103, A40, H⟩ := H
    replace H : (if (t103.length : Int) > 300 then (some (([] : List (List Int)), false)) else (some (t103, true))) = some (r1, r2) := H
    have A4 := Aside0.mk A40
    clear A40
    by_cases c5 : (t103.length : Int) > 300
    · rw [if_pos c5] at H
      have c5b0 : decide (300 < (t103.length : Int)) = true := decide_eq_true c5
      have c5b1 : decide (300 < t103.length) = true := decide_eq_true (by omega)
      clear c5
      simp only [Option.some.injEq, Prod.mk.injEq] at H
      obtain ⟨rfl, rfl⟩ := H
      go_enter Try.func52, Try.ntmps52
      go_wp2_with (first | ((with_reducible refine gate_dst (N := 1) rfl ?_); refine box_event ?hg (N := 1) ?hd (cs := #[.int .i64 a0_0, .int .i64 a0_1, .slice A0_2 l0_2.length c0_2]) (t := 26) ?hr ?_; (case hd => rfl); (case hg => rfl); (case hr => first | (go_simp; done) | (go_simp; rfl)); intro gb101 hg w6 hbox hb; have n0_ := Aside0.mk (below_step (by repeat (first | (with_reducible first | exact HB.out | apply below_alloc | apply pw_below_drewN | apply below_drew1) | exact HB.out)) hb); have n1_ := Aside0.mk (hbox); have n2_ := Aside0.mk ((by rw [hg]; exact (below_size (by repeat (first | (with_reducible first | exact HB.out | apply below_alloc | apply pw_below_drewN | apply below_drew1) | exact HB.out))) : w.heap.size ≤ gb101)); have n3_ := Aside0.mk ((by rw [hg]; exact (below_size (by repeat (first | (with_reducible first | exact HB.out | apply below_alloc | apply pw_below_drewN | apply below_drew1) | exact HB.out))) : w.heap.size ≤ gb101)); clear HB; have HB := n0_; have BK101 := n1_; have GW101 := n2_; have GE101 := n3_; clear n0_ n1_ n2_ n3_; clear hb hbox hg; have hcz7_0 : w6.cell? ⟨gb101, 0, none⟩ = some (.int .i64 a0_0) := (blk_cell BK101.out 0).trans rfl; have hcz7_1 : w6.cell? ⟨gb101, 1, none⟩ = some (.int .i64 a0_1) := (blk_cell BK101.out 1).trans rfl; have hcz7_2 : w6.cell? ⟨gb101, 2, none⟩ = some (.slice A0_2 l0_2.length c0_2) := (blk_cell BK101.out 2).trans rfl; have hfz7_0 := blk_frozen BK101.out 0; have hfz7_1 := blk_frozen BK101.out 1; have hfz7_2 := blk_frozen BK101.out 2) | ((with_reducible refine gate_callee (f := 76) rfl ?_); refine goesL_ (some 6) rfl rfl Try.func76 (by kernel_rfl) rfl #[.agg #[.int .i64 a0_0, .int .i64 a0_1, .slice A0_2 l0_2.length c0_2]] rfl (by (try simp only [List.map_toArray, List.map_cons, List.map_nil]); first | done | rfl | (simp only [List.length_drop, List.length_take]; rfl)) ?_; (with_reducible refine (spec_boGood.calls k a0_0 a0_1 _ _ l0_2 true _ ?side1 ?side2 A2.out).mono ?_); (case side1 => repeat (first | exact (Kd.C_below HR0_2.out HB.out) | (with_reducible refine Kd.C_alloc ?_ _) | (with_reducible refine Kd.C_drewN ?_ _) | (with_reducible refine Kd.C_drew ?_))); (case side2 => exact HC0_2.out); rintro e w8 ⟨rfl, hb⟩; refine ⟨_, rfl, ?_⟩; have n0_ := Aside0.mk (blk_below (g := gb101) (o := .cells #[.int .i64 a0_0, .int .i64 a0_1, .slice A0_2 l0_2.length c0_2] 26 (0, 0)) (by (with_reducible repeat (first | refine blk_drewN ?_ _ | refine blk_drew ?_ | refine blk_alloc ?_ _)); exact BK101.out) hb); have n1_ := Aside0.mk (below_step (by repeat (first | (with_reducible first | exact HB.out | apply below_alloc | apply pw_below_drewN | apply below_drew1 | refine below_set ?_ GE101.out) | exact HB.out)) hb); clear BK101; clear HB; have BK101 := n0_; have HB := n1_; clear n0_ n1_; (try clear hb); (try clear hb2); (try clear hk); (try clear hi); have hcz9_0 : w8.cell? ⟨gb101, 0, none⟩ = some (.int .i64 a0_0) := (blk_cell BK101.out 0).trans rfl; have hcz9_1 : w8.cell? ⟨gb101, 1, none⟩ = some (.int .i64 a0_1) := (blk_cell BK101.out 1).trans rfl; have hcz9_2 : w8.cell? ⟨gb101, 2, none⟩ = some (.slice A0_2 l0_2.length c0_2) := (blk_cell BK101.out 2).trans rfl; have hfz9_0 := blk_frozen BK101.out 0; have hfz9_1 := blk_frozen BK101.out 1; have hfz9_2 := blk_frozen BK101.out 2) | ((with_reducible refine gate_callee (f := 106) rfl ?_); refine goesL_ (some 9) rfl rfl Try.func106 (by kernel_rfl) rfl #[.agg #[.int .i64 a0_0, .int .i64 a0_1, .slice A0_2 l0_2.length c0_2]] rfl (by (try simp only [List.map_toArray, List.map_cons, List.map_nil]); first | done | rfl | (simp only [List.length_drop, List.length_take]; rfl)) ?_; (with_reducible refine (spec_lcLargest.calls k a0_0 a0_1 _ _ l0_2 t103 _ ?side1 ?side2 A4.out).mono ?_); (case side1 => repeat (first | exact (Kd.C_below HR0_2.out HB.out) | (with_reducible refine Kd.C_alloc ?_ _) | (with_reducible refine Kd.C_drewN ?_ _) | (with_reducible refine Kd.C_drew ?_))); (case side2 => exact HC0_2.out); rintro e w10 ⟨v104, rfl, ho0, hb⟩; refine ⟨_, rfl, ?_⟩; have n0_ := Aside0.mk (Kd.N_lower (Kd.N_mono (ok' := fun k_ => (w.heap.size ≤ k_) ∧ k_ ≠ gb101) ho0 (fun k_ hk_ => ⟨(Nat.le_trans (below_size (by repeat (first | (with_reducible first | exact HB.out | apply below_alloc | apply pw_below_drewN | apply below_drew1 | refine below_set ?_ GE101.out) | exact HB.out))) hk_), (Kd.freshB (g := gb101) (o := .cells #[.int .i64 a0_0, .int .i64 a0_1, .slice A0_2 l0_2.length c0_2] 26 (0, 0)) (by (with_reducible repeat (first | refine blk_drewN ?_ _ | refine blk_drew ?_ | refine blk_alloc ?_ _)); exact BK101.out) k_ hk_)⟩)) (below_size (by repeat (first | (with_reducible first | exact HB.out | apply below_alloc | apply pw_below_drewN | apply below_drew1 | refine below_set ?_ GE101.out) | exact HB.out)))); have n1_ := Aside0.mk (blk_below (g := gb101) (o := .cells #[.int .i64 a0_0, .int .i64 a0_1, .slice A0_2 l0_2.length c0_2] 26 (0, 0)) (by (with_reducible repeat (first | refine blk_drewN ?_ _ | refine blk_drew ?_ | refine blk_alloc ?_ _)); exact BK101.out) hb); have n2_ := Aside0.mk (below_step (by repeat (first | (with_reducible first | exact HB.out | apply below_alloc | apply pw_below_drewN | apply below_drew1 | refine below_set ?_ GE101.out) | exact HB.out)) hb); clear BK101; clear HB; have HO105 := n0_; have BK101 := n1_; have HB := n2_; clear n0_ n1_ n2_; (try clear hb); (try clear hb2); (try clear hk); (try clear hi); (try clear ho0); obtain ⟨Ao11, co11, eo11⟩ := Kd.N_slice HO105.out; subst eo11))
      go_ret2
      exact ⟨_, by first | rfl | (simp [errW_none, errW_some] <;> rfl) | (simp [*, errW_none, errW_some] <;> rfl), by first | exact Kd.S_nil _ _ _ _ _ | exact Kd.N_nil _ _ _ _ _ | exact Kd.V_nil _ _ _ _ _ | exact Kd.Q_nil _ _ _ _ _ | exact Kd.R_nil _ _ _ _ _, by repeat (first | (with_reducible first | exact HB.out | apply below_alloc | apply pw_below_drewN | apply below_drew1 | refine below_set ?_ GE101.out) | exact HB.out)⟩
    · rw [if_neg c5] at H
      have c5b0 : decide (300 < (t103.length : Int)) = false := decide_eq_false c5
      have c5b1 : decide (300 < t103.length) = false := decide_eq_false (by omega)
      clear c5
      simp only [Option.some.injEq, Prod.mk.injEq] at H
      obtain ⟨rfl, rfl⟩ := H
      go_enter Try.func52, Try.ntmps52
      go_wp2_with (first | ((with_reducible refine gate_dst (N := 1) rfl ?_); refine box_event ?hg (N := 1) ?hd (cs := #[.int .i64 a0_0, .int .i64 a0_1, .slice A0_2 l0_2.length c0_2]) (t := 26) ?hr ?_; (case hd => rfl); (case hg => rfl); (case hr => first | (go_simp; done) | (go_simp; rfl)); intro gb101 hg w12 hbox hb; have n0_ := Aside0.mk (below_step (by repeat (first | (with_reducible first | exact HB.out | apply below_alloc | apply pw_below_drewN | apply below_drew1) | exact HB.out)) hb); have n1_ := Aside0.mk (hbox); have n2_ := Aside0.mk ((by rw [hg]; exact (below_size (by repeat (first | (with_reducible first | exact HB.out | apply below_alloc | apply pw_below_drewN | apply below_drew1) | exact HB.out))) : w.heap.size ≤ gb101)); have n3_ := Aside0.mk ((by rw [hg]; exact (below_size (by repeat (first | (with_reducible first | exact HB.out | apply below_alloc | apply pw_below_drewN | apply below_drew1) | exact HB.out))) : w.heap.size ≤ gb101)); clear HB; have HB := n0_; have BK101 := n1_; have GW101 := n2_; have GE101 := n3_; clear n0_ n1_ n2_ n3_; clear hb hbox hg; have hcz13_0 : w12.cell? ⟨gb101, 0, none⟩ = some (.int .i64 a0_0) := (blk_cell BK101.out 0).trans rfl; have hcz13_1 : w12.cell? ⟨gb101, 1, none⟩ = some (.int .i64 a0_1) := (blk_cell BK101.out 1).trans rfl; have hcz13_2 : w12.cell? ⟨gb101, 2, none⟩ = some (.slice A0_2 l0_2.length c0_2) := (blk_cell BK101.out 2).trans rfl; have hfz13_0 := blk_frozen BK101.out 0; have hfz13_1 := blk_frozen BK101.out 1; have hfz13_2 := blk_frozen BK101.out 2) | ((with_reducible refine gate_callee (f := 76) rfl ?_); refine goesL_ (some 6) rfl rfl Try.func76 (by kernel_rfl) rfl #[.agg #[.int .i64 a0_0, .int .i64 a0_1, .slice A0_2 l0_2.length c0_2]] rfl (by (try simp only [List.map_toArray, List.map_cons, List.map_nil]); first | done | rfl | (simp only [List.length_drop, List.length_take]; rfl)) ?_; (with_reducible refine (spec_boGood.calls k a0_0 a0_1 _ _ l0_2 true _ ?side1 ?side2 A2.out).mono ?_); (case side1 => repeat (first | exact (Kd.C_below HR0_2.out HB.out) | (with_reducible refine Kd.C_alloc ?_ _) | (with_reducible refine Kd.C_drewN ?_ _) | (with_reducible refine Kd.C_drew ?_))); (case side2 => exact HC0_2.out); rintro e w14 ⟨rfl, hb⟩; refine ⟨_, rfl, ?_⟩; have n0_ := Aside0.mk (blk_below (g := gb101) (o := .cells #[.int .i64 a0_0, .int .i64 a0_1, .slice A0_2 l0_2.length c0_2] 26 (0, 0)) (by (with_reducible repeat (first | refine blk_drewN ?_ _ | refine blk_drew ?_ | refine blk_alloc ?_ _)); exact BK101.out) hb); have n1_ := Aside0.mk (below_step (by repeat (first | (with_reducible first | exact HB.out | apply below_alloc | apply pw_below_drewN | apply below_drew1 | refine below_set ?_ GE101.out) | exact HB.out)) hb); clear BK101; clear HB; have BK101 := n0_; have HB := n1_; clear n0_ n1_; (try clear hb); (try clear hb2); (try clear hk); (try clear hi); have hcz15_0 : w14.cell? ⟨gb101, 0, none⟩ = some (.int .i64 a0_0) := (blk_cell BK101.out 0).trans rfl; have hcz15_1 : w14.cell? ⟨gb101, 1, none⟩ = some (.int .i64 a0_1) := (blk_cell BK101.out 1).trans rfl; have hcz15_2 : w14.cell? ⟨gb101, 2, none⟩ = some (.slice A0_2 l0_2.length c0_2) := (blk_cell BK101.out 2).trans rfl; have hfz15_0 := blk_frozen BK101.out 0; have hfz15_1 := blk_frozen BK101.out 1; have hfz15_2 := blk_frozen BK101.out 2) | ((with_reducible refine gate_callee (f := 106) rfl ?_); refine goesL_ (some 9) rfl rfl Try.func106 (by kernel_rfl) rfl #[.agg #[.int .i64 a0_0, .int .i64 a0_1, .slice A0_2 l0_2.length c0_2]] rfl (by (try simp only [List.map_toArray, List.map_cons, List.map_nil]); first | done | rfl | (simp only [List.length_drop, List.length_take]; rfl)) ?_; (with_reducible refine (spec_lcLargest.calls k a0_0 a0_1 _ _ l0_2 t103 _ ?side1 ?side2 A4.out).mono ?_); (case side1 => repeat (first | exact (Kd.C_below HR0_2.out HB.out) | (with_reducible refine Kd.C_alloc ?_ _) | (with_reducible refine Kd.C_drewN ?_ _) | (with_reducible refine Kd.C_drew ?_))); (case side2 => exact HC0_2.out); rintro e w16 ⟨v104, rfl, ho0, hb⟩; refine ⟨_, rfl, ?_⟩; have n0_ := Aside0.mk (Kd.N_lower (Kd.N_mono (ok' := fun k_ => (w.heap.size ≤ k_) ∧ k_ ≠ gb101) ho0 (fun k_ hk_ => ⟨(Nat.le_trans (below_size (by repeat (first | (with_reducible first | exact HB.out | apply below_alloc | apply pw_below_drewN | apply below_drew1 | refine below_set ?_ GE101.out) | exact HB.out))) hk_), (Kd.freshB (g := gb101) (o := .cells #[.int .i64 a0_0, .int .i64 a0_1, .slice A0_2 l0_2.length c0_2] 26 (0, 0)) (by (with_reducible repeat (first | refine blk_drewN ?_ _ | refine blk_drew ?_ | refine blk_alloc ?_ _)); exact BK101.out) k_ hk_)⟩)) (below_size (by repeat (first | (with_reducible first | exact HB.out | apply below_alloc | apply pw_below_drewN | apply below_drew1 | refine below_set ?_ GE101.out) | exact HB.out)))); have n1_ := Aside0.mk (blk_below (g := gb101) (o := .cells #[.int .i64 a0_0, .int .i64 a0_1, .slice A0_2 l0_2.length c0_2] 26 (0, 0)) (by (with_reducible repeat (first | refine blk_drewN ?_ _ | refine blk_drew ?_ | refine blk_alloc ?_ _)); exact BK101.out) hb); have n2_ := Aside0.mk (below_step (by repeat (first | (with_reducible first | exact HB.out | apply below_alloc | apply pw_below_drewN | apply below_drew1 | refine below_set ?_ GE101.out) | exact HB.out)) hb); clear BK101; clear HB; have HO105 := n0_; have BK101 := n1_; have HB := n2_; clear n0_ n1_ n2_; (try clear hb); (try clear hb2); (try clear hk); (try clear hi); (try clear ho0); obtain ⟨Ao17, co17, eo17⟩ := Kd.N_slice HO105.out; subst eo17))
      go_ret2
      exact ⟨_, by first | rfl | (simp [errW_none, errW_some] <;> rfl) | (simp [*, errW_none, errW_some] <;> rfl), by (with_reducible repeat (first | apply Kd.N_alloc | apply Kd.N_drewN | apply Kd.N_drew)); exact Kd.N_mono HO105.out (fun _ hk => hk.1), by repeat (first | (with_reducible first | exact HB.out | apply below_alloc | apply pw_below_drewN | apply below_drew1 | refine below_set ?_ GE101.out) | exact HB.out)⟩
  · replace c3 := Bool.eq_false_iff.mpr c3
    subst c3
    have H1 : (some (([] : List (List Int)), false)) = some (r1, r2) := by rw [if_neg (show ¬ (false = true) by decide)] at H; exact H
    clear H
    have H := H1
    clear H1
    simp only [Option.some.injEq, Prod.mk.injEq] at H
    obtain ⟨rfl, rfl⟩ := H
    go_enter Try.func52, Try.ntmps52
    go_wp2_with (first | ((with_reducible refine gate_dst (N := 1) rfl ?_); refine box_event ?hg (N := 1) ?hd (cs := #[.int .i64 a0_0, .int .i64 a0_1, .slice A0_2 l0_2.length c0_2]) (t := 26) ?hr ?_; (case hd => rfl); (case hg => rfl); (case hr => first | (go_simp; done) | (go_simp; rfl)); intro gb101 hg w18 hbox hb; have n0_ := Aside0.mk (below_step (by repeat (first | (with_reducible first | exact HB.out | apply below_alloc | apply pw_below_drewN | apply below_drew1) | exact HB.out)) hb); have n1_ := Aside0.mk (hbox); have n2_ := Aside0.mk ((by rw [hg]; exact (below_size (by repeat (first | (with_reducible first | exact HB.out | apply below_alloc | apply pw_below_drewN | apply below_drew1) | exact HB.out))) : w.heap.size ≤ gb101)); have n3_ := Aside0.mk ((by rw [hg]; exact (below_size (by repeat (first | (with_reducible first | exact HB.out | apply below_alloc | apply pw_below_drewN | apply below_drew1) | exact HB.out))) : w.heap.size ≤ gb101)); clear HB; have HB := n0_; have BK101 := n1_; have GW101 := n2_; have GE101 := n3_; clear n0_ n1_ n2_ n3_; clear hb hbox hg; have hcz19_0 : w18.cell? ⟨gb101, 0, none⟩ = some (.int .i64 a0_0) := (blk_cell BK101.out 0).trans rfl; have hcz19_1 : w18.cell? ⟨gb101, 1, none⟩ = some (.int .i64 a0_1) := (blk_cell BK101.out 1).trans rfl; have hcz19_2 : w18.cell? ⟨gb101, 2, none⟩ = some (.slice A0_2 l0_2.length c0_2) := (blk_cell BK101.out 2).trans rfl; have hfz19_0 := blk_frozen BK101.out 0; have hfz19_1 := blk_frozen BK101.out 1; have hfz19_2 := blk_frozen BK101.out 2) | ((with_reducible refine gate_callee (f := 76) rfl ?_); refine goesL_ (some 6) rfl rfl Try.func76 (by kernel_rfl) rfl #[.agg #[.int .i64 a0_0, .int .i64 a0_1, .slice A0_2 l0_2.length c0_2]] rfl (by (try simp only [List.map_toArray, List.map_cons, List.map_nil]); first | done | rfl | (simp only [List.length_drop, List.length_take]; rfl)) ?_; (with_reducible refine (spec_boGood.calls k a0_0 a0_1 _ _ l0_2 false _ ?side1 ?side2 A2.out).mono ?_); (case side1 => repeat (first | exact (Kd.C_below HR0_2.out HB.out) | (with_reducible refine Kd.C_alloc ?_ _) | (with_reducible refine Kd.C_drewN ?_ _) | (with_reducible refine Kd.C_drew ?_))); (case side2 => exact HC0_2.out); rintro e w20 ⟨rfl, hb⟩; refine ⟨_, rfl, ?_⟩; have n0_ := Aside0.mk (blk_below (g := gb101) (o := .cells #[.int .i64 a0_0, .int .i64 a0_1, .slice A0_2 l0_2.length c0_2] 26 (0, 0)) (by (with_reducible repeat (first | refine blk_drewN ?_ _ | refine blk_drew ?_ | refine blk_alloc ?_ _)); exact BK101.out) hb); have n1_ := Aside0.mk (below_step (by repeat (first | (with_reducible first | exact HB.out | apply below_alloc | apply pw_below_drewN | apply below_drew1 | refine below_set ?_ GE101.out) | exact HB.out)) hb); clear BK101; clear HB; have BK101 := n0_; have HB := n1_; clear n0_ n1_; (try clear hb); (try clear hb2); (try clear hk); (try clear hi)))
    go_ret2
    exact ⟨_, by first | rfl | (simp [errW_none, errW_some] <;> rfl) | (simp [*, errW_none, errW_some] <;> rfl), by first | exact Kd.S_nil _ _ _ _ _ | exact Kd.N_nil _ _ _ _ _ | exact Kd.V_nil _ _ _ _ _ | exact Kd.Q_nil _ _ _ _ _ | exact Kd.R_nil _ _ _ _ _, by repeat (first | (with_reducible first | exact HB.out | apply below_alloc | apply pw_below_drewN | apply below_drew1 | refine below_set ?_ GE101.out) | exact HB.out)⟩
end Go.Proofs.Ytgnmcfoenmfhcaa.Q
end
