/- What the program's hitNumbers answers on a square board: how many permutations hit so many rows. No conditions. -/
import Derived.Test.YtiocgomkminmoaaPermsHN
import Derived.Test.YtiocgomkminmoaaQimplBoardhits
import Derived.Test.YtiocgomkminmoaaPerm
import Derived.Deep.RegionWith
namespace Go.Proofs.Ytiocgomkminmoaa.HN
set_option linter.unusedVariables false
set_option linter.unusedSectionVars false
open Go.RowKit Go.Proofs.YtiocgomkminmoaaW.PrintWords Go.Proofs.YtiocgomkminmoaaW.PrintLast Go.Proofs.YtiocgomkminmoaaW.PrintMore
open Go.Proofs.YtiocgomkminmoaaL Go.Proofs.Ytiocgomkminmoaa.LawK Go.Proofs.Ytiocgomkminmoaa.BoardK Go.Proofs.Ytiocgomkminmoaa.Walk Go.Proofs.Ytiocgomkminmoaa.Q Go.Proofs.Ytiocgomkminmoaa.PermK

section
variable (RI CI hI : Int) (R m cp a go gb ga cp2 kk bs : Nat) (l ps out : List Int) (A0 : Option Addr) (c0 : Nat) (w : World)
  (hps : ps.length = R) (hcp : R ≤ cp) (hc0 : l.length ≤ c0) (hr : Kd.C (Kd.int .i64) w (some ⟨a, 0, none⟩) R ps) (hL : Kd.C (Kd.int .i64) w A0 l.length l)
  (hgo : w.heap[go]? = some (.cells #[.slice (some ⟨ga, 0, none⟩) m cp2] 22 (0, 0))) (hgb : w.heap[gb]? = some (.cells #[.int .i64 RI, .int .i64 CI, .slice A0 l.length c0] 24 (0, 0)))
  (ho : Kd.R (Kd.int .i64) 3 w bs (fun i => i = ga) (.slice (some ⟨ga, 0, none⟩) m cp2) out)
  (hh : impl_Board_hits.f kk RI CI l ps = some hI) (h0 : 0 ≤ hI) (h1 : hI < (m : Int))
include hps hcp hc0 hr hL hgo hgb ho hh h0 h1
set_option maxHeartbeats 4000000 in
set_option maxRecDepth 100000 in
theorem hn1 : Calls Try.prog 171 #[.slice (some ⟨a, 0, none⟩) R cp, .pointer (some ⟨go, 0, none⟩), .pointer (some ⟨gb, 0, none⟩)] w
    fun e w' => e = .returned (.tuple #[]) ∧ ∃ W2, Below w.heap.size w W2 ∧ w' = W2.setCell ⟨ga, hI.toNat, none⟩ (.int .i64 (IntKind.i64.wrap (rdOf 0 out hI + 1))) := by
  have CX := Lib.hid (fun (W : World) (hb : Below w.heap.size w W) => by
    have := impl_Board_hits.calls kk RI CI A0 c0 l (some ⟨a, 0, none⟩) cp ps hI W (Kd.C_below hL hb) hc0 (by rw [hps]; exact Kd.C_below hr hb) (by rw [hps]; exact hcp) hh
    rw [hps] at this
    have h2 : Calls Try.prog 139 #[.agg #[.int .i64 RI, .int .i64 CI, .slice A0 l.length c0], .slice (some ⟨a, 0, none⟩) R cp] W fun e w' => e = .returned (.int .i64 hI) ∧ Below w.heap.size w w' := this.mono (by rintro e w' ⟨rfl, h3⟩; exact ⟨rfl, hb.trans (h3.mono hb.size)⟩)
    exact h2)
  have FX := Lib.hid (fun (W : World) (hb : Below w.heap.size w W) => Kd.R_celln 0 (Kd.R_below ho hb) hI h0 h1)
  have BO := Aside0.mk hgo
  have hz1 : w.cell? ⟨go, 0, none⟩ = some (.slice (some ⟨ga, 0, none⟩) m cp2) := (blk_cell hgo 0).trans rfl
  have hz2 : w.cell? ⟨gb, 0, none⟩ = some (.int .i64 RI) := (blk_cell hgb 0).trans rfl
  have hz3 : w.cell? ⟨gb, 1, none⟩ = some (.int .i64 CI) := (blk_cell hgb 1).trans rfl
  have hz4 : w.cell? ⟨gb, 2, none⟩ = some (.slice A0 l.length c0) := (blk_cell hgb 2).trans rfl
  have p1 := eq_true h0
  have p2 := eq_true h1
  have hu24 := Try.underlying24
  clear hps hcp hc0 hr hL hgo hgb ho hh h0 h1
  go_enter Try.func171, Try.ntmps171
  go_wp2
  go_region_with ((go_at_call 139; refine (CX.out _ (by repeat (first | exact Below.refl _ _ | apply below_drew1 | apply pw_below_drewN))).mono ?_; rintro e w2 ⟨rfl, hb⟩; have hb2 := Aside0.mk hb; have hz5 : w2.cell? ⟨go, 0, none⟩ = some (.slice (some ⟨ga, 0, none⟩) m cp2) := (blk_cell (blk_below BO.out hb) 0).trans rfl; obtain ⟨hx, hf⟩ := FX.out w2 hb; clear hb))
  all_goals first | go_end0 | ((try simp only [Exit.inBlock, Exit.then]); refine bodyPost_ret (results_none rfl _ _ _) rfl ?_)
  all_goals exact ⟨rfl, w2, hb2.out, rfl⟩
end
/-- How many permutations of a list hit so many rows. -/
def countsF (l : List Int) (m : Nat) (vis : List (List Int)) : List Int := vis.foldl (fun o p => o.set (hitsF l p 0 0).toNat (IntKind.i64.wrap (rdOf 0 o (hitsF l p 0 0) + 1))) (List.replicate m 0)
theorem hitsF_bound (l : List Int) : ∀ (p : List Int) (i : Nat) (s : Int), s ≤ hitsF l p i s ∧ hitsF l p i s ≤ s + p.length
  | [], i, s => by simp [hitsF]
  | c :: t, i, s => by
    rw [hitsF]
    by_cases e : cell l i c.toNat = true
    · have := hitsF_bound l t (i + 1) (s + 1); rw [if_pos e, List.length_cons]; omega
    · have := hitsF_bound l t (i + 1) s; rw [if_neg e, List.length_cons]; omega
theorem ways_in (l : List Int) (C : Nat) : ∀ (d r t : Nat) (pre : List Int), (∀ x ∈ pre, -1 ≤ x ∧ x < C) → ∀ q ∈ waysFrom l C d r t pre, ∀ x ∈ q, -1 ≤ x ∧ x < C
  | 0, r, t, pre, h, q, hq => by rw [waysFrom, List.mem_singleton] at hq; subst hq; exact h
  | d + 1, r, t, pre, h, q, hq => by
    rw [waysFrom, List.mem_flatMap] at hq
    obtain ⟨c, hc, hq⟩ := hq
    have hc2 : -1 ≤ c ∧ c < C := by
      obtain ⟨i, hi, e⟩ := List.mem_iff_getElem.1 hc
      rw [iota_get] at e; rw [iota_length] at hi; omega
    have hn : ∀ x ∈ pre ++ [c], -1 ≤ x ∧ x < C := by
      intro x hx
      rcases List.mem_append.1 hx with hx | hx
      · exact h x hx
      · rw [List.mem_singleton.1 hx]; exact hc2
    unfold colWays at hq
    split at hq
    · exact ways_in l C d (r + 1) t _ hn q hq
    · split at hq
      · exact ways_in l C d (r + 1) _ _ hn q hq
      · cases hq
theorem perms_in {R : Nat} {p : List Int} (h : p ∈ permsOf R) (hp : p.length = R) : ∀ x ∈ p, 0 ≤ x ∧ x < R := by
  obtain ⟨h1, h2⟩ := List.mem_filter.1 h
  have h3 := ways_in _ R R 0 0 [] (by simp) p h1
  intro x hx
  have h4 : rooksN p = p.length := by rw [hp]; simpa using h2
  have h5 := List.countP_eq_length.1 h4 x hx
  have := h3 x hx
  simp at h5
  omega
theorem hits_ok {RI CI : Int} {l p : List Int} (hs : squareB RI CI l = true) (hp : p.length = l.length) (hin : ∀ x ∈ p, 0 ≤ x ∧ x < l.length) : ∃ kk, impl_Board_hits.f kk RI CI l p = some (hitsF l p 0 0) := by
  obtain ⟨h1, h2, h3, h4, h5⟩ := board_bits hs
  have := impl_hits (l := l) (p := p) RI CI hp h1 h5 (fun x hx => by have := hin x hx; omega) p.length 0 0 (by omega) (by omega) (by omega)
  rw [List.drop_zero] at this
  obtain ⟨kk, hk⟩ := this.rounds
  exact ⟨kk, hk⟩
end Go.Proofs.Ytiocgomkminmoaa.HN
namespace Go.Proofs.Ytiocgomkminmoaa.Q
open Go.RowKit Go.Proofs.YtiocgomkminmoaaW.PrintWords Go.Proofs.YtiocgomkminmoaaW.PrintLast Go.Proofs.YtiocgomkminmoaaW.PrintMore
open Go.Proofs.YtiocgomkminmoaaL Go.Proofs.Ytiocgomkminmoaa.LawK Go.Proofs.Ytiocgomkminmoaa.BoardK Go.Proofs.Ytiocgomkminmoaa.Walk Go.Proofs.Ytiocgomkminmoaa.PermK Go.Proofs.Ytiocgomkminmoaa.HN
def impl_Board_hitNumbers.f (a0_0 : Int) (a0_1 : Int) (l0_2 : List Int) : Option (List Int) := if squareB a0_0 a0_1 l0_2 = true then some (countsF l0_2 (l0_2.length + 1) (permsOf l0_2.length)) else none
/-- What holds while the permutations are told. -/
structure HInv (RI CI : Int) (m go gb ga cp2 : Nat) (l : List Int) (A0 : Option Addr) (c0 : Nat) (w0 W : World) (S : Nat → Prop) (vis : List (List Int)) (w : World) : Prop where
  o : w.heap[go]? = some (.cells #[.slice (some ⟨ga, 0, none⟩) m cp2] 22 (0, 0))
  b : w.heap[gb]? = some (.cells #[.int .i64 RI, .int .i64 CI, .slice A0 l.length c0] 24 (0, 0))
  r : Kd.R (Kd.int .i64) 3 w w0.heap.size (fun i => i = ga) (.slice (some ⟨ga, 0, none⟩) m cp2) (countsF l m vis)
  B : Below w0.heap.size w0 w
  s : ∀ i, S i → W.heap.size ≤ i
set_option maxHeartbeats 4000000 in
set_option maxRecDepth 100000 in
theorem impl_Board_hitNumbers.calls (a0_0 a0_1 : Int) (A0_2 : Option Addr) (c0_2 : Nat) (l0_2 : List Int) (r : List Int) (w : World) (hr0_2 : Kd.C (Kd.int .i64) w A0_2 l0_2.length l0_2) (hc0_2 : l0_2.length ≤ c0_2) (h : impl_Board_hitNumbers.f a0_0 a0_1 l0_2 = some r) :
    Calls Try.prog 141 #[.agg #[.int .i64 a0_0, .int .i64 a0_1, .slice A0_2 l0_2.length c0_2]] w fun e w' => ∃ v0_ : Value, e = .returned (v0_) ∧ Kd.R (Kd.int .i64) 3 w' w.heap.size (fun _ => True) v0_ r ∧ Below w.heap.size w w' := by
  by_cases hs : squareB a0_0 a0_1 l0_2 = true
  rotate_left
  · rw [impl_Board_hitNumbers.f, if_neg hs] at h; cases h
  rw [impl_Board_hitNumbers.f, if_pos hs] at h
  have h := Option.some.inj h
  obtain ⟨hl6, hlr, hl1, hrc, hbits⟩ := board_bits hs
  obtain ⟨m, hm⟩ : ∃ m, m = l0_2.length + 1 := ⟨_, rfl⟩
  rw [← hm] at h
  have KEY : ∀ (W : World) (go gb ga cp2 : Nat), Below w.heap.size w W → w.heap.size ≤ go → w.heap.size ≤ gb → w.heap.size ≤ ga → go ≠ ga → gb ≠ ga → go < W.heap.size → gb < W.heap.size → ga < W.heap.size →
      HInv a0_0 a0_1 m go gb ga cp2 l0_2 A0_2 c0_2 w W (fun _ => False) [] W →
      Calls Try.prog 143 #[.int .i64 a0_0, .func (.func 171) #[] #[.pointer (some ⟨go, 0, none⟩), .pointer (some ⟨gb, 0, none⟩)]] W fun e w' => e = .returned (.tuple #[]) ∧
        w'.heap[go]? = some (.cells #[.slice (some ⟨ga, 0, none⟩) m cp2] 22 (0, 0)) ∧ Kd.R (Kd.int .i64) 3 w' w.heap.size (fun i => i = ga) (.slice (some ⟨ga, 0, none⟩) m cp2) r ∧ Below w.heap.size w w' := by
    intro W go gb ga cp2 hBW bo bb ba noa nba lo lb la hst
    refine (PermsHN.perms_calls (.pointer (some ⟨go, 0, none⟩)) (.pointer (some ⟨gb, 0, none⟩)) l0_2.length a0_0 hlr.symm hl1 hl6
      (HInv a0_0 a0_1 m go gb ga cp2 l0_2 A0_2 c0_2 w W)
      (by
        intro S vis w1 w2 hi hs1
        have kp : ∀ g, g < W.heap.size → ∀ {o}, w1.heap[g]? = some o → w2.heap[g]? = some o := fun g hg o ho => (hs1.kept.2 g (blk_lt ho) (fun h => by have := hi.s g h; omega)).trans ho
        exact ⟨kp go lo hi.o, kp gb lb hi.b, Kd.R_step hi.r (fun i e hlt => by subst e; exact hs1.kept.2 _ hlt (fun h => by have := hi.s _ h; omega)), Still.below hi.B hs1 (fun i h => Nat.le_trans hBW.size (hi.s i h)), hi.s⟩)
      W
      (by
        intro S w1 hS hB1
        exact ⟨blk_below hst.o hB1, blk_below hst.b hB1, Kd.R_below hst.r hB1, hBW.trans (hB1.mono hBW.size), hS⟩)
      (by
        intro S vis ps w1 a cp hS hps hmem hSa hC hcp hi
        have hin := perms_in hmem hps
        obtain ⟨kk, hk⟩ := hits_ok hs hps hin
        have hbd := hitsF_bound l0_2 ps 0 0
        refine (hn1 a0_0 a0_1 (hitsF l0_2 ps 0 0) l0_2.length m cp a go gb ga cp2 kk w.heap.size l0_2 ps (countsF l0_2 m vis) A0_2 c0_2 w1 hps hcp hc0_2 hC (Kd.C_below hr0_2 hi.B) hi.o hi.b hi.r hk (by omega) (by omega)).mono ?_
        rintro e w2 ⟨rfl, W2, hb2, rfl⟩
        have hga : a ≠ ga := fun e => by have := hi.s a hSa; omega
        refine ⟨rfl, ⟨blk_far (blk_below hi.o hb2) noa _, blk_far (blk_below hi.b hb2) nba _, ?_, Below.setCell (hi.B.trans (hb2.mono hi.B.size)) (by (try simp only []); exact ba) _, hi.s⟩, fun i hSi hlt => ?_⟩
        · have := Kd.R_putn (Kd.R_below hi.r hb2) (hitsF l0_2 ps 0 0) (IntKind.i64.wrap (rdOf 0 (countsF l0_2 m vis) (hitsF l0_2 ps 0 0) + 1))
          unfold countsF at this ⊢
          rw [List.foldl_append]
          exact this
        · have := hi.s i hSi
          rw [Below.heap_setCell _ _ _ _ (by (try simp only []); omega)]
          exact hb2.block i hlt)).mono ?_
    rintro e w' ⟨rfl, S, hS, hi⟩
    exact ⟨rfl, hi.o, by rw [← h]; exact hi.r, hi.B⟩
  have KX := Lib.hid KEY
  have p1 := Aside0.mk (show 0 ≤ wrap64 (a0_0 + 1) by rw [w64 (by omega) (by omega)]; omega)
  have p2 := Aside0.mk (show (wrap64 (a0_0 + 1)).toNat * 8 ≤ 281474976710656 by rw [w64 (by omega) (by omega)]; omega)
  have p3 := Aside0.mk (show (wrap64 (a0_0 + 1)).toNat = m by rw [w64 (by omega) (by omega)]; omega)
  have p4 := Aside0.mk (show 0 < m by omega)
  have hu24 := Try.underlying24
  clear KEY h hs hl6 hlr hl1 hrc hbits hm hr0_2 hc0_2
  go_enter Try.func141, Try.ntmps141
  go_wp2_with (first
    | ((with_reducible refine gate_dst (N := 1) rfl ?_); refine box_event ?hg (N := 1) ?hd (cs := #[.int .i64 a0_0, .int .i64 a0_1, .slice A0_2 l0_2.length c0_2]) (t := 24) ?hr ?_; (case hd => rfl); (case hg => rfl); (case hr => first | (go_simp; done) | (go_simp; rfl)); intro gb hg w1 hbox hb; have G1 := Aside0.mk hg; have K1 := Aside0.mk hbox; have B1 := Aside0.mk hb; clear hg hbox hb; have z1 : w1.cell? ⟨gb, 0, none⟩ = some (.int .i64 a0_0) := (blk_cell K1.out 0).trans rfl)
    | ((with_reducible refine gate_dst (N := 7) rfl ?_); refine Kd.R_make (Kd.int .i64) (w0 := w1) w1.heap.size 3 rfl (N := 7) rfl 22 _ _ rfl (wrap64 (a0_0 + 1)) rfl rfl Try.underlying22 (.int .i64 0) 8 info3 rfl (by decide) (by omega) 0 (ok := fun _ => True) (okp := fun _ => True) rfl (fun _ hk => hk) trivial p1.out p2.out (Below.refl _ _) (Nat.le_refl _) ?_; intro v3 w3 ho3 hb hg_ hnew_; clear hg_ hnew_; rw [p3.out] at ho3; obtain ⟨ga, cp2, hv3, hga, hga2, cells3, hc3⟩ := Kd.R_form ho3 (by rw [List.length_replicate]; exact p4.out); rw [List.length_replicate] at hv3; subst hv3; have G3 := Aside0.mk (And.intro hga hga2); clear hga hga2 hc3; have B3 := Aside0.mk hb; have O3 := Aside0.mk ho3; clear hb ho3)
    | ((with_reducible refine gate_dst (N := 3) rfl ?_); refine box_event ?hg (N := 3) ?hd (cs := #[.slice none 0 0]) (t := 22) ?hr ?_; (case hd => rfl); (case hg => rfl); (case hr => first | (go_simp; done) | (go_simp; rfl)); intro go hg w4 hbox hb; have G4 := Aside0.mk hg; have K4 := Aside0.mk hbox; have B4 := Aside0.mk hb; clear hg hbox hb; have y1 : w4.cell? ⟨go, 0, none⟩ = some (.slice none 0 0) := (blk_cell K4.out 0).trans rfl; have f1 : w4.frozen? ⟨go, 0, none⟩ = false := blk_frozen K4.out 0; have nbo := Aside0.mk (show gb ≠ go from Nat.ne_of_lt (by rw [G4.out]; exact Nat.lt_of_lt_of_le (blk_lt K1.out) B3.out.size)); have z2 : (w4.setCell ⟨go, 0, none⟩ (.slice (some ⟨ga, 0, none⟩) m cp2)).cell? ⟨gb, 0, none⟩ = some (.int .i64 a0_0) := (blk_cell (blk_far (blk_below (blk_below K1.out B3.out) B4.out) nbo.out _) 0).trans rfl)
    | (go_at_call 143; (refine (KX.out _ go gb ga cp2 ?sB ?s1 ?s2 ?s3 ?s4 ?s5 ?s6 ?s7 ?s8 ?s9).mono ?_); (case sB => (have o1 := blk_lt K1.out; have o2 := G1.out; have o4 := G3.out; have o5 := G4.out; have o6 := blk_lt K4.out; have o7 := B4.out.size; have o8 : ∀ v, (w4.setCell ⟨go, 0, none⟩ v).heap.size = w4.heap.size := (fun v => by simp [World.setCell]); exact Below.setCell ((B1.out.trans (B3.out.mono (by omega))).trans (B4.out.mono (by omega))) (by (try simp only []); omega) _)); (case s1 => (have o1 := blk_lt K1.out; have o2 := G1.out; have o4 := G3.out; have o5 := G4.out; have o6 := blk_lt K4.out; have o7 := B4.out.size; have o8 : ∀ v, (w4.setCell ⟨go, 0, none⟩ v).heap.size = w4.heap.size := (fun v => by simp [World.setCell]); omega)); (case s2 => (have o1 := blk_lt K1.out; have o2 := G1.out; have o4 := G3.out; have o5 := G4.out; have o6 := blk_lt K4.out; have o7 := B4.out.size; have o8 : ∀ v, (w4.setCell ⟨go, 0, none⟩ v).heap.size = w4.heap.size := (fun v => by simp [World.setCell]); omega)); (case s3 => (have o1 := blk_lt K1.out; have o2 := G1.out; have o4 := G3.out; have o5 := G4.out; have o6 := blk_lt K4.out; have o7 := B4.out.size; have o8 : ∀ v, (w4.setCell ⟨go, 0, none⟩ v).heap.size = w4.heap.size := (fun v => by simp [World.setCell]); omega)); (case s4 => (have o1 := blk_lt K1.out; have o2 := G1.out; have o4 := G3.out; have o5 := G4.out; have o6 := blk_lt K4.out; have o7 := B4.out.size; have o8 : ∀ v, (w4.setCell ⟨go, 0, none⟩ v).heap.size = w4.heap.size := (fun v => by simp [World.setCell]); omega)); (case s5 => (have o1 := blk_lt K1.out; have o2 := G1.out; have o4 := G3.out; have o5 := G4.out; have o6 := blk_lt K4.out; have o7 := B4.out.size; have o8 : ∀ v, (w4.setCell ⟨go, 0, none⟩ v).heap.size = w4.heap.size := (fun v => by simp [World.setCell]); omega)); (case s6 => (have o1 := blk_lt K1.out; have o2 := G1.out; have o4 := G3.out; have o5 := G4.out; have o6 := blk_lt K4.out; have o7 := B4.out.size; have o8 : ∀ v, (w4.setCell ⟨go, 0, none⟩ v).heap.size = w4.heap.size := (fun v => by simp [World.setCell]); rw [o8]; omega)); (case s7 => (have o1 := blk_lt K1.out; have o2 := G1.out; have o4 := G3.out; have o5 := G4.out; have o6 := blk_lt K4.out; have o7 := B4.out.size; have o8 : ∀ v, (w4.setCell ⟨go, 0, none⟩ v).heap.size = w4.heap.size := (fun v => by simp [World.setCell]); rw [o8]; omega)); (case s8 => (have o1 := blk_lt K1.out; have o2 := G1.out; have o4 := G3.out; have o5 := G4.out; have o6 := blk_lt K4.out; have o7 := B4.out.size; have o8 : ∀ v, (w4.setCell ⟨go, 0, none⟩ v).heap.size = w4.heap.size := (fun v => by simp [World.setCell]); rw [o8]; omega)); (case s9 => (have o1 := blk_lt K1.out; have o2 := G1.out; have o4 := G3.out; have o5 := G4.out; have o6 := blk_lt K4.out; have o7 := B4.out.size; have o8 : ∀ v, (w4.setCell ⟨go, 0, none⟩ v).heap.size = w4.heap.size := (fun v => by simp [World.setCell]); refine ⟨blk_put K4.out 0 _ rfl, blk_far (blk_below (blk_below K1.out B3.out) B4.out) nbo.out _, ?_, Below.setCell ((B1.out.trans (B3.out.mono (by omega))).trans (B4.out.mono (by omega))) (by (try simp only []); omega) _, fun i hi => hi.elim⟩; exact Kd.R_far (Kd.R_below (Kd.R_mono (Kd.R_lower (Kd.R_tight rfl O3.out) (by omega)) (fun i hi => (by simpa [Value.ownBlock] using hi : i = ga))) B4.out) (fun i hi => by (try simp only []); omega) _)); rintro e w5 ⟨rfl, hfo, hfr, hfb⟩; have HFR := Aside0.mk hfr; have HFB := Aside0.mk hfb; have y5 : w5.cell? ⟨go, 0, none⟩ = some (.slice (some ⟨ga, 0, none⟩) m cp2) := (blk_cell hfo 0).trans rfl; clear hfo hfr hfb))
  go_ret
  exact ⟨_, rfl, Kd.R_mono HFR.out (fun _ _ => trivial), HFB.out⟩

end Go.Proofs.Ytiocgomkminmoaa.Q
