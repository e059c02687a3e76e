/- Texts of this claim put together (10): words, what the functions compute, and plain facts. No conditions. -/
import Derived.Test.YtgnmcfoenmfhcaaSFnRefusingRows9
import Derived.Deep.RegionWith
import Derived.Test.YtgnmcfoenmfhcaaSFnRefusingRows4
import Derived.Test.YtgnmcfoenmfhcaaSFnRefusingRows6
import Derived.Test.YtgnmcfoenmfhcaaSFnRefusingRows7
import Derived.Test.YtgnmcfoenmfhcaaSFnRefusingRows0
section
namespace Go.Proofs.Ytgnmcfoenmfhcaa.MostK
set_option linter.unusedVariables false
open Go.RowKit Go.Proofs.Ytgnmcfoenmfhcaa.Q Go.Proofs.YtgnmcfoenmfhcaaW.PrintWords Go.Proofs.YtgnmcfoenmfhcaaW.PrintLast Go.Proofs.YtgnmcfoenmfhcaaW.PrintMore
open Go.Proofs.YtgnmcfoenmfhcaaL Go.Proofs.Ytgnmcfoenmfhcaa.LawK Go.Proofs.Ytgnmcfoenmfhcaa.BoardK Go.Proofs.Ytgnmcfoenmfhcaa.LinesK Go.Proofs.Ytgnmcfoenmfhcaa.Koenig Go.Proofs.Ytgnmcfoenmfhcaa.Walk
theorem rooks_none (pre : List Int) : rooksN (pre ++ [-1]) = rooksN pre := by
  unfold rooksN
  rw [List.countP_append]
  rfl
theorem rooks_some (pre : List Int) {c : Int} (h : c ≠ -1) : rooksN (pre ++ [c]) = rooksN pre + 1 := by
  unfold rooksN
  rw [List.countP_append, List.countP_singleton, if_pos (by simpa using h)]
theorem col_none (l : List Int) (r t : Nat) (pre : List Int) (next : Nat → List Int → List (List Int)) : colWays l r t pre next (-1) = next t (pre ++ [-1]) := by
  unfold colWays
  rw [if_pos (by omega)]
theorem col_some (l : List Int) (r t : Nat) (pre : List Int) (next : Nat → List Int → List (List Int)) (c : Nat) : colWays l r t pre next (c : Int) = if (cell l r c && !t.testBit c) = true then next (t ||| 2 ^ c) (pre ++ [(c : Int)]) else [] := by
  unfold colWays
  rw [if_neg (by omega), Int.toNat_natCast]
theorem mem_cols {C : Nat} {c : Int} : c ∈ iota (-1) (C + 1) ↔ c = -1 ∨ ∃ n : Nat, c = n ∧ n < C := by
  constructor
  · intro h
    obtain ⟨i, hi, e⟩ := List.mem_iff_getElem.1 h
    rw [iota_get] at e
    rw [iota_length] at hi
    by_cases h0 : i = 0
    · left; omega
    · right; exact ⟨i - 1, by omega, by omega⟩
  · rintro (rfl | ⟨n, rfl, hn⟩)
    · exact mem_iota (by omega) (by omega)
    · exact mem_iota (by omega) (by omega)
theorem ways_most (l : List Int) (C : Nat) : ∀ (d r t : Nat) (pre : List Int), (∀ q ∈ waysFrom l C d r t pre, rooksN q ≤ rooksN pre + mostN l C d r t) ∧ ∃ q ∈ waysFrom l C d r t pre, rooksN q = rooksN pre + mostN l C d r t
  | 0, r, t, pre => by
    rw [waysFrom, mostN]
    exact ⟨fun q hq => by rw [List.mem_singleton.1 hq]; exact Nat.le_refl _, pre, List.mem_singleton.2 rfl, rfl⟩
  | d + 1, r, t, pre => by
    have hbase := foldl_base (fun c => cell l r c && !t.testBit c) (fun c => 1 + mostN l C d (r + 1) (t ||| 2 ^ c)) (List.range' 0 C) (mostN l C d (r + 1) t)
    have helem := fun c => foldl_elem (fun c => cell l r c && !t.testBit c) (fun c => 1 + mostN l C d (r + 1) (t ||| 2 ^ c)) (List.range' 0 C) (mostN l C d (r + 1) t) c
    rw [waysFrom, mostN]
    constructor
    · intro q hq
      rw [List.mem_flatMap] at hq
      obtain ⟨c, hc, hq⟩ := hq
      rcases mem_cols.1 hc with rfl | ⟨n, rfl, hn⟩
      · rw [col_none] at hq
        have := (ways_most l C d (r + 1) t (pre ++ [-1])).1 q hq
        rw [rooks_none] at this
        exact Nat.le_trans this (Nat.add_le_add_left hbase _)
      · rw [col_some] at hq
        split at hq
        · rename_i hg
          have := (ways_most l C d (r + 1) (t ||| 2 ^ n) (pre ++ [(n : Int)])).1 q hq
          rw [rooks_some pre (by omega)] at this
          have h2 := helem n (List.mem_range'_1.2 ⟨by omega, by omega⟩) hg
          try simp only [] at h2
          refine Nat.le_trans this ?_
          rw [Nat.add_assoc]
          exact Nat.add_le_add_left h2 _
        · cases hq
    · refine foldl_inv (fun a => ∃ q ∈ (iota (-1) (C + 1)).flatMap (colWays l r t pre (waysFrom l C d (r + 1))), rooksN q = rooksN pre + a) _ _ _ ?_ ?_
      · obtain ⟨q, hq, e⟩ := (ways_most l C d (r + 1) t (pre ++ [-1])).2
        rw [rooks_none] at e
        exact ⟨q, List.mem_flatMap.2 ⟨-1, mem_cols.2 (.inl rfl), by rw [col_none]; exact hq⟩, e⟩
      · intro a c hc h
        try simp only []
        split
        · rename_i hg
          split
          · exact h
          · obtain ⟨q, hq, e⟩ := (ways_most l C d (r + 1) (t ||| 2 ^ c) (pre ++ [(c : Int)])).2
            rw [rooks_some pre (by omega)] at e
            refine ⟨q, List.mem_flatMap.2 ⟨(c : Int), mem_cols.2 (.inr ⟨c, rfl, by have := (List.mem_range'_1.1 hc).2; omega⟩), by rw [col_some, if_pos hg]; exact hq⟩, by omega⟩
        · exact h
theorem cell_bit {l : List Int} {C r c : Nat} (hb : ∀ i (hi : i < l.length), 0 ≤ l[i] ∧ l[i] < 2 ^ C) (h : cell l r c = true) : c < C := by
  by_cases hc : c < C
  · exact hc
  · unfold cell at h
    by_cases hr : r < l.length
    · rw [gD_lt _ _ hr] at h
      have := hb r hr
      have h3 : l[r].toNat < 2 ^ C := by
        have h4 : ((l[r].toNat : Nat) : Int) < ((2 ^ C : Nat) : Int) := by rw [Int.toNat_of_nonneg this.1]; exact_mod_cast this.2
        exact_mod_cast h4
      rw [Nat.testBit_lt_two_pow (Nat.lt_of_lt_of_le h3 (Nat.pow_le_pow_right (by decide) (by omega)))] at h
      cases h
    · rw [gD_ge _ _ (by omega)] at h; simp at h
theorem cnt_lt : ∀ C : Fin 7, cnt (fun c => decide (c < C.val)) = C.val := by decide
theorem most_cols {l : List Int} {R C : Nat} (hlR : l.length = R) (hR : R ≤ 6) (hC : C ≤ 6) (hb : ∀ i (hi : i < l.length), 0 ≤ l[i] ∧ l[i] < 2 ^ C) : mostN l C R 0 0 ≤ C := by
  have h := (most_min hlR hR hC hb).2 (fun _ => true)
  have h2 : kap (cell l) (fun _ => true) ≤ C := by
    unfold kap
    have e : (fun (r : Nat) => !true) = fun _ => false := rfl
    rw [e, cnt_false, Nat.zero_add]
    have h3 := cnt_lt ⟨C, by omega⟩
    simp only [] at h3
    rw [← h3]
    refine cnt_mono fun c _ hc => ?_
    obtain ⟨r, _, _, hg⟩ := nb_iff.1 hc
    exact decide_eq_true (cell_bit hb hg)
  omega
theorem ways_le {l : List Int} {R C : Nat} (hlR : l.length = R) (hR : R ≤ 6) (hC : C ≤ 6) (hb : ∀ i (hi : i < l.length), 0 ≤ l[i] ∧ l[i] < 2 ^ C) : ∀ q ∈ waysFrom l C R 0 0 [], (rooksN q : Int) ≤ min (R : Int) (C : Int) := by
  intro q hq
  have h := (ways_most l C R 0 0 []).1 q hq
  have h1 := mostN_le l C R 0 0
  have h2 := most_cols hlR hR hC hb
  have h3 : rooksN [] = 0 := rfl
  omega
end Go.Proofs.Ytgnmcfoenmfhcaa.MostK
end
section
namespace Go.Proofs.Ytgnmcfoenmfhcaa.NumK
set_option linter.unusedVariables false
set_option linter.unusedSectionVars false
open Go.RowKit Go.Proofs.YtgnmcfoenmfhcaaW.PrintWords Go.Proofs.YtgnmcfoenmfhcaaW.PrintLast Go.Proofs.YtgnmcfoenmfhcaaW.PrintMore
open Go.Proofs.YtgnmcfoenmfhcaaL Go.Proofs.Ytgnmcfoenmfhcaa.LawK Go.Proofs.Ytgnmcfoenmfhcaa.BoardK Go.Proofs.Ytgnmcfoenmfhcaa.Walk Go.Proofs.Ytgnmcfoenmfhcaa.Q
def numsF (m : Nat) (vis : List (List Int)) : List Int := vis.foldl (fun o p => o.set ((rooksN p : Nat) : Int).toNat (IntKind.i64.wrap (rdOf 0 o ((rooksN p : Nat) : Int) + 1))) (List.replicate m 0)
section
variable (hI : Int) (R m cp a go ga cp2 kk bs : Nat) (ps out : List Int) (w : World)
  (hps : ps.length = R) (hcp : R ≤ cp) (hr : Kd.C (Kd.int .i64) w (some ⟨a, 0, none⟩) R ps)
  (hgo : w.heap[go]? = some (.cells #[.slice (some ⟨ga, 0, none⟩) m cp2] 24 (0, 0)))
  (ho : Kd.R (Kd.int .i64) 3 w bs (fun i => i = ga) (.slice (some ⟨ga, 0, none⟩) m cp2) out)
  (hh : impl_rooks.f kk ps = some hI) (h0 : 0 ≤ hI) (h1 : hI < (m : Int))
include hps hcp hr hgo ho hh h0 h1
set_option maxHeartbeats 4000000 in
set_option maxRecDepth 100000 in
theorem nm1 : Calls Try.prog 143 #[.slice (some ⟨a, 0, none⟩) R cp, .pointer (some ⟨go, 0, none⟩)] w
    fun e w' => e = .returned (.bool true) ∧ ∃ W2, Below w.heap.size w W2 ∧ w' = W2.setCell ⟨ga, hI.toNat, none⟩ (.int .i64 (IntKind.i64.wrap (rdOf 0 out hI + 1))) := by
  have CX := Lib.hid (fun (W : World) (hb : Below w.heap.size w W) => by
    have := impl_rooks.calls kk (some ⟨a, 0, none⟩) cp ps hI W (by rw [hps]; exact Kd.C_below hr hb) (by rw [hps]; exact hcp) hh
    rw [hps] at this
    have h2 : Calls Try.prog 97 #[.slice (some ⟨a, 0, none⟩) R cp] W fun e w' => e = .returned (.int .i64 hI) ∧ Below w.heap.size w w' := this.mono (by rintro e w' ⟨rfl, h3⟩; exact ⟨rfl, hb.trans (h3.below.mono hb.size)⟩)
    exact h2)
  have FX := Lib.hid (fun (W : World) (hb : Below w.heap.size w W) => Kd.R_celln 0 (Kd.R_below ho hb) hI h0 h1)
  have BO := Aside0.mk hgo
  have hz1 : w.cell? ⟨go, 0, none⟩ = some (.slice (some ⟨ga, 0, none⟩) m cp2) := (blk_cell hgo 0).trans rfl
  have p1 := eq_true h0
  have p2 := eq_true h1
  clear hps hcp hr hgo ho hh h0 h1
  go_enter Try.func143, Try.ntmps143
  go_wp2
  go_region_with ((go_at_call 97; refine (CX.out _ (by repeat (first | exact Below.refl _ _ | apply below_drew1 | apply pw_below_drewN))).mono ?_; rintro e w2 ⟨rfl, hb⟩; have hb2 := Aside0.mk hb; have hz5 : w2.cell? ⟨go, 0, none⟩ = some (.slice (some ⟨ga, 0, none⟩) m cp2) := (blk_cell (blk_below BO.out hb) 0).trans rfl; obtain ⟨hx, hf⟩ := FX.out w2 hb; clear hb))
  all_goals (try go_wp2)
  all_goals go_ret
  all_goals exact ⟨rfl, w2, hb2.out, rfl⟩
end
end Go.Proofs.Ytgnmcfoenmfhcaa.NumK
namespace Go.Proofs.Ytgnmcfoenmfhcaa.Q
set_option linter.unusedVariables false
open Go.RowKit Go.Proofs.YtgnmcfoenmfhcaaW.PrintWords Go.Proofs.YtgnmcfoenmfhcaaW.PrintLast Go.Proofs.YtgnmcfoenmfhcaaW.PrintMore
open Go.Proofs.YtgnmcfoenmfhcaaL Go.Proofs.Ytgnmcfoenmfhcaa.LawK Go.Proofs.Ytgnmcfoenmfhcaa.BoardK Go.Proofs.Ytgnmcfoenmfhcaa.Walk Go.Proofs.Ytgnmcfoenmfhcaa.NumK Go.Proofs.Ytgnmcfoenmfhcaa.MostK
def impl_Board_numbers.f (a0_0 : Int) (a0_1 : Int) (l0_2 : List Int) : Option (List Int) := if isBoardB a0_0 a0_1 l0_2 = true then some (numsF (min a0_0 a0_1 + 1).toNat (waysFrom l0_2 a0_1.toNat l0_2.length 0 0 [])) else none
structure NInv (m go ga cp2 : Nat) (l : List Int) (A0 : Option Addr) (c0 : Nat) (w0 W : World) (S : Nat → Prop) (vis : List (List Int)) (w : World) : Prop where
  o : w.heap[go]? = some (.cells #[.slice (some ⟨ga, 0, none⟩) m cp2] 24 (0, 0))
  r : Kd.R (Kd.int .i64) 3 w w0.heap.size (fun i => i = ga) (.slice (some ⟨ga, 0, none⟩) m cp2) (numsF m vis)
  B : Below w0.heap.size w0 w
  s : ∀ i, S i → W.heap.size ≤ i
set_option maxHeartbeats 4000000 in
set_option maxRecDepth 100000 in
theorem impl_Board_numbers.calls (a0_0 a0_1 : Int) (A0_2 : Option Addr) (c0_2 : Nat) (l0_2 : List Int) (r : List Int) (w : World) (hr0_2 : Kd.C (Kd.int .i64) w A0_2 l0_2.length l0_2) (hc0_2 : l0_2.length ≤ c0_2) (h : impl_Board_numbers.f a0_0 a0_1 l0_2 = some r) :
    Calls Try.prog 124 #[.agg #[.int .i64 a0_0, .int .i64 a0_1, .slice A0_2 l0_2.length c0_2]] w fun e w' => ∃ v0_ : Value, e = .returned (v0_) ∧ Kd.R (Kd.int .i64) 3 w' w.heap.size (fun _ => True) v0_ r ∧ Below w.heap.size w w' := by
  by_cases hs : isBoardB a0_0 a0_1 l0_2 = true
  rotate_left
  · rw [impl_Board_numbers.f, if_neg hs] at h; cases h
  rw [impl_Board_numbers.f, if_pos hs] at h
  have h := Option.some.inj h
  obtain ⟨R, C, rfl, rfl, hlR, h1R, hR, h1C, hC, hbits⟩ := board_of hs
  obtain ⟨m, hm⟩ : ∃ m, m = (min (R : Int) (C : Int) + 1).toNat := ⟨_, rfl⟩
  rw [← hm, Int.toNat_natCast] at h
  have hmR : (m : Int) = (min (R : Int) (C : Int)) + 1 := by omega
  have hways := ways_le hlR hR hC hbits
  have KEY : ∀ (W : World) (go ga cp2 : Nat), Below w.heap.size w W → w.heap.size ≤ go → w.heap.size ≤ ga → go ≠ ga → go < W.heap.size → ga < W.heap.size →
      NInv m go ga cp2 l0_2 A0_2 c0_2 w W (fun _ => False) [] W →
      Calls Try.prog 142 #[.agg #[.int .i64 (R : Int), .int .i64 (C : Int), .slice A0_2 l0_2.length c0_2], .func (.func 143) #[] #[.pointer (some ⟨go, 0, none⟩)]] W fun e w' => e = .returned (.tuple #[]) ∧
        w'.heap[go]? = some (.cells #[.slice (some ⟨ga, 0, none⟩) m cp2] 24 (0, 0)) ∧ Kd.R (Kd.int .i64) 3 w' w.heap.size (fun i => i = ga) (.slice (some ⟨ga, 0, none⟩) m cp2) r ∧ Below w.heap.size w w' := by
    intro W go ga cp2 hBW bo ba noa lo la hst
    refine (WalkNum.walk_calls (NInv m go ga cp2 l0_2 A0_2 c0_2 w W)
      (by
        intro S vis w1 w2 hi hs1
        have kp : ∀ g, g < W.heap.size → ∀ {o}, w1.heap[g]? = some o → w2.heap[g]? = some o := fun g hg o ho => (hs1.kept.2 g (blk_lt ho) (fun h => by have := hi.s g h; omega)).trans ho
        exact ⟨kp go lo hi.o, Kd.R_step hi.r (fun i e hlt => by subst e; exact hs1.kept.2 _ hlt (fun h => by have := hi.s _ h; omega)), Still.below hi.B hs1 (fun i h => Nat.le_trans hBW.size (hi.s i h)), hi.s⟩)
      R C R C rfl rfl l0_2 A0_2 c0_2 hc0_2 (.pointer (some ⟨go, 0, none⟩))
      (fun S vis w1 hi => Kd.C_below hr0_2 hi.B)
      hlR h1R hR hC hbits W
      (by
        intro S w1 hS hB1
        exact ⟨blk_below hst.o hB1, Kd.R_below hst.r hB1, hBW.trans (hB1.mono hBW.size), hS⟩)
      (by
        intro S vis ps w1 a cp hS hSlt hps hmem hSa hC2 hcp hi
        have hk2 := hways ps (by obtain ⟨b, hb2⟩ := hmem; rw [hb2]; simp)
        obtain ⟨kk, hk⟩ := rooks_f (l := ps) (by omega)
        refine (nm1 ((rooksN ps : Nat) : Int) R m cp a go ga cp2 kk w.heap.size ps (numsF m vis) w1 hps hcp hC2 hi.o hi.r hk (by omega) (by omega)).mono ?_
        rintro e w2 ⟨rfl, W2, hb2, rfl⟩
        have hga : a ≠ ga := fun e => by have := hi.s a hSa; omega
        refine ⟨rfl, ⟨blk_far (blk_below hi.o hb2) noa _, ?_, Below.setCell (hi.B.trans (hb2.mono hi.B.size)) (by (try simp only []); exact ba) _, hi.s⟩, fun i hSi hlt => ?_⟩
        · have := Kd.R_putn (Kd.R_below hi.r hb2) ((rooksN ps : Nat) : Int) (IntKind.i64.wrap (rdOf 0 (numsF m vis) ((rooksN ps : Nat) : Int) + 1))
          unfold numsF at this ⊢
          rw [List.foldl_append]
          exact this
        · have := hi.s i hSi
          rw [Below.heap_setCell _ _ _ _ (by (try simp only []); omega)]
          exact hb2.block i hlt)).mono ?_
    rintro e w' ⟨rfl, S, hS, hi⟩
    rw [hlR] at h
    exact ⟨rfl, hi.o, by rw [← h]; exact hi.r, hi.B⟩
  have KX := Lib.hid KEY
  have HJC := Lib.hid (show (C : Int) < (R : Int) → (wrap64 ((C : Int) + 1)).toNat = m from fun hc => by rw [w64 (by omega) (by omega)]; omega)
  have HJR := Lib.hid (show ¬ (C : Int) < (R : Int) → (wrap64 ((R : Int) + 1)).toNat = m from fun hc => by rw [w64 (by omega) (by omega)]; omega)
  have HPC := Aside0.mk (show 0 ≤ wrap64 ((C : Int) + 1) from by rw [w64 (by omega) (by omega)]; omega)
  have HPR := Aside0.mk (show 0 ≤ wrap64 ((R : Int) + 1) from by rw [w64 (by omega) (by omega)]; omega)
  have HQC := Aside0.mk (show (wrap64 ((C : Int) + 1)).toNat * 8 ≤ 281474976710656 from by rw [w64 (by omega) (by omega)]; omega)
  have HQR := Aside0.mk (show (wrap64 ((R : Int) + 1)).toNat * 8 ≤ 281474976710656 from by rw [w64 (by omega) (by omega)]; omega)
  have HM := Aside0.mk (And.intro (show 0 < m by omega) (show m ≤ 7 by omega))
  have hu24 := Try.underlying26
  clear KEY h hs hlR h1R hR h1C hC hbits hm hmR hways hr0_2 hc0_2
  generalize (R : Int) = RI at *
  generalize (C : Int) = CI at *
  clear R C
  have HCR : (CI < RI ∧ (CI < RI) = True) ∨ (¬ CI < RI ∧ (CI < RI) = False) := by
    by_cases hcr : CI < RI
    · exact .inl ⟨hcr, eq_true hcr⟩
    · exact .inr ⟨hcr, eq_false hcr⟩
  rcases HCR with ⟨hcr, q1⟩ | ⟨hcr, q1⟩
  all_goals have HCR := Aside0.mk hcr
  all_goals clear hcr
  all_goals go_enter Try.func124, Try.ntmps124
  all_goals go_wp2_with (first
    | ((with_reducible refine gate_dst (N := 1) rfl ?_); refine box_event ?hg (N := 1) ?hd (cs := #[.int .i64 RI, .int .i64 CI, .slice A0_2 l0_2.length c0_2]) (t := 26) ?hr ?_; (case hd => rfl); (case hg => rfl); (case hr => first | (go_simp; done) | (go_simp; rfl)); intro gb hg w1 hbox hb; have G1 := Aside0.mk hg; have K1 := Aside0.mk hbox; have B1 := Aside0.mk hb; clear hg hbox hb; have z1 : w1.cell? ⟨gb, 0, none⟩ = some (.int .i64 RI) := (blk_cell K1.out 0).trans rfl; have z2 : w1.cell? ⟨gb, 1, none⟩ = some (.int .i64 CI) := (blk_cell K1.out 1).trans rfl)
    | ((with_reducible refine gate_dst (N := 10) rfl ?_); refine Kd.R_make (Kd.int .i64) (w0 := w1) w1.heap.size 3 rfl (N := 10) rfl 24 _ _ rfl (wrap64 (CI + 1)) rfl rfl Try.underlying24 (.int .i64 0) 8 info3 rfl (by decide) (by omega) 0 (ok := fun _ => True) (okp := fun _ => True) rfl (fun _ hk => hk) trivial HPC.out HQC.out (Below.refl _ _) (Nat.le_refl _) ?_; intro v3 w3 ho3 hb hg_ hnew_; clear hg_ hnew_; rw [HJC.out HCR.out] at ho3; obtain ⟨ga, cp2, hv3, hga, hga2, cells3, hc3⟩ := Kd.R_form ho3 (by rw [List.length_replicate]; exact HM.out.1); rw [List.length_replicate] at hv3; subst hv3; have G3 := Aside0.mk (And.intro hga hga2); clear hga hga2 hc3; have B3 := Aside0.mk hb; have O3 := Aside0.mk ho3; clear hb ho3)
    | ((with_reducible refine gate_dst (N := 10) rfl ?_); refine Kd.R_make (Kd.int .i64) (w0 := w1) w1.heap.size 3 rfl (N := 10) rfl 24 _ _ rfl (wrap64 (RI + 1)) rfl rfl Try.underlying24 (.int .i64 0) 8 info3 rfl (by decide) (by omega) 0 (ok := fun _ => True) (okp := fun _ => True) rfl (fun _ hk => hk) trivial HPR.out HQR.out (Below.refl _ _) (Nat.le_refl _) ?_; intro v3 w3 ho3 hb hg_ hnew_; clear hg_ hnew_; rw [HJR.out HCR.out] at ho3; obtain ⟨ga, cp2, hv3, hga, hga2, cells3, hc3⟩ := Kd.R_form ho3 (by rw [List.length_replicate]; exact HM.out.1); rw [List.length_replicate] at hv3; subst hv3; have G3 := Aside0.mk (And.intro hga hga2); clear hga hga2 hc3; have B3 := Aside0.mk hb; have O3 := Aside0.mk ho3; clear hb ho3)
    | ((with_reducible refine gate_dst (N := 3) rfl ?_); refine box_event ?hg (N := 3) ?hd (cs := #[.slice none 0 0]) (t := 24) ?hr ?_; (case hd => rfl); (case hg => rfl); (case hr => first | (go_simp; done) | (go_simp; rfl)); intro go hg w4 hbox hb; have G4 := Aside0.mk hg; have K4 := Aside0.mk hbox; have B4 := Aside0.mk hb; clear hg hbox hb; have y1 : w4.cell? ⟨go, 0, none⟩ = some (.slice none 0 0) := (blk_cell K4.out 0).trans rfl; have f1 : w4.frozen? ⟨go, 0, none⟩ = false := blk_frozen K4.out 0; have nbo := Aside0.mk (show gb ≠ go from Nat.ne_of_lt (by rw [G4.out]; exact Nat.lt_of_lt_of_le (blk_lt K1.out) B3.out.size)); have K5 := Aside0.mk (show (w4.setCell ⟨go, 0, none⟩ (.slice (some ⟨ga, 0, none⟩) m cp2)).heap[gb]? = some (.cells #[.int .i64 RI, .int .i64 CI, .slice A0_2 l0_2.length c0_2] 26 (0, 0)) from blk_far (blk_below (blk_below K1.out B3.out) B4.out) nbo.out _); have z5 : (w4.setCell ⟨go, 0, none⟩ (.slice (some ⟨ga, 0, none⟩) m cp2)).cell? ⟨gb, 0, none⟩ = some (.int .i64 RI) := (blk_cell K5.out 0).trans rfl; have z6 : (w4.setCell ⟨go, 0, none⟩ (.slice (some ⟨ga, 0, none⟩) m cp2)).cell? ⟨gb, 1, none⟩ = some (.int .i64 CI) := (blk_cell K5.out 1).trans rfl; have z7 : (w4.setCell ⟨go, 0, none⟩ (.slice (some ⟨ga, 0, none⟩) m cp2)).cell? ⟨gb, 2, none⟩ = some (.slice A0_2 l0_2.length c0_2) := (blk_cell K5.out 2).trans rfl)
    | (go_at_call 142; (refine (KX.out _ go ga cp2 ?sB ?s1 ?s2 ?s3 ?s4 ?s5 ?s6).mono ?_); (all_goals have o1 := blk_lt K1.out); (all_goals have o2 := G1.out); (all_goals have o4 := G3.out); (all_goals have o5 := G4.out); (all_goals have o6 := blk_lt K4.out); (all_goals have o7 := B4.out.size); (all_goals have o8 : ∀ v, (w4.setCell ⟨go, 0, none⟩ v).heap.size = w4.heap.size := (fun v => by simp [World.setCell])); (all_goals have bb : Below w.heap.size w (w4.setCell ⟨go, 0, none⟩ (.slice (some ⟨ga, 0, none⟩) m cp2)) := Below.setCell ((B1.out.trans (B3.out.mono (by omega))).trans (B4.out.mono (by omega))) (by (try simp only []); omega) _); (case sB => exact bb); (case s1 => omega); (case s2 => omega); (case s3 => omega); (case s4 => rw [o8]; omega); (case s5 => rw [o8]; omega); (case s6 => exact ⟨blk_put K4.out 0 _ rfl, Kd.R_far (Kd.R_mono (Kd.R_lower (Kd.R_tight rfl (Kd.R_below O3.out B4.out)) (by omega)) (fun i hi => (by simpa [Value.ownBlock] using hi : i = ga))) (fun k hk => by (try simp only []); omega) _, bb, fun _ hf => hf.elim⟩); rintro e w5 ⟨rfl, h1, h2, h3⟩; clear o1 o2 o4 o5 o6 o7 o8 bb; have FR := Aside0.mk h2; have FB := Aside0.mk h3; have z8 : w5.cell? ⟨go, 0, none⟩ = some (.slice (some ⟨ga, 0, none⟩) m cp2) := (blk_cell h1 0).trans rfl; clear h1 h2 h3))
  all_goals go_ret
  all_goals exact ⟨_, rfl, Kd.R_mono FR.out (fun _ _ => trivial), FB.out⟩
end Go.Proofs.Ytgnmcfoenmfhcaa.Q
end
section
namespace Go.Proofs.Ytgnmcfoenmfhcaa.Q
open Go.RowKit Go.Proofs.YtgnmcfoenmfhcaaW.PrintWords Go.Proofs.YtgnmcfoenmfhcaaW.PrintLast Go.Proofs.YtgnmcfoenmfhcaaW.PrintMore
attribute [local go_sem] max2_int min2_int max_two min_two max_three min_three max_four min_four   -- for this text's walks alone
set_option linter.unusedVariables false
set_option linter.unusedSimpArgs false
def impl_Board_most.f (k : Nat) (a0_0 : Int) (a0_1 : Int) (l0_2 : List Int) : Option (Int) := (impl_Board_numbers.f a0_0 a0_1 l0_2).bind fun t102 => ((impl_trimmed.f k t102).bind fun t105 => (some (wrap64 ((t105.length : Int) - 1))))
set_option maxHeartbeats 8000000 in
set_option maxRecDepth 100000 in
theorem impl_Board_most.calls (k : Nat) (a0_0 : Int) (a0_1 : Int) (A0_2 : Option Addr) (c0_2 : Nat) (l0_2 : List Int) (r : Int) (w : World) (hr0_2 : Kd.C (Kd.int .i64) w A0_2 l0_2.length l0_2) (hc0_2 : l0_2.length ≤ c0_2) (h : impl_Board_most.f k a0_0 a0_1 l0_2 = some r) :
  Calls Try.prog 80 #[.agg #[.int .i64 a0_0, .int .i64 a0_1, .slice A0_2 l0_2.length c0_2]] w fun e w' => e = .returned (.int .i64 r) ∧ Below w.heap.size w w' := by
 have hu26 := Try.underlying26
 have HR0_2 := za hr0_2
 have HC0_2 := za hc0_2
 clear hr0_2 hc0_2
 have HB := za (Below.refl w.heap.size w)
 have H : ((impl_Board_numbers.f a0_0 a0_1 l0_2).bind fun t102 => ((impl_trimmed.f k t102).bind fun t105 => (some (wrap64 ((t105.length : Int) - 1))))) = some r := h
 clear h
 replace H := Option.bind_eq_some_iff.mp H
 obtain ⟨t102, A20, H⟩ := H
 replace H : ((impl_trimmed.f k t102).bind fun t105 => (some (wrap64 ((t105.length : Int) - 1)))) = some r := H
 have A2 := za A20
 clear A20
 replace H := Option.bind_eq_some_iff.mp H
 obtain ⟨t105, A30, H⟩ := H
 replace H : (some (wrap64 ((t105.length : Int) - 1))) = some r := H
 have A3 := za A30
 clear A30
 obtain rfl := Option.some.inj H
 go_enter Try.func80, Try.ntmps80
 go_wp2_with (first | ((with_reducible refine gate_dst (N := 1) rfl ?_); refine box_event ?hg (N := 1) ?hd (cs := #[.int .i64 a0_0, .int .i64 a0_1, .slice A0_2 l0_2.length c0_2]) (t := 26) ?hr ?_; (case hd => rfl); (case hg => rfl); (case hr => first | (go_simp; done) | (go_simp; rfl)); intro gb101 hg w4 hbox hb; have n0_ := za (zv (by repeat (first | (with_reducible first | exact HB.out | apply zc | apply ze | apply zb) | exact HB.out)) hb); have n1_ := za (hbox); have n2_ := za ((by rw [hg]; exact (zn (by repeat (first | (with_reducible first | exact HB.out | apply zc | apply ze | apply zb) | exact HB.out))) : w.heap.size ≤ gb101)); have n3_ := za ((by rw [hg]; exact (zn (by repeat (first | (with_reducible first | exact HB.out | apply zc | apply ze | apply zb) | exact HB.out))) : w.heap.size ≤ gb101)); clear HB; have HB := n0_; have BK101 := n1_; have GW101 := n2_; have GE101 := n3_; clear n0_ n1_ n2_ n3_; clear hb hbox hg; have hcz5_0 : w4.cell? ⟨gb101, 0, none⟩ = some (.int .i64 a0_0) := (zg BK101.out 0).trans rfl; have hcz5_1 : w4.cell? ⟨gb101, 1, none⟩ = some (.int .i64 a0_1) := (zg BK101.out 1).trans rfl; have hcz5_2 : w4.cell? ⟨gb101, 2, none⟩ = some (.slice A0_2 l0_2.length c0_2) := (zg BK101.out 2).trans rfl; have hfz5_0 := zj BK101.out 0; have hfz5_1 := zj BK101.out 1; have hfz5_2 := zj BK101.out 2) | ((with_reducible refine zu (f := 124) rfl ?_); refine goesL_ (some 4) rfl rfl Try.func124 (by kernel_rfl) rfl #[.agg #[.int .i64 a0_0, .int .i64 a0_1, .slice A0_2 l0_2.length c0_2]] rfl (by (try simp only [List.map_toArray, List.map_cons, List.map_nil]); first | done | rfl | (simp only [List.length_drop, List.length_take]; rfl)) ?_; (with_reducible refine (impl_Board_numbers.calls a0_0 a0_1 _ _ l0_2 t102 _ ?side1 ?side2 A2.out).mono ?_); (case side1 => repeat (first | exact (zE HR0_2.out HB.out) | (with_reducible refine zw ?_ _) | (with_reducible refine zx ?_ _) | (with_reducible refine zy ?_))); (case side2 => exact HC0_2.out); rintro e w6 ⟨v103, rfl, ho0, hb⟩; refine ⟨_, rfl, ?_⟩; have n0_ := za (Kd.R_lower ho0 (zn (by repeat (first | (with_reducible first | exact HB.out | apply zc | apply ze | apply zb | refine zd ?_ GE101.out) | exact HB.out)))); have n1_ := za (zB (g := gb101) (o := .cells #[.int .i64 a0_0, .int .i64 a0_1, .slice A0_2 l0_2.length c0_2] 26 (0, 0)) (by (with_reducible repeat (first | refine zh ?_ _ | refine zf ?_ | refine zi ?_ _)); exact BK101.out) hb); have n2_ := za (zv (by repeat (first | (with_reducible first | exact HB.out | apply zc | apply ze | apply zb | refine zd ?_ GE101.out) | exact HB.out)) hb); clear BK101 HB; have HO104 := n0_; have BK101 := n1_; have HB := n2_; clear n0_ n1_ n2_; (try clear hb); (try clear hb2); (try clear hk); (try clear hi); (try clear ho0); obtain ⟨Ao7, co7, eo7⟩ := Kd.R_slice HO104.out; subst eo7) | ((with_reducible refine zu (f := 123) rfl ?_); refine goesL_ (some 5) rfl rfl Try.func123 (by kernel_rfl) rfl #[.slice Ao7 t102.length co7] rfl (by (try simp only [List.map_toArray, List.map_cons, List.map_nil]); first | done | rfl | (simp only [List.length_drop, List.length_take]; rfl)) ?_; (with_reducible refine (impl_trimmed.calls k (fun k_ => some k_ = (.slice Ao7 t102.length co7 : Value).ownBlock) _ _ t102 t105 _ ?side1 A3.out).mono ?_); (case side1 => exact Kd.R_V (Kd.R_tight rfl (Kd.R_types (HO104.out) BK101.out (by decide)))); rintro e w8 ⟨v106, rfl, ho0, hb⟩; refine ⟨_, rfl, ?_⟩; have n0_ := za (Kd.R_below (by (with_reducible repeat (first | apply zl | apply zm | apply zk)); exact HO104.out) hb); have n1_ := za (Kd.V_lower (Kd.V_mono (ok' := fun k_ => k_ ≠ gb101) ho0 (fun k_ hk_ => Or.elim hk_ (fun hs_ => ((Kd.R_types (HO104.out) BK101.out (by decide)).1 k_ hs_.symm).2) (fun hn_ => (Kd.freshB (g := gb101) (o := .cells #[.int .i64 a0_0, .int .i64 a0_1, .slice A0_2 l0_2.length c0_2] 26 (0, 0)) (by (with_reducible repeat (first | refine zh ?_ _ | refine zf ?_ | refine zi ?_ _)); exact BK101.out) k_ hn_)))) (zn (by repeat (first | (with_reducible first | exact HB.out | apply zc | apply ze | apply zb | refine zd ?_ GE101.out) | exact HB.out)))); have n2_ := za (zB (g := gb101) (o := .cells #[.int .i64 a0_0, .int .i64 a0_1, .slice A0_2 l0_2.length c0_2] 26 (0, 0)) (by (with_reducible repeat (first | refine zh ?_ _ | refine zf ?_ | refine zi ?_ _)); exact BK101.out) hb); have n3_ := za (zv (by repeat (first | (with_reducible first | exact HB.out | apply zc | apply ze | apply zb | refine zd ?_ GE101.out) | exact HB.out)) hb); clear HO104 BK101 HB; have HO104 := n0_; have HO107 := n1_; have BK101 := n2_; have HB := n3_; clear n0_ n1_ n2_ n3_; (try clear hb); (try clear hb2); (try clear hk); (try clear hi); (try clear ho0); obtain ⟨Ao9, co9, eo9⟩ := Kd.V_slice HO107.out; subst eo9))
 go_ret
 exact ⟨by first | rfl | (simp [errW_none, errW_some] <;> rfl) | (simp [*, errW_none, errW_some] <;> rfl), by repeat (first | (with_reducible first | exact HB.out | apply zc | apply ze | apply zb | refine zd ?_ GE101.out) | exact HB.out)⟩
end Go.Proofs.Ytgnmcfoenmfhcaa.Q
end
section
namespace Go.Proofs.Ytgnmcfoenmfhcaa.Q
open Go.RowKit Go.Proofs.YtgnmcfoenmfhcaaW.PrintWords Go.Proofs.YtgnmcfoenmfhcaaW.PrintLast Go.Proofs.YtgnmcfoenmfhcaaW.PrintMore
attribute [local go_sem] max2_int min2_int max_two min_two max_three min_three max_four min_four   -- for this text's walks alone
set_option linter.unusedVariables false
set_option linter.unusedSimpArgs false
def impl_MostRooks.f (k : Nat) (a0_0 : Int) (a0_1 : Int) (l0_2 : List Int) : Option (Int × Bool) := (impl_IsBoard.f a0_0 a0_1 l0_2).bind fun t102 => (if t102 = true then ((impl_Board_most.f k a0_0 a0_1 l0_2).bind fun t103 => (some (t103, true))) else (some (0, false)))
set_option maxHeartbeats 8000000 in
set_option maxRecDepth 100000 in
theorem impl_MostRooks.calls (k : Nat) (a0_0 : Int) (a0_1 : Int) (A0_2 : Option Addr) (c0_2 : Nat) (l0_2 : List Int) (r1 : Int) (r2 : Bool) (w : World) (hr0_2 : Kd.C (Kd.int .i64) w A0_2 l0_2.length l0_2) (hc0_2 : l0_2.length ≤ c0_2) (h : impl_MostRooks.f k a0_0 a0_1 l0_2 = some (r1, r2)) :
  Calls Try.prog 23 #[.agg #[.int .i64 a0_0, .int .i64 a0_1, .slice A0_2 l0_2.length c0_2]] w fun e w' => e = .returned (.tuple #[.int .i64 r1, .bool r2]) ∧ Below w.heap.size w w' := by
 have hu26 := Try.underlying26
 have HR0_2 := za hr0_2
 have HC0_2 := za hc0_2
 clear hr0_2 hc0_2
 have HB := za (Below.refl w.heap.size w)
 have H : ((impl_IsBoard.f a0_0 a0_1 l0_2).bind fun t102 => (if t102 = true then ((impl_Board_most.f k a0_0 a0_1 l0_2).bind fun t103 => (some (t103, true))) else (some (0, false)))) = some (r1, r2) := h
 clear h
 replace H := Option.bind_eq_some_iff.mp H
 obtain ⟨t102, A20, H⟩ := H
 replace H : (if t102 = true then ((impl_Board_most.f k a0_0 a0_1 l0_2).bind fun t103 => (some (t103, true))) else (some (0, false))) = some (r1, r2) := H
 have A2 := za A20
 clear A20
 by_cases c3 : t102 = true
 ·
  subst c3
  have H1 : ((impl_Board_most.f k a0_0 a0_1 l0_2).bind fun t103 => (some (t103, true))) = some (r1, r2) := by rw [if_pos rfl] at H; exact H
  clear H
  have H := H1
  clear H1
  replace H := Option.bind_eq_some_iff.mp H
  obtain ⟨t103, A40, H⟩ := H
  replace H : (some (t103, true)) = some (r1, r2) := H
  have A4 := za A40
  clear A40
  simp only [Option.some.injEq, Prod.mk.injEq] at H
  obtain ⟨rfl, rfl⟩ := H
  go_enter Try.func23, Try.ntmps23
  go_wp2_with (first | ((with_reducible refine gate_dst (N := 1) rfl ?_); refine box_event ?hg (N := 1) ?hd (cs := #[.int .i64 a0_0, .int .i64 a0_1, .slice A0_2 l0_2.length c0_2]) (t := 26) ?hr ?_; (case hd => rfl); (case hg => rfl); (case hr => first | (go_simp; done) | (go_simp; rfl)); intro gb101 hg w5 hbox hb; have n0_ := za (zv (by repeat (first | (with_reducible first | exact HB.out | apply zc | apply ze | apply zb) | exact HB.out)) hb); have n1_ := za (hbox); have n2_ := za ((by rw [hg]; exact (zn (by repeat (first | (with_reducible first | exact HB.out | apply zc | apply ze | apply zb) | exact HB.out))) : w.heap.size ≤ gb101)); have n3_ := za ((by rw [hg]; exact (zn (by repeat (first | (with_reducible first | exact HB.out | apply zc | apply ze | apply zb) | exact HB.out))) : w.heap.size ≤ gb101)); clear HB; have HB := n0_; have BK101 := n1_; have GW101 := n2_; have GE101 := n3_; clear n0_ n1_ n2_ n3_; clear hb hbox hg; have hcz6_0 : w5.cell? ⟨gb101, 0, none⟩ = some (.int .i64 a0_0) := (zg BK101.out 0).trans rfl; have hcz6_1 : w5.cell? ⟨gb101, 1, none⟩ = some (.int .i64 a0_1) := (zg BK101.out 1).trans rfl; have hcz6_2 : w5.cell? ⟨gb101, 2, none⟩ = some (.slice A0_2 l0_2.length c0_2) := (zg BK101.out 2).trans rfl; have hfz6_0 := zj BK101.out 0; have hfz6_1 := zj BK101.out 1; have hfz6_2 := zj BK101.out 2) | ((with_reducible refine zu (f := 71) rfl ?_); refine goesL_ (some 5) rfl rfl Try.func71 (by kernel_rfl) rfl #[.agg #[.int .i64 a0_0, .int .i64 a0_1, .slice A0_2 l0_2.length c0_2]] rfl (by (try simp only [List.map_toArray, List.map_cons, List.map_nil]); first | done | rfl | (simp only [List.length_drop, List.length_take]; rfl)) ?_; (with_reducible refine (impl_IsBoard.calls a0_0 a0_1 _ _ l0_2 true _ ?side1 ?side2 A2.out).mono ?_); (case side1 => repeat (first | exact (zE HR0_2.out HB.out) | (with_reducible refine zw ?_ _) | (with_reducible refine zx ?_ _) | (with_reducible refine zy ?_))); (case side2 => exact HC0_2.out); rintro e w7 ⟨rfl, hb⟩; refine ⟨_, rfl, ?_⟩; have n0_ := za (zB (g := gb101) (o := .cells #[.int .i64 a0_0, .int .i64 a0_1, .slice A0_2 l0_2.length c0_2] 26 (0, 0)) (by (with_reducible repeat (first | refine zh ?_ _ | refine zf ?_ | refine zi ?_ _)); exact BK101.out) hb); have n1_ := za (zv (by repeat (first | (with_reducible first | exact HB.out | apply zc | apply ze | apply zb | refine zd ?_ GE101.out) | exact HB.out)) hb); clear BK101 HB; have BK101 := n0_; have HB := n1_; clear n0_ n1_; (try clear hb); (try clear hb2); (try clear hk); (try clear hi); have hcz8_0 : w7.cell? ⟨gb101, 0, none⟩ = some (.int .i64 a0_0) := (zg BK101.out 0).trans rfl; have hcz8_1 : w7.cell? ⟨gb101, 1, none⟩ = some (.int .i64 a0_1) := (zg BK101.out 1).trans rfl; have hcz8_2 : w7.cell? ⟨gb101, 2, none⟩ = some (.slice A0_2 l0_2.length c0_2) := (zg BK101.out 2).trans rfl; have hfz8_0 := zj BK101.out 0; have hfz8_1 := zj BK101.out 1; have hfz8_2 := zj BK101.out 2) | ((with_reducible refine zu (f := 80) rfl ?_); refine goesL_ (some 8) rfl rfl Try.func80 (by kernel_rfl) rfl #[.agg #[.int .i64 a0_0, .int .i64 a0_1, .slice A0_2 l0_2.length c0_2]] rfl (by (try simp only [List.map_toArray, List.map_cons, List.map_nil]); first | done | rfl | (simp only [List.length_drop, List.length_take]; rfl)) ?_; (with_reducible refine (impl_Board_most.calls k a0_0 a0_1 _ _ l0_2 t103 _ ?side1 ?side2 A4.out).mono ?_); (case side1 => repeat (first | exact (zE HR0_2.out HB.out) | (with_reducible refine zw ?_ _) | (with_reducible refine zx ?_ _) | (with_reducible refine zy ?_))); (case side2 => exact HC0_2.out); rintro e w9 ⟨rfl, hb⟩; refine ⟨_, rfl, ?_⟩; have n0_ := za (zB (g := gb101) (o := .cells #[.int .i64 a0_0, .int .i64 a0_1, .slice A0_2 l0_2.length c0_2] 26 (0, 0)) (by (with_reducible repeat (first | refine zh ?_ _ | refine zf ?_ | refine zi ?_ _)); exact BK101.out) hb); have n1_ := za (zv (by repeat (first | (with_reducible first | exact HB.out | apply zc | apply ze | apply zb | refine zd ?_ GE101.out) | exact HB.out)) hb); clear BK101 HB; have BK101 := n0_; have HB := n1_; clear n0_ n1_; (try clear hb); (try clear hb2); (try clear hk); (try clear hi)))
  go_ret2
  exact ⟨by first | rfl | (simp [errW_none, errW_some] <;> rfl) | (simp [*, errW_none, errW_some] <;> rfl), by repeat (first | (with_reducible first | exact HB.out | apply zc | apply ze | apply zb | refine zd ?_ GE101.out) | exact HB.out)⟩
 ·
  replace c3 := Bool.eq_false_iff.mpr c3
  subst c3
  have H1 : (some (0, false)) = some (r1, r2) := by rw [if_neg (show ¬ (false = true) by decide)] at H; exact H
  clear H
  have H := H1
  clear H1
  simp only [Option.some.injEq, Prod.mk.injEq] at H
  obtain ⟨rfl, rfl⟩ := H
  go_enter Try.func23, Try.ntmps23
  go_wp2_with (first | ((with_reducible refine gate_dst (N := 1) rfl ?_); refine box_event ?hg (N := 1) ?hd (cs := #[.int .i64 a0_0, .int .i64 a0_1, .slice A0_2 l0_2.length c0_2]) (t := 26) ?hr ?_; (case hd => rfl); (case hg => rfl); (case hr => first | (go_simp; done) | (go_simp; rfl)); intro gb101 hg w10 hbox hb; have n0_ := za (zv (by repeat (first | (with_reducible first | exact HB.out | apply zc | apply ze | apply zb) | exact HB.out)) hb); have n1_ := za (hbox); have n2_ := za ((by rw [hg]; exact (zn (by repeat (first | (with_reducible first | exact HB.out | apply zc | apply ze | apply zb) | exact HB.out))) : w.heap.size ≤ gb101)); have n3_ := za ((by rw [hg]; exact (zn (by repeat (first | (with_reducible first | exact HB.out | apply zc | apply ze | apply zb) | exact HB.out))) : w.heap.size ≤ gb101)); clear HB; have HB := n0_; have BK101 := n1_; have GW101 := n2_; have GE101 := n3_; clear n0_ n1_ n2_ n3_; clear hb hbox hg; have hcz11_0 : w10.cell? ⟨gb101, 0, none⟩ = some (.int .i64 a0_0) := (zg BK101.out 0).trans rfl; have hcz11_1 : w10.cell? ⟨gb101, 1, none⟩ = some (.int .i64 a0_1) := (zg BK101.out 1).trans rfl; have hcz11_2 : w10.cell? ⟨gb101, 2, none⟩ = some (.slice A0_2 l0_2.length c0_2) := (zg BK101.out 2).trans rfl; have hfz11_0 := zj BK101.out 0; have hfz11_1 := zj BK101.out 1; have hfz11_2 := zj BK101.out 2) | ((with_reducible refine zu (f := 71) rfl ?_); refine goesL_ (some 5) rfl rfl Try.func71 (by kernel_rfl) rfl #[.agg #[.int .i64 a0_0, .int .i64 a0_1, .slice A0_2 l0_2.length c0_2]] rfl (by (try simp only [List.map_toArray, List.map_cons, List.map_nil]); first | done | rfl | (simp only [List.length_drop, List.length_take]; rfl)) ?_; (with_reducible refine (impl_IsBoard.calls a0_0 a0_1 _ _ l0_2 false _ ?side1 ?side2 A2.out).mono ?_); (case side1 => repeat (first | exact (zE HR0_2.out HB.out) | (with_reducible refine zw ?_ _) | (with_reducible refine zx ?_ _) | (with_reducible refine zy ?_))); (case side2 => exact HC0_2.out); rintro e w12 ⟨rfl, hb⟩; refine ⟨_, rfl, ?_⟩; have n0_ := za (zB (g := gb101) (o := .cells #[.int .i64 a0_0, .int .i64 a0_1, .slice A0_2 l0_2.length c0_2] 26 (0, 0)) (by (with_reducible repeat (first | refine zh ?_ _ | refine zf ?_ | refine zi ?_ _)); exact BK101.out) hb); have n1_ := za (zv (by repeat (first | (with_reducible first | exact HB.out | apply zc | apply ze | apply zb | refine zd ?_ GE101.out) | exact HB.out)) hb); clear BK101 HB; have BK101 := n0_; have HB := n1_; clear n0_ n1_; (try clear hb); (try clear hb2); (try clear hk); (try clear hi)))
  go_ret2
  exact ⟨by first | rfl | (simp [errW_none, errW_some] <;> rfl) | (simp [*, errW_none, errW_some] <;> rfl), by repeat (first | (with_reducible first | exact HB.out | apply zc | apply ze | apply zb | refine zd ?_ GE101.out) | exact HB.out)⟩
end Go.Proofs.Ytgnmcfoenmfhcaa.Q
end
section
namespace Go.Proofs.Ytgnmcfoenmfhcaa.Q
open Go.RowKit Go.Proofs.YtgnmcfoenmfhcaaW.PrintWords Go.Proofs.YtgnmcfoenmfhcaaW.PrintLast Go.Proofs.YtgnmcfoenmfhcaaW.PrintMore
attribute [local go_sem] max2_int min2_int max_two min_two max_three min_three max_four min_four   -- for this text's walks alone
set_option linter.unusedVariables false
set_option linter.unusedSimpArgs false
def laws_kSame.l0 : Nat → List Int → List Int → Int → Int → Option (Bool)
 | 0, _, _, _, _ => none
 | k + 1, x0, x1, x12, x13 => if x13 < x12 then (if 0 ≤ x13 then (if x13 < (x0.length : Int) then (if x13 < (x1.length : Int) then (if (rd x0 x13) = (rd x1 x13) then (laws_kSame.l0 k x0 x1 x12 (wrap64 (x13 + 1))) else (some false)) else (none)) else (none)) else (none)) else (some true)
def laws_kSame.f (k : Nat) (l0 : List Int) (l1 : List Int) : Option (Bool) := if (l0.length : Int) = (l1.length : Int) then (laws_kSame.l0 k l0 l1 (l0.length : Int) 0) else (some false)
set_option maxHeartbeats 8000000 in
set_option maxRecDepth 100000 in
theorem laws_kSame.calls (k : Nat) (A0 : Option Addr) (c0 : Nat) (l0 : List Int) (A1 : Option Addr) (c1 : Nat) (l1 : List Int) (r : Bool) (w : World) (hr0 : Kd.C (Kd.int .i64) w A0 l0.length l0) (hc0 : l0.length ≤ c0) (hr1 : Kd.C (Kd.int .i64) w A1 l1.length l1) (hc1 : l1.length ≤ c1) (h : laws_kSame.f k l0 l1 = some r) :
  Calls Try.prog 24 #[.slice A0 l0.length c0, .slice A1 l1.length c1] w fun e w' => e = .returned (.bool r) ∧ Drawn0 w w' := by
 have HR0 := za hr0
 have HC0 := za hc0
 clear hr0 hc0
 have HR1 := za hr1
 have HC1 := za hc1
 clear hr1 hc1
 have H : (if (l0.length : Int) = (l1.length : Int) then (laws_kSame.l0 k l0 l1 (l0.length : Int) 0) else (some false)) = some r := h
 clear h
 by_cases c3 : (l0.length : Int) = (l1.length : Int)
 ·
  rw [if_pos c3] at H
  have c3b0 : ((l0.length : Int) == (l1.length : Int)) = true := beq_iff_eq.mpr c3
  have c3b1 : ((l0.length : Int) != (l1.length : Int)) = false := bne_eq_false_iff_eq.mpr c3
  have c3b2 : (l0.length == l1.length) = true := by first | simpa using c3 | (simp at c3 ⊢; omega)
  clear c3
  have H' := za H
  clear H
  go_enter Try.func24, Try.ntmps24
  go_wp2
  repeat (go_quiet (fail); try go_wp2)
  go_loopg [13] k (fun kq v13 w' => ∃ (x13_1 : Int), v13 = .int .i64 x13_1 ∧ Aside0 (laws_kSame.l0 kq l0 l1 (l0.length : Int) x13_1 = some r) ∧ Aside0 (kq ≤ k) ∧ Drawn0 w w')
  case atStart => exact ⟨(0), (by first | rfl | (simp; done) | (simp [*]; done)), H', ⟨Nat.le_refl _⟩, by repeat (first | exact Drawn0.refl _ | apply Drawn0.step)⟩
  case round =>
   clear H'
   try clear c1
   try clear c2
   try clear p2
   try clear c3
   try clear c3b0
   try clear c3b1
   try clear c3b2
   obtain ⟨x13_1, rfl, HA, HK1, ⟨m1, rfl⟩⟩ := hrel
   cases gk with
   | zero => exact absurd HA.out (by simp [laws_kSame.l0])
   | succ k1 =>
    have H := HA.out
    clear HA
    simp only [laws_kSame.l0] at H
    by_cases c4 : x13_1 < (l0.length : Int)
    ·
     rw [if_pos c4] at H
     have c4b0 : decide (x13_1 < (l0.length : Int)) = true := decide_eq_true c4
     clear c4
     by_cases c5 : 0 ≤ x13_1
     ·
      rw [if_pos c5] at H
      have c5b0 : decide (0 ≤ x13_1) = true := decide_eq_true c5
      clear c5
      by_cases c6 : x13_1 < (l0.length : Int)
      ·
       rw [if_pos c6] at H
       have c6b0 : decide (x13_1 < (l0.length : Int)) = true := decide_eq_true c6
       clear c6
       by_cases c7 : x13_1 < (l1.length : Int)
       ·
        rw [if_pos c7] at H
        have c7b0 : decide (x13_1 < (l1.length : Int)) = true := decide_eq_true c7
        clear c7
        by_cases c8 : (rd l0 x13_1) = (rd l1 x13_1)
        ·
         rw [if_pos c8] at H
         have c8b0 : ((rd l0 x13_1) == (rd l1 x13_1)) = true := beq_iff_eq.mpr c8
         have c8b1 : ((rd l0 x13_1) != (rd l1 x13_1)) = false := bne_eq_false_iff_eq.mpr c8
         clear c8
         have H' := za H
         clear H
         have p101 : 0 ≤ (x13_1 : Int) := of_decide_eq_true (by first | (with_reducible assumption) | assumption)
         have q101 : x13_1 < (l0.length : Int) := of_decide_eq_true (by first | (with_reducible assumption) | assumption)
         obtain ⟨ad101, e101, hx101_0⟩ := Kd.at_int HR0.out x13_1 p101 q101
         cases e101
         replace p101 := eq_true p101
         replace q101 := eq_true q101
         have p102 : 0 ≤ (x13_1 : Int) := of_decide_eq_true (by first | (with_reducible assumption) | assumption)
         have q102 : x13_1 < (l1.length : Int) := of_decide_eq_true (by first | (with_reducible assumption) | assumption)
         obtain ⟨ad102, e102, hx102_0⟩ := Kd.at_int HR1.out x13_1 p102 q102
         cases e102
         replace p102 := eq_true p102
         replace q102 := eq_true q102
         go_wp2
         repeat (go_quiet (fail); try go_wp2)
         go_roundg k1
         case measure => have := HK1.out; omega
         case rel => exact ⟨(wrap64 (x13_1 + 1)), (by first | rfl | (simp; done) | (simp [*]; done)), H', ⟨by have := HK1.out; omega⟩, by repeat (first | exact Drawn0.refl _ | apply Drawn0.step)⟩
        ·
         rw [if_neg c8] at H
         have c8b0 : ((rd l0 x13_1) == (rd l1 x13_1)) = false := beq_eq_false_iff_ne.mpr c8
         have c8b1 : ((rd l0 x13_1) != (rd l1 x13_1)) = true := bne_iff_ne.mpr c8
         obtain rfl := Option.some.inj H
         have p101 : 0 ≤ (x13_1 : Int) := of_decide_eq_true (by first | (with_reducible assumption) | assumption)
         have q101 : x13_1 < (l0.length : Int) := of_decide_eq_true (by first | (with_reducible assumption) | assumption)
         obtain ⟨ad101, e101, hx101_0⟩ := Kd.at_int HR0.out x13_1 p101 q101
         cases e101
         replace p101 := eq_true p101
         replace q101 := eq_true q101
         have p102 : 0 ≤ (x13_1 : Int) := of_decide_eq_true (by first | (with_reducible assumption) | assumption)
         have q102 : x13_1 < (l1.length : Int) := of_decide_eq_true (by first | (with_reducible assumption) | assumption)
         obtain ⟨ad102, e102, hx102_0⟩ := Kd.at_int HR1.out x13_1 p102 q102
         cases e102
         replace p102 := eq_true p102
         replace q102 := eq_true q102
         go_wp2
         repeat (go_quiet (fail); try go_wp2)
         go_ret
         exact ⟨by first | rfl | (simp; done) | (simp [*]; done), by repeat (first | exact Drawn0.refl _ | apply Drawn0.step)⟩
       ·
        rw [if_neg c7] at H
        exact absurd H (by simp)
      ·
       rw [if_neg c6] at H
       exact absurd H (by simp)
     ·
      rw [if_neg c5] at H
      exact absurd H (by simp)
    ·
     rw [if_neg c4] at H
     have c4b0 : decide (x13_1 < (l0.length : Int)) = false := decide_eq_false c4
     clear c4
     obtain rfl := Option.some.inj H
     go_wp2
     repeat (go_quiet (fail); try go_wp2)
     go_ret
     exact ⟨by first | rfl | (simp; done) | (simp [*]; done), by repeat (first | exact Drawn0.refl _ | apply Drawn0.step)⟩
 ·
  rw [if_neg c3] at H
  have c3b0 : ((l0.length : Int) == (l1.length : Int)) = false := beq_eq_false_iff_ne.mpr c3
  have c3b1 : ((l0.length : Int) != (l1.length : Int)) = true := bne_iff_ne.mpr c3
  have c3b2 : (l0.length == l1.length) = false := by first | simpa using c3 | (simp at c3 ⊢; omega)
  obtain rfl := Option.some.inj H
  go_enter Try.func24, Try.ntmps24
  go_wp2
  repeat (go_quiet (fail); try go_wp2)
  go_ret
  exact ⟨by first | rfl | (simp; done) | (simp [*]; done), by repeat (first | exact Drawn0.refl _ | apply Drawn0.step)⟩
end Go.Proofs.Ytgnmcfoenmfhcaa.Q
end
section
namespace Go.Proofs.Ytgnmcfoenmfhcaa.Q
open Go.RowKit Go.Proofs.YtgnmcfoenmfhcaaW.PrintWords Go.Proofs.YtgnmcfoenmfhcaaW.PrintLast Go.Proofs.YtgnmcfoenmfhcaaW.PrintMore
attribute [local go_sem] max2_int min2_int max_two min_two max_three min_three max_four min_four   -- for this text's walks alone
set_option linter.unusedVariables false
set_option linter.unusedSimpArgs false
def impl_ColumnsOf.j0 : Nat → List Int → Bool → Int → Int → List Int → Option (List Int × Bool)
 | 0, _, _, _, _, _ => none
 | k + 1, x1, x15, x102000, x102001, x102002 => if x15 = true then (some (([] : List Int), false)) else ((impl_maskOf.f k x1).bind fun t104 => ((impl_Board_columns.f k x102000 x102001 x102002 t104).bind fun t105 => ((impl_listOf.f k t105).bind fun t106 => (some (t106, true)))))
def impl_ColumnsOf.f (k : Nat) (a0_0 : Int) (a0_1 : Int) (l0_2 : List Int) (l1 : List Int) : Option (List Int × Bool) := (impl_IsBoard.f a0_0 a0_1 l0_2).bind fun t102 => (if t102 = true then ((impl_areSome.f k l1 a0_0).bind fun t103 => (impl_ColumnsOf.j0 k l1 (!t103) a0_0 a0_1 l0_2)) else (impl_ColumnsOf.j0 k l1 true a0_0 a0_1 l0_2))
set_option maxHeartbeats 8000000 in
set_option maxRecDepth 100000 in
theorem impl_ColumnsOf.calls (k : Nat) (a0_0 : Int) (a0_1 : Int) (A0_2 : Option Addr) (c0_2 : Nat) (l0_2 : List Int) (A1 : Option Addr) (c1 : Nat) (l1 : List Int) (r1 : List Int) (r2 : Bool) (w : World) (hr0_2 : Kd.C (Kd.int .i64) w A0_2 l0_2.length l0_2) (hc0_2 : l0_2.length ≤ c0_2) (hr1 : Kd.C (Kd.int .i64) w A1 l1.length l1) (hc1 : l1.length ≤ c1) (h : impl_ColumnsOf.f k a0_0 a0_1 l0_2 l1 = some (r1, r2)) :
  Calls Try.prog 25 #[.agg #[.int .i64 a0_0, .int .i64 a0_1, .slice A0_2 l0_2.length c0_2], .slice A1 l1.length c1] w fun e w' => ∃ v0_ : Value, e = .returned (.tuple #[v0_, .bool r2]) ∧ Kd.R (Kd.int .i64) 3 w' w.heap.size (fun _ => True) v0_ r1 ∧ Below w.heap.size w w' := by
 have hu26 := Try.underlying26
 have HR0_2 := za hr0_2
 have HC0_2 := za hc0_2
 clear hr0_2 hc0_2
 have HR1 := za hr1
 have HC1 := za hc1
 clear hr1 hc1
 have HB := za (Below.refl w.heap.size w)
 have H : ((impl_IsBoard.f a0_0 a0_1 l0_2).bind fun t102 => (if t102 = true then ((impl_areSome.f k l1 a0_0).bind fun t103 => (impl_ColumnsOf.j0 k l1 (!t103) a0_0 a0_1 l0_2)) else (impl_ColumnsOf.j0 k l1 true a0_0 a0_1 l0_2))) = some (r1, r2) := h
 clear h
 have HC3 := za H
 clear H
 go_enter Try.func25, Try.ntmps25
 go_upto_region 1 with (first | ((with_reducible refine gate_dst (N := 2) rfl ?_); refine box_event ?hg (N := 2) ?hd (cs := #[.int .i64 a0_0, .int .i64 a0_1, .slice A0_2 l0_2.length c0_2]) (t := 26) ?hr ?_; (case hd => rfl); (case hg => rfl); (case hr => first | (go_simp; done) | (go_simp; rfl)); intro gb101 hg w4 hbox hb; have n0_ := za (zv (by repeat (first | (with_reducible first | exact HB.out | apply zc | apply ze | apply zb) | exact HB.out)) hb); have n1_ := za (hbox); have n2_ := za ((by rw [hg]; exact (zn (by repeat (first | (with_reducible first | exact HB.out | apply zc | apply ze | apply zb) | exact HB.out))) : w.heap.size ≤ gb101)); have n3_ := za ((by rw [hg]; exact (zn (by repeat (first | (with_reducible first | exact HB.out | apply zc | apply ze | apply zb) | exact HB.out))) : w.heap.size ≤ gb101)); clear HB; have HB := n0_; have BK101 := n1_; have GW101 := n2_; have GE101 := n3_; clear n0_ n1_ n2_ n3_; clear hb hbox hg))
 (try simp only [Act.put, List.setIfInBounds_toArray, List.set_cons_zero, List.set_cons_succ])
 go_cut [15] (fun v15 wc => ∃ (kq : Nat) (x15_2 : Bool), v15 = .bool x15_2 ∧ Aside0 (impl_ColumnsOf.j0 kq l1 x15_2 a0_0 a0_1 l0_2 = some (r1, r2)) ∧ Aside0 (kq ≤ k) ∧ Aside0 (wc.heap[gb101]? = some (.cells #[.int .i64 a0_0, .int .i64 a0_1, (.slice A0_2 l0_2.length c0_2)] 26 (0, 0))) ∧ Aside0 (Below w.heap.size w wc))
 case first =>
  have H := HC3.out
  clear HC3
  replace H := Option.bind_eq_some_iff.mp H
  obtain ⟨t102, A50, H⟩ := H
  replace H : (if t102 = true then ((impl_areSome.f k l1 a0_0).bind fun t103 => (impl_ColumnsOf.j0 k l1 (!t103) a0_0 a0_1 l0_2)) else (impl_ColumnsOf.j0 k l1 true a0_0 a0_1 l0_2)) = some (r1, r2) := H
  have A5 := za A50
  clear A50
  by_cases c6 : t102 = true
  ·
   subst c6
   have H1 : ((impl_areSome.f k l1 a0_0).bind fun t103 => (impl_ColumnsOf.j0 k l1 (!t103) a0_0 a0_1 l0_2)) = some (r1, r2) := by rw [if_pos rfl] at H; exact H
   clear H
   have H := H1
   clear H1
   replace H := Option.bind_eq_some_iff.mp H
   obtain ⟨t103, A70, H⟩ := H
   replace H : (impl_ColumnsOf.j0 k l1 (!t103) a0_0 a0_1 l0_2) = some (r1, r2) := H
   have A7 := za A70
   clear A70
   have H' := za H
   clear H
   have hcz8_0 : w4.cell? ⟨gb101, 0, none⟩ = some (.int .i64 a0_0) := (zg BK101.out 0).trans rfl
   have hcz8_1 : w4.cell? ⟨gb101, 1, none⟩ = some (.int .i64 a0_1) := (zg BK101.out 1).trans rfl
   have hcz8_2 : w4.cell? ⟨gb101, 2, none⟩ = some (.slice A0_2 l0_2.length c0_2) := (zg BK101.out 2).trans rfl
   have hfz8_0 := zj BK101.out 0
   have hfz8_1 := zj BK101.out 1
   have hfz8_2 := zj BK101.out 2
   go_wp2_with (first | ((with_reducible refine zu (f := 71) rfl ?_); refine goesL_ (some 7) rfl rfl Try.func71 (by kernel_rfl) rfl #[.agg #[.int .i64 a0_0, .int .i64 a0_1, .slice A0_2 l0_2.length c0_2]] rfl (by (try simp only [List.map_toArray, List.map_cons, List.map_nil]); first | done | rfl | (simp only [List.length_drop, List.length_take]; rfl)) ?_; (with_reducible refine (impl_IsBoard.calls a0_0 a0_1 _ _ l0_2 true _ ?side1 ?side2 A5.out).mono ?_); (case side1 => repeat (first | exact (zE HR0_2.out HB.out) | (with_reducible refine zw ?_ _) | (with_reducible refine zx ?_ _) | (with_reducible refine zy ?_))); (case side2 => exact HC0_2.out); rintro e w9 ⟨rfl, hb⟩; refine ⟨_, rfl, ?_⟩; have n0_ := za (zB (g := gb101) (o := .cells #[.int .i64 a0_0, .int .i64 a0_1, .slice A0_2 l0_2.length c0_2] 26 (0, 0)) (by (with_reducible repeat (first | refine zh ?_ _ | refine zf ?_ | refine zi ?_ _)); exact BK101.out) hb); have n1_ := za (zv (by repeat (first | (with_reducible first | exact HB.out | apply zc | apply ze | apply zb | refine zd ?_ GE101.out) | exact HB.out)) hb); clear BK101 HB; have BK101 := n0_; have HB := n1_; clear n0_ n1_; (try clear hb); (try clear hb2); (try clear hk); (try clear hi); have hcz10_0 : w9.cell? ⟨gb101, 0, none⟩ = some (.int .i64 a0_0) := (zg BK101.out 0).trans rfl; have hcz10_1 : w9.cell? ⟨gb101, 1, none⟩ = some (.int .i64 a0_1) := (zg BK101.out 1).trans rfl; have hcz10_2 : w9.cell? ⟨gb101, 2, none⟩ = some (.slice A0_2 l0_2.length c0_2) := (zg BK101.out 2).trans rfl; have hfz10_0 := zj BK101.out 0; have hfz10_1 := zj BK101.out 1; have hfz10_2 := zj BK101.out 2) | (go_at_call 81; (with_reducible refine (impl_areSome.calls k _ _ l1 a0_0 t103 _ ?side1 ?side2 A7.out).mono ?_); (case side1 => repeat (first | exact (zE HR1.out HB.out) | (with_reducible refine zw ?_ _) | (with_reducible refine zx ?_ _) | (with_reducible refine zy ?_))); (case side2 => exact HC1.out); rintro e w' ⟨rfl, ⟨nd, rfl⟩⟩))
   go_meet
   case rel => exact ⟨_, (!t103), (by first | rfl | (simp; done) | (simp [*]; done)), H', ⟨by first | omega | exact Nat.le_refl _⟩, ⟨by (with_reducible repeat (first | refine zh ?_ _ | refine zf ?_ | refine zi ?_ _)); exact BK101.out⟩, ⟨by repeat (first | (with_reducible first | exact HB.out | apply zc | apply ze | apply zb | refine zd ?_ GE101.out) | exact HB.out)⟩⟩
  ·
   replace c6 := Bool.eq_false_iff.mpr c6
   subst c6
   have H1 : (impl_ColumnsOf.j0 k l1 true a0_0 a0_1 l0_2) = some (r1, r2) := by rw [if_neg (show ¬ (false = true) by decide)] at H; exact H
   clear H
   have H := H1
   clear H1
   have H' := za H
   clear H
   have hcz11_0 : w4.cell? ⟨gb101, 0, none⟩ = some (.int .i64 a0_0) := (zg BK101.out 0).trans rfl
   have hcz11_1 : w4.cell? ⟨gb101, 1, none⟩ = some (.int .i64 a0_1) := (zg BK101.out 1).trans rfl
   have hcz11_2 : w4.cell? ⟨gb101, 2, none⟩ = some (.slice A0_2 l0_2.length c0_2) := (zg BK101.out 2).trans rfl
   have hfz11_0 := zj BK101.out 0
   have hfz11_1 := zj BK101.out 1
   have hfz11_2 := zj BK101.out 2
   go_wp2_with (first | ((with_reducible refine zu (f := 71) rfl ?_); refine goesL_ (some 7) rfl rfl Try.func71 (by kernel_rfl) rfl #[.agg #[.int .i64 a0_0, .int .i64 a0_1, .slice A0_2 l0_2.length c0_2]] rfl (by (try simp only [List.map_toArray, List.map_cons, List.map_nil]); first | done | rfl | (simp only [List.length_drop, List.length_take]; rfl)) ?_; (with_reducible refine (impl_IsBoard.calls a0_0 a0_1 _ _ l0_2 false _ ?side1 ?side2 A5.out).mono ?_); (case side1 => repeat (first | exact (zE HR0_2.out HB.out) | (with_reducible refine zw ?_ _) | (with_reducible refine zx ?_ _) | (with_reducible refine zy ?_))); (case side2 => exact HC0_2.out); rintro e w12 ⟨rfl, hb⟩; refine ⟨_, rfl, ?_⟩; have n0_ := za (zB (g := gb101) (o := .cells #[.int .i64 a0_0, .int .i64 a0_1, .slice A0_2 l0_2.length c0_2] 26 (0, 0)) (by (with_reducible repeat (first | refine zh ?_ _ | refine zf ?_ | refine zi ?_ _)); exact BK101.out) hb); have n1_ := za (zv (by repeat (first | (with_reducible first | exact HB.out | apply zc | apply ze | apply zb | refine zd ?_ GE101.out) | exact HB.out)) hb); clear BK101 HB; have BK101 := n0_; have HB := n1_; clear n0_ n1_; (try clear hb); (try clear hb2); (try clear hk); (try clear hi)))
   go_meet
   case rel => exact ⟨_, (true), (by first | rfl | (simp; done) | (simp [*]; done)), H', ⟨by first | omega | exact Nat.le_refl _⟩, ⟨by (with_reducible repeat (first | refine zh ?_ _ | refine zf ?_ | refine zi ?_ _)); exact BK101.out⟩, ⟨by repeat (first | (with_reducible first | exact HB.out | apply zc | apply ze | apply zb | refine zd ?_ GE101.out) | exact HB.out)⟩⟩
 case rest =>
  clear HC3
  try clear c1
  try clear c2
  try clear p2
  try clear c6
  try clear c7
  try clear hcz10_0
  try clear hcz10_1
  try clear hcz10_2
  try clear hcz11_0
  try clear hcz11_1
  try clear hcz11_2
  try clear hcz8_0
  try clear hcz8_1
  try clear hcz8_2
  try clear hfz10_0
  try clear hfz10_1
  try clear hfz10_2
  try clear hfz11_0
  try clear hfz11_1
  try clear hfz11_2
  try clear hfz8_0
  try clear hfz8_1
  try clear hfz8_2
  obtain ⟨kq, x15_2, rfl, HA, HJ2, BK101, HB⟩ := hcut
  cases kq with
  | zero => exact absurd HA.out (by simp [impl_ColumnsOf.j0])
  | succ kj2 =>
   have H := HA.out
   clear HA
   simp only [impl_ColumnsOf.j0] at H
   by_cases c13 : x15_2 = true
   ·
    subst c13
    have H1 : (some (([] : List Int), false)) = some (r1, r2) := by rw [if_pos rfl] at H; exact H
    clear H
    have H := H1
    clear H1
    simp only [Option.some.injEq, Prod.mk.injEq] at H
    obtain ⟨rfl, rfl⟩ := H
    go_wp2
    go_ret2
    exact ⟨_, by first | rfl | (simp [errW_none, errW_some] <;> rfl) | (simp [*, errW_none, errW_some] <;> rfl), by first | exact Kd.R_nil _ _ _ _ _ | exact Kd.N_nil _ _ _ _ _ | exact Kd.V_nil _ _ _ _ _ | exact Kd.Q_nil _ _ _ _ _ | exact Kd.S_nil _ _ _ _ _, by repeat (first | (with_reducible first | exact HB.out | apply zc | apply ze | apply zb | refine zd ?_ GE101.out) | exact HB.out)⟩
   ·
    replace c13 := Bool.eq_false_iff.mpr c13
    subst c13
    have H1 : ((impl_maskOf.f kj2 l1).bind fun t104 => ((impl_Board_columns.f kj2 a0_0 a0_1 l0_2 t104).bind fun t105 => ((impl_listOf.f kj2 t105).bind fun t106 => (some (t106, true))))) = some (r1, r2) := by rw [if_neg (show ¬ (false = true) by decide)] at H; exact H
    clear H
    have H := H1
    clear H1
    replace H := Option.bind_eq_some_iff.mp H
    obtain ⟨t104, A140, H⟩ := H
    replace H : ((impl_Board_columns.f kj2 a0_0 a0_1 l0_2 t104).bind fun t105 => ((impl_listOf.f kj2 t105).bind fun t106 => (some (t106, true)))) = some (r1, r2) := H
    have A14 := za A140
    clear A140
    replace H := Option.bind_eq_some_iff.mp H
    obtain ⟨t105, A150, H⟩ := H
    replace H : ((impl_listOf.f kj2 t105).bind fun t106 => (some (t106, true))) = some (r1, r2) := H
    have A15 := za A150
    clear A150
    replace H := Option.bind_eq_some_iff.mp H
    obtain ⟨t106, A160, H⟩ := H
    replace H : (some (t106, true)) = some (r1, r2) := H
    have A16 := za A160
    clear A160
    simp only [Option.some.injEq, Prod.mk.injEq] at H
    obtain ⟨rfl, rfl⟩ := H
    try go_wp2
    have n0_ := za (zf BK101.out)
    have n1_ := za (zb HB.out)
    clear BK101
    clear HB
    have BK101 := n0_
    have HB := n1_
    clear n0_ n1_
    refine start_ (n := 7) (S := fun w' => w'.cell? ⟨gb101, 0, none⟩ = some (.int .i64 a0_0) ∧ w'.cell? ⟨gb101, 1, none⟩ = some (.int .i64 a0_1) ∧ w'.cell? ⟨gb101, 2, none⟩ = some (.slice A0_2 l0_2.length c0_2)) (ds := []) #[false, false, false, false, false, false, false] (by kernel_rfl) rfl rfl ⟨(zg BK101.out 0).trans rfl, (zg BK101.out 1).trans rfl, (zg BK101.out 2).trans rfl⟩ (fun hHeld => ?_)
    generalize wc.drew = w17 at BK101 HB hHeld ⊢
    refine pure_ (i := 1) (N := some 17) (v := ?_) (a' := ?_) #[false, true, false, false, false, false, false] rfl rfl (by kernel_rfl) (fun _ _ _ h => h) (Or.inl ⟨by rfl, ?_⟩) ?_ ?_
    rotate_left
    ·
     intro w'
     go_simp
     with_reducible rfl
    rotate_left
    ·
     simp only [Act.put, List.setIfInBounds_toArray, List.set_cons_zero, List.set_cons_succ, i64_w, i32_w]
     rfl
    refine take_ (i := 0) (N := some 16) (v := ?_) (a' := ?_) #[true, true, false, false, false, false, false] rfl rfl (by kernel_rfl) (fun _ _ _ h => h) (Or.inl ⟨by rfl, ?_⟩) hHeld ?_ ?_
    rotate_left
    ·
     rintro w' ⟨s0, s1, s2⟩
     go_simp
     with_reducible rfl
    rotate_left
    ·
     simp only [Act.put, List.setIfInBounds_toArray, List.set_cons_zero, List.set_cons_succ, i64_w, i32_w]
     rfl
    refine one_ (i := 2) (N := some 18) #[true, true, true, false, false, false, false] rfl rfl (by kernel_rfl) (by decide) (fun K hK => ?_)
    refine goes_ Try.func82 (by kernel_rfl) rfl #[.slice A1 l1.length c1] (by rfl) rfl rfl (by (try simp only [List.map_toArray, List.map_cons, List.map_nil]); first | done | rfl | (simp only [List.length_drop, List.length_take]; rfl)) ?_
    with_reducible refine (impl_maskOf.calls kj2 _ _ l1 t104 _ ?side1 ?side2 A14.out).mono ?_
    (case side1 => repeat (first | exact (zE HR1.out HB.out) | (with_reducible refine zw ?_ _) | (with_reducible refine zx ?_ _) | (with_reducible refine zy ?_)))
    (case side2 => exact HC1.out)
    rintro e w' ⟨rfl, ⟨nd, rfl⟩⟩
    refine ⟨_, rfl, ?_⟩
    refine hK.out _ _ ⟨(zg BK101.out 0).trans rfl, (zg BK101.out 1).trans rfl, (zg BK101.out 2).trans rfl⟩ (fun hHeld => ?_)
    clear hK K
    refine norm_ (a' := ?_) ?_ ?_
    rotate_left
    ·
     show Act.put _ (some 18) _ = _
     simp only [Act.put, List.setIfInBounds_toArray, List.set_cons_zero, List.set_cons_succ, i64_w, i32_w]
     rfl
    refine one_ (i := 3) (N := some 19) #[true, true, true, true, false, false, false] rfl rfl (by kernel_rfl) (by decide) (fun K hK => ?_)
    refine goes_ Try.func74 (by kernel_rfl) rfl #[.agg #[.int .i64 a0_0, .int .i64 a0_1, .slice A0_2 l0_2.length c0_2], .int .i64 t104] (by rfl) rfl rfl (by (try simp only [List.map_toArray, List.map_cons, List.map_nil]); first | done | rfl | (simp only [List.length_drop, List.length_take]; rfl)) ?_
    with_reducible refine (impl_Board_columns.calls kj2 a0_0 a0_1 _ _ l0_2 t104 t105 _ ?side1 ?side2 A15.out).mono ?_
    (case side1 => repeat (first | exact (zE HR0_2.out (by repeat (first | (with_reducible first | exact HB.out | apply zc | apply ze | apply zb | refine zd ?_ GE101.out) | exact HB.out))) | (with_reducible refine zw ?_ _) | (with_reducible refine zx ?_ _) | (with_reducible refine zy ?_)))
    (case side2 => exact HC0_2.out)
    rintro e w18 ⟨rfl, hb⟩
    refine ⟨_, rfl, ?_⟩
    have n0_ := za (zB (g := gb101) (o := .cells #[.int .i64 a0_0, .int .i64 a0_1, .slice A0_2 l0_2.length c0_2] 26 (0, 0)) (by (with_reducible repeat (first | refine zh ?_ _ | refine zf ?_ | refine zi ?_ _)); exact BK101.out) hb)
    have n1_ := za (zv (by repeat (first | (with_reducible first | exact HB.out | apply zc | apply ze | apply zb | refine zd ?_ GE101.out) | exact HB.out)) hb)
    clear BK101
    clear HB
    have BK101 := n0_
    have HB := n1_
    clear n0_ n1_
    (try clear hb)
    (try clear hb2)
    (try clear hk)
    (try clear hi)
    refine hK.out _ _ ⟨(zg BK101.out 0).trans rfl, (zg BK101.out 1).trans rfl, (zg BK101.out 2).trans rfl⟩ (fun hHeld => ?_)
    clear hK K
    refine norm_ (a' := ?_) ?_ ?_
    rotate_left
    ·
     show Act.put _ (some 19) _ = _
     simp only [Act.put, List.setIfInBounds_toArray, List.set_cons_zero, List.set_cons_succ, i64_w, i32_w]
     rfl
    refine one_ (i := 4) (N := some 20) #[true, true, true, true, true, false, false] rfl rfl (by kernel_rfl) (by decide) (fun K hK => ?_)
    refine goes_ Try.func75 (by kernel_rfl) rfl #[.int .i64 t105] (by rfl) rfl rfl (by (try simp only [List.map_toArray, List.map_cons, List.map_nil]); first | done | rfl | (simp only [List.length_drop, List.length_take]; rfl)) ?_
    with_reducible refine (impl_listOf.calls kj2 t105 t106 _ A16.out).mono ?_
    rintro e w19 ⟨v107, rfl, ho0, hb⟩
    refine ⟨_, rfl, ?_⟩
    have n0_ := za (Kd.R_lower ho0 (zn (by repeat (first | (with_reducible first | exact HB.out | apply zc | apply ze | apply zb | refine zd ?_ GE101.out) | exact HB.out))))
    have n1_ := za (zB (g := gb101) (o := .cells #[.int .i64 a0_0, .int .i64 a0_1, .slice A0_2 l0_2.length c0_2] 26 (0, 0)) (by (with_reducible repeat (first | refine zh ?_ _ | refine zf ?_ | refine zi ?_ _)); exact BK101.out) hb)
    have n2_ := za (zv (by repeat (first | (with_reducible first | exact HB.out | apply zc | apply ze | apply zb | refine zd ?_ GE101.out) | exact HB.out)) hb)
    clear BK101
    clear HB
    have HO108 := n0_
    have BK101 := n1_
    have HB := n2_
    clear n0_ n1_ n2_
    (try clear hb)
    (try clear hb2)
    (try clear hk)
    (try clear hi)
    (try clear ho0)
    refine hK.out _ _ ⟨(zg BK101.out 0).trans rfl, (zg BK101.out 1).trans rfl, (zg BK101.out 2).trans rfl⟩ (fun hHeld => ?_)
    clear hK K
    refine norm_ (a' := ?_) ?_ ?_
    rotate_left
    ·
     show Act.put _ (some 20) _ = _
     simp only [Act.put, List.setIfInBounds_toArray, List.set_cons_zero, List.set_cons_succ, i64_w, i32_w]
     rfl
    refine pure_ (i := 5) (N := some 4) (v := ?_) (a' := ?_) #[true, true, true, true, true, true, false] rfl rfl (by kernel_rfl) (fun _ _ _ h => h) (Or.inl ⟨by rfl, ?_⟩) ?_ ?_
    rotate_left
    ·
     intro w'
     go_simp
     with_reducible rfl
    rotate_left
    ·
     simp only [Act.put, List.setIfInBounds_toArray, List.set_cons_zero, List.set_cons_succ, i64_w, i32_w]
     rfl
    refine pure_ (i := 6) (N := some 5) (v := ?_) (a' := ?_) #[true, true, true, true, true, true, true] rfl rfl (by kernel_rfl) (fun _ _ _ h => h) (Or.inl ⟨by rfl, ?_⟩) ?_ ?_
    rotate_left
    ·
     intro w'
     go_simp
     with_reducible rfl
    rotate_left
    ·
     simp only [Act.put, List.setIfInBounds_toArray, List.set_cons_zero, List.set_cons_succ, i64_w, i32_w]
     rfl
    refine done_ (by kernel_rfl) ?_
    try go_wp2
    go_ret2
    exact ⟨_, by first | rfl | (simp [errW_none, errW_some] <;> rfl) | (simp [*, errW_none, errW_some] <;> rfl), by (with_reducible repeat (first | apply zl | apply zm | apply zk)); exact HO108.out, by repeat (first | (with_reducible first | exact HB.out | apply zc | apply ze | apply zb | refine zd ?_ GE101.out) | exact HB.out)⟩
end Go.Proofs.Ytgnmcfoenmfhcaa.Q
end
section
namespace Go.Proofs.Ytgnmcfoenmfhcaa.Q
open Go.RowKit Go.Proofs.YtgnmcfoenmfhcaaW.PrintWords Go.Proofs.YtgnmcfoenmfhcaaW.PrintLast Go.Proofs.YtgnmcfoenmfhcaaW.PrintMore
attribute [local go_sem] max2_int min2_int max_two min_two max_three min_three max_four min_four   -- for this text's walks alone
set_option linter.unusedVariables false
set_option linter.unusedSimpArgs false
def spec_DrawColumnsOf.l0 : Nat → List Int → Int → List Int → Int → Int → Int → Int → List Int → Option (Int × Int × List Int × List Int)
 | 0, _, _, _, _, _, _, _, _ => none
 | k + 1, x6, x7, x103000, x103001, x103002, x111000, x111001, x111002 => if x7 < 6 then (if x7 < x111000 then ((spec_l1Cur_one.f x103000 x103001 x103002 2).bind fun bt111 => (if bt111.1 = true then (if x6.length < 17592186044416 then (spec_DrawColumnsOf.l0 k (x6 ++ [x7]) (wrap64 (x7 + 1)) x103000 bt111.2.1 bt111.2.2 x111000 x111001 x111002) else (none)) else (spec_DrawColumnsOf.l0 k x6 (wrap64 (x7 + 1)) x103000 bt111.2.1 bt111.2.2 x111000 x111001 x111002))) else (spec_DrawColumnsOf.l0 k x6 (wrap64 (x7 + 1)) x103000 x103001 x103002 x111000 x111001 x111002)) else ((spec_l1Cur_one.f x103000 x103001 x103002 15).bind fun bt117 => (if bt117.1 = true then ((spec_l1Cur_among.f x103000 bt117.2.1 bt117.2.2 (([(-1), 0, 6] : List Int))).bind fun bt123 => (if x6.length < 17592186044416 then (some (x111000, x111001, x111002, (x6 ++ [bt123.1]))) else (none))) else (some (x111000, x111001, x111002, x6))))
def spec_DrawColumnsOf.f (k : Nat) (l0 : List Int) : Option (Int × Int × List Int × List Int) := (spec_l1Cur_sparse.f k l0 0 0).bind fun bt103 => (spec_DrawColumnsOf.l0 k ([] : List Int) 0 l0 bt103.2.2.2.1 bt103.2.2.2.2 bt103.1 bt103.2.1 bt103.2.2.1)
set_option maxHeartbeats 8000000 in
set_option maxRecDepth 100000 in
theorem spec_DrawColumnsOf.calls (k : Nat) (A0 : Option Addr) (c0 : Nat) (l0 : List Int) (r1 : Int) (r2 : Int) (r3 : List Int) (r4 : List Int) (w : World) (hr0 : Kd.C (Kd.int .u8) w A0 l0.length l0) (hc0 : l0.length ≤ c0) (h : spec_DrawColumnsOf.f k l0 = some (r1, r2, r3, r4)) :
  Calls Try.prog 26 #[.slice A0 l0.length c0] w fun e w' => ∃ v2_ v3_ : Value, e = .returned (.tuple #[.agg #[.int .i64 r1, .int .i64 r2, v2_], v3_]) ∧ Kd.R (Kd.int .i64) 3 w' w.heap.size (fun k_ => some k_ ≠ (v3_ : Value).ownBlock) v2_ r3 ∧ Kd.R (Kd.int .i64) 3 w' w.heap.size (fun k_ => some k_ ≠ (v2_ : Value).ownBlock) v3_ r4 ∧ Below w.heap.size w w' := by
 have hu26 := Try.underlying26
 have hu86 := Try.underlying86
 have HR0 := za hr0
 have HC0 := za hc0
 clear hr0 hc0
 have HB := za (Below.refl w.heap.size w)
 have H : ((spec_l1Cur_sparse.f k l0 0 0).bind fun bt103 => (spec_DrawColumnsOf.l0 k ([] : List Int) 0 l0 bt103.2.2.2.1 bt103.2.2.2.2 bt103.1 bt103.2.1 bt103.2.2.1)) = some (r1, r2, r3, r4) := h
 clear h
 replace H := Option.bind_eq_some_iff.mp H
 obtain ⟨⟨t103, t104, t105, t108, t109⟩, A20, H⟩ := H
 replace H : (spec_DrawColumnsOf.l0 k ([] : List Int) 0 l0 t108 t109 t103 t104 t105) = some (r1, r2, r3, r4) := H
 have A2 := za A20
 clear A20
 have H' := za H
 clear H
 go_enter Try.func26, Try.ntmps26
 go_wp2_with (first | ((with_reducible refine gate_dst (N := 2) rfl ?_); refine box_event ?hg (N := 2) ?hd (cs := #[.int .i64 0, .int .i64 0, .slice none 0 0]) (t := 26) ?hr ?_; (case hd => rfl); (case hg => rfl); (case hr => first | (go_simp; done) | (go_simp; rfl)); intro gb101 hg w3 hbox hb; have n0_ := za (zv (by repeat (first | (with_reducible first | exact HB.out | apply zc | apply ze | apply zb) | exact HB.out)) hb); have n1_ := za (hbox); have n2_ := za ((by rw [hg]; exact (zn (by repeat (first | (with_reducible first | exact HB.out | apply zc | apply ze | apply zb) | exact HB.out))) : w.heap.size ≤ gb101)); have n3_ := za ((by rw [hg]; exact (zn (by repeat (first | (with_reducible first | exact HB.out | apply zc | apply ze | apply zb) | exact HB.out))) : w.heap.size ≤ gb101)); clear HB; have HB := n0_; have BK101 := n1_; have GW101 := n2_; have GE101 := n3_; clear n0_ n1_ n2_ n3_; clear hb hbox hg) | ((with_reducible refine gate_dst (N := 10) rfl ?_); refine box_event ?hg (N := 10) ?hd (cs := #[.slice A0 l0.length c0, .int .i64 0, .int .u64 0]) (t := 86) ?hr ?_; (case hd => rfl); (case hg => rfl); (case hr => first | (go_simp; done) | (go_simp; rfl)); intro gb102 hg w4 hbox hb; have n0_ := za (zB (g := gb101) (o := .cells #[.int .i64 0, .int .i64 0, .slice none 0 0] 26 (0, 0)) (by (with_reducible repeat (first | refine zh ?_ _ | refine zf ?_ | refine zi ?_ _)); exact BK101.out) hb); have n1_ := za (zv (by repeat (first | (with_reducible first | exact HB.out | apply zc | apply ze | apply zb | refine zd ?_ GE101.out) | exact HB.out)) hb); have n2_ := za (hbox); have n3_ := za ((by rw [hg]; exact (zn (by repeat (first | (with_reducible first | exact HB.out | apply zc | apply ze | apply zb | refine zd ?_ GE101.out) | exact HB.out))) : w.heap.size ≤ gb102)); have n4_ := za ((by rw [hg]; exact (zn (by repeat (first | (with_reducible first | exact HB.out | apply zc | apply ze | apply zb | refine zd ?_ GE101.out) | exact HB.out))) : w.heap.size ≤ gb102)); have n5_ := za ((by rw [hg]; exact Nat.ne_of_lt (blk_lt (g := gb101) (o := .cells #[.int .i64 0, .int .i64 0, .slice none 0 0] 26 (0, 0)) (by (with_reducible repeat (first | refine zh ?_ _ | refine zf ?_ | refine zi ?_ _)); exact BK101.out)) : gb101 ≠ gb102)); have n6_ := za ((by rw [hg]; exact Nat.ne_of_gt (blk_lt (g := gb101) (o := .cells #[.int .i64 0, .int .i64 0, .slice none 0 0] 26 (0, 0)) (by (with_reducible repeat (first | refine zh ?_ _ | refine zf ?_ | refine zi ?_ _)); exact BK101.out)) : gb102 ≠ gb101)); clear BK101 HB; have BK101 := n0_; have HB := n1_; have BK102 := n2_; have GW102 := n3_; have GE102 := n4_; have NB101_102 := n5_; have NB102_101 := n6_; clear n0_ n1_ n2_ n3_ n4_ n5_ n6_; clear hb hbox hg; have HI102 := za (show IsS86 w _ gb102 l0 0 0 from ⟨_, _, BK102.out, GE102.out, HR0.out⟩)) | ((with_reducible refine zu (f := 83) rfl ?_); refine goesL_ (some 12) rfl rfl Try.func83 (by kernel_rfl) rfl #[.pointer (some ⟨gb102, 0, none⟩)] rfl (by (try simp only [List.map_toArray, List.map_cons, List.map_nil]); first | done | rfl | (simp only [List.length_drop, List.length_take]; rfl)) ?_; (with_reducible refine (spec_l1Cur_sparse.calls k gb102 l0 0 0 t103 t104 t105 t108 t109 w _ ?side1 ?side2 A2.out).mono ?_); (case side1 => repeat (first | (with_reducible first | exact HI102.out | apply IsS86.alloc | apply IsS86.drewN | apply IsS86.drew | apply IsS86.set_1 | apply IsS86.set_2 | refine IsS86.far ?_ NB102_101.out _) | exact HI102.out)); (case side2 => repeat (first | (with_reducible first | exact HB.out | apply zc | apply ze | apply zb | refine zd ?_ (IsS86.ge HI102.out) | refine zd ?_ GE101.out) | exact HB.out)); rintro e w5 ⟨v106, rfl, ho0, hi, hb, hk⟩; refine ⟨_, rfl, ?_⟩; have n0_ := za (zD hk (g' := gb101) (o := .cells #[.int .i64 0, .int .i64 0, .slice none 0 0] 26 (0, 0)) (by (with_reducible repeat (first | refine zh ?_ _ | refine zf ?_ | refine zi ?_ _)); exact BK101.out) NB101_102.out (by simp)); have n1_ := za (Kd.R_lower ho0 (zn (by repeat (first | (with_reducible first | exact HB.out | apply zc | apply ze | apply zb | refine zd ?_ (IsS86.ge HI102.out) | refine zd ?_ GE101.out) | exact HB.out)))); have n2_ := za (hb); have n3_ := za (hi); clear BK101 HB HI102; have BK101 := n0_; have HO107 := n1_; have HB := n2_; have HI102 := n3_; clear n0_ n1_ n2_ n3_; (try clear hb); (try clear hb2); (try clear hk); (try clear hi); (try clear ho0)) | ((with_reducible refine gate_dst (N := 5) rfl ?_); refine box_event ?hg (N := 5) ?hd (cs := #[.int .i64 0, .int .i64 0, .slice none 0 0]) (t := 26) ?hr ?_; (case hd => rfl); (case hg => rfl); (case hr => first | (go_simp; done) | (go_simp; rfl)); intro gb110 hg w6 hbox hb; have n0_ := za (Kd.R_below (by (with_reducible repeat (first | apply zl | apply zm | apply zk)); exact HO107.out) hb); have n1_ := za (zB (g := gb101) (o := .cells #[.int .i64 0, .int .i64 0, .slice none 0 0] 26 (0, 0)) (by (with_reducible repeat (first | refine zh ?_ _ | refine zf ?_ | refine zi ?_ _)); exact BK101.out) hb); have n2_ := za (IsS86.below (by repeat (first | (with_reducible first | exact HI102.out | apply IsS86.alloc | apply IsS86.drewN | apply IsS86.drew | apply IsS86.set_1 | apply IsS86.set_2 | refine IsS86.far ?_ NB102_101.out _) | exact HI102.out)) hb); have n3_ := za (zv (by repeat (first | (with_reducible first | exact HB.out | apply zc | apply ze | apply zb | refine zd ?_ (IsS86.ge HI102.out) | refine zd ?_ GE101.out) | exact HB.out)) hb); have n4_ := za (hbox); have n5_ := za ((by rw [hg]; exact (zn (by repeat (first | (with_reducible first | exact HB.out | apply zc | apply ze | apply zb | refine zd ?_ (IsS86.ge HI102.out) | refine zd ?_ GE101.out) | exact HB.out))) : w.heap.size ≤ gb110)); have n6_ := za ((by rw [hg]; exact (zn (by repeat (first | (with_reducible first | exact HB.out | apply zc | apply ze | apply zb | refine zd ?_ (IsS86.ge HI102.out) | refine zd ?_ GE101.out) | exact HB.out))) : w.heap.size ≤ gb110)); have n7_ := za ((by rw [hg]; exact Nat.ne_of_lt (blk_lt (g := gb101) (o := .cells #[.int .i64 0, .int .i64 0, .slice none 0 0] 26 (0, 0)) (by (with_reducible repeat (first | refine zh ?_ _ | refine zf ?_ | refine zi ?_ _)); exact BK101.out)) : gb101 ≠ gb110)); have n8_ := za ((by rw [hg]; exact Nat.ne_of_gt (blk_lt (g := gb101) (o := .cells #[.int .i64 0, .int .i64 0, .slice none 0 0] 26 (0, 0)) (by (with_reducible repeat (first | refine zh ?_ _ | refine zf ?_ | refine zi ?_ _)); exact BK101.out)) : gb110 ≠ gb101)); have n9_ := za ((by rw [hg]; exact Nat.ne_of_lt (IsS86.lt (show IsS86 w _ gb102 l0 t108 t109 from by repeat (first | (with_reducible first | exact HI102.out | apply IsS86.alloc | apply IsS86.drewN | apply IsS86.drew | apply IsS86.set_1 | apply IsS86.set_2 | refine IsS86.far ?_ NB102_101.out _) | exact HI102.out))) : gb102 ≠ gb110)); have n10_ := za ((by rw [hg]; exact Nat.ne_of_gt (IsS86.lt (show IsS86 w _ gb102 l0 t108 t109 from by repeat (first | (with_reducible first | exact HI102.out | apply IsS86.alloc | apply IsS86.drewN | apply IsS86.drew | apply IsS86.set_1 | apply IsS86.set_2 | refine IsS86.far ?_ NB102_101.out _) | exact HI102.out))) : gb110 ≠ gb102)); clear HO107 BK101; clear HI102 HB; have HO107 := n0_; have BK101 := n1_; have HI102 := n2_; have HB := n3_; have BK110 := n4_; have GW110 := n5_; have GE110 := n6_; have NB101_110 := n7_; have NB110_101 := n8_; have NB102_110 := n9_; have NB110_102 := n10_; clear n0_ n1_ n2_ n3_ n4_ n5_ n6_ n7_ n8_ n9_ n10_; clear hb hbox hg; have hnb7 := NB110_101.out; have hnc7 := NB101_110.out; have hnb8 := NB110_102.out; have hnc8 := NB102_110.out; have hcz9_0 : w6.cell? ⟨gb110, 0, none⟩ = some (.int .i64 0) := (zg BK110.out 0).trans rfl; have hcz9_1 : w6.cell? ⟨gb110, 1, none⟩ = some (.int .i64 0) := (zg BK110.out 1).trans rfl; have hcz9_2 : w6.cell? ⟨gb110, 2, none⟩ = some (.slice none 0 0) := (zg BK110.out 2).trans rfl; have hfz9_0 := zj BK110.out 0; have hfz9_1 := zj BK110.out 1; have hfz9_2 := zj BK110.out 2; obtain ⟨Ao10, co10, eo10⟩ := Kd.R_slice HO107.out; subst eo10))
 go_loopg [6, 7] k (fun kq v6 v7 w' => ∃ (x6_1 : List Int) (x7_1 : Int) (x103001_1 : Int) (x103002_1 : Int), v7 = .int .i64 x7_1 ∧ Aside0 (spec_DrawColumnsOf.l0 kq x6_1 x7_1 l0 x103001_1 x103002_1 t103 t104 t105 = some (r1, r2, r3, r4)) ∧ Aside0 (kq ≤ k) ∧ Aside0 (Kd.R (Kd.int .i64) 3 w' w.heap.size (fun k_ => some k_ ≠ ((.slice Ao10 t105.length co10) : Value).ownBlock) v6 x6_1) ∧ Aside0 (Kd.R (Kd.int .i64) 3 w' w.heap.size (fun k_ => some k_ ≠ (v6 : Value).ownBlock) (.slice Ao10 t105.length co10) t105) ∧ Aside0 (w'.heap[gb101]? = some (.cells #[.int .i64 0, .int .i64 0, (.slice none 0 0)] 26 (0, 0))) ∧ Aside0 (w'.heap[gb110]? = some (.cells #[.int .i64 t103, .int .i64 t104, (.slice Ao10 t105.length co10)] 26 (0, 0))) ∧ Aside0 (IsS86 w w' gb102 l0 x103001_1 x103002_1) ∧ Aside0 (Below w.heap.size w w'))
 case atStart => exact ⟨(([] : List Int)), (0), (t108), (t109), (by first | rfl | (simp; done) | (simp [*]; done)), H', ⟨Nat.le_refl _⟩, ⟨by first | exact Kd.R_nil _ _ _ _ _ | exact Kd.N_nil _ _ _ _ _ | exact Kd.V_nil _ _ _ _ _ | exact Kd.Q_nil _ _ _ _ _ | exact Kd.S_nil _ _ _ _ _⟩, ⟨by (with_reducible repeat (first | apply zl | apply zm | apply zk)); exact zz (zt (p := ⟨gb110, 2, none⟩) (zt (p := ⟨gb110, 1, none⟩) (zt (p := ⟨gb110, 0, none⟩) (Kd.R_types HO107.out BK110.out (by decide)) (fun _ hk => hk.2) (.int .i64 t103)) (fun _ hk => hk.2) (.int .i64 t104)) (fun _ hk => hk.2) (.slice Ao10 t105.length co10)) (fun _ hk => (by simp [Value.ownBlock]))⟩, ⟨by (with_reducible repeat (first | refine zh ?_ _ | refine zf ?_ | refine zi ?_ _)); refine blk_far ?_ NB101_110.out _; (with_reducible repeat (first | refine zh ?_ _ | refine zf ?_ | refine zi ?_ _)); refine blk_far ?_ NB101_110.out _; (with_reducible repeat (first | refine zh ?_ _ | refine zf ?_ | refine zi ?_ _)); refine blk_far ?_ NB101_110.out _; (with_reducible repeat (first | refine zh ?_ _ | refine zf ?_ | refine zi ?_ _)); exact BK101.out⟩, ⟨by (with_reducible repeat (first | refine zh ?_ _ | refine zf ?_ | refine zi ?_ _)); refine blk_put (cs := #[.int .i64 t103, .int .i64 t104, .slice none 0 0]) ?_ 2 _ rfl; (with_reducible repeat (first | refine zh ?_ _ | refine zf ?_ | refine zi ?_ _)); refine blk_put (cs := #[.int .i64 t103, .int .i64 0, .slice none 0 0]) ?_ 1 _ rfl; (with_reducible repeat (first | refine zh ?_ _ | refine zf ?_ | refine zi ?_ _)); refine blk_put (cs := #[.int .i64 0, .int .i64 0, .slice none 0 0]) ?_ 0 _ rfl; (with_reducible repeat (first | refine zh ?_ _ | refine zf ?_ | refine zi ?_ _)); exact BK110.out⟩, ⟨by repeat (first | (with_reducible first | exact HI102.out | apply IsS86.alloc | apply IsS86.drewN | apply IsS86.drew | apply IsS86.set_1 | apply IsS86.set_2 | refine IsS86.far ?_ NB102_101.out _ | refine IsS86.far ?_ NB102_110.out _) | exact HI102.out)⟩, ⟨by repeat (first | (with_reducible first | exact HB.out | apply zc | apply ze | apply zb | refine zd ?_ (IsS86.ge HI102.out) | refine zd ?_ GE101.out | refine zd ?_ GE110.out) | exact HB.out)⟩⟩
 case round =>
  clear H'
  try clear c2
  try clear p2
  try clear c7
  try clear c8
  try clear hcz9_0
  try clear hcz9_1
  try clear hcz9_2
  try clear hfz9_0
  try clear hfz9_1
  try clear hfz9_2
  obtain ⟨x6_1, x7_1, x103001_1, x103002_1, rfl, HA, HK1, HO_6, HO_111002, BK101, BK110, HI102, HB⟩ := hrel
  cases gk with
  | zero => exact absurd HA.out (by simp [spec_DrawColumnsOf.l0])
  | succ k1 =>
   have H := HA.out
   clear HA
   simp only [spec_DrawColumnsOf.l0] at H
   by_cases c11 : x7_1 < 6
   ·
    rw [if_pos c11] at H
    have c11b0 : decide (x7_1 < 6) = true := decide_eq_true c11
    clear c11
    by_cases c12 : x7_1 < t103
    ·
     rw [if_pos c12] at H
     have c12b0 : decide (x7_1 < t103) = true := decide_eq_true c12
     clear c12
     replace H := Option.bind_eq_some_iff.mp H
     obtain ⟨⟨t111, t112, t113⟩, A130, H⟩ := H
     replace H : (if t111 = true then (if x6_1.length < 17592186044416 then (spec_DrawColumnsOf.l0 k1 (x6_1 ++ [x7_1]) (wrap64 (x7_1 + 1)) l0 t112 t113 t103 t104 t105) else (none)) else (spec_DrawColumnsOf.l0 k1 x6_1 (wrap64 (x7_1 + 1)) l0 t112 t113 t103 t104 t105)) = some (r1, r2, r3, r4) := H
     have A13 := za A130
     clear A130
     by_cases c14 : t111 = true
     ·
      subst c14
      have H1 : (if x6_1.length < 17592186044416 then (spec_DrawColumnsOf.l0 k1 (x6_1 ++ [x7_1]) (wrap64 (x7_1 + 1)) l0 t112 t113 t103 t104 t105) else (none)) = some (r1, r2, r3, r4) := by rw [if_pos rfl] at H; exact H
      clear H
      have H := H1
      clear H1
      by_cases c15 : x6_1.length < 17592186044416
      ·
       rw [if_pos c15] at H
       have LMc15 := za c15
       clear c15
       obtain ⟨y114, hy114⟩ : ∃ y_ : List Int, y_ = (x6_1 ++ [x7_1]) := ⟨_, rfl⟩
       replace H : (spec_DrawColumnsOf.l0 k1 y114 (wrap64 (x7_1 + 1)) l0 t112 t113 t103 t104 t105) = some (r1, r2, r3, r4) := by first | (rw [hy114]; with_reducible exact H) | (have H2_ := (Option.bind_some _ _).symm.trans H; rw [hy114]; with_reducible exact H2_) | (have H2_ := (Option.bind_some _ _).symm.trans H; with_reducible exact H2_) | with_reducible exact H | (rw [hy114]; exact H) | exact H
       have Ny114 := za hy114
       clear hy114
       have H' := za H
       clear H
       have hnb16 := NB110_101.out
       have hnc16 := NB101_110.out
       have hnb17 := NB110_102.out
       have hnc17 := NB102_110.out
       have hcz18_0 : wr.cell? ⟨gb110, 0, none⟩ = some (.int .i64 t103) := (zg BK110.out 0).trans rfl
       have hcz18_1 : wr.cell? ⟨gb110, 1, none⟩ = some (.int .i64 t104) := (zg BK110.out 1).trans rfl
       have hcz18_2 : wr.cell? ⟨gb110, 2, none⟩ = some (.slice Ao10 t105.length co10) := (zg BK110.out 2).trans rfl
       have hfz18_0 := zj BK110.out 0
       have hfz18_1 := zj BK110.out 1
       have hfz18_2 := zj BK110.out 2
       go_wp2_with (first | (go_at_call 84; (with_reducible refine (spec_l1Cur_one.calls gb102 l0 x103001_1 x103002_1 2 true t112 t113 w _ ?side1 ?side2 A13.out).mono ?_); (case side1 => repeat (first | (with_reducible first | exact HI102.out | apply IsS86.alloc | apply IsS86.drewN | apply IsS86.drew | apply IsS86.set_1 | apply IsS86.set_2 | refine IsS86.far ?_ NB102_101.out _ | refine IsS86.far ?_ NB102_110.out _) | exact HI102.out)); (case side2 => repeat (first | (with_reducible first | exact HB.out | apply zc | apply ze | apply zb | refine zd ?_ (IsS86.ge HI102.out) | refine zd ?_ GE101.out | refine zd ?_ GE110.out) | exact HB.out)); rintro e w19 ⟨rfl, hi, hb, hk⟩; have n0_ := za (zz (Kd.R_keep (IsS86.apart (show IsS86 w _ gb102 l0 x103001_1 x103002_1 from by repeat (first | (with_reducible first | exact HI102.out | apply IsS86.alloc | apply IsS86.drewN | apply IsS86.drew | apply IsS86.set_1 | apply IsS86.set_2 | refine IsS86.far ?_ NB102_101.out _ | refine IsS86.far ?_ NB102_110.out _) | exact HI102.out)) (by (with_reducible repeat (first | apply zl | apply zm | apply zk)); exact HO_6.out) (by decide)) hk (fun _ h => h.2)) (fun _ h => h.1)); have n1_ := za (zz (Kd.R_keep (IsS86.apart (show IsS86 w _ gb102 l0 x103001_1 x103002_1 from by repeat (first | (with_reducible first | exact HI102.out | apply IsS86.alloc | apply IsS86.drewN | apply IsS86.drew | apply IsS86.set_1 | apply IsS86.set_2 | refine IsS86.far ?_ NB102_101.out _ | refine IsS86.far ?_ NB102_110.out _) | exact HI102.out)) (by (with_reducible repeat (first | apply zl | apply zm | apply zk)); exact HO_111002.out) (by decide)) hk (fun _ h => h.2)) (fun _ h => h.1)); have n2_ := za (zD hk (g' := gb101) (o := .cells #[.int .i64 0, .int .i64 0, .slice none 0 0] 26 (0, 0)) (by (with_reducible repeat (first | refine zh ?_ _ | refine zf ?_ | refine zi ?_ _)); exact BK101.out) NB101_102.out (by simp)); have n3_ := za (zD hk (g' := gb110) (o := .cells #[.int .i64 t103, .int .i64 t104, .slice Ao10 t105.length co10] 26 (0, 0)) (by (with_reducible repeat (first | refine zh ?_ _ | refine zf ?_ | refine zi ?_ _)); exact BK110.out) NB110_102.out (by simp)); have n4_ := za (hb); have n5_ := za (hi); clear HO_6 HO_111002; clear BK101 BK110; clear HB HI102; have HO_6 := n0_; have HO_111002 := n1_; have BK101 := n2_; have BK110 := n3_; have HB := n4_; have HI102 := n5_; clear n0_ n1_ n2_ n3_ n4_ n5_; (try clear hb); (try clear hb2); (try clear hk); (try clear hi)) | ((with_reducible refine gate_builtin (b := .append) (xs := #[.tmp 25, .tmp 27]) rfl ?_); at_builtin; refine Kd.R_append (Kd.int .i64) (w0 := w) w.heap.size rfl (.tmp 25) (.tmp 27) 24 3 (.int .i64 0) 8 rfl Try.underlying24 info3 rfl (by decide) (by omega) u6 x6_1 x7_1 [.int .i64 x7_1] (fun k_ => some k_ ≠ (.slice Ao10 t105.length co10 : Value).ownBlock) (fun _ => False) rfl rfl ?aP (fun _ hk => hk.elim) ?aF ?aO ?aB ?aS ?aL ?_; (case aP => exact rfl); (case aB => exact (by repeat (first | (with_reducible first | exact HB.out | apply zc | apply ze | apply zb | refine zd ?_ (IsS86.ge HI102.out) | refine zd ?_ GE101.out | refine zd ?_ GE110.out) | exact HB.out))); (case aF => exact (fun k_ hk => Kd.fresh' (Kd.R_lt (by (with_reducible repeat (first | apply zl | apply zm | apply zk)); exact HO_111002.out)) k_ hk)); (case aO => exact (by (with_reducible repeat (first | apply zl | apply zm | apply zk)); exact HO_6.out)); (case aS => exact (zn (by repeat (first | (with_reducible first | exact HB.out | apply zc | apply ze | apply zb | refine zd ?_ (IsS86.ge HI102.out) | refine zd ?_ GE101.out | refine zd ?_ GE110.out) | exact HB.out)))); (case aL => have := LMc15.out; omega); intro v115 w20 ho hb hg hat; rw [← Ny114.out] at ho; have n0_ := za (Kd.R_after (ok := (fun _ => True)) (by (with_reducible repeat (first | apply zl | apply zm | apply zk)); exact zz HO_111002.out (fun _ hk => ⟨trivial, hk⟩)) hg hat); have n1_ := za (blk_grown (g := gb101) (o := .cells #[.int .i64 0, .int .i64 0, .slice none 0 0] 26 (0, 0)) (by (with_reducible repeat (first | refine zh ?_ _ | refine zf ?_ | refine zi ?_ _)); exact BK101.out) hg (Kd.R_ne HO_6.out BK101.out (by decide))); have n2_ := za (blk_grown (g := gb110) (o := .cells #[.int .i64 t103, .int .i64 t104, .slice Ao10 t105.length co10] 26 (0, 0)) (by (with_reducible repeat (first | refine zh ?_ _ | refine zf ?_ | refine zi ?_ _)); exact BK110.out) hg (Kd.R_ne HO_6.out BK110.out (by decide))); have n3_ := za (IsS86.grown (by repeat (first | (with_reducible first | exact HI102.out | apply IsS86.alloc | apply IsS86.drewN | apply IsS86.drew | apply IsS86.set_1 | apply IsS86.set_2 | refine IsS86.far ?_ NB102_101.out _ | refine IsS86.far ?_ NB102_110.out _) | exact HI102.out)) hg (IsS86.own_ne HI102.out HO_6.out (by decide))); have n4_ := za (hb); have n5_ := za (ho); clear HO_111002 BK101; clear BK110 HI102; clear HB HO_6; have HO_111002 := n0_; have BK101 := n1_; have BK110 := n2_; have HI102 := n3_; have HB := n4_; have HO116 := n5_; clear n0_ n1_ n2_ n3_ n4_ n5_; clear ho hb hg hat))
       go_roundg k1
       case measure => have := HK1.out; omega
       case rel => exact ⟨(y114), (wrap64 (x7_1 + 1)), (t112), (t113), (by first | rfl | (simp; done) | (simp [*]; done)), H', ⟨by have := HK1.out; omega⟩, ⟨by (with_reducible repeat (first | apply zl | apply zm | apply zk)); exact HO116.out⟩, ⟨by (with_reducible repeat (first | apply zl | apply zm | apply zk)); exact zz HO_111002.out (fun _ hk => hk.2)⟩, ⟨by (with_reducible repeat (first | refine zh ?_ _ | refine zf ?_ | refine zi ?_ _)); exact BK101.out⟩, ⟨by (with_reducible repeat (first | refine zh ?_ _ | refine zf ?_ | refine zi ?_ _)); exact BK110.out⟩, ⟨by repeat (first | (with_reducible first | exact HI102.out | apply IsS86.alloc | apply IsS86.drewN | apply IsS86.drew | apply IsS86.set_1 | apply IsS86.set_2 | refine IsS86.far ?_ NB102_101.out _ | refine IsS86.far ?_ NB102_110.out _) | exact HI102.out)⟩, ⟨by repeat (first | (with_reducible first | exact HB.out | apply zc | apply ze | apply zb | refine zd ?_ (IsS86.ge HI102.out) | refine zd ?_ GE101.out | refine zd ?_ GE110.out) | exact HB.out)⟩⟩
      ·
       rw [if_neg c15] at H
       exact absurd H (by simp)
     ·
      replace c14 := Bool.eq_false_iff.mpr c14
      subst c14
      have H1 : (spec_DrawColumnsOf.l0 k1 x6_1 (wrap64 (x7_1 + 1)) l0 t112 t113 t103 t104 t105) = some (r1, r2, r3, r4) := by rw [if_neg (show ¬ (false = true) by decide)] at H; exact H
      clear H
      have H := H1
      clear H1
      have H' := za H
      clear H
      have hnb21 := NB110_101.out
      have hnc21 := NB101_110.out
      have hnb22 := NB110_102.out
      have hnc22 := NB102_110.out
      have hcz23_0 : wr.cell? ⟨gb110, 0, none⟩ = some (.int .i64 t103) := (zg BK110.out 0).trans rfl
      have hcz23_1 : wr.cell? ⟨gb110, 1, none⟩ = some (.int .i64 t104) := (zg BK110.out 1).trans rfl
      have hcz23_2 : wr.cell? ⟨gb110, 2, none⟩ = some (.slice Ao10 t105.length co10) := (zg BK110.out 2).trans rfl
      have hfz23_0 := zj BK110.out 0
      have hfz23_1 := zj BK110.out 1
      have hfz23_2 := zj BK110.out 2
      go_wp2_with (first | (go_at_call 84; (with_reducible refine (spec_l1Cur_one.calls gb102 l0 x103001_1 x103002_1 2 false t112 t113 w _ ?side1 ?side2 A13.out).mono ?_); (case side1 => repeat (first | (with_reducible first | exact HI102.out | apply IsS86.alloc | apply IsS86.drewN | apply IsS86.drew | apply IsS86.set_1 | apply IsS86.set_2 | refine IsS86.far ?_ NB102_101.out _ | refine IsS86.far ?_ NB102_110.out _) | exact HI102.out)); (case side2 => repeat (first | (with_reducible first | exact HB.out | apply zc | apply ze | apply zb | refine zd ?_ (IsS86.ge HI102.out) | refine zd ?_ GE101.out | refine zd ?_ GE110.out) | exact HB.out)); rintro e w24 ⟨rfl, hi, hb, hk⟩; have n0_ := za (zz (Kd.R_keep (IsS86.apart (show IsS86 w _ gb102 l0 x103001_1 x103002_1 from by repeat (first | (with_reducible first | exact HI102.out | apply IsS86.alloc | apply IsS86.drewN | apply IsS86.drew | apply IsS86.set_1 | apply IsS86.set_2 | refine IsS86.far ?_ NB102_101.out _ | refine IsS86.far ?_ NB102_110.out _) | exact HI102.out)) (by (with_reducible repeat (first | apply zl | apply zm | apply zk)); exact HO_6.out) (by decide)) hk (fun _ h => h.2)) (fun _ h => h.1)); have n1_ := za (zz (Kd.R_keep (IsS86.apart (show IsS86 w _ gb102 l0 x103001_1 x103002_1 from by repeat (first | (with_reducible first | exact HI102.out | apply IsS86.alloc | apply IsS86.drewN | apply IsS86.drew | apply IsS86.set_1 | apply IsS86.set_2 | refine IsS86.far ?_ NB102_101.out _ | refine IsS86.far ?_ NB102_110.out _) | exact HI102.out)) (by (with_reducible repeat (first | apply zl | apply zm | apply zk)); exact HO_111002.out) (by decide)) hk (fun _ h => h.2)) (fun _ h => h.1)); have n2_ := za (zD hk (g' := gb101) (o := .cells #[.int .i64 0, .int .i64 0, .slice none 0 0] 26 (0, 0)) (by (with_reducible repeat (first | refine zh ?_ _ | refine zf ?_ | refine zi ?_ _)); exact BK101.out) NB101_102.out (by simp)); have n3_ := za (zD hk (g' := gb110) (o := .cells #[.int .i64 t103, .int .i64 t104, .slice Ao10 t105.length co10] 26 (0, 0)) (by (with_reducible repeat (first | refine zh ?_ _ | refine zf ?_ | refine zi ?_ _)); exact BK110.out) NB110_102.out (by simp)); have n4_ := za (hb); have n5_ := za (hi); clear HO_6 HO_111002; clear BK101 BK110; clear HB HI102; have HO_6 := n0_; have HO_111002 := n1_; have BK101 := n2_; have BK110 := n3_; have HB := n4_; have HI102 := n5_; clear n0_ n1_ n2_ n3_ n4_ n5_; (try clear hb); (try clear hb2); (try clear hk); (try clear hi)))
      go_roundg k1
      case measure => have := HK1.out; omega
      case rel => exact ⟨(x6_1), (wrap64 (x7_1 + 1)), (t112), (t113), (by first | rfl | (simp; done) | (simp [*]; done)), H', ⟨by have := HK1.out; omega⟩, ⟨by (with_reducible repeat (first | apply zl | apply zm | apply zk)); exact HO_6.out⟩, ⟨by (with_reducible repeat (first | apply zl | apply zm | apply zk)); exact HO_111002.out⟩, ⟨by (with_reducible repeat (first | refine zh ?_ _ | refine zf ?_ | refine zi ?_ _)); exact BK101.out⟩, ⟨by (with_reducible repeat (first | refine zh ?_ _ | refine zf ?_ | refine zi ?_ _)); exact BK110.out⟩, ⟨by repeat (first | (with_reducible first | exact HI102.out | apply IsS86.alloc | apply IsS86.drewN | apply IsS86.drew | apply IsS86.set_1 | apply IsS86.set_2 | refine IsS86.far ?_ NB102_101.out _ | refine IsS86.far ?_ NB102_110.out _) | exact HI102.out)⟩, ⟨by repeat (first | (with_reducible first | exact HB.out | apply zc | apply ze | apply zb | refine zd ?_ (IsS86.ge HI102.out) | refine zd ?_ GE101.out | refine zd ?_ GE110.out) | exact HB.out)⟩⟩
    ·
     rw [if_neg c12] at H
     have c12b0 : decide (x7_1 < t103) = false := decide_eq_false c12
     clear c12
     have H' := za H
     clear H
     have hnb25 := NB110_101.out
     have hnc25 := NB101_110.out
     have hnb26 := NB110_102.out
     have hnc26 := NB102_110.out
     have hcz27_0 : wr.cell? ⟨gb110, 0, none⟩ = some (.int .i64 t103) := (zg BK110.out 0).trans rfl
     have hcz27_1 : wr.cell? ⟨gb110, 1, none⟩ = some (.int .i64 t104) := (zg BK110.out 1).trans rfl
     have hcz27_2 : wr.cell? ⟨gb110, 2, none⟩ = some (.slice Ao10 t105.length co10) := (zg BK110.out 2).trans rfl
     have hfz27_0 := zj BK110.out 0
     have hfz27_1 := zj BK110.out 1
     have hfz27_2 := zj BK110.out 2
     go_wp2
     go_roundg k1
     case measure => have := HK1.out; omega
     case rel => exact ⟨(x6_1), (wrap64 (x7_1 + 1)), (x103001_1), (x103002_1), (by first | rfl | (simp; done) | (simp [*]; done)), H', ⟨by have := HK1.out; omega⟩, ⟨by (with_reducible repeat (first | apply zl | apply zm | apply zk)); exact HO_6.out⟩, ⟨by (with_reducible repeat (first | apply zl | apply zm | apply zk)); exact HO_111002.out⟩, ⟨by (with_reducible repeat (first | refine zh ?_ _ | refine zf ?_ | refine zi ?_ _)); exact BK101.out⟩, ⟨by (with_reducible repeat (first | refine zh ?_ _ | refine zf ?_ | refine zi ?_ _)); exact BK110.out⟩, ⟨by repeat (first | (with_reducible first | exact HI102.out | apply IsS86.alloc | apply IsS86.drewN | apply IsS86.drew | apply IsS86.set_1 | apply IsS86.set_2 | refine IsS86.far ?_ NB102_101.out _ | refine IsS86.far ?_ NB102_110.out _) | exact HI102.out)⟩, ⟨by repeat (first | (with_reducible first | exact HB.out | apply zc | apply ze | apply zb | refine zd ?_ (IsS86.ge HI102.out) | refine zd ?_ GE101.out | refine zd ?_ GE110.out) | exact HB.out)⟩⟩
   ·
    rw [if_neg c11] at H
    have c11b0 : decide (x7_1 < 6) = false := decide_eq_false c11
    clear c11
    replace H := Option.bind_eq_some_iff.mp H
    obtain ⟨⟨t117, t118, t119⟩, A280, H⟩ := H
    replace H : (if t117 = true then ((spec_l1Cur_among.f l0 t118 t119 (([(-1), 0, 6] : List Int))).bind fun bt123 => (if x6_1.length < 17592186044416 then (some (t103, t104, t105, (x6_1 ++ [bt123.1]))) else (none))) else (some (t103, t104, t105, x6_1))) = some (r1, r2, r3, r4) := H
    have A28 := za A280
    clear A280
    by_cases c29 : t117 = true
    ·
     subst c29
     have H1 : ((spec_l1Cur_among.f l0 t118 t119 (([(-1), 0, 6] : List Int))).bind fun bt123 => (if x6_1.length < 17592186044416 then (some (t103, t104, t105, (x6_1 ++ [bt123.1]))) else (none))) = some (r1, r2, r3, r4) := by rw [if_pos rfl] at H; exact H
     clear H
     have H := H1
     clear H1
     obtain ⟨y120, hy120⟩ : ∃ y_ : List Int, y_ = (([(-1), 0, 6] : List Int)) := ⟨_, rfl⟩
     replace H : ((spec_l1Cur_among.f l0 t118 t119 y120).bind fun bt123 => (if x6_1.length < 17592186044416 then (some (t103, t104, t105, (x6_1 ++ [bt123.1]))) else (none))) = some (r1, r2, r3, r4) := by first | (rw [hy120]; with_reducible exact H) | (have H2_ := (Option.bind_some _ _).symm.trans H; rw [hy120]; with_reducible exact H2_) | (have H2_ := (Option.bind_some _ _).symm.trans H; with_reducible exact H2_) | with_reducible exact H | (rw [hy120]; exact H) | exact H
     have Ny120 := za hy120
     clear hy120
     replace H := Option.bind_eq_some_iff.mp H
     obtain ⟨⟨t123, t124, t125⟩, A300, H⟩ := H
     replace H : (if x6_1.length < 17592186044416 then (some (t103, t104, t105, (x6_1 ++ [t123]))) else (none)) = some (r1, r2, r3, r4) := H
     have A30 := za A300
     clear A300
     by_cases c31 : x6_1.length < 17592186044416
     ·
      rw [if_pos c31] at H
      have LMc31 := za c31
      clear c31
      obtain ⟨y126, hy126⟩ : ∃ y_ : List Int, y_ = (x6_1 ++ [t123]) := ⟨_, rfl⟩
      replace H : (some (t103, t104, t105, y126)) = some (r1, r2, r3, r4) := by first | (rw [hy126]; with_reducible exact H) | (have H2_ := (Option.bind_some _ _).symm.trans H; rw [hy126]; with_reducible exact H2_) | (have H2_ := (Option.bind_some _ _).symm.trans H; with_reducible exact H2_) | with_reducible exact H | (rw [hy126]; exact H) | exact H
      have Ny126 := za hy126
      clear hy126
      simp only [Option.some.injEq, Prod.mk.injEq] at H
      obtain ⟨rfl, rfl, rfl, rfl⟩ := H
      go_wp2_with (first | ((with_reducible refine zu (f := 84) rfl ?_); refine goesL_ (some 30) rfl rfl Try.func84 (by kernel_rfl) rfl #[.pointer (some ⟨gb102, 0, none⟩), .int .i64 15] rfl (by (try simp only [List.map_toArray, List.map_cons, List.map_nil]); first | done | rfl | (simp only [List.length_drop, List.length_take]; rfl)) ?_; (with_reducible refine (spec_l1Cur_one.calls gb102 l0 x103001_1 x103002_1 15 true t118 t119 w _ ?side1 ?side2 A28.out).mono ?_); (case side1 => repeat (first | (with_reducible first | exact HI102.out | apply IsS86.alloc | apply IsS86.drewN | apply IsS86.drew | apply IsS86.set_1 | apply IsS86.set_2 | refine IsS86.far ?_ NB102_101.out _ | refine IsS86.far ?_ NB102_110.out _) | exact HI102.out)); (case side2 => repeat (first | (with_reducible first | exact HB.out | apply zc | apply ze | apply zb | refine zd ?_ (IsS86.ge HI102.out) | refine zd ?_ GE101.out | refine zd ?_ GE110.out) | exact HB.out)); rintro e w32 ⟨rfl, hi, hb, hk⟩; refine ⟨_, rfl, ?_⟩; have n0_ := za (zz (Kd.R_keep (IsS86.apart (show IsS86 w _ gb102 l0 x103001_1 x103002_1 from by repeat (first | (with_reducible first | exact HI102.out | apply IsS86.alloc | apply IsS86.drewN | apply IsS86.drew | apply IsS86.set_1 | apply IsS86.set_2 | refine IsS86.far ?_ NB102_101.out _ | refine IsS86.far ?_ NB102_110.out _) | exact HI102.out)) (by (with_reducible repeat (first | apply zl | apply zm | apply zk)); exact HO_6.out) (by decide)) hk (fun _ h => h.2)) (fun _ h => h.1)); have n1_ := za (zz (Kd.R_keep (IsS86.apart (show IsS86 w _ gb102 l0 x103001_1 x103002_1 from by repeat (first | (with_reducible first | exact HI102.out | apply IsS86.alloc | apply IsS86.drewN | apply IsS86.drew | apply IsS86.set_1 | apply IsS86.set_2 | refine IsS86.far ?_ NB102_101.out _ | refine IsS86.far ?_ NB102_110.out _) | exact HI102.out)) (by (with_reducible repeat (first | apply zl | apply zm | apply zk)); exact HO_111002.out) (by decide)) hk (fun _ h => h.2)) (fun _ h => h.1)); have n2_ := za (zD hk (g' := gb101) (o := .cells #[.int .i64 0, .int .i64 0, .slice none 0 0] 26 (0, 0)) (by (with_reducible repeat (first | refine zh ?_ _ | refine zf ?_ | refine zi ?_ _)); exact BK101.out) NB101_102.out (by simp)); have n3_ := za (zD hk (g' := gb110) (o := .cells #[.int .i64 t103, .int .i64 t104, .slice Ao10 t105.length co10] 26 (0, 0)) (by (with_reducible repeat (first | refine zh ?_ _ | refine zf ?_ | refine zi ?_ _)); exact BK110.out) NB110_102.out (by simp)); have n4_ := za (hb); have n5_ := za (hi); clear HO_6 HO_111002; clear BK101 BK110; clear HB HI102; have HO_6 := n0_; have HO_111002 := n1_; have BK101 := n2_; have BK110 := n3_; have HB := n4_; have HI102 := n5_; clear n0_ n1_ n2_ n3_ n4_ n5_; (try clear hb); (try clear hb2); (try clear hk); (try clear hi)) | ((with_reducible refine gate_dst (N := 33) rfl ?_); refine Kd.R_lit (Kd.int .i64) _ 3 ?hg (N := 33) ?hd (xs := ([(-1), 0, 6] : List Int)) (inner := [.int .i64 (-1), .int .i64 0, .int .i64 6]) (ok := fun _ => True) (okp := fun _ => True) ?hr ?hp (fun _ hk => hk) trivial (Below.refl _ _) (Nat.le_refl _) (by simp) ?_; (case hd => rfl); (case hg => rfl); (case hr => first | (go_simp; done) | (go_simp; rfl)); (case hp => exact (Reps.one (show Kd.M (Kd.int .i64) _ _ _ (-1) [.int .i64 (-1)] from rfl) (Reps.one (show Kd.M (Kd.int .i64) _ _ _ 0 [.int .i64 0] from rfl) (Reps.one (show Kd.M (Kd.int .i64) _ _ _ 6 [.int .i64 6] from rfl) (Reps.none _ _))))); intro v121 w33 ho34 hb hg_ hnew_; clear hg_ hnew_; (first | rw [← Ny120.out] at ho34 | (simp only [Int.reduceToNat] at ho34; rw [← Ny120.out] at ho34)); have n0_ := za (Kd.R_elder' (by (with_reducible repeat (first | apply zl | apply zm | apply zk)); exact HO_6.out) (Kd.R_base ho34) hb); have n1_ := za (Kd.R_elder' (by (with_reducible repeat (first | apply zl | apply zm | apply zk)); exact HO_111002.out) (Kd.R_base ho34) hb); have n2_ := za (Kd.R_lower (Kd.R_new' (Kd.R_new' ho34 (Kd.R_lt (by (with_reducible repeat (first | apply zl | apply zm | apply zk)); exact HO_6.out))) (Kd.R_lt (by (with_reducible repeat (first | apply zl | apply zm | apply zk)); exact HO_111002.out))) (zn (by repeat (first | (with_reducible first | exact HB.out | apply zc | apply ze | apply zb | refine zd ?_ (IsS86.ge HI102.out) | refine zd ?_ GE101.out | refine zd ?_ GE110.out) | exact HB.out)))); have n3_ := za (zB (g := gb101) (o := .cells #[.int .i64 0, .int .i64 0, .slice none 0 0] 26 (0, 0)) (by (with_reducible repeat (first | refine zh ?_ _ | refine zf ?_ | refine zi ?_ _)); exact BK101.out) hb); have n4_ := za (zB (g := gb110) (o := .cells #[.int .i64 t103, .int .i64 t104, .slice Ao10 t105.length co10] 26 (0, 0)) (by (with_reducible repeat (first | refine zh ?_ _ | refine zf ?_ | refine zi ?_ _)); exact BK110.out) hb); have n5_ := za (IsS86.below (by repeat (first | (with_reducible first | exact HI102.out | apply IsS86.alloc | apply IsS86.drewN | apply IsS86.drew | apply IsS86.set_1 | apply IsS86.set_2 | refine IsS86.far ?_ NB102_101.out _ | refine IsS86.far ?_ NB102_110.out _) | exact HI102.out)) hb); have n6_ := za (zv (by repeat (first | (with_reducible first | exact HB.out | apply zc | apply ze | apply zb | refine zd ?_ (IsS86.ge HI102.out) | refine zd ?_ GE101.out | refine zd ?_ GE110.out) | exact HB.out)) hb); clear HO_6 HO_111002; clear BK101 BK110; clear HI102 HB; have HO_6 := n0_; have HO_111002 := n1_; have HO122 := n2_; have BK101 := n3_; have BK110 := n4_; have HI102 := n5_; have HB := n6_; clear n0_ n1_ n2_ n3_ n4_ n5_ n6_; clear hb ho34; obtain ⟨Ao35, co35, eo35⟩ := Kd.R_slice HO122.out; subst eo35) | ((with_reducible refine zu (f := 85) rfl ?_); refine goesL_ (some 34) rfl rfl Try.func85 (by kernel_rfl) rfl #[.pointer (some ⟨gb102, 0, none⟩), .slice Ao35 y120.length co35] rfl (by (try simp only [List.map_toArray, List.map_cons, List.map_nil]); first | done | rfl | (simp only [List.length_drop, List.length_take]; rfl)) ?_; (with_reducible refine (spec_l1Cur_among.calls gb102 l0 t118 t119 _ _ y120 t123 t124 t125 w _ ?side1 ?side2 ?side3 ?side4 ?side5 A30.out).mono ?_); (case side1 => repeat (first | (with_reducible first | exact HI102.out | apply IsS86.alloc | apply IsS86.drewN | apply IsS86.drew | apply IsS86.set_1 | apply IsS86.set_2 | refine IsS86.far ?_ NB102_101.out _ | refine IsS86.far ?_ NB102_110.out _) | exact HI102.out)); (case side2 => repeat (first | (with_reducible first | exact HB.out | apply zc | apply ze | apply zb | refine zd ?_ (IsS86.ge HI102.out) | refine zd ?_ GE101.out | refine zd ?_ GE110.out) | exact HB.out)); (case side3 => repeat (first | exact (zA HO122.out).2.2 | (with_reducible refine zw ?_ _) | (with_reducible refine zx ?_ _) | (with_reducible refine zy ?_))); (case side4 => exact (zA HO122.out).2.1); (case side5 => exact far_slice (IsS86.own_ne HI102.out HO122.out (by decide))); rintro e w36 ⟨rfl, hi, hb, hk⟩; refine ⟨_, rfl, ?_⟩; have n0_ := za (zz (Kd.R_keep (IsS86.apart (show IsS86 w _ gb102 l0 t118 t119 from by repeat (first | (with_reducible first | exact HI102.out | apply IsS86.alloc | apply IsS86.drewN | apply IsS86.drew | apply IsS86.set_1 | apply IsS86.set_2 | refine IsS86.far ?_ NB102_101.out _ | refine IsS86.far ?_ NB102_110.out _) | exact HI102.out)) (by (with_reducible repeat (first | apply zl | apply zm | apply zk)); exact HO_6.out) (by decide)) hk (fun _ h => h.2)) (fun _ h => h.1)); have n1_ := za (zz (Kd.R_keep (IsS86.apart (show IsS86 w _ gb102 l0 t118 t119 from by repeat (first | (with_reducible first | exact HI102.out | apply IsS86.alloc | apply IsS86.drewN | apply IsS86.drew | apply IsS86.set_1 | apply IsS86.set_2 | refine IsS86.far ?_ NB102_101.out _ | refine IsS86.far ?_ NB102_110.out _) | exact HI102.out)) (by (with_reducible repeat (first | apply zl | apply zm | apply zk)); exact HO_111002.out) (by decide)) hk (fun _ h => h.2)) (fun _ h => h.1)); have n2_ := za (zD hk (g' := gb101) (o := .cells #[.int .i64 0, .int .i64 0, .slice none 0 0] 26 (0, 0)) (by (with_reducible repeat (first | refine zh ?_ _ | refine zf ?_ | refine zi ?_ _)); exact BK101.out) NB101_102.out (by simp)); have n3_ := za (zD hk (g' := gb110) (o := .cells #[.int .i64 t103, .int .i64 t104, .slice Ao10 t105.length co10] 26 (0, 0)) (by (with_reducible repeat (first | refine zh ?_ _ | refine zf ?_ | refine zi ?_ _)); exact BK110.out) NB110_102.out (by simp)); have n4_ := za (zz (Kd.R_keep (IsS86.apart (show IsS86 w _ gb102 l0 t118 t119 from by repeat (first | (with_reducible first | exact HI102.out | apply IsS86.alloc | apply IsS86.drewN | apply IsS86.drew | apply IsS86.set_1 | apply IsS86.set_2 | refine IsS86.far ?_ NB102_101.out _ | refine IsS86.far ?_ NB102_110.out _) | exact HI102.out)) (by (with_reducible repeat (first | apply zl | apply zm | apply zk)); exact HO122.out) (by decide)) hk (fun _ h => h.2)) (fun _ h => h.1)); have n5_ := za (hb); have n6_ := za (hi); clear HO_6 HO_111002; clear BK101 BK110; clear HO122 HB HI102; have HO_6 := n0_; have HO_111002 := n1_; have BK101 := n2_; have BK110 := n3_; have HO122 := n4_; have HB := n5_; have HI102 := n6_; clear n0_ n1_ n2_ n3_ n4_ n5_ n6_; (try clear hb); (try clear hb2); (try clear hk); (try clear hi)) | ((with_reducible refine gate_builtin (b := .append) (xs := #[.tmp 31, .tmp 35]) rfl ?_); at_builtin; refine Kd.R_append (Kd.int .i64) (w0 := w) w.heap.size rfl (.tmp 31) (.tmp 35) 24 3 (.int .i64 0) 8 rfl Try.underlying24 info3 rfl (by decide) (by omega) u6 x6_1 t123 [.int .i64 t123] (fun k_ => some k_ ≠ (.slice Ao10 t105.length co10 : Value).ownBlock ∧ some k_ ≠ (.slice Ao35 y120.length co35 : Value).ownBlock) (fun _ => False) rfl rfl ?aP (fun _ hk => hk.elim) ?aF ?aO ?aB ?aS ?aL ?_; (case aP => exact rfl); (case aB => exact (by repeat (first | (with_reducible first | exact HB.out | apply zc | apply ze | apply zb | refine zd ?_ (IsS86.ge HI102.out) | refine zd ?_ GE101.out | refine zd ?_ GE110.out) | exact HB.out))); (case aF => exact (fun k_ hk => ⟨Kd.fresh' (Kd.R_lt (by (with_reducible repeat (first | apply zl | apply zm | apply zk)); exact HO_111002.out)) k_ hk, Kd.fresh' (Kd.R_lt (by (with_reducible repeat (first | apply zl | apply zm | apply zk)); exact HO122.out)) k_ hk⟩)); (case aO => exact (by (with_reducible repeat (first | apply zl | apply zm | apply zk)); exact HO_6.out)); (case aS => exact (zn (by repeat (first | (with_reducible first | exact HB.out | apply zc | apply ze | apply zb | refine zd ?_ (IsS86.ge HI102.out) | refine zd ?_ GE101.out | refine zd ?_ GE110.out) | exact HB.out)))); (case aL => have := LMc31.out; omega); intro v127 w37 ho hb hg hat; rw [← Ny126.out] at ho; have n0_ := za (Kd.R_after (ok := (fun k_ => some k_ ≠ (.slice Ao35 y120.length co35 : Value).ownBlock)) (by (with_reducible repeat (first | apply zl | apply zm | apply zk)); exact zz HO_111002.out (fun _ hk => ⟨hk.2, hk.1⟩)) hg hat); have n1_ := za (blk_grown (g := gb101) (o := .cells #[.int .i64 0, .int .i64 0, .slice none 0 0] 26 (0, 0)) (by (with_reducible repeat (first | refine zh ?_ _ | refine zf ?_ | refine zi ?_ _)); exact BK101.out) hg (Kd.R_ne HO_6.out BK101.out (by decide))); have n2_ := za (blk_grown (g := gb110) (o := .cells #[.int .i64 t103, .int .i64 t104, .slice Ao10 t105.length co10] 26 (0, 0)) (by (with_reducible repeat (first | refine zh ?_ _ | refine zf ?_ | refine zi ?_ _)); exact BK110.out) hg (Kd.R_ne HO_6.out BK110.out (by decide))); have n3_ := za (IsS86.grown (by repeat (first | (with_reducible first | exact HI102.out | apply IsS86.alloc | apply IsS86.drewN | apply IsS86.drew | apply IsS86.set_1 | apply IsS86.set_2 | refine IsS86.far ?_ NB102_101.out _ | refine IsS86.far ?_ NB102_110.out _) | exact HI102.out)) hg (IsS86.own_ne HI102.out HO_6.out (by decide))); have n4_ := za (Kd.R_after (ok := (fun k_ => some k_ ≠ (.slice Ao10 t105.length co10 : Value).ownBlock)) (by (with_reducible repeat (first | apply zl | apply zm | apply zk)); exact zz HO122.out (fun _ hk => ⟨hk.2, hk.1.2⟩)) hg hat); have n5_ := za (hb); have n6_ := za (ho); clear HO_111002 BK101; clear BK110 HI102; clear HO122 HB HO_6; have HO_111002 := n0_; have BK101 := n1_; have BK110 := n2_; have HI102 := n3_; have HO122 := n4_; have HB := n5_; have HO128 := n6_; clear n0_ n1_ n2_ n3_ n4_ n5_ n6_; clear ho hb hg hat; have hnb38 := NB110_101.out; have hnc38 := NB101_110.out; have hnb39 := NB110_102.out; have hnc39 := NB102_110.out; have hcz40_0 : w37.cell? ⟨gb110, 0, none⟩ = some (.int .i64 t103) := (zg BK110.out 0).trans rfl; have hcz40_1 : w37.cell? ⟨gb110, 1, none⟩ = some (.int .i64 t104) := (zg BK110.out 1).trans rfl; have hcz40_2 : w37.cell? ⟨gb110, 2, none⟩ = some (.slice Ao10 t105.length co10) := (zg BK110.out 2).trans rfl; have hfz40_0 := zj BK110.out 0; have hfz40_1 := zj BK110.out 1; have hfz40_2 := zj BK110.out 2; have hnb41 := NB101_102.out; have hnc41 := NB102_101.out; have hcz42_0 : w37.cell? ⟨gb101, 0, none⟩ = some (.int .i64 0) := (zg BK101.out 0).trans rfl; have hcz42_1 : w37.cell? ⟨gb101, 1, none⟩ = some (.int .i64 0) := (zg BK101.out 1).trans rfl; have hcz42_2 : w37.cell? ⟨gb101, 2, none⟩ = some (.slice none 0 0) := (zg BK101.out 2).trans rfl; have hfz42_0 := zj BK101.out 0; have hfz42_1 := zj BK101.out 1; have hfz42_2 := zj BK101.out 2))
      refine bodyPost_ret (results_ct rfl _ _ gb101 26 #[.int .i64 t103, .int .i64 t104, .slice Ao10 t105.length co10] (0, 0) _ rfl (by (with_reducible repeat (first | refine zh ?_ _ | refine zf ?_ | refine zi ?_ _)); refine blk_put (cs := #[.int .i64 t103, .int .i64 t104, .slice none 0 0]) ?_ 2 _ rfl; (with_reducible repeat (first | refine zh ?_ _ | refine zf ?_ | refine zi ?_ _)); refine blk_put (cs := #[.int .i64 t103, .int .i64 0, .slice none 0 0]) ?_ 1 _ rfl; (with_reducible repeat (first | refine zh ?_ _ | refine zf ?_ | refine zi ?_ _)); refine blk_put (cs := #[.int .i64 0, .int .i64 0, .slice none 0 0]) ?_ 0 _ rfl; (with_reducible repeat (first | refine zh ?_ _ | refine zf ?_ | refine zi ?_ _)); exact BK101.out) Try.underlying26 rfl (by kernel_rfl)) rfl ?_
      exact ⟨_, _, by first | rfl | (simp [errW_none, errW_some] <;> rfl) | (simp [*, errW_none, errW_some] <;> rfl), by (with_reducible repeat (first | apply zl | apply zm | apply zk)); exact zz (zt (p := ⟨gb101, 2, none⟩) (zt (p := ⟨gb101, 1, none⟩) (zt (p := ⟨gb101, 0, none⟩) (Kd.R_types HO_111002.out BK101.out (by decide)) (fun _ hk => hk.2) (.int .i64 t103)) (fun _ hk => hk.2) (.int .i64 t104)) (fun _ hk => hk.2) (.slice Ao10 t105.length co10)) (fun _ hk => hk.1.2), by (with_reducible repeat (first | apply zl | apply zm | apply zk)); exact zz (zt (p := ⟨gb101, 2, none⟩) (zt (p := ⟨gb101, 1, none⟩) (zt (p := ⟨gb101, 0, none⟩) (Kd.R_types HO128.out BK101.out (by decide)) (fun _ hk => hk.2) (.int .i64 t103)) (fun _ hk => hk.2) (.int .i64 t104)) (fun _ hk => hk.2) (.slice Ao10 t105.length co10)) (fun _ hk => hk.1.1), by repeat (first | (with_reducible first | exact HB.out | apply zc | apply ze | apply zb | refine zd ?_ (IsS86.ge HI102.out) | refine zd ?_ GE101.out | refine zd ?_ GE110.out) | exact HB.out)⟩
     ·
      rw [if_neg c31] at H
      exact absurd H (by simp)
    ·
     replace c29 := Bool.eq_false_iff.mpr c29
     subst c29
     have H1 : (some (t103, t104, t105, x6_1)) = some (r1, r2, r3, r4) := by rw [if_neg (show ¬ (false = true) by decide)] at H; exact H
     clear H
     have H := H1
     clear H1
     simp only [Option.some.injEq, Prod.mk.injEq] at H
     obtain ⟨rfl, rfl, rfl, rfl⟩ := H
     go_wp2_with (first | ((with_reducible refine zu (f := 84) rfl ?_); refine goesL_ (some 30) rfl rfl Try.func84 (by kernel_rfl) rfl #[.pointer (some ⟨gb102, 0, none⟩), .int .i64 15] rfl (by (try simp only [List.map_toArray, List.map_cons, List.map_nil]); first | done | rfl | (simp only [List.length_drop, List.length_take]; rfl)) ?_; (with_reducible refine (spec_l1Cur_one.calls gb102 l0 x103001_1 x103002_1 15 false t118 t119 w _ ?side1 ?side2 A28.out).mono ?_); (case side1 => repeat (first | (with_reducible first | exact HI102.out | apply IsS86.alloc | apply IsS86.drewN | apply IsS86.drew | apply IsS86.set_1 | apply IsS86.set_2 | refine IsS86.far ?_ NB102_101.out _ | refine IsS86.far ?_ NB102_110.out _) | exact HI102.out)); (case side2 => repeat (first | (with_reducible first | exact HB.out | apply zc | apply ze | apply zb | refine zd ?_ (IsS86.ge HI102.out) | refine zd ?_ GE101.out | refine zd ?_ GE110.out) | exact HB.out)); rintro e w43 ⟨rfl, hi, hb, hk⟩; refine ⟨_, rfl, ?_⟩; have n0_ := za (zz (Kd.R_keep (IsS86.apart (show IsS86 w _ gb102 l0 x103001_1 x103002_1 from by repeat (first | (with_reducible first | exact HI102.out | apply IsS86.alloc | apply IsS86.drewN | apply IsS86.drew | apply IsS86.set_1 | apply IsS86.set_2 | refine IsS86.far ?_ NB102_101.out _ | refine IsS86.far ?_ NB102_110.out _) | exact HI102.out)) (by (with_reducible repeat (first | apply zl | apply zm | apply zk)); exact HO_6.out) (by decide)) hk (fun _ h => h.2)) (fun _ h => h.1)); have n1_ := za (zz (Kd.R_keep (IsS86.apart (show IsS86 w _ gb102 l0 x103001_1 x103002_1 from by repeat (first | (with_reducible first | exact HI102.out | apply IsS86.alloc | apply IsS86.drewN | apply IsS86.drew | apply IsS86.set_1 | apply IsS86.set_2 | refine IsS86.far ?_ NB102_101.out _ | refine IsS86.far ?_ NB102_110.out _) | exact HI102.out)) (by (with_reducible repeat (first | apply zl | apply zm | apply zk)); exact HO_111002.out) (by decide)) hk (fun _ h => h.2)) (fun _ h => h.1)); have n2_ := za (zD hk (g' := gb101) (o := .cells #[.int .i64 0, .int .i64 0, .slice none 0 0] 26 (0, 0)) (by (with_reducible repeat (first | refine zh ?_ _ | refine zf ?_ | refine zi ?_ _)); exact BK101.out) NB101_102.out (by simp)); have n3_ := za (zD hk (g' := gb110) (o := .cells #[.int .i64 t103, .int .i64 t104, .slice Ao10 t105.length co10] 26 (0, 0)) (by (with_reducible repeat (first | refine zh ?_ _ | refine zf ?_ | refine zi ?_ _)); exact BK110.out) NB110_102.out (by simp)); have n4_ := za (hb); have n5_ := za (hi); clear HO_6 HO_111002; clear BK101 BK110; clear HB HI102; have HO_6 := n0_; have HO_111002 := n1_; have BK101 := n2_; have BK110 := n3_; have HB := n4_; have HI102 := n5_; clear n0_ n1_ n2_ n3_ n4_ n5_; (try clear hb); (try clear hb2); (try clear hk); (try clear hi); have hnb44 := NB110_101.out; have hnc44 := NB101_110.out; have hnb45 := NB110_102.out; have hnc45 := NB102_110.out; have hcz46_0 : w43.cell? ⟨gb110, 0, none⟩ = some (.int .i64 t103) := (zg BK110.out 0).trans rfl; have hcz46_1 : w43.cell? ⟨gb110, 1, none⟩ = some (.int .i64 t104) := (zg BK110.out 1).trans rfl; have hcz46_2 : w43.cell? ⟨gb110, 2, none⟩ = some (.slice Ao10 t105.length co10) := (zg BK110.out 2).trans rfl; have hfz46_0 := zj BK110.out 0; have hfz46_1 := zj BK110.out 1; have hfz46_2 := zj BK110.out 2; have hnb47 := NB101_102.out; have hnc47 := NB102_101.out; have hcz48_0 : w43.cell? ⟨gb101, 0, none⟩ = some (.int .i64 0) := (zg BK101.out 0).trans rfl; have hcz48_1 : w43.cell? ⟨gb101, 1, none⟩ = some (.int .i64 0) := (zg BK101.out 1).trans rfl; have hcz48_2 : w43.cell? ⟨gb101, 2, none⟩ = some (.slice none 0 0) := (zg BK101.out 2).trans rfl; have hfz48_0 := zj BK101.out 0; have hfz48_1 := zj BK101.out 1; have hfz48_2 := zj BK101.out 2))
     refine bodyPost_ret (results_ct rfl _ _ gb101 26 #[.int .i64 t103, .int .i64 t104, .slice Ao10 t105.length co10] (0, 0) _ rfl (by (with_reducible repeat (first | refine zh ?_ _ | refine zf ?_ | refine zi ?_ _)); refine blk_put (cs := #[.int .i64 t103, .int .i64 t104, .slice none 0 0]) ?_ 2 _ rfl; (with_reducible repeat (first | refine zh ?_ _ | refine zf ?_ | refine zi ?_ _)); refine blk_put (cs := #[.int .i64 t103, .int .i64 0, .slice none 0 0]) ?_ 1 _ rfl; (with_reducible repeat (first | refine zh ?_ _ | refine zf ?_ | refine zi ?_ _)); refine blk_put (cs := #[.int .i64 0, .int .i64 0, .slice none 0 0]) ?_ 0 _ rfl; (with_reducible repeat (first | refine zh ?_ _ | refine zf ?_ | refine zi ?_ _)); exact BK101.out) Try.underlying26 rfl (by kernel_rfl)) rfl ?_
     exact ⟨_, _, by first | rfl | (simp [errW_none, errW_some] <;> rfl) | (simp [*, errW_none, errW_some] <;> rfl), by (with_reducible repeat (first | apply zl | apply zm | apply zk)); exact zz (zt (p := ⟨gb101, 2, none⟩) (zt (p := ⟨gb101, 1, none⟩) (zt (p := ⟨gb101, 0, none⟩) (Kd.R_types HO_111002.out BK101.out (by decide)) (fun _ hk => hk.2) (.int .i64 t103)) (fun _ hk => hk.2) (.int .i64 t104)) (fun _ hk => hk.2) (.slice Ao10 t105.length co10)) (fun _ hk => hk.1), by (with_reducible repeat (first | apply zl | apply zm | apply zk)); exact zz (zt (p := ⟨gb101, 2, none⟩) (zt (p := ⟨gb101, 1, none⟩) (zt (p := ⟨gb101, 0, none⟩) (Kd.R_types HO_6.out BK101.out (by decide)) (fun _ hk => hk.2) (.int .i64 t103)) (fun _ hk => hk.2) (.int .i64 t104)) (fun _ hk => hk.2) (.slice Ao10 t105.length co10)) (fun _ hk => hk.1), by repeat (first | (with_reducible first | exact HB.out | apply zc | apply ze | apply zb | refine zd ?_ (IsS86.ge HI102.out) | refine zd ?_ GE101.out | refine zd ?_ GE110.out) | exact HB.out)⟩
end Go.Proofs.Ytgnmcfoenmfhcaa.Q
end
