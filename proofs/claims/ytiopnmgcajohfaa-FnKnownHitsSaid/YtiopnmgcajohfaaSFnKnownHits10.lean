/- Texts of this claim put together (10): words, what the functions compute, and plain facts. No conditions. -/
import Derived.Test.YtiopnmgcajohfaaSFnKnownHits4
import Derived.Test.YtiopnmgcajohfaaSFnKnownHits5
import Derived.Deep.QuietTactic
import Derived.BigQuiet
import Derived.Outline
import Derived.Laws.Cover3
import Derived.Lib.Hide
import Derived.Deep.RegionWith
import Derived.Deep.RegionLaw
import Derived.Test.YtiopnmgcajohfaaSFnKnownHits7
import Derived.Test.YtiopnmgcajohfaaSFnKnownHits8
import Derived.Test.YtiopnmgcajohfaaSFnKnownHits9
import Derived.Test.YtiopnmgcajohfaaSFnKnownHits6
import Derived.OpenShut
import Derived.Test.YtiopnmgcajohfaaSFnKnownHits0
section
namespace Go.Proofs.Ytiopnmgcajohfaa.Q
open Go.RowKit Go.Proofs.YtiopnmgcajohfaaW.PrintWords Go.Proofs.YtiopnmgcajohfaaW.PrintLast Go.Proofs.YtiopnmgcajohfaaW.PrintMore
attribute [local go_sem] max2_int min2_int max_two min_two max_three min_three max_four min_four   -- for this text's walks alone
set_option linter.unusedVariables false
set_option linter.unusedSimpArgs false
end Go.Proofs.Ytiopnmgcajohfaa.Q
end
section
namespace Go.Proofs.Ytiopnmgcajohfaa.Q
open Go.RowKit Go.Proofs.YtiopnmgcajohfaaW.PrintWords Go.Proofs.YtiopnmgcajohfaaW.PrintLast Go.Proofs.YtiopnmgcajohfaaW.PrintMore
attribute [local go_sem] max2_int min2_int max_two min_two max_three min_three max_four min_four   -- for this text's walks alone
set_option linter.unusedVariables false
set_option linter.unusedSimpArgs false
end Go.Proofs.Ytiopnmgcajohfaa.Q
end
section
namespace Go.Proofs.Ytiopnmgcajohfaa.Q
open Go.RowKit Go.Proofs.YtiopnmgcajohfaaW.PrintWords Go.Proofs.YtiopnmgcajohfaaW.PrintLast Go.Proofs.YtiopnmgcajohfaaW.PrintMore
attribute [local go_sem] max2_int min2_int max_two min_two max_three min_three max_four min_four   -- for this text's walks alone
set_option linter.unusedVariables false
set_option linter.unusedSimpArgs false
end Go.Proofs.Ytiopnmgcajohfaa.Q
end
section
namespace Go.Proofs.Ytiopnmgcajohfaa.HitAllK
set_option linter.unusedVariables false
open Go.RowKit Go.Proofs.Ytiopnmgcajohfaa.Q Go.Proofs.YtiopnmgcajohfaaW.PrintWords Go.Proofs.YtiopnmgcajohfaaW.PrintLast Go.Proofs.YtiopnmgcajohfaaW.PrintMore
open Go.Proofs.YtiopnmgcajohfaaL Go.Proofs.Ytiopnmgcajohfaa.LawK Go.Proofs.Ytiopnmgcajohfaa.BoardK Go.Proofs.Ytiopnmgcajohfaa.PermK Go.Proofs.Ytiopnmgcajohfaa.Walk Go.Proofs.Ytiopnmgcajohfaa.HN
theorem ways_shape (l : List Int) (C : Nat) : ∀ (d r t : Nat) (pre : List Int), ∀ q ∈ waysFrom l C d r t pre, ∃ s, q = pre ++ s ∧ s.length = d
  | 0, r, t, pre, q, hq => by rw [waysFrom, List.mem_singleton] at hq; exact ⟨[], by simp [hq], rfl⟩
  | d + 1, r, t, pre, q, hq => by
    rw [waysFrom, List.mem_flatMap] at hq
    obtain ⟨c, hc, hq⟩ := hq
    unfold colWays at hq
    split at hq
    · obtain ⟨s, h1, h2⟩ := ways_shape l C d (r + 1) _ _ q hq
      exact ⟨c :: s, by rw [h1]; simp, by simp [h2]⟩
    · split at hq
      · obtain ⟨s, h1, h2⟩ := ways_shape l C d (r + 1) _ _ q hq
        exact ⟨c :: s, by rw [h1]; simp, by simp [h2]⟩
      · cases hq
end Go.Proofs.Ytiopnmgcajohfaa.HitAllK
end
section
namespace Go.Proofs.Ytiopnmgcajohfaa.PermsPH
set_option linter.unusedVariables false
set_option linter.unusedSectionVars false
open Go.RowKit Go.Proofs.YtiopnmgcajohfaaW.PrintWords Go.Proofs.YtiopnmgcajohfaaW.PrintLast Go.Proofs.YtiopnmgcajohfaaW.PrintMore
open Go.Proofs.YtiopnmgcajohfaaL Go.Proofs.Ytiopnmgcajohfaa.LawK Go.Proofs.Ytiopnmgcajohfaa.BoardK Go.Proofs.Ytiopnmgcajohfaa.Walk Go.Proofs.Ytiopnmgcajohfaa.Q
section
variable (dd1 dd2 dd3 : Value) (R : Nat) (nI : Int) (hnI : nI = R) (a cp gn gf : Nat) (ps : List Int) (hps : ps.length = R) (hR : R ≤ 6) (hcp : R ≤ cp) (w : World) (hr : Kd.C (Kd.int .i64) w (some ⟨a, 0, none⟩) R ps)
  (hn : w.heap[gn]? = some (.cells #[.int .i64 nI] 3 (0, 0))) (hf : w.heap[gf]? = some (.cells #[.func (.func 95) #[] #[dd1, dd2, dd3]] 84 (0, 0)))
include hnI hps hR hcp hr hn hf
set_option maxHeartbeats 4000000 in
set_option maxRecDepth 100000 in
theorem perm1_skip (hk : rooksN ps ≠ R) : Calls Try.prog 140 #[.slice (some ⟨a, 0, none⟩) R cp, .pointer (some ⟨gn, 0, none⟩), .pointer (some ⟨gf, 0, none⟩)] w fun e w' => e = .returned (.bool true) ∧ Drawn0 w w' := by
  obtain ⟨kk, hrk⟩ := rooks_f (l := ps) (by omega)
  obtain ⟨rk, hrk2⟩ : ∃ rk : Int, rk = (rooksN ps : Int) := ⟨_, rfl⟩
  rw [← hrk2] at hrk
  have c1 : (rk == nI) = false := beq_eq_false_iff_ne.mpr (by omega)
  have z1 : w.cell? ⟨gn, 0, none⟩ = some (.int .i64 nI) := (blk_cell hn 0).trans rfl
  have A1 := Aside0.mk hrk
  have HR := Aside0.mk hr
  have HP := Aside0.mk hps
  have HC := Aside0.mk hcp
  have CC : ∀ q, Calls Try.prog 141 #[.slice (some ⟨a, 0, none⟩) R cp] (w.drewN q) fun e w'' => e = .returned (.int .i64 rk) ∧ ∃ m, w'' = w.drewN m := by
    intro q
    have hh := impl_rooks.calls kk (some ⟨a, 0, none⟩) cp ps rk (w.drewN q) (by rw [HP.out]; exact Kd.C_drewN HR.out q) (by rw [HP.out]; exact HC.out) A1.out
    rw [HP.out] at hh
    exact Calls.quiet_of (hh.mono (by rintro e w' ⟨rfl, ⟨m, rfl⟩⟩; exact ⟨rfl, m, rfl⟩))
  have CX := Lib.hid CC
  clear CC hrk hrk2 hn hf hps hr hk hnI hR hcp
  go_enter Try.func140, Try.ntmps140
  go_wp2
  go_quiet ((go_at_call 141; exact CX.out _))
  go_wp2
  go_ret
  exact ⟨rfl, by repeat (first | exact Drawn0.refl _ | apply Drawn0.step)⟩
set_option maxHeartbeats 4000000 in
set_option maxRecDepth 100000 in
theorem perm1_do (hk : rooksN ps = R) (X : World → Prop) (hdo : ∀ q, Calls Try.prog 95 #[.slice (some ⟨a, 0, none⟩) R cp, dd1, dd2, dd3] (w.drewN q) fun e w' => e = .returned (.tuple #[]) ∧ X w') :
    Calls Try.prog 140 #[.slice (some ⟨a, 0, none⟩) R cp, .pointer (some ⟨gn, 0, none⟩), .pointer (some ⟨gf, 0, none⟩)] w fun e w' => e = .returned (.bool true) ∧ X w' := by
  obtain ⟨kk, hrk⟩ := rooks_f (l := ps) (by omega)
  obtain ⟨rk, hrk2⟩ : ∃ rk : Int, rk = (rooksN ps : Int) := ⟨_, rfl⟩
  rw [← hrk2] at hrk
  have c1 : (rk == nI) = true := beq_iff_eq.mpr (by omega)
  have z1 : w.cell? ⟨gn, 0, none⟩ = some (.int .i64 nI) := (blk_cell hn 0).trans rfl
  have z2 : w.cell? ⟨gf, 0, none⟩ = some (.func (.func 95) #[] #[dd1, dd2, dd3]) := (blk_cell hf 0).trans rfl
  have A1 := Aside0.mk hrk
  have HR := Aside0.mk hr
  have HP := Aside0.mk hps
  have HC := Aside0.mk hcp
  have CC : ∀ q, Calls Try.prog 141 #[.slice (some ⟨a, 0, none⟩) R cp] (w.drewN q) fun e w'' => e = .returned (.int .i64 rk) ∧ ∃ m, w'' = w.drewN m := by
    intro q
    have hh := impl_rooks.calls kk (some ⟨a, 0, none⟩) cp ps rk (w.drewN q) (by rw [HP.out]; exact Kd.C_drewN HR.out q) (by rw [HP.out]; exact HC.out) A1.out
    rw [HP.out] at hh
    exact Calls.quiet_of (hh.mono (by rintro e w' ⟨rfl, ⟨m, rfl⟩⟩; exact ⟨rfl, m, rfl⟩))
  have CX := Lib.hid CC
  have DX := Lib.hid hdo
  clear CC hrk hrk2 hn hf hps hr hk hnI hR hcp hdo
  go_enter Try.func140, Try.ntmps140
  go_wp2
  go_quiet ((go_at_call 141; exact CX.out _))
  go_wp2_with (first | (go_at_call 95; (refine (DX.out _).mono ?_); rintro e w2 ⟨rfl, hx⟩))
  go_ret
  exact ⟨rfl, hx⟩
end
section
variable (dd1 dd2 dd3 : Value) (R : Nat) (nI : Int) (hnI : nI = R) (h1R : 1 ≤ R) (hR : R ≤ 6) (base : Nat)
  (Inv : (Nat → Prop) → List (List Int) → World → Prop) (hI : ∀ S vis w w', Inv S vis w → Still S w w' → Inv S vis w') (w0 : World)
  (h0 : ∀ S w, (∀ i, S i → w0.heap.size ≤ i) → Below w0.heap.size w0 w → Inv S [] w)
  (hdo : ∀ S vis ps w a cp, (∀ i, S i → w0.heap.size ≤ i) → (∀ i, S i → i < w.heap.size) → ps.length = R → (∃ b, permsOf R = vis ++ ps :: b) → S a → Kd.C (Kd.int .i64) w (some ⟨a, 0, none⟩) R ps → R ≤ cp → Inv S vis w →
    Calls Try.prog 95 #[.slice (some ⟨a, 0, none⟩) R cp, dd1, dd2, dd3] w fun e w' => e = .returned (.tuple #[]) ∧ Inv S (vis ++ [ps]) w' ∧ (∀ i, S i → i < w.heap.size → w'.heap[i]? = w.heap[i]?))
include hnI h1R hR hI h0 hdo
theorem perms_walk (gn gf gl cl : Nat) (W : World) (hB : Below w0.heap.size w0 W) (bn : w0.heap.size ≤ gn) (bf : w0.heap.size ≤ gf) (bl : w0.heap.size ≤ gl)
    (hn : W.heap[gn]? = some (.cells #[.int .i64 nI] 3 (0, 0))) (hf : W.heap[gf]? = some (.cells #[.func (.func 95) #[] #[dd1, dd2, dd3]] 84 (0, 0)))
    (hl : Kd.R (Kd.int .i64) 3 W 0 (fun i => i = gl) (.slice (some ⟨gl, 0, none⟩) R cl) (fullRows R)) :
    Calls Try.prog 139 #[.agg #[.int .i64 nI, .int .i64 nI, .slice (some ⟨gl, 0, none⟩) R cl], .func (.func 140) #[] #[.pointer (some ⟨gn, 0, none⟩), .pointer (some ⟨gf, 0, none⟩)]] W
      fun e w' => e = .returned (.tuple #[]) ∧ ∃ S, (∀ i, S i → w0.heap.size ≤ i) ∧ Inv S (permsOf R) w' := by
  have fl : (fullRows R).length = R := by simp [fullRows]
  have hcl : R ≤ cl := (Kd.R_reads' hl).2.1
  have lgl : gl < W.heap.size := by obtain ⟨cells, hc⟩ := Kd.R_typed hl gl rfl; exact blk_lt hc
  have lgn := blk_lt hn
  have lgf := blk_lt hf
  have hb : ∀ i (hi : i < (fullRows R).length), 0 ≤ (fullRows R)[i] ∧ (fullRows R)[i] < 2 ^ R := by
    intro i hi
    have : 0 < 2 ^ R := Nat.two_pow_pos R
    have e : ((2 ^ R : Nat) : Int) = 2 ^ R := by simp
    simp only [fullRows, List.getElem_replicate]
    omega
  have key := WalkPerms.walk_calls
    (fun S vis w => Inv (fun i => S i ∨ i = gn ∨ i = gf ∨ i = gl) (vis.filter (fun p => rooksN p == R)) w ∧ w.heap[gn]? = some (.cells #[.int .i64 nI] 3 (0, 0)) ∧ w.heap[gf]? = some (.cells #[.func (.func 95) #[] #[dd1, dd2, dd3]] 84 (0, 0)) ∧
      Kd.R (Kd.int .i64) 3 w 0 (fun i => i = gl) (.slice (some ⟨gl, 0, none⟩) R cl) (fullRows R) ∧ ∀ i, S i → W.heap.size ≤ i)
    (by
      rintro S vis w w' ⟨i1, i2, i3, i4, i5⟩ hs
      have kp : ∀ g, g < W.heap.size → ∀ {o}, w.heap[g]? = some o → w'.heap[g]? = some o := fun g hg o ho => (hs.kept.2 g (blk_lt ho) (fun h => by have := i5 g h; omega)).trans ho
      refine ⟨hI _ _ _ _ i1 ⟨hs.kept.mono (fun k hk => .inl hk), hs.os, hs.tape, hs.output⟩, kp gn lgn i2, kp gf lgf i3, Kd.R_step i4 (fun i hi hlt => by subst hi; exact hs.kept.2 _ hlt (fun h => by have := i5 _ h; omega)), i5⟩)
    R R nI nI hnI hnI (fullRows R) (some ⟨gl, 0, none⟩) cl (by rw [fl]; exact hcl) (.pointer (some ⟨gn, 0, none⟩)) (.pointer (some ⟨gf, 0, none⟩))
    (fun S vis w h => by have := (Kd.R_reads' h.2.2.2.1).2.2; exact this)
    fl h1R hR hR hb W
    (by
      intro S w hS hBw
      refine ⟨h0 _ w (fun i hi => ?_) (hB.trans (hBw.mono hB.size)), blk_below hn hBw, blk_below hf hBw, Kd.R_below hl hBw, hS⟩
      rcases hi with hi | rfl | rfl | rfl
      · exact Nat.le_trans hB.size (hS i hi)
      · exact bn
      · exact bf
      · exact bl)
    (by
      rintro S vis ps w a cp hS hSlt hps hmem hSa hC hcp ⟨i1, i2, i3, i4, i5⟩
      have hSlt' : ∀ i, (S i ∨ i = gn ∨ i = gf ∨ i = gl) → i < w.heap.size := by
        rintro i (hi | rfl | rfl | rfl)
        · exact hSlt i hi
        · exact blk_lt i2
        · exact blk_lt i3
        · obtain ⟨cells, hc⟩ := Kd.R_typed i4 _ rfl; exact blk_lt hc
      have hS' : ∀ i, (S i ∨ i = gn ∨ i = gf ∨ i = gl) → w0.heap.size ≤ i := by
        rintro i (hi | rfl | rfl | rfl)
        · exact Nat.le_trans hB.size (hS i hi)
        · exact bn
        · exact bf
        · exact bl
      by_cases hk : rooksN ps = R
      · have hmem2 : ∃ b, permsOf R = vis.filter (fun p => rooksN p == R) ++ ps :: b := by
          obtain ⟨b, hb2⟩ := hmem
          exact ⟨b.filter (fun p => rooksN p == R), by unfold permsOf; rw [hb2, List.filter_append, List.filter_cons, if_pos (by simp [hk])]⟩
        refine (perm1_do dd1 dd2 dd3 R nI hnI a cp gn gf ps hps hR hcp w hC i2 i3 hk (fun w' => Inv (fun i => S i ∨ i = gn ∨ i = gf ∨ i = gl) (vis.filter (fun p => rooksN p == R) ++ [ps]) w' ∧ (∀ i, (S i ∨ i = gn ∨ i = gf ∨ i = gl) → i < w.heap.size → w'.heap[i]? = w.heap[i]?)) (fun q => hdo _ _ ps (w.drewN q) a cp hS' hSlt' hps hmem2 (.inl hSa) (Kd.C_drewN hC q) hcp (hI _ _ _ _ i1 (Still.drewN w q)))).mono ?_
        rintro e w' ⟨rfl, hx, hkeep⟩
        refine ⟨rfl, ⟨?_, (hkeep _ (.inr (.inl rfl)) (blk_lt i2)).trans i2, (hkeep _ (.inr (.inr (.inl rfl))) (blk_lt i3)).trans i3, Kd.R_step i4 (fun i hi hlt => by subst hi; exact hkeep _ (.inr (.inr (.inr rfl))) hlt), i5⟩, fun i hi hlt => hkeep i (.inl hi) hlt⟩
        rw [List.filter_append]
        simpa [hk] using hx
      · refine (perm1_skip dd1 dd2 dd3 R nI hnI a cp gn gf ps hps hR hcp w hC i2 i3 hk).mono ?_
        rintro e w' ⟨rfl, ⟨m, rfl⟩⟩
        refine ⟨rfl, ⟨?_, i2, i3, Kd.R_drewN i4 m, i5⟩, fun i hi hlt => rfl⟩
        rw [List.filter_append]
        simpa [hk] using hI _ _ _ _ i1 (Still.drewN w m))
  rw [fl] at key
  refine key.mono ?_
  rintro e w' ⟨rfl, S, hS, i1, _⟩
  refine ⟨rfl, _, ?_, i1⟩
  rintro i (hi | rfl | rfl | rfl)
  · exact Nat.le_trans hB.size (Nat.le_trans (Nat.le_refl _) (hS i hi))
  · exact bn
  · exact bf
  · exact bl
set_option maxHeartbeats 4000000 in
set_option maxRecDepth 100000 in
theorem perms_calls : Calls Try.prog 94 #[.int .i64 nI, .func (.func 95) #[] #[dd1, dd2, dd3]] w0
      fun e w' => e = .returned (.tuple #[]) ∧ ∃ S, (∀ i, S i → w0.heap.size ≤ i) ∧ Inv S (permsOf R) w' := by
  have KX := Lib.hid (perms_walk dd1 dd2 dd3 R nI hnI h1R hR Inv hI w0 h0 hdo)
  obtain ⟨kk, hfb⟩ := fullBoard_f h1R hR
  rw [← hnI] at hfb
  have A1 := Aside0.mk hfb
  have fl := Aside0.mk (show (fullRows R).length = R by simp [fullRows])
  have p1 := Aside0.mk h1R
  have hu24 := Try.underlying43
  clear hfb hnI h1R hR hI h0 hdo
  go_enter Try.func94, Try.ntmps94
  go_wp2_with (first
    | ((with_reducible refine gate_dst (N := 2) rfl ?_); refine box_event ?hg (N := 2) ?hd (cs := #[.int .i64 nI]) (t := 3) ?hr ?_; (case hd => rfl); (case hg => rfl); (case hr => first | (go_simp; done) | (go_simp; rfl)); intro gn hg w1 hbox hb; have G1 := Aside0.mk hg; have K1 := Aside0.mk hbox; have B1 := Aside0.mk hb; clear hg hbox hb)
    | ((with_reducible refine gate_dst (N := 3) rfl ?_); refine box_event ?hg (N := 3) ?hd (cs := #[.func (.func 95) #[] #[dd1, dd2, dd3]]) (t := 84) ?hr ?_; (case hd => rfl); (case hg => rfl); (case hr => first | (go_simp; done) | (go_simp; rfl)); intro gf hg w2 hbox hb; have G2 := Aside0.mk hg; have K2 := Aside0.mk hbox; have B2 := Aside0.mk hb; clear hg hbox hb; have z2 : w2.cell? ⟨gn, 0, none⟩ = some (.int .i64 nI) := (blk_cell (blk_below K1.out B2.out) 0).trans rfl)
    | (go_at_call 138; (refine (impl_FullBoard.calls kk nI nI nI nI (fullRows R) true _ A1.out).mono ?_); rintro e w3 ⟨v3, rfl, ho3, hb⟩; obtain ⟨gl, cl, hv3, hgl, hgl2, cells3, hc3⟩ := Kd.R_form ho3 (by rw [fl.out]; exact p1.out); rw [fl.out] at hv3; subst hv3; have G3 := Aside0.mk (And.intro hgl hgl2); have B3 := Aside0.mk hb; have O3 := Aside0.mk ho3; clear hgl hgl2 hc3 hb ho3)
    | ((with_reducible refine gate_dst (N := 4) rfl ?_); refine box_event ?hg (N := 4) ?hd (cs := #[.int .i64 0, .int .i64 0, .slice none 0 0]) (t := 43) ?hr ?_; (case hd => rfl); (case hg => rfl); (case hr => first | (go_simp; done) | (go_simp; rfl)); intro gb hg w4 hbox hb; have G4 := Aside0.mk hg; have K4 := Aside0.mk hbox; have B4 := Aside0.mk hb; clear hg hbox hb; have y0 : w4.cell? ⟨gb, 0, none⟩ = some (.int .i64 0) := (blk_cell K4.out 0).trans rfl; have y1 : w4.cell? ⟨gb, 1, none⟩ = some (.int .i64 0) := (blk_cell K4.out 1).trans rfl; have y2 : w4.cell? ⟨gb, 2, none⟩ = some (.slice none 0 0) := (blk_cell K4.out 2).trans rfl; have f0 := blk_frozen K4.out 0; have f1 := blk_frozen K4.out 1; have f2 := blk_frozen K4.out 2)
    | (go_at_call 139; (refine (KX.out gn gf gl cl _ ?sB ?s1 ?s2 ?s3 ?sn ?sf ?sl).mono ?_); (case sB => (have o1 := blk_lt K1.out; have o2 := G2.out; have o3 := blk_lt K2.out; have o4 := G3.out; have o5 := G4.out; have o6 := blk_lt K4.out; have o7 := G1.out; have b4 : Below w0.heap.size w0 w4 := (((B1.out.trans (B2.out.mono (by omega))).trans (B3.out.mono (by omega))).trans (B4.out.mono (by omega))); exact Below.setCell (Below.setCell (Below.setCell b4 (by (try simp only []); omega) _) (by (try simp only []); omega) _) (by (try simp only []); omega) _)); (case s1 => (have o1 := blk_lt K1.out; have o2 := G2.out; have o3 := blk_lt K2.out; have o4 := G3.out; have o5 := G4.out; have o6 := blk_lt K4.out; have o7 := G1.out; omega)); (case s2 => (have o1 := blk_lt K1.out; have o2 := G2.out; have o3 := blk_lt K2.out; have o4 := G3.out; have o5 := G4.out; have o6 := blk_lt K4.out; have o7 := G1.out; omega)); (case s3 => (have o1 := blk_lt K1.out; have o2 := G2.out; have o3 := blk_lt K2.out; have o4 := G3.out; have o5 := G4.out; have o6 := blk_lt K4.out; have o7 := G1.out; omega)); (case sn => (have o1 := blk_lt K1.out; have o2 := G2.out; have o3 := blk_lt K2.out; have o4 := G3.out; have o5 := G4.out; have o6 := blk_lt K4.out; have o7 := G1.out; have q := blk_below (blk_below (blk_below K1.out B2.out) B3.out) B4.out; have e : gn ≠ gb := (by omega); exact blk_far (blk_far (blk_far q e _) e _) e _)); (case sf => (have o1 := blk_lt K1.out; have o2 := G2.out; have o3 := blk_lt K2.out; have o4 := G3.out; have o5 := G4.out; have o6 := blk_lt K4.out; have o7 := G1.out; have q := blk_below (blk_below K2.out B3.out) B4.out; have e : gf ≠ gb := (by omega); exact blk_far (blk_far (blk_far q e _) e _) e _)); (case sl => (have o1 := blk_lt K1.out; have o2 := G2.out; have o3 := blk_lt K2.out; have o4 := G3.out; have o5 := G4.out; have o6 := blk_lt K4.out; have o7 := G1.out; have q := Kd.R_below (Kd.R_mono (Kd.R_lower (Kd.R_tight rfl O3.out) (Nat.zero_le _)) (fun i hi => (by simpa [Value.ownBlock] using hi : i = gl))) B4.out; have e : ∀ i, i = gl → i ≠ gb := (fun i hi => by omega); exact Kd.R_far (Kd.R_far (Kd.R_far q e _) e _) e _)); rintro e w5 ⟨rfl, hfin⟩))
  first | go_end0 | ((try simp only [Exit.inBlock, Exit.then]); refine bodyPost_ret (results_none rfl _ _ _) rfl ?_)
  exact ⟨rfl, hfin⟩
end
end Go.Proofs.Ytiopnmgcajohfaa.PermsPH
end
section
namespace Go.Proofs.Ytiopnmgcajohfaa.Q
open Go.RowKit Go.Proofs.YtiopnmgcajohfaaW.PrintWords Go.Proofs.YtiopnmgcajohfaaW.PrintLast Go.Proofs.YtiopnmgcajohfaaW.PrintMore
open Go.Proofs.YtiopnmgcajohfaaL
set_option linter.unusedVariables false
theorem run_eql_slice_nil_ {w : World} (a : Option Addr) (l c : Nat) : (binOp .eql 28 (.slice a l c) (.slice none 0 0)).run Try.prog w = .ok (.bool a.isNone) w := by
  simp only [binOp]
  simp [run_equal_slice_nil _ _ _ _ _ _ Try.underlying28]
attribute [local go_sem] run_eql_slice_nil_
end Go.Proofs.Ytiopnmgcajohfaa.Q
end
section
namespace Go.Proofs.Ytiopnmgcajohfaa.PH
set_option linter.unusedVariables false
set_option linter.unusedSectionVars false
open Go.RowKit Go.Proofs.YtiopnmgcajohfaaW.PrintWords Go.Proofs.YtiopnmgcajohfaaW.PrintLast Go.Proofs.YtiopnmgcajohfaaW.PrintMore
open Go.Proofs.YtiopnmgcajohfaaL Go.Proofs.Ytiopnmgcajohfaa.LawK Go.Proofs.Ytiopnmgcajohfaa.BoardK Go.Proofs.Ytiopnmgcajohfaa.Walk Go.Proofs.Ytiopnmgcajohfaa.Q Go.Proofs.Ytiopnmgcajohfaa.PermK
section
variable (RI CI hI kI : Int) (R cp a gb gk go kk : Nat) (l ps : List Int) (A0 : Option Addr) (c0 : Nat) (w : World)
  (hps : ps.length = R) (hcp : R ≤ cp) (hc0 : l.length ≤ c0) (hr : Kd.C (Kd.int .i64) w (some ⟨a, 0, none⟩) R ps) (hL : Kd.C (Kd.int .i64) w A0 l.length l)
  (hgb : w.heap[gb]? = some (.cells #[.int .i64 RI, .int .i64 CI, .slice A0 l.length c0] 43 (0, 0))) (hgk : w.heap[gk]? = some (.cells #[.int .i64 kI] 3 (0, 0)))
  (hh : impl_Board_hits.f kk RI CI l ps = some hI)
include hps hcp hc0 hr hL hgb hgk hh
end
section
variable (RI CI hI : Int) (R cp a gb gk go kk bs : Nat) (l ps : List Int) (out : List (List Int)) (A0 : Option Addr) (c0 : Nat) (v : Value) (OKP : Nat → Prop) (w : World)
  (hps : ps.length = R) (hR6 : R ≤ 6) (hcp : R ≤ cp) (hc0 : l.length ≤ c0) (hr : Kd.C (Kd.int .i64) w (some ⟨a, 0, none⟩) R ps) (hL : Kd.C (Kd.int .i64) w A0 l.length l)
  (hgb : w.heap[gb]? = some (.cells #[.int .i64 RI, .int .i64 CI, .slice A0 l.length c0] 43 (0, 0))) (hgk : w.heap[gk]? = some (.cells #[.int .i64 hI] 3 (0, 0)))
  (hgo : w.heap[go]? = some (.cells #[v] 29 (0, 0))) (hng : ∀ k, OKP k → k ≠ go) (hbs : bs ≤ w.heap.size) (hnew : ∀ k, w.heap.size ≤ k → OKP k)
  (ho : Kd.S (Kd.slice 3 (Kd.int .i64)) 28 w bs OKP v out) (hol : out.length ≤ 1000000)
  (hh : impl_Board_hits.f kk RI CI l ps = some hI)
include hps hR6 hcp hc0 hr hL hgb hgk hgo hng hbs hnew ho hol hh
end
end Go.Proofs.Ytiopnmgcajohfaa.PH
end
section
namespace Go.Proofs.Ytiopnmgcajohfaa.Q
set_option linter.unusedVariables false
open Go.RowKit Go.Proofs.YtiopnmgcajohfaaW.PrintWords Go.Proofs.YtiopnmgcajohfaaW.PrintLast Go.Proofs.YtiopnmgcajohfaaW.PrintMore
open Go.Proofs.YtiopnmgcajohfaaL Go.Proofs.Ytiopnmgcajohfaa.LawK Go.Proofs.Ytiopnmgcajohfaa.BoardK Go.Proofs.Ytiopnmgcajohfaa.Walk Go.Proofs.Ytiopnmgcajohfaa.PermK Go.Proofs.Ytiopnmgcajohfaa.HN Go.Proofs.Ytiopnmgcajohfaa.PH
def hitting (l : List Int) (k : Int) (vis : List (List Int)) : List (List Int) := vis.filter (fun p => decide (hitsF l p 0 0 = k))
theorem perms_len {R : Nat} (h : R ≤ 6) : (permsOf R).length ≤ 117649 := by
  have h1 := List.length_filter_le (fun p => rooksN p == R) (waysFrom (fullRows R) R R 0 0 [])
  have h2 := ways_len (fullRows R) R R 0 0 []
  have h3 : ∀ R : Fin 7, (R.val + 1) ^ R.val ≤ 117649 := by decide
  have h4 := h3 ⟨R, by omega⟩
  unfold permsOf
  simp only [] at h4
  omega
end Go.Proofs.Ytiopnmgcajohfaa.Q
end
section
namespace Go.Proofs.Ytiopnmgcajohfaa.Q
open Go.RowKit Go.Proofs.YtiopnmgcajohfaaW.PrintWords Go.Proofs.YtiopnmgcajohfaaW.PrintLast Go.Proofs.YtiopnmgcajohfaaW.PrintMore
attribute [local go_sem] max2_int min2_int max_two min_two max_three min_three max_four min_four   -- for this text's walks alone
set_option linter.unusedVariables false
set_option linter.unusedSimpArgs false
end Go.Proofs.Ytiopnmgcajohfaa.Q
end
section
namespace Go.Proofs.Ytiopnmgcajohfaa.PermHitK
set_option linter.unusedVariables false
open Go.RowKit Go.Proofs.Ytiopnmgcajohfaa.Q Go.Proofs.YtiopnmgcajohfaaW.PrintWords Go.Proofs.YtiopnmgcajohfaaW.PrintLast Go.Proofs.YtiopnmgcajohfaaW.PrintMore
open Go.Proofs.YtiopnmgcajohfaaL Go.Proofs.Ytiopnmgcajohfaa.LawK Go.Proofs.Ytiopnmgcajohfaa.BoardK Go.Proofs.Ytiopnmgcajohfaa.PermK Go.Proofs.Ytiopnmgcajohfaa.Walk Go.Proofs.Ytiopnmgcajohfaa.HN Go.Proofs.Ytiopnmgcajohfaa.HitAllK
theorem perms_shape {n : Nat} {p : List Int} (h : p ∈ permsOf n) : p.length = n ∧ ∀ x ∈ p, 0 ≤ x ∧ x < n := by
  obtain ⟨s, h1, h2⟩ := ways_shape _ _ _ _ _ _ p (List.mem_filter.1 h).1
  have hp2 : p.length = n := by rw [h1]; simpa using h2
  exact ⟨hp2, perms_in h hp2⟩
end Go.Proofs.Ytiopnmgcajohfaa.PermHitK
end
section
namespace Go.Proofs.Ytiopnmgcajohfaa.HitLawK
set_option linter.unusedVariables false
open Go.RowKit Go.Proofs.Ytiopnmgcajohfaa.Q Go.Proofs.YtiopnmgcajohfaaW.PrintWords Go.Proofs.YtiopnmgcajohfaaW.PrintLast Go.Proofs.YtiopnmgcajohfaaW.PrintMore
open Go.Proofs.YtiopnmgcajohfaaL Go.Proofs.Ytiopnmgcajohfaa.LawK Go.Proofs.Ytiopnmgcajohfaa.BoardK Go.Proofs.Ytiopnmgcajohfaa.PermK Go.Proofs.Ytiopnmgcajohfaa.Walk Go.Proofs.Ytiopnmgcajohfaa.HN Go.Proofs.Ytiopnmgcajohfaa.HitAllK Go.Proofs.Ytiopnmgcajohfaa.PermHitK
theorem counts_fold (l : List Int) (m : Nat) : ∀ (vis : List (List Int)) (out : List Int) (f : Nat → Nat), out.length = m → (∀ n, n < m → out[n]? = some ((f n : Nat) : Int)) → (∀ p ∈ vis, hitsF l p 0 0 < m) → (∀ n, f n + vis.length ≤ 4611686018427387904) →
    (vis.foldl (fun o p => o.set (hitsF l p 0 0).toNat (IntKind.i64.wrap (rdOf 0 o (hitsF l p 0 0) + 1))) out).length = m ∧ ∀ n, n < m → (vis.foldl (fun o p => o.set (hitsF l p 0 0).toNat (IntKind.i64.wrap (rdOf 0 o (hitsF l p 0 0) + 1))) out)[n]? = some ((f n + vis.countP (fun p => hitsF l p 0 0 == (n : Int)) : Nat) : Int)
  | [], out, f, h1, h2, _, _ => ⟨h1, fun n hn => by rw [List.foldl_nil, h2 n hn]; simp⟩
  | p :: t, out, f, h1, h2, h3, h4 => by
    have hp := h3 p (by simp)
    have h0 := (hitsF_bound l p 0 0).1
    obtain ⟨x, hx⟩ : ∃ x : Nat, hitsF l p 0 0 = x := ⟨(hitsF l p 0 0).toNat, by omega⟩
    rw [hx] at hp
    have e : rdOf 0 out (x : Int) = ((f x : Nat) : Int) := by
      unfold rdOf
      rw [Int.toNat_natCast, List.getD_eq_getElem?_getD, h2 _ (by omega)]
      rfl
    have h5 := h4 x
    rw [List.length_cons] at h5
    have ew : IntKind.i64.wrap (((f x : Nat) : Int) + 1) = ((f x + 1 : Nat) : Int) := by rw [wrap_i64', w64 (by omega) (by omega)]; rfl
    rw [List.foldl_cons, hx, e, ew, Int.toNat_natCast]
    obtain ⟨g1, g2⟩ := counts_fold l m t (out.set x ((f x + 1 : Nat) : Int)) (fun n => f n + if x = n then 1 else 0) (by rw [List.length_set]; exact h1) (fun n hn => by
      rw [List.getElem?_set]
      by_cases c : x = n
      · subst c
        rw [if_pos rfl, if_pos (by omega), if_pos rfl]
      · rw [if_neg c, if_neg c, h2 n hn]; rfl) (fun q hq => h3 q (by simp [hq])) (fun n => by
      have := h4 n
      rw [List.length_cons] at this
      split <;> omega)
    refine ⟨g1, fun n hn => ?_⟩
    rw [g2 n hn, List.countP_cons, hx]
    congr 2
    by_cases c : x = n
    · rw [if_pos c, if_pos (beq_iff_eq.2 (by omega))]; omega
    · rw [if_neg c, if_neg (fun h => c (by have := beq_iff_eq.1 h; omega))]; omega
theorem counts_get {l : List Int} {m : Nat} {vis : List (List Int)} (h3 : ∀ p ∈ vis, hitsF l p 0 0 < m) (h4 : vis.length ≤ 4611686018427387904) : (countsF l m vis).length = m ∧ ∀ n, n < m → (countsF l m vis)[n]? = some ((vis.countP (fun p => hitsF l p 0 0 == (n : Int)) : Nat) : Int) := by
  have h := counts_fold l m vis (List.replicate m 0) (fun _ => 0) (by simp) (fun n hn => by rw [List.getElem?_replicate, if_pos hn]; rfl) h3 (fun n => by omega)
  simp only [Nat.zero_add] at h
  exact h
theorem hitting_len (l : List Int) (n : Nat) (vis : List (List Int)) : (hitting l (n : Int) vis).length = vis.countP (fun p => hitsF l p 0 0 == (n : Int)) := by
  unfold hitting
  rw [List.countP_eq_length_filter]
  congr 1
theorem hit_count {l : List Int} (hl : l.length ≤ 6) : (countsF l (l.length + 1) (permsOf l.length)).length = l.length + 1 ∧ ∀ n, n < l.length + 1 → (countsF l (l.length + 1) (permsOf l.length)).getD n 0 = ((hitting l (n : Int) (permsOf l.length)).length : Int) := by
  have hb : ∀ p ∈ permsOf l.length, hitsF l p 0 0 < ((l.length + 1 : Nat) : Int) := fun p hp => by
    have := (hitsF_bound l p 0 0).2
    have := (perms_shape hp).1
    omega
  have h := counts_get hb (Nat.le_trans (perms_len hl) (by omega))
  refine ⟨h.1, fun n hn => ?_⟩
  rw [List.getD_eq_getElem?_getD, h.2 n hn, hitting_len]
  rfl
end Go.Proofs.Ytiopnmgcajohfaa.HitLawK
end
section
namespace Go.Proofs.Ytiopnmgcajohfaa.Q
open Go.RowKit Go.Proofs.YtiopnmgcajohfaaW.PrintWords Go.Proofs.YtiopnmgcajohfaaW.PrintLast Go.Proofs.YtiopnmgcajohfaaW.PrintMore
attribute [local go_sem] max2_int min2_int max_two min_two max_three min_three max_four min_four   -- for this text's walks alone
set_option linter.unusedVariables false
set_option linter.unusedSimpArgs false
end Go.Proofs.Ytiopnmgcajohfaa.Q
end
section
namespace Go.Proofs.Ytiopnmgcajohfaa.Pure
set_option linter.unusedVariables false
open Go.RowKit Go.Proofs.Ytiopnmgcajohfaa.Q Go.Proofs.YtiopnmgcajohfaaW.PrintWords Go.Proofs.YtiopnmgcajohfaaW.PrintLast Go.Proofs.YtiopnmgcajohfaaW.PrintMore
open Go.Proofs.YtiopnmgcajohfaaL Go.Proofs.Ytiopnmgcajohfaa.LawK Go.Proofs.Ytiopnmgcajohfaa.BoardK Go.Proofs.Ytiopnmgcajohfaa.PermK Go.Proofs.Ytiopnmgcajohfaa.Walk Go.Proofs.Ytiopnmgcajohfaa.HN Go.Proofs.Ytiopnmgcajohfaa.HitAllK
def hitNumbers (r c : Int) (l : List Int) : List Int × Bool := if squareB r c l = true then (countsF l (l.length + 1) (permsOf l.length), true) else ([], false)
theorem impl_answer_f (r c : Int) (l : List Int) : impl_HitNumbers.f r c l = some (hitNumbers r c l) := by
  unfold impl_HitNumbers.f hitNumbers impl_Board_hitNumbers.f
  rw [isSquare_f, Option.bind_some]
  by_cases hs : squareB r c l = true
  · rw [if_pos hs, if_pos hs, Option.bind_some, if_pos hs]
  · rw [if_neg hs, if_neg hs]
end Go.Proofs.Ytiopnmgcajohfaa.Pure
end
section
namespace Go.Proofs.Ytiopnmgcajohfaa.Couples
open Go.RowKit Go.Proofs.YtiopnmgcajohfaaL
def allowed (n r m c : Nat) : Bool := !m.testBit c && (c != r && c != (r + 1) % n)
def upd (n r m : Nat) (w : Int) (c : Nat) (x : List Int) : List Int :=
  if w > 0 ∧ allowed n r m c = true then x.set (m ||| 2 ^ c) (wrap64 (x.getD (m ||| 2 ^ c) 0 + w)) else x
def cols (n r m : Nat) (w : Int) : Nat → Nat → List Int → List Int
  | 0, _, x => x
  | d + 1, c, x => cols n r m w d (c + 1) (upd n r m w c x)
def rowsF (n r : Nat) (ways : List Int) : Nat → Nat → List Int → List Int
  | 0, _, x => x
  | d + 1, m, x => rowsF n r ways d (m + 1) (cols n r m (ways.getD m 0) n 0 x)
def allF (n : Nat) : Nat → Nat → List Int → List Int
  | 0, _, ways => ways
  | d + 1, r, ways => allF n d (r + 1) (rowsF n r ways (2 ^ n) 0 (List.replicate (2 ^ n) 0))
theorem upd_length (n r m : Nat) (w : Int) (c : Nat) (x : List Int) : (upd n r m w c x).length = x.length := by
  unfold upd; split <;> simp
theorem cols_length (n r m : Nat) (w : Int) : ∀ d c x, (cols n r m w d c x).length = x.length
  | 0, _, _ => rfl
  | d + 1, c, x => by rw [cols, cols_length, upd_length]
theorem rowsF_length (n r : Nat) (ways : List Int) : ∀ d m x, (rowsF n r ways d m x).length = x.length
  | 0, _, _ => rfl
  | d + 1, m, x => by rw [rowsF, rowsF_length, cols_length]
def wsum (f : Nat → Int) : Nat → List Int → Int
  | _, [] => 0
  | i, v :: t => v * f i + wsum f (i + 1) t
theorem wsum_set (f : Nat → Int) : ∀ (x : List Int) (i j : Nat) (v : Int), j < x.length → wsum f i (x.set j v) = wsum f i x + (v - x.getD j 0) * f (i + j)
  | [], _, _, _, h => by simp at h
  | a :: t, i, 0, v, _ => by simp [wsum, Int.sub_mul]; omega
  | a :: t, i, j + 1, v, h => by
    have := wsum_set f t (i + 1) j v (by simpa using h)
    simp only [List.set_cons_succ, wsum, this, List.getD_cons_succ]
    rw [show i + 1 + j = i + (j + 1) by omega]; omega
def Pos (x : List Int) : Prop := ∀ v ∈ x, 0 ≤ v
theorem pos_getD {x : List Int} (h : Pos x) (j : Nat) : 0 ≤ x.getD j 0 := by
  by_cases hj : j < x.length
  · rw [gD_lt _ _ hj]; exact h _ (List.getElem_mem hj)
  · rw [gD_ge _ _ (by omega)]; exact Int.le_refl _
theorem pos_set {x : List Int} (h : Pos x) (j : Nat) (v : Int) (hv : 0 ≤ v) : Pos (x.set j v) := by
  intro u hu
  rcases List.mem_or_eq_of_mem_set hu with h1 | h1
  · exact h u h1
  · rw [h1]; exact hv
theorem wsum_pos {f : Nat → Int} (hf : ∀ i, 0 ≤ f i) : ∀ (x : List Int) (i : Nat), Pos x → 0 ≤ wsum f i x
  | [], _, _ => Int.le_refl _
  | a :: t, i, h => by
    have h1 := wsum_pos hf t (i + 1) (fun v hv => h v (List.mem_cons_of_mem _ hv))
    have h2 : 0 ≤ a * f i := Int.mul_nonneg (h a (by simp)) (hf i)
    rw [wsum]; omega
theorem getD_le : ∀ (x : List Int) (i j : Nat), Pos x → x.getD j 0 ≤ wsum (fun _ => 1) i x
  | [], _, _, _ => by simp [wsum]
  | a :: t, i, 0, h => by
    have h1 := wsum_pos (f := fun _ => 1) (fun _ => by decide) t (i + 1) (fun v hv => h v (List.mem_cons_of_mem _ hv))
    simp [wsum]; omega
  | a :: t, i, j + 1, h => by
    have h1 := getD_le t (i + 1) j (fun v hv => h v (List.mem_cons_of_mem _ hv))
    have h2 := h a (by simp)
    simp only [wsum, List.getD_cons_succ]; omega
def csum (f : Nat → Int) (n r m : Nat) : Nat → Nat → Int
  | 0, _ => 0
  | d + 1, c => (if allowed n r m c then f (m ||| 2 ^ c) else 0) + csum f n r m d (c + 1)
theorem or_lt {n m c : Nat} (hm : m < 2 ^ n) (hc : c < n) : m ||| 2 ^ c < 2 ^ n := Nat.or_lt_two_pow hm (Nat.pow_lt_pow_right (by decide) hc)
theorem upd_law (f : Nat → Int) {n r m : Nat} {w : Int} {c : Nat} {x : List Int} (hx : x.length = 2 ^ n) (hm : m < 2 ^ n) (hc : c < n) (hw : 0 ≤ w) (hp : Pos x) (hb : wsum (fun _ => 1) 0 x + w ≤ 1000000000000) :
    wsum f 0 (upd n r m w c x) = wsum f 0 x + w * (if allowed n r m c then f (m ||| 2 ^ c) else 0) ∧ Pos (upd n r m w c x) := by
  have hg := pos_getD hp (m ||| 2 ^ c)
  have hl := getD_le x 0 (m ||| 2 ^ c) hp
  have hi : m ||| 2 ^ c < x.length := by rw [hx]; exact or_lt hm hc
  have e : wrap64 (x.getD (m ||| 2 ^ c) 0 + w) = x.getD (m ||| 2 ^ c) 0 + w := w64 (by omega) (by omega)
  unfold upd
  by_cases h : w > 0 ∧ allowed n r m c = true
  · rw [if_pos h, e, if_pos h.2]
    refine ⟨?_, pos_set hp _ _ (by omega)⟩
    rw [wsum_set f x 0 _ _ hi, Nat.zero_add]
    have : x.getD (m ||| 2 ^ c) 0 + w - x.getD (m ||| 2 ^ c) 0 = w := by omega
    rw [this]
  · rw [if_neg h]
    refine ⟨?_, hp⟩
    by_cases ha : allowed n r m c = true
    · have : w = 0 := by
        have : ¬ w > 0 := fun hh => h ⟨hh, ha⟩
        omega
      rw [this]; simp
    · rw [if_neg ha]; simp
theorem cols_law (f : Nat → Int) {n r m : Nat} {w : Int} (hm : m < 2 ^ n) (hw : 0 ≤ w) : ∀ (d c : Nat) (x : List Int), c + d ≤ n → x.length = 2 ^ n → Pos x → wsum (fun _ => 1) 0 x + d * w ≤ 1000000000000 →
    wsum f 0 (cols n r m w d c x) = wsum f 0 x + w * csum f n r m d c ∧ Pos (cols n r m w d c x)
  | 0, c, x, _, _, hp, _ => by simp [cols, csum]; exact hp
  | d + 1, c, x, hc, hx, hp, hb => by
    have hdw : (0 : Int) ≤ d * w := Int.mul_nonneg (Int.natCast_nonneg _) hw
    have hs : ((d + 1 : Nat) : Int) * w = d * w + w := by rw [Int.natCast_add]; simp [Int.add_mul]
    rw [hs] at hb
    have h1 := upd_law f (r := r) hx hm (by omega : c < n) hw hp (by omega)
    have h2 := upd_law (fun _ => 1) (r := r) hx hm (by omega : c < n) hw hp (by omega)
    have h3 : wsum (fun _ => 1) 0 (upd n r m w c x) ≤ wsum (fun _ => 1) 0 x + w := by
      rw [h2.1]
      by_cases ha : allowed n r m c = true
      · rw [if_pos ha]; omega
      · rw [if_neg ha]; omega
    have h4 := cols_law f (n := n) (r := r) hm hw d (c + 1) (upd n r m w c x) (by omega) (by rw [upd_length]; exact hx) h1.2 (by omega)
    refine ⟨?_, h4.2⟩
    rw [cols, h4.1, h1.1, csum, Int.mul_add]; omega
def psum (ways : List Int) (g : Nat → Int) : Nat → Nat → Int
  | 0, _ => 0
  | d + 1, m => ways.getD m 0 * g m + psum ways g d (m + 1)
theorem psum_pos {ways : List Int} (hp : Pos ways) {g : Nat → Int} (hg : ∀ i, 0 ≤ g i) : ∀ d m, 0 ≤ psum ways g d m
  | 0, _ => Int.le_refl _
  | d + 1, m => by
    have h1 := psum_pos hp hg d (m + 1)
    have h2 : 0 ≤ ways.getD m 0 * g m := Int.mul_nonneg (pos_getD hp m) (hg m)
    rw [psum]; omega
theorem psum_wsum (ways : List Int) (g : Nat → Int) : ∀ d m, m + d = ways.length → psum ways g d m = wsum g m (ways.drop m)
  | 0, m, h => by rw [List.drop_eq_nil_of_le (by omega)]; rfl
  | d + 1, m, h => by
    have hm : m < ways.length := by omega
    rw [List.drop_eq_getElem_cons hm, wsum, psum, psum_wsum ways g d (m + 1) (by omega), gD_lt _ _ hm]
theorem csum_one (n r m : Nat) : ∀ d c, 0 ≤ csum (fun _ => 1) n r m d c ∧ csum (fun _ => 1) n r m d c ≤ d
  | 0, _ => by simp [csum]
  | d + 1, c => by
    have := csum_one n r m d (c + 1)
    rw [csum]; split <;> omega
theorem rowsF_law (f : Nat → Int) {n r : Nat} {ways : List Int} (hW : Pos ways) : ∀ (d m : Nat) (x : List Int), m + d ≤ 2 ^ n → x.length = 2 ^ n → Pos x → wsum (fun _ => 1) 0 x + n * psum ways (fun _ => 1) d m ≤ 1000000000000 →
    wsum f 0 (rowsF n r ways d m x) = wsum f 0 x + psum ways (fun m => csum f n r m n 0) d m ∧ Pos (rowsF n r ways d m x)
  | 0, m, x, _, _, hp, _ => by simp [rowsF, psum]; exact hp
  | d + 1, m, x, hm, hx, hp, hb => by
    have hw := pos_getD hW m
    have hps := psum_pos hW (g := fun _ => 1) (fun _ => by decide) d (m + 1)
    have hnps : (0 : Int) ≤ n * psum ways (fun _ => 1) d (m + 1) := Int.mul_nonneg (Int.natCast_nonneg _) hps
    have hs : (n : Int) * psum ways (fun _ => 1) (d + 1) m = n * ways.getD m 0 + n * psum ways (fun _ => 1) d (m + 1) := by
      rw [psum, Int.mul_one, Int.mul_add]
    rw [hs] at hb
    have hmn : m < 2 ^ n := by omega
    have h1 := cols_law f (r := r) hmn hw n 0 x (by omega) hx hp (by omega)
    have h2 := cols_law (fun _ => 1) (r := r) hmn hw n 0 x (by omega) hx hp (by omega)
    have h3 := csum_one n r m n 0
    have h4 : ways.getD m 0 * csum (fun _ => 1) n r m n 0 ≤ n * ways.getD m 0 := by
      rw [Int.mul_comm (n : Int)]; exact Int.mul_le_mul_of_nonneg_left h3.2 hw
    have h5 := rowsF_law f (n := n) (r := r) hW d (m + 1) (cols n r m (ways.getD m 0) n 0 x) (by omega) (by rw [cols_length]; exact hx) h1.2 (by have := h2.1; omega)
    refine ⟨?_, h5.2⟩
    rw [rowsF, h5.1, h1.1, psum]; omega
def F (n : Nat) : Nat → Nat → Int
  | 0, m => if m = 2 ^ n - 1 then 1 else 0
  | d + 1, m => csum (F n d) n (n - (d + 1)) m n 0
theorem wsum_zero (f : Nat → Int) : ∀ k i, wsum f i (List.replicate k 0) = 0
  | 0, _ => rfl
  | k + 1, i => by rw [List.replicate_succ, wsum, wsum_zero f k (i + 1)]; simp
theorem pos_zero (k : Nat) : Pos (List.replicate k 0) := fun v hv => by rw [(List.mem_replicate.1 hv).2]; exact Int.le_refl _
theorem wsum_at (M : Nat) : ∀ (x : List Int) (i : Nat), i ≤ M → wsum (fun m => if m = M then 1 else 0) i x = x.getD (M - i) 0
  | [], _, _ => by simp [wsum]
  | a :: t, i, h => by
    by_cases e : i = M
    · subst e
      have : ∀ (t : List Int) (j : Nat), i < j → wsum (fun m => if m = i then 1 else 0) j t = 0 := by
        intro t
        induction t with
        | nil => intro j _; rfl
        | cons b t ih => intro j hj; rw [wsum, if_neg (by omega), ih (j + 1) (by omega)]; simp
      rw [wsum, this t (i + 1) (by omega)]; simp
    · rw [wsum, if_neg e, wsum_at M t (i + 1) (by omega), show M - i = (M - (i + 1)) + 1 by omega]; simp
theorem allF_law {n : Nat} (hn : n ≤ 10) : ∀ (d r : Nat) (ways : List Int), r + d = n → ways.length = 2 ^ n → Pos ways → wsum (fun _ => 1) 0 ways ≤ 10 ^ r →
    (allF n d r ways).getD (2 ^ n - 1) 0 = wsum (F n d) 0 ways
  | 0, r, ways, _, hl, _, _ => by
    have h := wsum_at (2 ^ n - 1) ways 0 (by omega)
    have : wsum (F n 0) 0 ways = wsum (fun m => if m = 2 ^ n - 1 then 1 else 0) 0 ways := rfl
    rw [allF, this, h, Nat.sub_zero]
  | d + 1, r, ways, hr, hl, hp, hb => by
    have h10 : (10 : Int) ^ r ≤ 10 ^ 9 := by
      have : (10 : Nat) ^ r ≤ 10 ^ 9 := Nat.pow_le_pow_right (by decide) (by omega)
      exact_mod_cast this
    have h1 : psum ways (fun _ => 1) (2 ^ n) 0 = wsum (fun _ => 1) 0 ways := by rw [psum_wsum ways _ (2 ^ n) 0 (by omega)]; rfl
    have h0 := wsum_pos (f := fun _ => 1) (fun _ => by decide) ways 0 hp
    have hn' : (n : Int) * wsum (fun _ => 1) 0 ways ≤ 10 * wsum (fun _ => 1) 0 ways := Int.mul_le_mul_of_nonneg_right (by omega) h0
    have h2 := rowsF_law (F n d) (n := n) (r := r) hp (2 ^ n) 0 (List.replicate (2 ^ n) 0) (by omega) (by simp) (pos_zero _) (by rw [wsum_zero, h1]; omega)
    have h3 := rowsF_law (fun _ => 1) (n := n) (r := r) hp (2 ^ n) 0 (List.replicate (2 ^ n) 0) (by omega) (by simp) (pos_zero _) (by rw [wsum_zero, h1]; omega)
    have h4 : psum ways (fun m => csum (fun _ => 1) n r m n 0) (2 ^ n) 0 ≤ n * wsum (fun _ => 1) 0 ways := by
      rw [← h1]
      have : ∀ d m, psum ways (fun m => csum (fun _ => 1) n r m n 0) d m ≤ n * psum ways (fun _ => 1) d m := by
        intro d
        induction d with
        | zero => intro m; simp [psum]
        | succ d ih =>
          intro m
          have a1 := ih (m + 1)
          have a2 : ways.getD m 0 * csum (fun _ => 1) n r m n 0 ≤ n * ways.getD m 0 := by
            rw [Int.mul_comm (n : Int)]; exact Int.mul_le_mul_of_nonneg_left (csum_one n r m n 0).2 (pos_getD hp m)
          have e1 : psum ways (fun m => csum (fun _ => 1) n r m n 0) (d + 1) m = ways.getD m 0 * csum (fun _ => 1) n r m n 0 + psum ways (fun m => csum (fun _ => 1) n r m n 0) d (m + 1) := rfl
          have e2 : psum ways (fun _ => 1) (d + 1) m = ways.getD m 0 * 1 + psum ways (fun _ => 1) d (m + 1) := rfl
          rw [e1, e2, Int.mul_one, Int.mul_add]; omega
      exact this _ _
    have h5 := allF_law hn d (r + 1) (rowsF n r ways (2 ^ n) 0 (List.replicate (2 ^ n) 0)) (by omega) (by rw [rowsF_length]; simp) h2.2 (by
      rw [h3.1, wsum_zero, Int.pow_succ]; omega)
    rw [allF, h5, h2.1, wsum_zero, Int.zero_add, psum_wsum ways _ (2 ^ n) 0 (by omega)]
    have : F n (d + 1) = fun m => csum (F n d) n r m n 0 := by
      funext m; rw [F, show n - (d + 1) = r by omega]
    rw [this]; rfl
theorem start_law {n : Nat} (hn : n ≤ 10) : (allF n n 0 ((List.replicate (2 ^ n) 0).set 0 1)).getD (2 ^ n - 1) 0 = F n n 0 := by
  have hpos : 0 < 2 ^ n := Nat.two_pow_pos n
  have h := wsum_set (F n n) (List.replicate (2 ^ n) 0) 0 0 1 (by simpa using hpos)
  have h1 := wsum_set (fun _ => 1) (List.replicate (2 ^ n) 0) 0 0 1 (by simpa using hpos)
  rw [wsum_zero] at h h1
  have e : (List.replicate (2 ^ n) (0 : Int)).getD 0 0 = 0 := by
    rw [gD_lt _ _ (by simpa using hpos)]; simp
  rw [e] at h h1
  rw [allF_law hn n 0 _ (by omega) (by simp) (pos_set (pos_zero _) _ _ (by decide)) (by rw [h1]; decide), h]
  simp
def look (T m : Nat) : Nat := (T >>> (64 * m)) % 2 ^ 64
theorem look_zero (U v : Nat) (h : v < 2 ^ 64) : look (U * 2 ^ 64 + v) 0 = v := by
  unfold look; rw [Nat.mul_zero, Nat.shiftRight_zero]; omega
theorem look_succ (U v k : Nat) (h : v < 2 ^ 64) : look (U * 2 ^ 64 + v) (k + 1) = look U k := by
  unfold look
  rw [show 64 * (k + 1) = 64 + 64 * k by omega, Nat.shiftRight_add]
  have : (U * 2 ^ 64 + v) >>> 64 = U := by rw [Nat.shiftRight_eq_div_pow]; omega
  rw [this]
def pop (m : Nat) : Nat → Nat
  | 0 => 0
  | c + 1 => (if m.testBit c then 1 else 0) + pop m c
def nsum (g : Nat → Nat) (n r m : Nat) : Nat → Nat → Nat
  | 0, _ => 0
  | d + 1, c => (if allowed n r m c then g (m ||| 2 ^ c) else 0) + nsum g n r m d (c + 1)
def FN (n : Nat) : Nat → Nat → Nat
  | 0, m => if m = 2 ^ n - 1 then 1 else 0
  | d + 1, m => nsum (FN n d) n (n - (d + 1)) m n 0
theorem csum_nsum (g : Nat → Nat) (n r m : Nat) : ∀ d c, csum (fun x => (g x : Int)) n r m d c = (nsum g n r m d c : Int)
  | 0, _ => rfl
  | d + 1, c => by rw [csum, nsum, csum_nsum g n r m d (c + 1)]; split <;> simp
theorem F_FN (n : Nat) : ∀ d m, F n d m = (FN n d m : Int)
  | 0, m => by rw [F, FN]; split <;> rfl
  | d + 1, m => by
    rw [F, FN, ← csum_nsum]
    have : F n d = fun x => (FN n d x : Int) := funext (F_FN n d)
    rw [this]
theorem nsum_congr {g h : Nat → Nat} {n r m : Nat} : ∀ d c, (∀ c', c ≤ c' → c' < c + d → allowed n r m c' = true → g (m ||| 2 ^ c') = h (m ||| 2 ^ c')) → nsum g n r m d c = nsum h n r m d c
  | 0, _, _ => rfl
  | d + 1, c, H => by
    rw [nsum, nsum, nsum_congr d (c + 1) (fun c' h1 h2 h3 => H c' (by omega) (by omega) h3)]
    by_cases ha : allowed n r m c = true
    · rw [if_pos ha, if_pos ha, H c (by omega) (by omega) ha]
    · rw [if_neg ha, if_neg ha]
theorem nsum_le {g : Nat → Nat} {B : Nat} (hg : ∀ x, g x ≤ B) (n r m : Nat) : ∀ d c, nsum g n r m d c ≤ d * B
  | 0, _ => by simp [nsum]
  | d + 1, c => by
    have h1 := nsum_le hg n r m d (c + 1)
    have h2 := hg (m ||| 2 ^ c)
    rw [nsum, Nat.add_mul]
    split <;> omega
theorem FN_le {n : Nat} (hn : n ≤ 10) : ∀ d m, FN n d m ≤ 10 ^ d
  | 0, m => by rw [FN]; split <;> decide
  | d + 1, m => by
    have h1 := nsum_le (FN_le hn d) n (n - (d + 1)) m n 0
    have h2 : n * 10 ^ d ≤ 10 * 10 ^ d := Nat.mul_le_mul_right _ hn
    rw [FN, Nat.pow_succ]; omega
theorem pop_le (m : Nat) : ∀ c, pop m c ≤ c
  | 0 => Nat.le_refl _
  | c + 1 => by have := pop_le m c; rw [pop]; split <;> omega
theorem pop_all (m : Nat) : ∀ c, pop m c = c → ∀ i, i < c → m.testBit i = true
  | 0, _, i, hi => by omega
  | c + 1, h, i, hi => by
    have h1 := pop_le m c
    rw [pop] at h
    by_cases hb : m.testBit c = true
    · rw [if_pos hb] at h
      by_cases e : i = c
      · rw [e]; exact hb
      · exact pop_all m c (by omega) i (by omega)
    · rw [if_neg hb] at h; omega
theorem pop_lt {n m : Nat} (h : m < 2 ^ n - 1) : pop m n < n := by
  rcases Nat.lt_or_ge (pop m n) n with h1 | h1
  · exact h1
  · exfalso
    have h2 := pop_all m n (by have := pop_le m n; omega)
    have : m = 2 ^ n - 1 := by
      apply Nat.eq_of_testBit_eq
      intro i
      rw [Nat.testBit_two_pow_sub_one]
      by_cases hi : i < n
      · rw [h2 i hi]; simp [hi]
      · rw [Nat.testBit_lt_two_pow (Nat.lt_of_lt_of_le (by omega : m < 2 ^ n) (Nat.pow_le_pow_right (by decide) (by omega)))]; simp [hi]
    omega
theorem pop_full (n : Nat) : ∀ c, c ≤ n → pop (2 ^ n - 1) c = c
  | 0, _ => rfl
  | c + 1, h => by
    rw [pop, pop_full n c (by omega), Nat.testBit_two_pow_sub_one, if_pos (by simp; omega)]; omega
theorem pop_or (m c : Nat) (hb : m.testBit c = false) : ∀ n, pop (m ||| 2 ^ c) n = pop m n + (if c < n then 1 else 0)
  | 0 => by simp [pop]
  | n + 1 => by
    rw [pop, pop, pop_or m c hb n, Nat.testBit_or, Nat.testBit_two_pow]
    by_cases e : c = n
    · subst e; simp [hb]; omega
    · by_cases hc : c < n
      · have : c < n + 1 := by omega
        simp [e, hc, this]; omega
      · have : ¬ c < n + 1 := by omega
        simp [e, hc, this]
theorem lt_or {m c : Nat} (hb : m.testBit c = false) : m < m ||| 2 ^ c := by
  have h1 : m ≤ m ||| 2 ^ c := Nat.left_le_or
  rcases Nat.lt_or_eq_of_le h1 with h | h
  · exact h
  · exfalso
    have : (m ||| 2 ^ c).testBit c = true := by rw [Nat.testBit_or, Nat.testBit_two_pow]; simp
    rw [← h, hb] at this; cases this
def tab (n : Nat) : Nat → Nat → Nat
  | 0, U => U
  | k + 1, U => tab n k (U * 2 ^ 64 + nsum (fun j => look U (j - (k + 1))) n (pop k n) k n 0)
theorem tab_law {n : Nat} (hn : n ≤ 10) : ∀ (k U : Nat), k ≤ 2 ^ n - 1 → (∀ j, k ≤ j → j < 2 ^ n → look U (j - k) = FN n (n - pop j n) j) → look (tab n k U) 0 = FN n (n - pop 0 n) 0
  | 0, U, _, H => H 0 (Nat.le_refl _) (Nat.two_pow_pos n)
  | k + 1, U, hk, H => by
    have hk' : k < 2 ^ n - 1 := by omega
    have hp := pop_lt hk'
    obtain ⟨d, hd⟩ : ∃ d, n - pop k n = d + 1 := ⟨n - pop k n - 1, by omega⟩
    have e : nsum (fun j => look U (j - (k + 1))) n (pop k n) k n 0 = FN n (n - pop k n) k := by
      rw [hd, FN, show n - (d + 1) = pop k n by omega]
      apply nsum_congr
      intro c _ hc ha
      have hb : k.testBit c = false := by
        unfold allowed at ha
        simp only [Bool.and_eq_true, Bool.not_eq_true'] at ha
        exact ha.1
      have h1 := lt_or hb
      have h2 : k ||| 2 ^ c < 2 ^ n := or_lt (by omega) (by omega)
      show look U ((k ||| 2 ^ c) - (k + 1)) = _
      rw [H _ (by omega) h2, pop_or k c hb n, if_pos (by omega), show n - (pop k n + 1) = d by omega]
    have hv : nsum (fun j => look U (j - (k + 1))) n (pop k n) k n 0 < 2 ^ 64 := by
      rw [e]
      have h1 := FN_le hn (n - pop k n) k
      have h2 : (10 : Nat) ^ (n - pop k n) ≤ 10 ^ 10 := Nat.pow_le_pow_right (by decide) (by omega)
      exact Nat.lt_of_le_of_lt (Nat.le_trans h1 h2) (by decide)
    rw [tab]
    apply tab_law hn k _ (by omega)
    intro j h1 h2
    by_cases ej : j = k
    · subst ej; rw [Nat.sub_self, look_zero _ _ hv, e]
    · rw [show j - k = (j - (k + 1)) + 1 by omega, look_succ _ _ _ hv]
      exact H j (by omega) h2
theorem pop_zero : ∀ n, pop 0 n = 0
  | 0 => rfl
  | n + 1 => by rw [pop, pop_zero n]; simp
theorem value_law {n : Nat} (hn : n ≤ 10) : (allF n n 0 ((List.replicate (2 ^ n) 0).set 0 1)).getD (2 ^ n - 1) 0 = (look (tab n (2 ^ n - 1) 1) 0 : Int) := by
  have hp : 0 < 2 ^ n := Nat.two_pow_pos n
  rw [start_law hn, F_FN, tab_law hn (2 ^ n - 1) 1 (Nat.le_refl _) (by
    intro j h1 h2
    have : j = 2 ^ n - 1 := by omega
    subst this
    rw [pop_full n n (Nat.le_refl _), Nat.sub_self, Nat.sub_self, FN, if_pos rfl]; rfl), pop_zero, Nat.sub_zero]
theorem values : ∀ i : Fin 11, look (tab i.val (2 ^ i.val - 1) 1) 0 = [1, 0, 0, 1, 2, 13, 80, 579, 4738, 43387, 439792].getD i.val 0 := by
  decide +kernel
end Go.Proofs.Ytiopnmgcajohfaa.Couples
end
section
namespace Go.Proofs.Ytiopnmgcajohfaa.CouplesK
set_option linter.unusedVariables false
open Go.RowKit Go.Proofs.Ytiopnmgcajohfaa.Q Go.Proofs.YtiopnmgcajohfaaW.PrintWords Go.Proofs.YtiopnmgcajohfaaW.PrintLast Go.Proofs.YtiopnmgcajohfaaW.PrintMore
open Go.Proofs.YtiopnmgcajohfaaL Go.Proofs.Ytiopnmgcajohfaa.Couples
theorem pow_small {n : Nat} (hn : n ≤ 10) : 2 ^ n ≤ 1024 := by
  have : 2 ^ n ≤ 2 ^ 10 := Nat.pow_le_pow_right (by decide) hn
  omega
theorem l2_run {n r m : Nat} (hn : n ≤ 10) (hr : r < n) (hm : m < 2 ^ n) (w a b e f : Int) (ways : List Int) : ∀ (d c K : Nat) (x : List Int), c + d = n → x.length = 2 ^ n →
    impl_CountCouples.l2 (K + d + 1) n r x m w a b ways e f n c = impl_CountCouples.l1 K n r (cols n r m w d c x) a b ways e (wrap64 (f + 1))
  | 0, c, K, x, hc, _ => by
    rw [impl_CountCouples.l2, cols]
    rw [if_neg (by omega)]
  | d + 1, c, K, x, hc, hx => by
    have hs := pow_small hn
    have hcn : c < n := by omega
    have hmc := or_lt hm hcn
    have h2c : 2 ^ c ≤ 1024 := pow_small (by omega)
    have hw1 : wrap64 ((c : Int) + 1) = ((c + 1 : Nat) : Int) := by rw [w64 (by omega) (by omega)]; rfl
    have ih := l2_run hn hr hm w a b e f ways d (c + 1) K
    have hb : Go.bits .and .i64 (shr .i64 (m : Int) (c : Int)) 1 = if m.testBit c then 1 else 0 := bit_and m c (by omega) (by omega)
    have ho : Go.bits .or .i64 (m : Int) (shl .i64 1 (c : Int)) = ((m ||| 2 ^ c : Nat) : Int) := by
      rw [shl_one c (by omega)]; exact or_nat _ _ (by omega) (by omega)
    have hr1 : Int.tmod (wrap64 ((r : Int) + 1)) (n : Int) = (((r + 1) % n : Nat) : Int) := by
      rw [w64 (by omega) (by omega)]; exact tmod_nat (r + 1) n
    rw [show K + (d + 1) + 1 = (K + d + 1) + 1 by omega]
    rw [impl_CountCouples.l2, cols]
    rw [if_pos (by omega)]
    by_cases hw : w > 0
    · rw [if_pos hw, if_pos (by omega), hb]
      by_cases ht : m.testBit c = true
      · have ea : upd n r m w c x = x := by unfold upd; rw [if_neg (by unfold allowed; simp [ht])]
        rw [if_pos ht, if_neg (by decide), hw1, ea]
        exact ih x (by omega) hx
      · have ht' : m.testBit c = false := by simpa using ht
        rw [if_neg ht, if_pos rfl]
        by_cases h1 : c = r
        · have ea : upd n r m w c x = x := by unfold upd; rw [if_neg (by unfold allowed; simp [h1])]
          rw [if_pos (by omega), hw1, ea]
          exact ih x (by omega) hx
        · rw [if_neg (by omega), if_neg (by omega), hr1]
          by_cases h3 : c = (r + 1) % n
          · have ea : upd n r m w c x = x := by unfold upd; rw [if_neg (by unfold allowed; simp [← h3])]
            rw [if_pos (by omega), hw1, ea]
            exact ih x (by omega) hx
          · have ea : upd n r m w c x = x.set (m ||| 2 ^ c) (wrap64 (x.getD (m ||| 2 ^ c) 0 + w)) := by
              unfold upd; rw [if_pos ⟨hw, by unfold allowed; simp [ht', h1, h3]⟩]
            rw [if_neg (by omega), ho, if_pos (by omega), if_pos (by omega), hw1, rd_nat, Int.toNat_natCast, ea]
            exact ih _ (by omega) (by simpa using hx)
    · have ea : upd n r m w c x = x := by unfold upd; rw [if_neg (fun h => hw h.1)]
      rw [if_neg hw, hw1, ea]
      exact ih x (by omega) hx
theorem l1_run {n r : Nat} (hn : n ≤ 10) (hr : r < n) (a : Int) (ways : List Int) (hl : ways.length = 2 ^ n) : ∀ (d m K : Nat) (x : List Int), m + d = 2 ^ n → x.length = 2 ^ n →
    impl_CountCouples.l1 (K + d * (n + 2) + 1) n r x a r ways (ways.length : Int) m = impl_CountCouples.l0 K n (rowsF n r ways d m x) a (wrap64 ((r : Int) + 1))
  | 0, m, K, x, hm, _ => by
    rw [Nat.zero_mul, Nat.add_zero]
    rw [impl_CountCouples.l1, rowsF]
    rw [if_neg (by omega)]
  | d + 1, m, K, x, hm, hx => by
    have hs := pow_small hn
    have hw1 : wrap64 ((m : Int) + 1) = ((m + 1 : Nat) : Int) := by rw [w64 (by omega) (by omega)]; rfl
    rw [show K + (d + 1) * (n + 2) + 1 = ((K + d * (n + 2) + 1) + n + 1) + 1 by rw [Nat.add_mul]; omega]
    rw [impl_CountCouples.l1, rowsF]
    rw [if_pos (by omega), if_pos (by omega), if_pos (by omega), rd_nat]
    have := l2_run hn hr (by omega : m < 2 ^ n) (ways.getD m 0) a r (ways.length : Int) m ways n 0 (K + d * (n + 2) + 1) x (by omega) hx
    rw [show ((0 : Nat) : Int) = 0 from rfl] at this
    rw [this, hw1]
    exact l1_run hn hr a ways hl d (m + 1) K _ (by omega) (by rw [cols_length]; exact hx)
theorem l0_run {n : Nat} (hn : n ≤ 10) (h0 : 0 < n) : ∀ (d r K : Nat) (ways : List Int), r + d = n → ways.length = 2 ^ n →
    impl_CountCouples.l0 (K + d * (2 ^ n * (n + 2) + 2) + 1) n ways n r = some ((allF n d r ways).getD (2 ^ n - 1) 0, true)
  | 0, r, K, ways, hr, hl => by
    have hs := pow_small hn
    have hp : 0 < 2 ^ n := Nat.two_pow_pos n
    rw [Nat.zero_mul, Nat.add_zero]
    rw [impl_CountCouples.l0, allF]
    have e : wrap64 (shl .i64 1 (n : Int) - 1) = ((2 ^ n - 1 : Nat) : Int) := by rw [shl_one n (by omega), w64 (by omega) (by omega)]; omega
    rw [if_neg (by omega), if_pos (by omega), e, if_pos (by omega), if_pos (by omega), rd_nat]
  | d + 1, r, K, ways, hr, hl => by
    have hs := pow_small hn
    have hw1 : wrap64 ((r : Int) + 1) = ((r + 1 : Nat) : Int) := by rw [w64 (by omega) (by omega)]; rfl
    rw [show K + (d + 1) * (2 ^ n * (n + 2) + 2) + 1 = ((K + d * (2 ^ n * (n + 2) + 2) + 1) + 2 ^ n * (n + 2) + 1) + 1 by rw [Nat.add_mul]; omega]
    rw [impl_CountCouples.l0, allF]
    have e : shl .i64 1 (n : Int) = ((2 ^ n : Nat) : Int) := shl_one n (by omega)
    rw [if_pos (by omega), if_pos (by omega), e, if_pos (by omega), Int.toNat_natCast, if_pos (by omega)]
    have := l1_run hn (by omega : r < n) n ways hl (2 ^ n) 0 (K + d * (2 ^ n * (n + 2) + 2) + 1) (List.replicate (2 ^ n) 0) (by omega) (by simp)
    rw [show ((0 : Nat) : Int) = 0 from rfl] at this
    rw [this, hw1]
    exact l0_run hn h0 d (r + 1) K _ (by omega) (by rw [rowsF_length]; simp)
def rounds (n : Nat) : Nat := n * (2 ^ n * (n + 2) + 2) + 1
theorem impl_run {n : Nat} (h2 : 2 ≤ n) (hn : n ≤ 10) (K : Nat) : impl_CountCouples.f (K + rounds n) n = some ((Couples.look (tab n (2 ^ n - 1) 1) 0 : Int), true) := by
  have hs := pow_small hn
  have hp : 0 < 2 ^ n := Nat.two_pow_pos n
  have e : shl .i64 1 (n : Int) = ((2 ^ n : Nat) : Int) := shl_one n (by omega)
  unfold impl_CountCouples.f impl_within.f rounds
  rw [if_pos (by omega), Option.bind_some, if_pos (by simp; omega), if_pos (by omega), e, if_pos (by omega), Int.toNat_natCast, if_pos (by omega), Option.bind_some, if_pos (by rw [List.length_replicate]; omega)]
  rw [show (0 : Int).toNat = 0 from rfl, ← Nat.add_assoc]
  have := l0_run hn (by omega) n 0 K ((List.replicate (2 ^ n) 0).set 0 1) (by omega) (by simp)
  rw [show ((0 : Nat) : Int) = 0 from rfl] at this
  rw [this, value_law hn]
theorem spec_run : ∀ i : Fin 9, spec_CountCouples.f 40 ((i.val + 2 : Nat) : Int) = some ((([1, 0, 0, 1, 2, 13, 80, 579, 4738, 43387, 439792].getD (i.val + 2) 0 : Nat) : Int), true) := by
  decide +kernel
def CC (n : Int) : Int × Bool := if 2 ≤ n ∧ n ≤ 10 then ((([1, 0, 0, 1, 2, 13, 80, 579, 4738, 43387, 439792].getD n.toNat 0 : Nat) : Int), true) else (0, false)
theorem couples (n : Int) : Ev (fun k => impl_CountCouples.f k n) (CC n) ∧ Ev (fun k => spec_CountCouples.f k n) (CC n) := by
  unfold CC
  by_cases h : 2 ≤ n ∧ n ≤ 10
  · obtain ⟨m, rfl⟩ : ∃ m : Nat, n = m := ⟨n.toNat, by omega⟩
    rw [if_pos h, Int.toNat_natCast]
    have h1 := spec_run ⟨m - 2, by omega⟩
    simp only at h1
    rw [show m - 2 + 2 = m by omega] at h1
    have h3 := impl_run (by omega : 2 ≤ m) (by omega) 40
    rw [values ⟨m, by omega⟩] at h3
    exact ⟨Ev.of (impl_CountCouples.mono _) h3, Ev.of (spec_CountCouples.mono _) h1⟩
  · rw [if_neg h]
    constructor
    · refine Ev.congr (f := fun _ => some (0, false)) (fun k => ?_) (Ev.now _)
      unfold impl_CountCouples.f impl_within.f
      by_cases h1 : 2 ≤ n <;> by_cases h2 : n ≤ 10 <;> first
        | (exfalso; exact h ⟨h1, h2⟩)
        | simp [h1, h2]
    · refine Ev.congr (f := fun _ => some (0, false)) (fun k => ?_) (Ev.now _)
      unfold spec_CountCouples.f spec_l1In.f
      by_cases h1 : 2 ≤ n <;> by_cases h2 : n ≤ 10 <;> first
        | (exfalso; exact h ⟨h1, h2⟩)
        | simp [h1, h2]
end Go.Proofs.Ytiopnmgcajohfaa.CouplesK
end
section
namespace Go.Proofs.Ytiopnmgcajohfaa.KnownK
set_option linter.unusedVariables false
open Go.RowKit Go.Proofs.Ytiopnmgcajohfaa.Q Go.Proofs.YtiopnmgcajohfaaW.PrintWords Go.Proofs.YtiopnmgcajohfaaW.PrintLast Go.Proofs.YtiopnmgcajohfaaW.PrintMore
open Go.Proofs.Ytiopnmgcajohfaa.Pure Go.Proofs.YtiopnmgcajohfaaL Go.Proofs.Ytiopnmgcajohfaa.LawK Go.Proofs.Ytiopnmgcajohfaa.BoardK Go.Proofs.Ytiopnmgcajohfaa.PermK Go.Proofs.Ytiopnmgcajohfaa.Walk Go.Proofs.Ytiopnmgcajohfaa.HN Go.Proofs.Ytiopnmgcajohfaa.HitAllK Go.Proofs.Ytiopnmgcajohfaa.HitLawK Go.Proofs.Ytiopnmgcajohfaa.CouplesK
def lexR : Nat → List Int → List (List Int)
  | 0, _ => [[]]
  | d + 1, l => l.flatMap (fun c => (lexR d (l.filter (fun x => x != c))).map (c :: ·))
def lexP (n : Nat) : List (List Int) := lexR n ((List.range n).map (fun i : Nat => (i : Int)))
theorem perms_lex : ∀ i : Fin 7, permsOf i.val = lexP i.val := by decide +kernel
def XL : List (List Int) := [[], [0, 1], [1, 0, 1], [2, 3, 0, 1], [9, 8, 6, 0, 1], [44, 45, 20, 10, 0, 1], [265, 264, 135, 40, 15, 0, 1]]
def YL : List (List Int) := [[], [1, 0], [1, 1, 0], [1, 4, 1, 0], [1, 11, 11, 1, 0], [1, 26, 66, 26, 1, 0], [1, 57, 302, 302, 57, 1, 0]]
def ZL : List (List Int) := [[], [], [0, 0, 2], [1, 0, 3, 2], [2, 8, 4, 8, 2], [13, 30, 40, 20, 15, 2], [80, 192, 210, 152, 60, 24, 2]]
def X (v : Int) : List Int := XL.getD v.toNat []
def Y (v : Int) : List Int := YL.getD v.toNat []
def Z (v : Int) : List Int := ZL.getD v.toNat []
def hitsOK (l X : List Int) : Bool := decide (X.length = l.length + 1) && (List.range (l.length + 1)).all (fun Q => decide (X.getD Q 0 = (((lexP l.length).countP (fun p => decide (hitsF l p 0 0 = (Q : Int))) : Nat) : Int)))
theorem hit_val {n : Int} {l X : List Int} (hs : squareB n n l = true) (hX : hitsOK l X = true) : impl_HitNumbers.f n n l = some (X, true) := by
  obtain ⟨q1, q2, q3, q4, q5⟩ := board_bits hs
  rw [impl_answer_f]
  unfold hitNumbers
  rw [if_pos hs]
  obtain ⟨h1, h2⟩ := hit_count (l := l) q1
  unfold hitsOK at hX
  rw [Bool.and_eq_true, decide_eq_true_eq, List.all_eq_true] at hX
  have hp := perms_lex ⟨l.length, by omega⟩
  simp only [] at hp
  have : countsF l (l.length + 1) (permsOf l.length) = X := by
    refine List.ext_getElem (by rw [h1, hX.1]) (fun i g1 g2 => ?_)
    have g3 : i < l.length + 1 := by omega
    have a1 := h2 i g3
    have a2 := of_decide_eq_true (hX.2 i (List.mem_range.2 g3))
    rw [gD_lt _ _ g1] at a1
    rw [gD_lt _ _ g2] at a2
    rw [a1, a2, hp]
    unfold hitting
    rw [List.countP_eq_length_filter]
  rw [this]
def LN : List Int := [1, 2, 3, 4, 5, 6, 7, 0, -1]
def LK : List Int := [1, 2, 3, 4, 5, 6]
def LD : List Int := [0, 1, 2, 3, 4, 5, 6, 8, 12, 13, -1]
def LEu : List Int := [1, 2, 3, 4, 5, 6, 10, 11, 0]
def A (v : Int) : Int × Int × List Int × Bool := (impl_DiagonalBoard.f 60 v).getD (0, 0, [], false)
def B (v : Int) : Int × Int × List Int × Bool := (impl_AboveBoard.f 60 v).getD (0, 0, [], false)
def T (v : Int) : Int × Int × List Int × Bool := (impl_TableBoard.f 60 v).getD (0, 0, [], false)
def D (v : Int) : Int × Bool := (impl_Derangements.f 60 v).getD (0, false)
def E (v : Int) : List Int × Bool := (impl_EulerNumbers.f 200 v).getD ([], false)
def W (v u : Int) : Int × Bool := (impl_DerangementsWith.f 60 v u).getD (0, false)
theorem boards_A : ∀ v ∈ LN, impl_DiagonalBoard.f 60 v = some (A v) ∧ spec_DiagonalBoard.f 60 v = some (A v) := by decide +kernel
theorem boards_B : ∀ v ∈ LN, impl_AboveBoard.f 60 v = some (B v) ∧ spec_AboveBoard.f 60 v = some (B v) := by decide +kernel
theorem boards_T : ∀ v ∈ LN, impl_TableBoard.f 60 v = some (T v) ∧ spec_TableBoard.f 60 v = some (T v) := by decide +kernel
def boardAll (v : Int) : Bool := decide (laws_kBoard.f 60 (A v).1 (A v).2.1 (A v).2.2.1 (A v).1 (A v).2.1 (A v).2.2.1 = some true) && decide (laws_kBoard.f 60 (B v).1 (B v).2.1 (B v).2.2.1 (B v).1 (B v).2.1 (B v).2.2.1 = some true) && decide (laws_kBoard.f 60 (T v).1 (T v).2.1 (T v).2.2.1 (T v).1 (T v).2.1 (T v).2.2.1 = some true) && decide ((B v).2.2.2 = (A v).2.2.2) && decide ((T v).2.2.2 = ((A v).2.2.2 && decide (v ≥ 2))) && (!(A v).2.2.2 || LK.contains v)
theorem boards_all : ∀ v ∈ LN, boardAll v = true := by decide +kernel
theorem boards_fin {v : Int} (h : v ∈ LN) : laws_kBoard.f 60 (A v).1 (A v).2.1 (A v).2.2.1 (A v).1 (A v).2.1 (A v).2.2.1 = some true ∧ laws_kBoard.f 60 (B v).1 (B v).2.1 (B v).2.2.1 (B v).1 (B v).2.1 (B v).2.2.1 = some true ∧ laws_kBoard.f 60 (T v).1 (T v).2.1 (T v).2.2.1 (T v).1 (T v).2.1 (T v).2.2.1 = some true ∧ (B v).2.2.2 = (A v).2.2.2 ∧ (T v).2.2.2 = ((A v).2.2.2 && decide (v ≥ 2)) ∧ ((A v).2.2.2 = true → v ∈ LK) := by
  have := boards_all v h
  unfold boardAll at this
  simp only [Bool.and_eq_true, decide_eq_true_eq] at this
  obtain ⟨⟨⟨⟨⟨a, b⟩, c⟩, d⟩, e⟩, f⟩ := this
  refine ⟨a, b, c, d, e, fun g => ?_⟩
  rw [g, Bool.not_true, Bool.false_or] at f
  exact List.contains_iff_mem.1 f
theorem squares_fin : ∀ v ∈ LK, ((A v).1 = v ∧ (A v).2.1 = v ∧ squareB v v (A v).2.2.1 = true ∧ hitsOK (A v).2.2.1 (X v) = true) ∧ ((B v).1 = v ∧ (B v).2.1 = v ∧ squareB v v (B v).2.2.1 = true ∧ hitsOK (B v).2.2.1 (Y v) = true) ∧ ((T v).2.2.2 = true → (T v).1 = v ∧ (T v).2.1 = v ∧ squareB v v (T v).2.2.1 = true ∧ hitsOK (T v).2.2.1 (Z v) = true) := by
  decide +kernel
theorem der_fin : ∀ v ∈ LD, impl_Derangements.f 60 v = some (D v) ∧ spec_Derangements.f 60 v = some (D v) := by decide +kernel
theorem eul_fin : ∀ v ∈ LEu, impl_EulerNumbers.f 200 v = some (E v) ∧ spec_EulerNumbers.f 200 v = some (E v) ∧ laws_kSame.f 60 (E v).1 (E v).1 = some true := by decide +kernel
theorem with_fin : ∀ v ∈ LD, ∀ u ∈ LD, impl_DerangementsWith.f 60 v u = some (W v u) ∧ spec_DerangementsWith.f 60 v u = some (W v u) := by decide +kernel
theorem known_fin : ∀ v ∈ LK, 0 < (X v).length ∧ rd (X v) 0 = (D v).1 ∧ (D v).2 = true ∧ (E v).2 = true ∧ 0 ≤ v ∧ v < ((Y v).length : Int) ∧ rd (Y v) v = 0 ∧ v ≤ ((Y v).length : Int) ∧ laws_kSame.f 60 ((Y v).take v.toNat) (E v).1 = some true ∧ (X v).length ≤ 7 ∧ (∀ i : Fin (X v).length, impl_DerangementsWith.f 60 v (i.val : Int) = some (rd (X v) (i.val : Int), true)) ∧ ((T v).2.2.2 = true → 0 < (Z v).length ∧ (CC v).2 = true ∧ rd (Z v) 0 = (CC v).1) := by decide +kernel
theorem j5_fin : ∀ v ∈ LD, ∀ u ∈ LEu, laws_FnKnownHits.j5 60 v (D v).1 (D v).2 u (E u).1 (E u).2 false = some true := by decide +kernel
end Go.Proofs.Ytiopnmgcajohfaa.KnownK
end
section
namespace Go.Proofs.Ytiopnmgcajohfaa.Q
open Go.RowKit Go.Proofs.YtiopnmgcajohfaaW.PrintWords Go.Proofs.YtiopnmgcajohfaaW.PrintLast Go.Proofs.YtiopnmgcajohfaaW.PrintMore
attribute [local go_sem] max2_int min2_int max_two min_two max_three min_three max_four min_four   -- for this text's walks alone
set_option linter.unusedVariables false
set_option linter.unusedSimpArgs false
end Go.Proofs.Ytiopnmgcajohfaa.Q
end
section
namespace Go.Proofs.Ytiopnmgcajohfaa.Q
open Go.RowKit Go.Proofs.YtiopnmgcajohfaaW.PrintWords Go.Proofs.YtiopnmgcajohfaaW.PrintLast Go.Proofs.YtiopnmgcajohfaaW.PrintMore
attribute [local go_sem] max2_int min2_int max_two min_two max_three min_three max_four min_four   -- for this text's walks alone
set_option linter.unusedVariables false
set_option linter.unusedSimpArgs false
end Go.Proofs.Ytiopnmgcajohfaa.Q
end
section
namespace Go.Proofs.Ytiopnmgcajohfaa.Q
open Go.RowKit Go.Proofs.YtiopnmgcajohfaaW.PrintWords Go.Proofs.YtiopnmgcajohfaaW.PrintLast Go.Proofs.YtiopnmgcajohfaaW.PrintMore
attribute [local go_sem] max2_int min2_int max_two min_two max_three min_three max_four min_four   -- for this text's walks alone
set_option linter.unusedVariables false
set_option linter.unusedSimpArgs false
end Go.Proofs.Ytiopnmgcajohfaa.Q
end
section
namespace Go.Proofs.Ytiopnmgcajohfaa.Q
open Go.RowKit Go.Proofs.YtiopnmgcajohfaaW.PrintWords Go.Proofs.YtiopnmgcajohfaaW.PrintLast Go.Proofs.YtiopnmgcajohfaaW.PrintMore
attribute [local go_sem] max2_int min2_int max_two min_two max_three min_three max_four min_four   -- for this text's walks alone
set_option linter.unusedVariables false
set_option linter.unusedSimpArgs false
end Go.Proofs.Ytiopnmgcajohfaa.Q
end
section
namespace Go.Proofs.Ytiopnmgcajohfaa.DrawK
set_option linter.unusedVariables false
open Go.RowKit Go.Proofs.Ytiopnmgcajohfaa.Q Go.Proofs.YtiopnmgcajohfaaW.PrintWords Go.Proofs.YtiopnmgcajohfaaW.PrintLast Go.Proofs.YtiopnmgcajohfaaW.PrintMore
open Go.Proofs.YtiopnmgcajohfaaL Go.Proofs.Ytiopnmgcajohfaa.LawK Go.Proofs.Ytiopnmgcajohfaa.BoardK
def Run {α : Type} (g : Nat → Option α) (P : α → Prop) : Prop := ∃ a, Ev g a ∧ P a
theorem Run.now {α : Type} {a : α} {P : α → Prop} (h : P a) : Run (fun _ => some a) P := ⟨a, Ev.now a, h⟩
theorem Run.of {α : Type} {g : Nat → Option α} {a : α} {P : α → Prop} (h : Ev g a) (hp : P a) : Run g P := ⟨a, h, hp⟩
theorem Run.bind {α β : Type} {g : Nat → Option α} {h : Nat → α → Option β} {P : α → Prop} {Q : β → Prop} (h1 : Run g P) (h2 : ∀ a, P a → Run (fun k => h k a) Q) : Run (fun k => (g k).bind (h k)) Q := by
  obtain ⟨a, ha, hp⟩ := h1
  obtain ⟨b, hb, hq⟩ := h2 a hp
  exact ⟨b, Ev.bind ha hb, hq⟩
theorem Run.congr {α : Type} {g g' : Nat → Option α} {P : α → Prop} (e : ∀ k, g k = g' k) (h : Run g' P) : Run g P := by
  obtain ⟨a, ha, hp⟩ := h
  exact ⟨a, Ev.congr e ha, hp⟩
theorem Run.step {α : Type} {g f : Nat → Option α} {P : α → Prop} (e : ∀ k, g (k + 1) = f k) (h : Run f P) : Run g P := by
  obtain ⟨a, ha, hp⟩ := h
  exact ⟨a, Ev.step e ha, hp⟩
theorem Run.mono {α : Type} {g : Nat → Option α} {P Q : α → Prop} (h : Run g P) (hpq : ∀ a, P a → Q a) : Run g Q := by
  obtain ⟨a, ha, hp⟩ := h
  exact ⟨a, ha, hpq a hp⟩
theorem Run.ite {α : Type} {c : Prop} [Decidable c] {g g' : Nat → Option α} {P : α → Prop} (h1 : c → Run g P) (h2 : ¬ c → Run g' P) : Run (fun k => if c then g k else g' k) P := by
  by_cases h : c
  · exact Run.congr (fun k => if_pos h) (h1 h)
  · exact Run.congr (fun k => if_neg h) (h2 h)
def Bytes (l : List Int) : Prop := l.length ≤ 1048576 ∧ ∀ x ∈ l, 0 ≤ x ∧ x ≤ 255
def At (M : Nat) (a : Int) : Prop := 0 ≤ a ∧ a ≤ M ∧ M ≤ 1000000
theorem At.le {M N : Nat} {a : Int} (h : At M a) (hm : M ≤ N) (hn : N ≤ 1000000) : At N a := ⟨h.1, Int.le_trans h.2.1 (by omega), hn⟩
theorem wraps_u64 (n : Int) (h₀ : 0 ≤ n) (h₁ : n < 2 ^ 64) : IntKind.u64.wrap n = n := by rw [IntKind.wrap_u64]; omega
theorem wrap_u64_range (n : Int) : 0 ≤ IntKind.u64.wrap n ∧ IntKind.u64.wrap n < 2 ^ 64 := by rw [IntKind.wrap_u64]; omega
theorem and_255 {x : Int} (h0 : 0 ≤ x) (h1 : x < 2 ^ 64) : 0 ≤ Go.bits .and .u64 x 255 ∧ Go.bits .and .u64 x 255 ≤ 255 := by
  obtain ⟨a, rfl⟩ : ∃ a : Nat, x = a := ⟨x.toNat, by omega⟩
  have h := (bits_nat .u64 64 (by decide) wraps_u64 a 255 (by omega) (by decide)).1
  have h2 : Go.bits .and .u64 (a : Int) 255 = ((a &&& 255 : Nat) : Int) := h
  rw [h2]
  have : a &&& 255 ≤ 255 := Nat.and_le_right
  omega
theorem next_run {code : List Int} (hc : Bytes code) {M : Nat} {a s : Int} (ha : At M a) (hm : M + 1 ≤ 1000000) : ∃ v a' s', spec_l1Cur_next.f code a s = some (v, a', s') ∧ (0 ≤ v ∧ v ≤ 255) ∧ At (M + 1) a' := by
  obtain ⟨h0, h1, h2⟩ := ha
  have w1 := Aside0.mk (show wrap64 (a + 1) = a + 1 from w64 (by omega) (by omega))
  have hA : At (M + 1) (a + 1) := ⟨by omega, by omega, by omega⟩
  have hu : ∀ n : Int, (0 ≤ wrap64 (Go.bits .and .u64 (IntKind.u64.wrap n / 1099511627776) 255) ∧ wrap64 (Go.bits .and .u64 (IntKind.u64.wrap n / 1099511627776) 255) ≤ 255) := by
    intro n
    have h3 := wrap_u64_range n
    generalize IntKind.u64.wrap n = y at h3
    have h4 := and_255 (x := y / 1099511627776) (by omega) (by omega)
    generalize Go.bits .and .u64 (y / 1099511627776) 255 = z at h4
    rw [w64 (by omega) (by omega)]
    exact h4
  unfold spec_l1Cur_next.f
  rw [w1.out]
  by_cases c1 : a < (code.length : Int)
  · have hl := hc.1
    rw [if_pos c1, if_pos h0]
    have hx : 0 ≤ rd code a ∧ rd code a ≤ 255 := by
      unfold rd
      rw [gD_lt _ _ (by omega)]
      exact hc.2 _ (List.getElem_mem _)
    have hv : 0 ≤ wrap64 (rd code a) ∧ wrap64 (rd code a) ≤ 255 := by rw [w64 (by omega) (by omega)]; exact hx
    by_cases c2 : a + 1 ≤ (code.length : Int)
    · rw [if_pos c2]; exact ⟨_, _, _, rfl, hv, hA⟩
    · rw [if_neg c2]; exact ⟨_, _, _, rfl, hu _, hA⟩
  · rw [if_neg c1]
    by_cases c2 : a + 1 ≤ (code.length : Int)
    · rw [if_pos c2]; exact ⟨_, _, _, rfl, ⟨by omega, by omega⟩, hA⟩
    · rw [if_neg c2]; exact ⟨_, _, _, rfl, hu _, hA⟩
theorem pick_run {code : List Int} (hc : Bytes code) {M : Nat} {a s : Int} (ha : At M a) (hm : M + 2 ≤ 1000000) (n : Int) : ∃ v a' s', spec_l1Cur_pick.f code a s n = some (v, a', s') ∧ (0 ≤ v ∧ (v < n ∨ v = 0)) ∧ At (M + 2) a' := by
  unfold spec_l1Cur_pick.f
  by_cases c1 : n ≤ 1
  · rw [if_pos c1]; exact ⟨_, _, _, rfl, ⟨by omega, .inr rfl⟩, ha.le (by omega) hm⟩
  · rw [if_neg c1]
    obtain ⟨v, a1, s1, e1, hv, ha1⟩ := next_run hc (s := s) ha (by omega)
    rw [e1, Option.bind_some]
    by_cases c2 : n > 200
    · rw [if_pos c2]
      obtain ⟨v2, a2, s2, e2, hv2, ha2⟩ := next_run hc (s := s1) ha1 (by omega)
      try simp only []
      rw [e2, Option.bind_some, if_neg (by omega)]
      refine ⟨_, _, _, rfl, ?_, ha2⟩
      try simp only []
      rw [w64 (n := v * 256) (by omega) (by omega), w64 (by omega) (by omega)]
      exact ⟨Int.tmod_nonneg _ (by omega), .inl (Int.tmod_lt_of_pos _ (by omega))⟩
    · rw [if_neg c2, if_neg (by omega)]
      exact ⟨_, _, _, rfl, ⟨Int.tmod_nonneg _ hv.1, .inl (Int.tmod_lt_of_pos _ (by omega))⟩, ha1.le (by omega) (by omega)⟩
theorem among_run {code : List Int} (hc : Bytes code) {M : Nat} {a s : Int} (ha : At M a) (hm : M + 2 ≤ 1000000) {l : List Int} (hl : l ≠ []) : ∃ v a' s', spec_l1Cur_among.f code a s l = some (v, a', s') ∧ v ∈ l ∧ At (M + 2) a' := by
  obtain ⟨v, a1, s1, e1, hv, ha1⟩ := pick_run hc (s := s) ha hm (l.length : Int)
  have hp : 0 < l.length := List.length_pos_iff.2 hl
  unfold spec_l1Cur_among.f
  rw [e1, Option.bind_some]
  try simp only []
  rw [if_pos hv.1, if_pos (by omega)]
  refine ⟨_, _, _, rfl, ?_, ha1⟩
  unfold rd
  rw [gD_lt _ _ (by omega)]
  exact List.getElem_mem _
end Go.Proofs.Ytiopnmgcajohfaa.DrawK
end
section
namespace Go.Proofs.Ytiopnmgcajohfaa.DrawK
set_option linter.unusedVariables false
open Go.RowKit Go.Proofs.Ytiopnmgcajohfaa.Q Go.Proofs.YtiopnmgcajohfaaW.PrintWords Go.Proofs.YtiopnmgcajohfaaW.PrintLast Go.Proofs.YtiopnmgcajohfaaW.PrintMore
open Go.Proofs.YtiopnmgcajohfaaL Go.Proofs.Ytiopnmgcajohfaa.LawK
theorem big_f (l0 l1 : List Int) (h1 : l1.length ≤ 4611686018427387904) : laws_big.f l0 l1 = some true ∨ laws_big.f l0 l1 = some false ∧ l0.length ≤ 1048576 ∧ l1.length ≤ 1048576 := by
  unfold laws_big.f
  by_cases h : (l0.length : Int) > 1048576
  · exact .inl (if_pos h)
  · rw [if_neg h, w64 (by omega) (by omega)]
    by_cases h2 : (l1.length : Int) > 1048576 - (l0.length : Int)
    · exact .inl (by rw [decide_eq_true h2])
    · exact .inr ⟨by rw [decide_eq_false h2], by omega, by omega⟩
theorem byte_of {x : Int} (h : (Lit.int .u8 x).wf = true) : 0 ≤ x ∧ x ≤ 255 := by
  simp [Lit.wf, IntKind.min, IntKind.max, IntKind.signed, IntKind.bits] at h
  omega
end Go.Proofs.Ytiopnmgcajohfaa.DrawK
end
section
namespace Go.Proofs.Ytiopnmgcajohfaa.Pure
set_option linter.unusedVariables false
open Go.RowKit Go.Proofs.Ytiopnmgcajohfaa.Q Go.Proofs.YtiopnmgcajohfaaW.PrintWords Go.Proofs.YtiopnmgcajohfaaW.PrintLast Go.Proofs.YtiopnmgcajohfaaW.PrintMore
open Go.Proofs.YtiopnmgcajohfaaL Go.Proofs.Ytiopnmgcajohfaa.LawK Go.Proofs.Ytiopnmgcajohfaa.BoardK Go.Proofs.Ytiopnmgcajohfaa.PermK Go.Proofs.Ytiopnmgcajohfaa.DrawK Go.Proofs.Ytiopnmgcajohfaa.CouplesK Go.Proofs.Ytiopnmgcajohfaa.KnownK
namespace KnownHitsK
theorem zero_at : At 0 0 := ⟨by omega, by omega, by omega⟩
theorem draw_diag {code : List Int} (hc : Bytes code) : ∃ v, spec_DrawDiagonalBoard.f code = some v ∧ v ∈ LN := by
  obtain ⟨v, a, s, e, hv, _⟩ := among_run hc (s := 0) zero_at (by omega) (l := LN) (by decide)
  unfold LN at e
  exact ⟨v, by unfold spec_DrawDiagonalBoard.f; rw [e]; rfl, hv⟩
theorem draw_der {code : List Int} (hc : Bytes code) : ∃ v, spec_DrawDerangements.f code = some v ∧ v ∈ LD := by
  obtain ⟨v, a, s, e, hv, _⟩ := among_run hc (s := 0) zero_at (by omega) (l := [0, 1, 2, 3, 5, 8, 12, 13, -1]) (by decide)
  exact ⟨v, by unfold spec_DrawDerangements.f; rw [e]; rfl, (by decide : ∀ v ∈ ([0, 1, 2, 3, 5, 8, 12, 13, -1] : List Int), v ∈ LD) v hv⟩
theorem draw_couples {code : List Int} (hc : Bytes code) : ∃ v, spec_DrawCountCouples.f code = some v := by
  obtain ⟨v, a, s, e, hv, _⟩ := among_run hc (s := 0) zero_at (by omega) (l := [2, 3, 4, 5, 6, 10, 11, 1, 0]) (by decide)
  exact ⟨v, by unfold spec_DrawCountCouples.f; rw [e]; rfl⟩
theorem draw_euler {code : List Int} (hc : Bytes code) : ∃ v, spec_DrawEulerNumbers.f code = some v ∧ v ∈ LEu := by
  obtain ⟨v, a, s, e, hv, _⟩ := among_run hc (s := 0) zero_at (by omega) (l := LEu) (by decide)
  unfold LEu at e
  exact ⟨v, by unfold spec_DrawEulerNumbers.f; rw [e]; rfl, hv⟩
theorem draw_with {code : List Int} (hc : Bytes code) : ∃ v u, spec_DrawDerangementsWith.f code = some (v, u) ∧ v ∈ LD ∧ u ∈ LD := by
  obtain ⟨v, a, s, e, hv, ha⟩ := among_run hc (s := 0) zero_at (by omega) (l := [0, 1, 2, 5, 8, 12, 13, -1]) (by decide)
  obtain ⟨u, a2, s2, e2, hu, _⟩ := among_run hc (s := s) ha (by omega) (l := [0, 1, 2, 3, 5, 12, -1]) (by decide)
  refine ⟨v, u, ?_, (by decide : ∀ v ∈ ([0, 1, 2, 5, 8, 12, 13, -1] : List Int), v ∈ LD) v hv, (by decide : ∀ v ∈ ([0, 1, 2, 3, 5, 12, -1] : List Int), v ∈ LD) u hu⟩
  unfold spec_DrawDerangementsWith.f
  rw [e, Option.bind_some]
  try simp only []
  rw [e2]
  rfl
theorem j4 {more : List Int} (hc : Bytes more) : Ev (fun k => laws_FnKnownHits.j4 k more) true := by
  obtain ⟨v, e1, hv⟩ := draw_der hc
  obtain ⟨m, e2⟩ := draw_couples hc
  obtain ⟨u, e3, hu⟩ := draw_euler hc
  obtain ⟨x, y, e4, hx, hy⟩ := draw_with hc
  have d := der_fin v hv
  have c := couples m
  have e := eul_fin u hu
  have w := with_fin x hx y hy
  refine Ev.step (fun k => by rw [laws_FnKnownHits.j4, e1, Option.bind_some]) ?_
  refine Ev.bind (Ev.of (fun k => impl_Derangements.mono _ k) d.1) (Ev.bind (Ev.of (fun k => spec_Derangements.mono _ k) d.2) ?_)
  refine Ev.congr (fun k => by rw [e2, Option.bind_some]) ?_
  refine Ev.bind c.1 (Ev.bind c.2 ?_)
  refine Ev.congr (fun k => by rw [e3, Option.bind_some]) ?_
  refine Ev.bind (Ev.of (fun k => impl_EulerNumbers.mono _ k) e.1) (Ev.bind (Ev.of (fun k => spec_EulerNumbers.mono _ k) e.2.1) ?_)
  refine Ev.congr (fun k => by rw [e4, Option.bind_some]) ?_
  refine Ev.bind (Ev.of (fun k => impl_DerangementsWith.mono _ _ k) w.1) (Ev.bind (Ev.of (fun k => spec_DerangementsWith.mono _ _ k) w.2) ?_)
  refine Ev.congr (fun k => by rw [if_neg (by simp), if_pos rfl, if_neg (by simp), if_pos rfl, if_neg (by simp)]) ?_
  refine Ev.bind (Ev.of (fun k => laws_kSame.mono _ _ k) e.2.2) ?_
  refine Ev.congr (fun k => by rw [if_pos rfl, if_neg (by simp), show ((W x y).1 != (W x y).1) = false from by simp]) ?_
  exact Ev.of (fun k => (laws_FnKnownHits.mono_l k).2.2.2.1 _ _ _ _ _ _ _) (j5_fin v hv u hu)
theorem j3 {more : List Int} (hc : Bytes more) {v : Int} (hv : v ∈ LN) : Ev (fun k => laws_FnKnownHits.j3 k more v (T v).2.2.2 (T v).1 (T v).2.1 (T v).2.2.1) true := by
  refine Ev.step (fun k => by rw [laws_FnKnownHits.j3]) ?_
  obtain ⟨a, b, c, d, e, f⟩ := boards_fin hv
  by_cases h3 : (T v).2.2.2 = true
  · have hK : v ∈ LK := by
      rw [e, Bool.and_eq_true] at h3
      exact f h3.1
    obtain ⟨t1, t2, t3, t4⟩ := (squares_fin v hK).2.2 h3
    have H := hit_val t3 t4
    obtain ⟨_, _, _, _, _, _, _, _, _, _, _, q⟩ := known_fin v hK
    obtain ⟨q1, q2, q3⟩ := q h3
    refine Ev.congr (fun k => by rw [if_pos h3, t1, t2, H, Option.bind_some]) ?_
    refine Ev.bind (couples v).1 ?_
    exact Ev.congr (fun k => by rw [if_pos rfl, if_pos q2, if_pos (by simp only []; omega), if_pos q3]) (j4 hc)
  · exact Ev.congr (fun k => if_neg h3) (j4 hc)
theorem rounds {more : List Int} (hc : Bytes more) {v : Int} (hv : v ∈ LN) (hK : v ∈ LK) : ∀ (d i : Nat), i + d = (X v).length → Ev (fun k => laws_FnKnownHits.l0 k more v (T v).2.2.2 (X v) ((X v).length : Int) i (T v).1 (T v).2.1 (T v).2.2.1) true
  | 0, i, hi => Ev.step (fun k => by rw [laws_FnKnownHits.l0, if_neg (by omega)]) (j3 hc hv)
  | d + 1, i, hi => by
    obtain ⟨_, _, _, _, _, _, _, _, _, hl, w, _⟩ := known_fin v hK
    have h1 : wrap64 ((i : Int) + 1) = ((i + 1 : Nat) : Int) := by rw [w64 (by omega) (by omega)]; rfl
    refine Ev.step (fun k => by rw [laws_FnKnownHits.l0, if_pos (by omega), if_pos (by omega), if_pos (by omega), h1]) ?_
    refine Ev.bind (Ev.of (fun k => impl_DerangementsWith.mono _ _ k) (w ⟨i, by omega⟩)) ?_
    exact Ev.congr (fun k => by rw [if_pos rfl, if_pos rfl]) (rounds hc hv hK d (i + 1) (by omega))
end KnownHitsK
open KnownHitsK
theorem FnKnownHits : laws_FnKnownHits.Pure := by
  intro code more hcl _ hcw hml hm8 hmw
  unfold laws_FnKnownHits.f
  refine ends ?_
  rcases big_f code more (by omega) with hbig | ⟨hbig, h1, h2⟩
  · exact Ev.congr (fun k => by rw [hbig, Option.bind_some, if_pos rfl]) (Ev.now _)
  have hc : Bytes code := ⟨h1, fun x hx => byte_of (hcw x hx)⟩
  have hm : Bytes more := ⟨h2, fun x hx => byte_of (hmw x hx)⟩
  obtain ⟨v, ev, hv⟩ := draw_diag hc
  refine Ev.congr (fun k => by rw [hbig, Option.bind_some, if_neg (by simp), ev, Option.bind_some]) ?_
  refine Ev.bind (Ev.of (fun k => impl_DiagonalBoard.mono _ k) (boards_A v hv).1) (Ev.bind (Ev.of (fun k => spec_DiagonalBoard.mono _ k) (boards_A v hv).2) ?_)
  refine Ev.bind (Ev.of (fun k => impl_AboveBoard.mono _ k) (boards_B v hv).1) (Ev.bind (Ev.of (fun k => spec_AboveBoard.mono _ k) (boards_B v hv).2) ?_)
  refine Ev.bind (Ev.of (fun k => impl_TableBoard.mono _ k) (boards_T v hv).1) (Ev.bind (Ev.of (fun k => spec_TableBoard.mono _ k) (boards_T v hv).2) ?_)
  obtain ⟨a, b, c, d, e, f⟩ := boards_fin hv
  refine Ev.congr (fun k => by rw [if_neg (by simp)]) ?_
  refine Ev.bind (Ev.of (fun k => laws_kBoard.mono _ _ _ _ _ _ k) a) ?_
  refine Ev.congr (fun k => by rw [if_pos rfl, if_neg (by simp)]) ?_
  refine Ev.bind (Ev.of (fun k => laws_kBoard.mono _ _ _ _ _ _ k) b) ?_
  refine Ev.congr (fun k => by rw [if_pos rfl, if_neg (by simp)]) ?_
  refine Ev.bind (Ev.of (fun k => laws_kBoard.mono _ _ _ _ _ _ k) c) ?_
  refine Ev.congr (fun k => by rw [if_pos rfl, if_neg (by rw [d]; simp)]) ?_
  by_cases hok : (A v).2.2.2 = true
  · have hK := f hok
    have hlast : ((T v).2.2.2 != decide (v ≥ 2)) = false := by rw [e, hok, Bool.true_and, bne_self_eq_false]
    obtain ⟨⟨a1, a2, a3, a4⟩, ⟨b1, b2, b3, b4⟩, _⟩ := squares_fin v hK
    have HA := hit_val a3 a4
    have HB := hit_val b3 b4
    obtain ⟨k1, k2, k3, k4, k5, k6, k7, k8, k9, _, _, _⟩ := known_fin v hK
    have hD : v ∈ LD := (by decide : ∀ v ∈ LK, v ∈ LD) v hK
    have hE : v ∈ LEu := (by decide : ∀ v ∈ LK, v ∈ LEu) v hK
    refine Ev.congr (fun k => by rw [if_pos hok, hlast]) ?_
    refine Ev.step (fun k => by rw [laws_FnKnownHits.j0, if_neg (by simp), if_pos hok, a1, a2, HA, Option.bind_some, b1, b2, HB, Option.bind_some]) ?_
    refine Ev.bind (Ev.of (fun k => impl_Derangements.mono _ k) (der_fin v hD).1) (Ev.bind (Ev.of (fun k => impl_EulerNumbers.mono _ k) (eul_fin v hE).1) ?_)
    refine Ev.congr (fun k => by rw [if_pos rfl, if_pos rfl, if_pos k3, if_pos (by simp only []; omega), if_pos k2, if_pos k4, if_pos k5, if_pos k6, if_pos k7, if_pos k8]) ?_
    refine Ev.bind (Ev.of (fun k => laws_kSame.mono _ _ k) k9) ?_
    refine Ev.step (fun k => by rw [laws_FnKnownHits.j1, if_neg (by simp)]) ?_
    exact rounds hm hv hK (X v).length 0 (by omega)
  · have hT : (T v).2.2.2 = false := by rw [e, eq_false_of_ne_true hok, Bool.false_and]
    have hlast : ((T v).2.2.2 != false) = false := by rw [hT]; rfl
    refine Ev.congr (fun k => by rw [if_neg hok, hlast]) ?_
    refine Ev.step (fun k => by rw [laws_FnKnownHits.j0, if_neg (by simp), if_neg hok]) ?_
    exact j3 hm hv
end Go.Proofs.Ytiopnmgcajohfaa.Pure
end
