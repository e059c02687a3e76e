/- The law's last texts put together: what the program and the reference answer, and the pure statement. No conditions. -/
import Derived.Test.YtiopnmgcajohfaaPermsK
import Derived.Test.YtiopnmgcajohfaaWalkPerms
import Derived.Deep.QuietTactic
import Derived.BigQuiet
import Derived.Test.YtiopnmgcajohfaaL
import Derived.Outline
import Derived.Laws.Cover3
import Derived.Lib.Hide
import Derived.Test.YtiopnmgcajohfaaQ0
import Derived.Test.YtiopnmgcajohfaaQimplBoardhits
import Derived.Test.YtiopnmgcajohfaaPerm
import Derived.Deep.RegionWith
import Derived.Deep.RegionLaw
import Derived.Test.YtiopnmgcajohfaaQimplisSquare
import Derived.Test.YtiopnmgcajohfaaHNK
import Derived.Test.YtiopnmgcajohfaaQspecl1In
import Derived.Test.YtiopnmgcajohfaaQspechiGood
import Derived.Test.YtiopnmgcajohfaaQspechiAll
import Derived.Test.YtiopnmgcajohfaaQspechiHits
import Derived.Test.YtiopnmgcajohfaaHitAll
import Derived.Test.YtiopnmgcajohfaaHeldSS
import Derived.Test.YtiopnmgcajohfaaBoard
import Derived.Test.YtiopnmgcajohfaaQlawsmarkBoard
import Derived.Deep.RegionHeld3
section
namespace Go.Proofs.Ytiopnmgcajohfaa.PermsPH
set_option linter.unusedVariables false
set_option linter.unusedSectionVars false
open Go.RowKit Go.Proofs.YtiopnmgcajohfaaW.PrintWords Go.Proofs.YtiopnmgcajohfaaW.PrintLast Go.Proofs.YtiopnmgcajohfaaW.PrintMore
open Go.Proofs.YtiopnmgcajohfaaL Go.Proofs.Ytiopnmgcajohfaa.LawK Go.Proofs.Ytiopnmgcajohfaa.BoardK Go.Proofs.Ytiopnmgcajohfaa.Walk Go.Proofs.Ytiopnmgcajohfaa.Q

section
variable (dd1 dd2 dd3 : Value) (R : Nat) (nI : Int) (hnI : nI = R) (a cp gn gf : Nat) (ps : List Int) (hps : ps.length = R) (hR : R ≤ 6) (hcp : R ≤ cp) (w : World) (hr : Kd.C (Kd.int .i64) w (some ⟨a, 0, none⟩) R ps)
  (hn : w.heap[gn]? = some (.cells #[.int .i64 nI] 3 (0, 0))) (hf : w.heap[gf]? = some (.cells #[.func (.func 95) #[] #[dd1, dd2, dd3]] 84 (0, 0)))
include hnI hps hR hcp hr hn hf
set_option maxHeartbeats 4000000 in
set_option maxRecDepth 100000 in
theorem perm1_skip (hk : rooksN ps ≠ R) : Calls Try.prog 140 #[.slice (some ⟨a, 0, none⟩) R cp, .pointer (some ⟨gn, 0, none⟩), .pointer (some ⟨gf, 0, none⟩)] w fun e w' => e = .returned (.bool true) ∧ Drawn0 w w' := by
  obtain ⟨kk, hrk⟩ := rooks_f (l := ps) (by omega)
  obtain ⟨rk, hrk2⟩ : ∃ rk : Int, rk = (rooksN ps : Int) := ⟨_, rfl⟩
  rw [← hrk2] at hrk
  have c1 : (rk == nI) = false := beq_eq_false_iff_ne.mpr (by omega)
  have z1 : w.cell? ⟨gn, 0, none⟩ = some (.int .i64 nI) := (blk_cell hn 0).trans rfl
  have A1 := Aside0.mk hrk
  have HR := Aside0.mk hr
  have HP := Aside0.mk hps
  have HC := Aside0.mk hcp
  have CC : ∀ q, Calls Try.prog 141 #[.slice (some ⟨a, 0, none⟩) R cp] (w.drewN q) fun e w'' => e = .returned (.int .i64 rk) ∧ ∃ m, w'' = w.drewN m := by
    intro q
    have hh := impl_rooks.calls kk (some ⟨a, 0, none⟩) cp ps rk (w.drewN q) (by rw [HP.out]; exact Kd.C_drewN HR.out q) (by rw [HP.out]; exact HC.out) A1.out
    rw [HP.out] at hh
    exact Calls.quiet_of (hh.mono (by rintro e w' ⟨rfl, ⟨m, rfl⟩⟩; exact ⟨rfl, m, rfl⟩))
  have CX := Lib.hid CC
  clear CC hrk hrk2 hn hf hps hr hk hnI hR hcp
  go_enter Try.func140, Try.ntmps140
  go_wp2
  go_quiet ((go_at_call 141; exact CX.out _))
  go_wp2
  go_ret
  exact ⟨rfl, by repeat (first | exact Drawn0.refl _ | apply Drawn0.step)⟩
set_option maxHeartbeats 4000000 in
set_option maxRecDepth 100000 in
theorem perm1_do (hk : rooksN ps = R) (X : World → Prop) (hdo : ∀ q, Calls Try.prog 95 #[.slice (some ⟨a, 0, none⟩) R cp, dd1, dd2, dd3] (w.drewN q) fun e w' => e = .returned (.tuple #[]) ∧ X w') :
    Calls Try.prog 140 #[.slice (some ⟨a, 0, none⟩) R cp, .pointer (some ⟨gn, 0, none⟩), .pointer (some ⟨gf, 0, none⟩)] w fun e w' => e = .returned (.bool true) ∧ X w' := by
  obtain ⟨kk, hrk⟩ := rooks_f (l := ps) (by omega)
  obtain ⟨rk, hrk2⟩ : ∃ rk : Int, rk = (rooksN ps : Int) := ⟨_, rfl⟩
  rw [← hrk2] at hrk
  have c1 : (rk == nI) = true := beq_iff_eq.mpr (by omega)
  have z1 : w.cell? ⟨gn, 0, none⟩ = some (.int .i64 nI) := (blk_cell hn 0).trans rfl
  have z2 : w.cell? ⟨gf, 0, none⟩ = some (.func (.func 95) #[] #[dd1, dd2, dd3]) := (blk_cell hf 0).trans rfl
  have A1 := Aside0.mk hrk
  have HR := Aside0.mk hr
  have HP := Aside0.mk hps
  have HC := Aside0.mk hcp
  have CC : ∀ q, Calls Try.prog 141 #[.slice (some ⟨a, 0, none⟩) R cp] (w.drewN q) fun e w'' => e = .returned (.int .i64 rk) ∧ ∃ m, w'' = w.drewN m := by
    intro q
    have hh := impl_rooks.calls kk (some ⟨a, 0, none⟩) cp ps rk (w.drewN q) (by rw [HP.out]; exact Kd.C_drewN HR.out q) (by rw [HP.out]; exact HC.out) A1.out
    rw [HP.out] at hh
    exact Calls.quiet_of (hh.mono (by rintro e w' ⟨rfl, ⟨m, rfl⟩⟩; exact ⟨rfl, m, rfl⟩))
  have CX := Lib.hid CC
  have DX := Lib.hid hdo
  clear CC hrk hrk2 hn hf hps hr hk hnI hR hcp hdo
  go_enter Try.func140, Try.ntmps140
  go_wp2
  go_quiet ((go_at_call 141; exact CX.out _))
  go_wp2_with (first | (go_at_call 95; (refine (DX.out _).mono ?_); rintro e w2 ⟨rfl, hx⟩))
  go_ret
  exact ⟨rfl, hx⟩
end
section
variable (dd1 dd2 dd3 : Value) (R : Nat) (nI : Int) (hnI : nI = R) (h1R : 1 ≤ R) (hR : R ≤ 6) (base : Nat)
  (Inv : (Nat → Prop) → List (List Int) → World → Prop) (hI : ∀ S vis w w', Inv S vis w → Still S w w' → Inv S vis w') (w0 : World)
  (h0 : ∀ S w, (∀ i, S i → w0.heap.size ≤ i) → Below w0.heap.size w0 w → Inv S [] w)
  (hdo : ∀ S vis ps w a cp, (∀ i, S i → w0.heap.size ≤ i) → (∀ i, S i → i < w.heap.size) → ps.length = R → (∃ b, permsOf R = vis ++ ps :: b) → S a → Kd.C (Kd.int .i64) w (some ⟨a, 0, none⟩) R ps → R ≤ cp → Inv S vis w →
    Calls Try.prog 95 #[.slice (some ⟨a, 0, none⟩) R cp, dd1, dd2, dd3] w fun e w' => e = .returned (.tuple #[]) ∧ Inv S (vis ++ [ps]) w' ∧ (∀ i, S i → i < w.heap.size → w'.heap[i]? = w.heap[i]?))
include hnI h1R hR hI h0 hdo
theorem perms_walk (gn gf gl cl : Nat) (W : World) (hB : Below w0.heap.size w0 W) (bn : w0.heap.size ≤ gn) (bf : w0.heap.size ≤ gf) (bl : w0.heap.size ≤ gl)
    (hn : W.heap[gn]? = some (.cells #[.int .i64 nI] 3 (0, 0))) (hf : W.heap[gf]? = some (.cells #[.func (.func 95) #[] #[dd1, dd2, dd3]] 84 (0, 0)))
    (hl : Kd.R (Kd.int .i64) 3 W 0 (fun i => i = gl) (.slice (some ⟨gl, 0, none⟩) R cl) (fullRows R)) :
    Calls Try.prog 139 #[.agg #[.int .i64 nI, .int .i64 nI, .slice (some ⟨gl, 0, none⟩) R cl], .func (.func 140) #[] #[.pointer (some ⟨gn, 0, none⟩), .pointer (some ⟨gf, 0, none⟩)]] W
      fun e w' => e = .returned (.tuple #[]) ∧ ∃ S, (∀ i, S i → w0.heap.size ≤ i) ∧ Inv S (permsOf R) w' := by
  have fl : (fullRows R).length = R := by simp [fullRows]
  have hcl : R ≤ cl := (Kd.R_reads' hl).2.1
  have lgl : gl < W.heap.size := by obtain ⟨cells, hc⟩ := Kd.R_typed hl gl rfl; exact blk_lt hc
  have lgn := blk_lt hn
  have lgf := blk_lt hf
  have hb : ∀ i (hi : i < (fullRows R).length), 0 ≤ (fullRows R)[i] ∧ (fullRows R)[i] < 2 ^ R := by
    intro i hi
    have : 0 < 2 ^ R := Nat.two_pow_pos R
    have e : ((2 ^ R : Nat) : Int) = 2 ^ R := by simp
    simp only [fullRows, List.getElem_replicate]
    omega
  have key := WalkPerms.walk_calls
    (fun S vis w => Inv (fun i => S i ∨ i = gn ∨ i = gf ∨ i = gl) (vis.filter (fun p => rooksN p == R)) w ∧ w.heap[gn]? = some (.cells #[.int .i64 nI] 3 (0, 0)) ∧ w.heap[gf]? = some (.cells #[.func (.func 95) #[] #[dd1, dd2, dd3]] 84 (0, 0)) ∧
      Kd.R (Kd.int .i64) 3 w 0 (fun i => i = gl) (.slice (some ⟨gl, 0, none⟩) R cl) (fullRows R) ∧ ∀ i, S i → W.heap.size ≤ i)
    (by
      rintro S vis w w' ⟨i1, i2, i3, i4, i5⟩ hs
      have kp : ∀ g, g < W.heap.size → ∀ {o}, w.heap[g]? = some o → w'.heap[g]? = some o := fun g hg o ho => (hs.kept.2 g (blk_lt ho) (fun h => by have := i5 g h; omega)).trans ho
      refine ⟨hI _ _ _ _ i1 ⟨hs.kept.mono (fun k hk => .inl hk), hs.os, hs.tape, hs.output⟩, kp gn lgn i2, kp gf lgf i3, Kd.R_step i4 (fun i hi hlt => by subst hi; exact hs.kept.2 _ hlt (fun h => by have := i5 _ h; omega)), i5⟩)
    R R nI nI hnI hnI (fullRows R) (some ⟨gl, 0, none⟩) cl (by rw [fl]; exact hcl) (.pointer (some ⟨gn, 0, none⟩)) (.pointer (some ⟨gf, 0, none⟩))
    (fun S vis w h => by have := (Kd.R_reads' h.2.2.2.1).2.2; exact this)
    fl h1R hR hR hb W
    (by
      intro S w hS hBw
      refine ⟨h0 _ w (fun i hi => ?_) (hB.trans (hBw.mono hB.size)), blk_below hn hBw, blk_below hf hBw, Kd.R_below hl hBw, hS⟩
      rcases hi with hi | rfl | rfl | rfl
      · exact Nat.le_trans hB.size (hS i hi)
      · exact bn
      · exact bf
      · exact bl)
    (by
      rintro S vis ps w a cp hS hSlt hps hmem hSa hC hcp ⟨i1, i2, i3, i4, i5⟩
      have hSlt' : ∀ i, (S i ∨ i = gn ∨ i = gf ∨ i = gl) → i < w.heap.size := by
        rintro i (hi | rfl | rfl | rfl)
        · exact hSlt i hi
        · exact blk_lt i2
        · exact blk_lt i3
        · obtain ⟨cells, hc⟩ := Kd.R_typed i4 _ rfl; exact blk_lt hc
      have hS' : ∀ i, (S i ∨ i = gn ∨ i = gf ∨ i = gl) → w0.heap.size ≤ i := by
        rintro i (hi | rfl | rfl | rfl)
        · exact Nat.le_trans hB.size (hS i hi)
        · exact bn
        · exact bf
        · exact bl
      by_cases hk : rooksN ps = R
      · have hmem2 : ∃ b, permsOf R = vis.filter (fun p => rooksN p == R) ++ ps :: b := by
          obtain ⟨b, hb2⟩ := hmem
          exact ⟨b.filter (fun p => rooksN p == R), by unfold permsOf; rw [hb2, List.filter_append, List.filter_cons, if_pos (by simp [hk])]⟩
        refine (perm1_do dd1 dd2 dd3 R nI hnI a cp gn gf ps hps hR hcp w hC i2 i3 hk (fun w' => Inv (fun i => S i ∨ i = gn ∨ i = gf ∨ i = gl) (vis.filter (fun p => rooksN p == R) ++ [ps]) w' ∧ (∀ i, (S i ∨ i = gn ∨ i = gf ∨ i = gl) → i < w.heap.size → w'.heap[i]? = w.heap[i]?)) (fun q => hdo _ _ ps (w.drewN q) a cp hS' hSlt' hps hmem2 (.inl hSa) (Kd.C_drewN hC q) hcp (hI _ _ _ _ i1 (Still.drewN w q)))).mono ?_
        rintro e w' ⟨rfl, hx, hkeep⟩
        refine ⟨rfl, ⟨?_, (hkeep _ (.inr (.inl rfl)) (blk_lt i2)).trans i2, (hkeep _ (.inr (.inr (.inl rfl))) (blk_lt i3)).trans i3, Kd.R_step i4 (fun i hi hlt => by subst hi; exact hkeep _ (.inr (.inr (.inr rfl))) hlt), i5⟩, fun i hi hlt => hkeep i (.inl hi) hlt⟩
        rw [List.filter_append]
        simpa [hk] using hx
      · refine (perm1_skip dd1 dd2 dd3 R nI hnI a cp gn gf ps hps hR hcp w hC i2 i3 hk).mono ?_
        rintro e w' ⟨rfl, ⟨m, rfl⟩⟩
        refine ⟨rfl, ⟨?_, i2, i3, Kd.R_drewN i4 m, i5⟩, fun i hi hlt => rfl⟩
        rw [List.filter_append]
        simpa [hk] using hI _ _ _ _ i1 (Still.drewN w m))
  rw [fl] at key
  refine key.mono ?_
  rintro e w' ⟨rfl, S, hS, i1, _⟩
  refine ⟨rfl, _, ?_, i1⟩
  rintro i (hi | rfl | rfl | rfl)
  · exact Nat.le_trans hB.size (Nat.le_trans (Nat.le_refl _) (hS i hi))
  · exact bn
  · exact bf
  · exact bl
set_option maxHeartbeats 4000000 in
set_option maxRecDepth 100000 in
theorem perms_calls : Calls Try.prog 94 #[.int .i64 nI, .func (.func 95) #[] #[dd1, dd2, dd3]] w0
      fun e w' => e = .returned (.tuple #[]) ∧ ∃ S, (∀ i, S i → w0.heap.size ≤ i) ∧ Inv S (permsOf R) w' := by
  have KX := Lib.hid (perms_walk dd1 dd2 dd3 R nI hnI h1R hR Inv hI w0 h0 hdo)
  obtain ⟨kk, hfb⟩ := fullBoard_f h1R hR
  rw [← hnI] at hfb
  have A1 := Aside0.mk hfb
  have fl := Aside0.mk (show (fullRows R).length = R by simp [fullRows])
  have p1 := Aside0.mk h1R
  have hu24 := Try.underlying43
  clear hfb hnI h1R hR hI h0 hdo
  go_enter Try.func94, Try.ntmps94
  go_wp2_with (first
    | ((with_reducible refine gate_dst (N := 2) rfl ?_); refine box_event ?hg (N := 2) ?hd (cs := #[.int .i64 nI]) (t := 3) ?hr ?_; (case hd => rfl); (case hg => rfl); (case hr => first | (go_simp; done) | (go_simp; rfl)); intro gn hg w1 hbox hb; have G1 := Aside0.mk hg; have K1 := Aside0.mk hbox; have B1 := Aside0.mk hb; clear hg hbox hb)
    | ((with_reducible refine gate_dst (N := 3) rfl ?_); refine box_event ?hg (N := 3) ?hd (cs := #[.func (.func 95) #[] #[dd1, dd2, dd3]]) (t := 84) ?hr ?_; (case hd => rfl); (case hg => rfl); (case hr => first | (go_simp; done) | (go_simp; rfl)); intro gf hg w2 hbox hb; have G2 := Aside0.mk hg; have K2 := Aside0.mk hbox; have B2 := Aside0.mk hb; clear hg hbox hb; have z2 : w2.cell? ⟨gn, 0, none⟩ = some (.int .i64 nI) := (blk_cell (blk_below K1.out B2.out) 0).trans rfl)
    | (go_at_call 138; (refine (impl_FullBoard.calls kk nI nI nI nI (fullRows R) true _ A1.out).mono ?_); rintro e w3 ⟨v3, rfl, ho3, hb⟩; obtain ⟨gl, cl, hv3, hgl, hgl2, cells3, hc3⟩ := Kd.R_form ho3 (by rw [fl.out]; exact p1.out); rw [fl.out] at hv3; subst hv3; have G3 := Aside0.mk (And.intro hgl hgl2); have B3 := Aside0.mk hb; have O3 := Aside0.mk ho3; clear hgl hgl2 hc3 hb ho3)
    | ((with_reducible refine gate_dst (N := 4) rfl ?_); refine box_event ?hg (N := 4) ?hd (cs := #[.int .i64 0, .int .i64 0, .slice none 0 0]) (t := 43) ?hr ?_; (case hd => rfl); (case hg => rfl); (case hr => first | (go_simp; done) | (go_simp; rfl)); intro gb hg w4 hbox hb; have G4 := Aside0.mk hg; have K4 := Aside0.mk hbox; have B4 := Aside0.mk hb; clear hg hbox hb; have y0 : w4.cell? ⟨gb, 0, none⟩ = some (.int .i64 0) := (blk_cell K4.out 0).trans rfl; have y1 : w4.cell? ⟨gb, 1, none⟩ = some (.int .i64 0) := (blk_cell K4.out 1).trans rfl; have y2 : w4.cell? ⟨gb, 2, none⟩ = some (.slice none 0 0) := (blk_cell K4.out 2).trans rfl; have f0 := blk_frozen K4.out 0; have f1 := blk_frozen K4.out 1; have f2 := blk_frozen K4.out 2)
    | (go_at_call 139; (refine (KX.out gn gf gl cl _ ?sB ?s1 ?s2 ?s3 ?sn ?sf ?sl).mono ?_); (case sB => (have o1 := blk_lt K1.out; have o2 := G2.out; have o3 := blk_lt K2.out; have o4 := G3.out; have o5 := G4.out; have o6 := blk_lt K4.out; have o7 := G1.out; have b4 : Below w0.heap.size w0 w4 := (((B1.out.trans (B2.out.mono (by omega))).trans (B3.out.mono (by omega))).trans (B4.out.mono (by omega))); exact Below.setCell (Below.setCell (Below.setCell b4 (by (try simp only []); omega) _) (by (try simp only []); omega) _) (by (try simp only []); omega) _)); (case s1 => (have o1 := blk_lt K1.out; have o2 := G2.out; have o3 := blk_lt K2.out; have o4 := G3.out; have o5 := G4.out; have o6 := blk_lt K4.out; have o7 := G1.out; omega)); (case s2 => (have o1 := blk_lt K1.out; have o2 := G2.out; have o3 := blk_lt K2.out; have o4 := G3.out; have o5 := G4.out; have o6 := blk_lt K4.out; have o7 := G1.out; omega)); (case s3 => (have o1 := blk_lt K1.out; have o2 := G2.out; have o3 := blk_lt K2.out; have o4 := G3.out; have o5 := G4.out; have o6 := blk_lt K4.out; have o7 := G1.out; omega)); (case sn => (have o1 := blk_lt K1.out; have o2 := G2.out; have o3 := blk_lt K2.out; have o4 := G3.out; have o5 := G4.out; have o6 := blk_lt K4.out; have o7 := G1.out; have q := blk_below (blk_below (blk_below K1.out B2.out) B3.out) B4.out; have e : gn ≠ gb := (by omega); exact blk_far (blk_far (blk_far q e _) e _) e _)); (case sf => (have o1 := blk_lt K1.out; have o2 := G2.out; have o3 := blk_lt K2.out; have o4 := G3.out; have o5 := G4.out; have o6 := blk_lt K4.out; have o7 := G1.out; have q := blk_below (blk_below K2.out B3.out) B4.out; have e : gf ≠ gb := (by omega); exact blk_far (blk_far (blk_far q e _) e _) e _)); (case sl => (have o1 := blk_lt K1.out; have o2 := G2.out; have o3 := blk_lt K2.out; have o4 := G3.out; have o5 := G4.out; have o6 := blk_lt K4.out; have o7 := G1.out; have q := Kd.R_below (Kd.R_mono (Kd.R_lower (Kd.R_tight rfl O3.out) (Nat.zero_le _)) (fun i hi => (by simpa [Value.ownBlock] using hi : i = gl))) B4.out; have e : ∀ i, i = gl → i ≠ gb := (fun i hi => by omega); exact Kd.R_far (Kd.R_far (Kd.R_far q e _) e _) e _)); rintro e w5 ⟨rfl, hfin⟩))
  first | go_end0 | ((try simp only [Exit.inBlock, Exit.then]); refine bodyPost_ret (results_none rfl _ _ _) rfl ?_)
  exact ⟨rfl, hfin⟩
end

end Go.Proofs.Ytiopnmgcajohfaa.PermsPH
end
section
namespace Go.Proofs.Ytiopnmgcajohfaa.Q
open Go.RowKit Go.Proofs.YtiopnmgcajohfaaW.PrintWords Go.Proofs.YtiopnmgcajohfaaW.PrintLast Go.Proofs.YtiopnmgcajohfaaW.PrintMore
open Go.Proofs.YtiopnmgcajohfaaL
set_option linter.unusedVariables false
theorem run_eql_slice_nil_ {w : World} (a : Option Addr) (l c : Nat) : (binOp .eql 28 (.slice a l c) (.slice none 0 0)).run Try.prog w = .ok (.bool a.isNone) w := by
  simp only [binOp]
  simp [run_equal_slice_nil _ _ _ _ _ _ Try.underlying28]
attribute [local go_sem] run_eql_slice_nil_
def slices_Clone_int_int.f (l0 : List Int) : Option (List Int) := if l0.length < 17592186044416 then some l0 else none
set_option maxHeartbeats 8000000 in
set_option maxRecDepth 100000 in
theorem slices_Clone_int_int.calls (A0 : Option Addr) (c0 : Nat) (l0 : List Int) (r : List Int) (w : World) (hr0 : Kd.C (Kd.int .i64) w A0 l0.length l0) (hc0 : l0.length ≤ c0) (h : slices_Clone_int_int.f l0 = some r) :
    Calls Try.prog 81 #[.slice A0 l0.length c0] w fun e w' => ∃ v0_ : Value, e = .returned (v0_) ∧ Kd.R (Kd.int .i64) 3 w' w.heap.size (fun _ => True) v0_ r ∧ Below w.heap.size w w' := by
  rw [slices_Clone_int_int.f] at h
  by_cases c2 : l0.length < 17592186044416
  rotate_left
  · rw [if_neg c2] at h; cases h
  rw [if_pos c2] at h
  obtain rfl := Option.some.inj h
  clear h
  cases A0 with
  | none =>
    have hl : l0 = [] := by
      cases l0 with
      | nil => rfl
      | cons a t =>
        obtain ⟨ad, e, _⟩ := Kd.at_int hr0 0 (by omega) (by simp)
        cases e
    subst hl
    have hu22 := Try.underlying28
    clear hr0 c2
    go_enter Try.func81, Try.ntmps81
    go_wp2
    go_ret
    exact ⟨_, rfl, Kd.R_nil _ _ _ _ _, by repeat (first | exact Below.refl _ _ | apply below_alloc | apply pw_below_drewN | apply below_drew1)⟩
  | some ad =>
    have HR0 := Aside0.mk hr0
    have HC0 := Aside0.mk hc0
    have HB := Aside0.mk (Below.refl w.heap.size w)
    have LMc2 := Aside0.mk c2
    obtain ⟨y101, hy101⟩ : ∃ y_ : List Int, y_ = (([] : List Int)) := ⟨_, rfl⟩
    have Ny101 := Aside0.mk hy101
    obtain ⟨y104, hy104⟩ : ∃ y_ : List Int, y_ = (y101 ++ l0) := ⟨_, rfl⟩
    have Ny104 := Aside0.mk hy104
    have LL := Aside0.mk (show y101.length = 0 by rw [hy101]; rfl)
    have E104 := Aside0.mk (show y104 = l0 by rw [hy104, hy101]; rfl)
    have hu22 := Try.underlying28
    clear hy101 hy104 hr0 hc0 c2
    go_enter Try.func81, Try.ntmps81
    go_wp2_with (first | ((with_reducible refine gate_dst (N := 5) rfl ?_); refine Kd.R_lit (Kd.int .i64) _ 3 ?hg (N := 5) ?hd (xs := ([] : List Int)) (inner := []) (ok := fun _ => True) (okp := fun _ => True) ?hr ?hp (fun _ hk => hk) trivial (Below.refl _ _) (Nat.le_refl _) (by simp) ?_; (case hd => rfl); (case hg => rfl); (case hr => first | (go_simp; done) | (go_simp; rfl)); (case hp => exact (Reps.none _ _)); intro v102 w3 ho4 hb hg_ hnew_; clear hg_ hnew_; (first | rw [← Ny101.out] at ho4 | (simp only [Int.reduceToNat] at ho4; rw [← Ny101.out] at ho4)); have n0_ := Aside0.mk (Kd.R_lower ho4 (below_size (by repeat (first | (with_reducible first | exact HB.out | apply below_alloc | apply pw_below_drewN | apply below_drew1) | exact HB.out)))); have n1_ := Aside0.mk (below_step (by repeat (first | (with_reducible first | exact HB.out | apply below_alloc | apply pw_below_drewN | apply below_drew1) | exact HB.out)) hb); clear HB; have HO103 := n0_; have HB := n1_; clear n0_ n1_; clear hb ho4) | ((with_reducible refine gate_builtin (b := .append) (xs := #[.tmp 5, .tmp 6]) rfl ?_); at_builtin; refine Kd.R_append_rows (Kd.int .i64) (w0 := w) w.heap.size rfl (.tmp 5) (.tmp 6) 28 3 (.int .i64 0) 8 rfl Try.underlying28 info3 rfl (by decide) (by omega) v102 y101 l0 _ _ _ (fun _ => True) (fun _ => False) rfl rfl ?aO ?aR (fun _ _ h => h) (fun _ h => h.elim) ?aF ?aB ?aS ?aL ?_; (case aR => repeat (first | exact (Kd.C_below HR0.out HB.out) | (with_reducible refine Kd.C_alloc ?_ _) | (with_reducible refine Kd.C_drewN ?_ _) | (with_reducible refine Kd.C_drew ?_))); (case aB => exact (by repeat (first | (with_reducible first | exact HB.out | apply below_alloc | apply pw_below_drewN | apply below_drew1) | exact HB.out))); (case aF => exact (fun _ _ => trivial)); (case aO => exact (by (with_reducible repeat (first | apply Kd.R_alloc | apply Kd.R_drewN | apply Kd.R_drew)); exact HO103.out)); (case aS => exact (below_size (by repeat (first | (with_reducible first | exact HB.out | apply below_alloc | apply pw_below_drewN | apply below_drew1) | exact HB.out)))); (case aL => have := LMc2.out; have := LL.out; omega); intro v105 w5 ho hb hg hat; rw [← Ny104.out] at ho; have n0_ := Aside0.mk (hb); have n1_ := Aside0.mk (ho); clear HB; clear HO103; have HB := n0_; have HO106 := n1_; clear n0_ n1_; clear ho hb hg hat))
    go_ret
    exact ⟨_, by first | rfl | (simp [errW_none, errW_some] <;> rfl) | (simp [*, errW_none, errW_some] <;> rfl), by rw [← E104.out]; (with_reducible repeat (first | apply Kd.R_alloc | apply Kd.R_drewN | apply Kd.R_drew)); exact HO106.out, by repeat (first | (with_reducible first | exact HB.out | apply below_alloc | apply pw_below_drewN | apply below_drew1) | exact HB.out)⟩

end Go.Proofs.Ytiopnmgcajohfaa.Q
end
section
namespace Go.Proofs.Ytiopnmgcajohfaa.PH
set_option linter.unusedVariables false
set_option linter.unusedSectionVars false
open Go.RowKit Go.Proofs.YtiopnmgcajohfaaW.PrintWords Go.Proofs.YtiopnmgcajohfaaW.PrintLast Go.Proofs.YtiopnmgcajohfaaW.PrintMore
open Go.Proofs.YtiopnmgcajohfaaL Go.Proofs.Ytiopnmgcajohfaa.LawK Go.Proofs.Ytiopnmgcajohfaa.BoardK Go.Proofs.Ytiopnmgcajohfaa.Walk Go.Proofs.Ytiopnmgcajohfaa.Q Go.Proofs.Ytiopnmgcajohfaa.PermK

section
variable (RI CI hI kI : Int) (R cp a gb gk go kk : Nat) (l ps : List Int) (A0 : Option Addr) (c0 : Nat) (w : World)
  (hps : ps.length = R) (hcp : R ≤ cp) (hc0 : l.length ≤ c0) (hr : Kd.C (Kd.int .i64) w (some ⟨a, 0, none⟩) R ps) (hL : Kd.C (Kd.int .i64) w A0 l.length l)
  (hgb : w.heap[gb]? = some (.cells #[.int .i64 RI, .int .i64 CI, .slice A0 l.length c0] 43 (0, 0))) (hgk : w.heap[gk]? = some (.cells #[.int .i64 kI] 3 (0, 0)))
  (hh : impl_Board_hits.f kk RI CI l ps = some hI)
include hps hcp hc0 hr hL hgb hgk hh
set_option maxHeartbeats 4000000 in
set_option maxRecDepth 100000 in
theorem ph1_skip (hne : hI ≠ kI) : Calls Try.prog 95 #[.slice (some ⟨a, 0, none⟩) R cp, .pointer (some ⟨gb, 0, none⟩), .pointer (some ⟨gk, 0, none⟩), .pointer (some ⟨go, 0, none⟩)] w
    fun e w' => e = .returned (.tuple #[]) ∧ Below w.heap.size w w' := by
  have CX := Lib.hid (fun (W : World) (hb : Below w.heap.size w W) => by
    have := impl_Board_hits.calls kk RI CI A0 c0 l (some ⟨a, 0, none⟩) cp ps hI W (Kd.C_below hL hb) hc0 (by rw [hps]; exact Kd.C_below hr hb) (by rw [hps]; exact hcp) hh
    rw [hps] at this
    have h2 : Calls Try.prog 96 #[.agg #[.int .i64 RI, .int .i64 CI, .slice A0 l.length c0], .slice (some ⟨a, 0, none⟩) R cp] W fun e w' => e = .returned (.int .i64 hI) ∧ Below w.heap.size w w' := this.mono (by rintro e w' ⟨rfl, h3⟩; exact ⟨rfl, hb.trans (h3.mono hb.size)⟩)
    exact h2)
  have c1 : (hI == kI) = false := beq_eq_false_iff_ne.mpr hne
  have BK := Aside0.mk hgk
  have hz2 : w.cell? ⟨gb, 0, none⟩ = some (.int .i64 RI) := (blk_cell hgb 0).trans rfl
  have hz3 : w.cell? ⟨gb, 1, none⟩ = some (.int .i64 CI) := (blk_cell hgb 1).trans rfl
  have hz4 : w.cell? ⟨gb, 2, none⟩ = some (.slice A0 l.length c0) := (blk_cell hgb 2).trans rfl
  have hz5 : w.cell? ⟨gk, 0, none⟩ = some (.int .i64 kI) := (blk_cell hgk 0).trans rfl
  have hu24 := Try.underlying43
  clear hps hcp hc0 hr hL hgb hgk hh hne
  go_enter Try.func95, Try.ntmps95
  go_wp2
  go_region_with (go_at_call 96; refine (CX.out _ (by repeat (first | exact Below.refl _ _ | apply below_drew1 | apply pw_below_drewN))).mono ?_; rintro e w2 ⟨rfl, hb⟩; have hb2 := Aside0.mk hb; have hz6 : w2.cell? ⟨gk, 0, none⟩ = some (.int .i64 kI) := (blk_cell (blk_below BK.out hb) 0).trans rfl; clear hb)
  all_goals go_wp2
  all_goals first | go_end0 | ((try simp only [Exit.inBlock, Exit.then]); refine bodyPost_ret (results_none rfl _ _ _) rfl ?_)
  all_goals exact ⟨rfl, hb2.out⟩
end
section
variable (RI CI hI : Int) (R cp a gb gk go kk bs : Nat) (l ps : List Int) (out : List (List Int)) (A0 : Option Addr) (c0 : Nat) (v : Value) (OKP : Nat → Prop) (w : World)
  (hps : ps.length = R) (hR6 : R ≤ 6) (hcp : R ≤ cp) (hc0 : l.length ≤ c0) (hr : Kd.C (Kd.int .i64) w (some ⟨a, 0, none⟩) R ps) (hL : Kd.C (Kd.int .i64) w A0 l.length l)
  (hgb : w.heap[gb]? = some (.cells #[.int .i64 RI, .int .i64 CI, .slice A0 l.length c0] 43 (0, 0))) (hgk : w.heap[gk]? = some (.cells #[.int .i64 hI] 3 (0, 0)))
  (hgo : w.heap[go]? = some (.cells #[v] 29 (0, 0))) (hng : ∀ k, OKP k → k ≠ go) (hbs : bs ≤ w.heap.size) (hnew : ∀ k, w.heap.size ≤ k → OKP k)
  (ho : Kd.S (Kd.slice 3 (Kd.int .i64)) 28 w bs OKP v out) (hol : out.length ≤ 1000000)
  (hh : impl_Board_hits.f kk RI CI l ps = some hI)
include hps hR6 hcp hc0 hr hL hgb hgk hgo hng hbs hnew ho hol hh
set_option maxHeartbeats 8000000 in
set_option maxRecDepth 100000 in
theorem ph1_take : Calls Try.prog 95 #[.slice (some ⟨a, 0, none⟩) R cp, .pointer (some ⟨gb, 0, none⟩), .pointer (some ⟨gk, 0, none⟩), .pointer (some ⟨go, 0, none⟩)] w
    fun e w' => e = .returned (.tuple #[]) ∧ ∃ v', w'.heap[go]? = some (.cells #[v'] 29 (0, 0)) ∧ Kd.S (Kd.slice 3 (Kd.int .i64)) 28 w' bs OKP v' (out ++ [ps]) ∧ Still (fun k => k = go ∨ OKP k) w w' := by
  have CX := Lib.hid (fun (W : World) (hb : Below w.heap.size w W) => by
    have := impl_Board_hits.calls kk RI CI A0 c0 l (some ⟨a, 0, none⟩) cp ps hI W (Kd.C_below hL hb) hc0 (by rw [hps]; exact Kd.C_below hr hb) (by rw [hps]; exact hcp) hh
    rw [hps] at this
    have h2 : Calls Try.prog 96 #[.agg #[.int .i64 RI, .int .i64 CI, .slice A0 l.length c0], .slice (some ⟨a, 0, none⟩) R cp] W fun e w' => e = .returned (.int .i64 hI) ∧ Below w.heap.size w w' := this.mono (by rintro e w' ⟨rfl, h3⟩; exact ⟨rfl, hb.trans (h3.mono hb.size)⟩)
    exact h2)
  have CC := Lib.hid (fun (W : World) (hb : Below w.heap.size w W) => by
    have := slices_Clone_int_int.calls (some ⟨a, 0, none⟩) cp ps ps W (by rw [hps]; exact Kd.C_below hr hb) (by rw [hps]; exact hcp) (by rw [slices_Clone_int_int.f, if_pos (by omega)])
    rw [hps] at this
    have h2 : Calls Try.prog 81 #[.slice (some ⟨a, 0, none⟩) R cp] W fun e w' => ∃ v0_ : Value, e = .returned v0_ ∧ Kd.R (Kd.int .i64) 3 w' w.heap.size (fun _ => True) v0_ ps ∧ Below w.heap.size w w' := this.mono (by rintro e w' ⟨v0, rfl, h3, h4⟩; exact ⟨v0, rfl, Kd.R_lower h3 hb.size, hb.trans (h4.mono hb.size)⟩)
    exact h2)
  have BK := Aside0.mk hgk
  have BO := Aside0.mk hgo
  have HS := Aside0.mk ho
  have HN := Lib.hid hnew
  have HL := Aside0.mk hol
  have HBS := Aside0.mk hbs
  have HGL := Lib.hid hng
  have hz2 : w.cell? ⟨gb, 0, none⟩ = some (.int .i64 RI) := (blk_cell hgb 0).trans rfl
  have hz3 : w.cell? ⟨gb, 1, none⟩ = some (.int .i64 CI) := (blk_cell hgb 1).trans rfl
  have hz4 : w.cell? ⟨gb, 2, none⟩ = some (.slice A0 l.length c0) := (blk_cell hgb 2).trans rfl
  have hz5 : w.cell? ⟨gk, 0, none⟩ = some (.int .i64 hI) := (blk_cell hgk 0).trans rfl
  have hu24 := Try.underlying43
  clear hps hR6 hcp hc0 hr hL hgb hgk hgo hh hnew ho hol hbs hng
  go_enter Try.func95, Try.ntmps95
  go_wp2
  go_region_with (go_at_call 96; refine (CX.out _ (by repeat (first | exact Below.refl _ _ | apply below_drew1 | apply pw_below_drewN))).mono ?_; rintro e w2 ⟨rfl, hb⟩; have hb2 := Aside0.mk hb; have hz6 : w2.cell? ⟨gk, 0, none⟩ = some (.int .i64 hI) := (blk_cell (blk_below BK.out hb) 0).trans rfl; have hz7 : w2.cell? ⟨go, 0, none⟩ = some v := (blk_cell (blk_below BO.out hb) 0).trans rfl; have hf7 : w2.frozen? ⟨go, 0, none⟩ = false := blk_frozen (blk_below BO.out hb) 0; clear hb)
  all_goals go_wp2
  all_goals clear hz2 hz3 hz4 hz5 hz6
  all_goals go_region_law (first | (refine Kd.S_append_step (Kd.slice 3 (Kd.int .i64)) (w0 := w) bs (by kernel_rfl) (.tmp 10) (.tmp 13) 29 28 (.slice none 0 0) 24 (by rfl) Try.underlying29 info28 rfl (by decide) (by decide) v out ps [.slice A3 ps.length c3] OKP (fun k => some k = (Value.slice A3 ps.length c3).ownBlock) (by rfl) (by rfl) ?x1 ?x2 ?x3 ?x4 ?x5 ?x6 ?x7 ?_; (case x1 => exact ⟨_, rfl, (by (with_reducible repeat (first | apply Kd.R_alloc | apply Kd.R_drewN | apply Kd.R_drew)); exact Kd.R_tight rfl (Kd.R_lower H3.out HBS.out))⟩); (case x2 => exact fun k hk => (have h1 := Kd.R_base H3.out k hk.symm; ⟨HN.out k h1, fun he => (by have h2 := Kd.S_lt HS.out k he.symm; omega)⟩)); (case x3 => exact fun k hk => HN.out k (Nat.le_trans hb3.out.size hk)); (case x4 => ((with_reducible repeat (first | apply Kd.S_alloc | apply Kd.S_drewN | apply Kd.S_drew)); exact Kd.S_mono (Kd.S_below (Kd.S_bound HS.out) hb3.out) (fun k hk => ⟨hk.1, fun he => (by have h1 := Kd.R_base H3.out k he.symm; have h2 := hk.2.2.1; omega)⟩))); (case x5 => exact (by repeat (first | (with_reducible first | exact hb3.out.mono HBS.out | apply pw_below_drewN | apply below_drew1) | exact hb3.out.mono HBS.out))); (case x6 => exact Nat.le_trans HBS.out hb3.out.size); (case x7 => (have := HL.out; omega)); intro v4 w4 hs4 hb4 hg4 hat4; obtain ⟨A4, c4, rfl⟩ := Kd.S_slice hs4; have K4 := Aside0.mk (blk_grown (g := go) (o := .cells #[v] 29 (0, 0)) (by (with_reducible repeat (first | refine blk_drewN ?_ _ | refine blk_drew ?_ | refine blk_alloc ?_ _)); exact blk_below BO.out hb3.out) hg4 (fun he => HGL.out go ((Kd.S_R HS.out).1 go he.symm) rfl)); have S4 := Aside0.mk hs4; have B4 := Aside0.mk hb4; have G4 := Aside0.mk hg4; have T4 := Aside0.mk hat4; have hz9 : w4.cell? ⟨go, 0, none⟩ = some v := (blk_cell K4.out 0).trans rfl; have hf9 : w4.frozen? ⟨go, 0, none⟩ = false := blk_frozen K4.out 0; clear hs4 hb4 hg4 hat4) | (rw [if_pos (by kernel_rfl)]; go_wp2_with (go_at_call 81; refine (CC.out _ (by repeat (first | exact hb2.out | exact Below.refl _ _ | apply below_drew1 | apply pw_below_drewN))).mono ?_; rintro e w3 ⟨v3, rfl, ho3, hb⟩; obtain ⟨A3, c3, rfl⟩ := Kd.R_slice ho3; have hb3 := Aside0.mk hb; have H3 := Aside0.mk ho3; have hz8 : w3.cell? ⟨go, 0, none⟩ = some v := (blk_cell (blk_below BO.out hb) 0).trans rfl; have hz8a : (w3.alloc (Obj.cells #[Value.slice A3 ps.length c3] 28)).cell? ⟨go, 0, none⟩ = some v := (blk_cell (blk_alloc (blk_below BO.out hb) _) 0).trans rfl; have hf8 : w3.frozen? ⟨go, 0, none⟩ = false := blk_frozen (blk_below BO.out hb) 0; clear hb ho3)))
  all_goals go_wp2
  all_goals first | go_end0 | ((try simp only [Exit.inBlock, Exit.then]); refine bodyPost_ret (results_none rfl _ _ _) rfl ?_)
  all_goals have S5 := Kd.S_far (p := ⟨go, 0, none⟩) (Kd.S_bound S4.out) (fun k hk => HGL.out k hk.1) (.slice A4 (out ++ [ps]).length c4)
  all_goals rw [show (out ++ [ps]).length = out.length + 1 by simp] at S5
  all_goals replace S5 := Kd.S_mono (ok' := OKP) S5 (fun _ hk => hk.1)
  all_goals exact ⟨rfl, _, blk_put K4.out 0 _ rfl, S5, ⟨Kept.setCell (Kept.of_grown G4.out (by repeat (first | (with_reducible first | exact Kept.of_below hb3.out _ | apply Kept.alloc | apply Kept.drewN | apply Kept.drew) | exact Kept.of_below hb3.out _)) (fun k hk => .inl (.inr ((Kd.S_R HS.out).1 k hk)))) (.inl (.inl rfl)) _, B4.out.os, B4.out.tape, B4.out.output⟩⟩
end
end Go.Proofs.Ytiopnmgcajohfaa.PH
end
section
namespace Go.Proofs.Ytiopnmgcajohfaa.Q
set_option linter.unusedVariables false
open Go.RowKit Go.Proofs.YtiopnmgcajohfaaW.PrintWords Go.Proofs.YtiopnmgcajohfaaW.PrintLast Go.Proofs.YtiopnmgcajohfaaW.PrintMore
open Go.Proofs.YtiopnmgcajohfaaL Go.Proofs.Ytiopnmgcajohfaa.LawK Go.Proofs.Ytiopnmgcajohfaa.BoardK Go.Proofs.Ytiopnmgcajohfaa.Walk Go.Proofs.Ytiopnmgcajohfaa.PermK Go.Proofs.Ytiopnmgcajohfaa.HN Go.Proofs.Ytiopnmgcajohfaa.PH
/-- The permutations that hit k rows. -/
def hitting (l : List Int) (k : Int) (vis : List (List Int)) : List (List Int) := vis.filter (fun p => decide (hitsF l p 0 0 = k))
def impl_PermutationsHitting.f (a0_0 : Int) (a0_1 : Int) (l0_2 : List Int) (a1 : Int) : Option (List (List Int) × Bool) :=
  if squareB a0_0 a0_1 l0_2 = true then (if inR 0 6 a1 = true then some (hitting l0_2 a1 (permsOf l0_2.length), true) else some ([], false)) else some ([], false)
/-- The blocks that the rows told so far may have. -/
def OkP (n : Nat) (S : Nat → Prop) (go gb gk i : Nat) : Prop := n ≤ i ∧ ¬ S i ∧ i ≠ go ∧ i ≠ gb ∧ i ≠ gk
theorem perms_len {R : Nat} (h : R ≤ 6) : (permsOf R).length ≤ 117649 := by
  have h1 := List.length_filter_le (fun p => rooksN p == R) (waysFrom (fullRows R) R R 0 0 [])
  have h2 := ways_len (fullRows R) R R 0 0 []
  have h3 : ∀ R : Fin 7, (R.val + 1) ^ R.val ≤ 117649 := by decide
  have h4 := h3 ⟨R, by omega⟩
  unfold permsOf
  simp only [] at h4
  omega
/-- What holds while the permutations are told. -/
structure PInv (RI CI kI : Int) (gb gk go : Nat) (l : List Int) (A0 : Option Addr) (c0 : Nat) (w0 W : World) (S : Nat → Prop) (vis : List (List Int)) (w : World) : Prop where
  b : w.heap[gb]? = some (.cells #[.int .i64 RI, .int .i64 CI, .slice A0 l.length c0] 43 (0, 0))
  k : w.heap[gk]? = some (.cells #[.int .i64 kI] 3 (0, 0))
  o : ∃ v, w.heap[go]? = some (.cells #[v] 29 (0, 0)) ∧ Kd.S (Kd.slice 3 (Kd.int .i64)) 28 w w0.heap.size (OkP w0.heap.size S go gb gk) v (hitting l kI vis)
  B : Below w0.heap.size w0 w
  s : ∀ i, S i → W.heap.size ≤ i
theorem within_R (a b c : Int) : impl_within.f a b c = some (inR b c a) := by
  unfold impl_within.f inR
  by_cases h : b ≤ a
  · rw [if_pos h]; simp [h]
  · rw [if_neg h]; congr 1; exact (decide_eq_false (by omega)).symm
set_option maxHeartbeats 8000000 in
set_option maxRecDepth 100000 in
theorem impl_PermutationsHitting.calls (a0_0 a0_1 : Int) (A0_2 : Option Addr) (c0_2 : Nat) (l0_2 : List Int) (a1 : Int) (r1 : List (List Int)) (r2 : Bool) (w : World) (hr0_2 : Kd.C (Kd.int .i64) w A0_2 l0_2.length l0_2) (hc0_2 : l0_2.length ≤ c0_2) (h : impl_PermutationsHitting.f a0_0 a0_1 l0_2 a1 = some (r1, r2)) :
    Calls Try.prog 31 #[.agg #[.int .i64 a0_0, .int .i64 a0_1, .slice A0_2 l0_2.length c0_2], .int .i64 a1] w fun e w' => ∃ v0_ : Value, e = .returned (.tuple #[v0_, .bool r2]) ∧ Kd.S (Kd.slice 3 (Kd.int .i64)) 28 w' w.heap.size (fun _ => True) v0_ r1 ∧ Below w.heap.size w w' := by
  have HB := Aside0.mk (Below.refl w.heap.size w)
  have SQ := Lib.hid (fun (W : World) (hb : Below w.heap.size w W) => by
    have := impl_isSquare.calls a0_0 a0_1 A0_2 c0_2 l0_2 (squareB a0_0 a0_1 l0_2) W (Kd.C_below hr0_2 hb) hc0_2 (isSquare_f a0_0 a0_1 l0_2)
    have h2 : Calls Try.prog 93 #[.agg #[.int .i64 a0_0, .int .i64 a0_1, .slice A0_2 l0_2.length c0_2]] W fun e w' => e = .returned (.bool (squareB a0_0 a0_1 l0_2)) ∧ Below w.heap.size w w' ∧ Below W.heap.size W w' := this.mono (by rintro e w' ⟨rfl, h3⟩; exact ⟨rfl, hb.trans (h3.mono hb.size), h3⟩)
    exact h2)
  have WI := Lib.hid (fun (W : World) => impl_within.calls0 a1 0 6 (inR 0 6 a1) W (within_R a1 0 6))
  have hu24 := Try.underlying43
  by_cases hs : squareB a0_0 a0_1 l0_2 = true
  rotate_left
  · have hs2 : squareB a0_0 a0_1 l0_2 = false := by simpa using hs
    rw [impl_PermutationsHitting.f, if_neg hs] at h
    simp only [Option.some.injEq, Prod.mk.injEq] at h
    obtain ⟨rfl, rfl⟩ := h
    rw [hs2] at SQ
    clear hs hs2 hr0_2 hc0_2 WI
    go_enter Try.func31, Try.ntmps31
    go_wp2_with (first
      | ((with_reducible refine gate_dst (N := 2) rfl ?_); refine box_event ?hg (N := 2) ?hd (cs := #[.int .i64 a0_0, .int .i64 a0_1, .slice A0_2 l0_2.length c0_2]) (t := 43) ?hr ?_; (case hd => rfl); (case hg => rfl); (case hr => first | (go_simp; done) | (go_simp; rfl)); intro gb hg w1 hbox hb; have G1 := Aside0.mk hg; have K1 := Aside0.mk hbox; have B1 := Aside0.mk hb; clear hg hbox hb)
      | ((with_reducible refine gate_dst (N := 3) rfl ?_); refine box_event ?hg (N := 3) ?hd (cs := #[.int .i64 a1]) (t := 3) ?hr ?_; (case hd => rfl); (case hg => rfl); (case hr => first | (go_simp; done) | (go_simp; rfl)); intro gk hg w2 hbox hb; have G2 := Aside0.mk hg; have K2 := Aside0.mk hbox; have B2 := Aside0.mk hb; clear hg hbox hb; have z1 : w2.cell? ⟨gb, 0, none⟩ = some (.int .i64 a0_0) := (blk_cell (blk_below K1.out B2.out) 0).trans rfl; have z2 : w2.cell? ⟨gb, 1, none⟩ = some (.int .i64 a0_1) := (blk_cell (blk_below K1.out B2.out) 1).trans rfl; have z3 : w2.cell? ⟨gb, 2, none⟩ = some (.slice A0_2 l0_2.length c0_2) := (blk_cell (blk_below K1.out B2.out) 2).trans rfl)
      | (go_at_call 93; refine (SQ.out _ (B1.out.trans (B2.out.mono B1.out.size))).mono ?_; rintro e w3 ⟨rfl, hb, hb'⟩; have B3 := Aside0.mk hb; clear hb hb'))
    go_ret2
    exact ⟨_, rfl, Kd.S_nil _ _ _ _ _, by repeat (first | exact B3.out | apply below_drew1 | apply pw_below_drewN)⟩
  rw [impl_PermutationsHitting.f, if_pos hs] at h
  rw [hs] at SQ
  by_cases hk : inR 0 6 a1 = true
  rotate_left
  · have hk2 : inR 0 6 a1 = false := by simpa using hk
    rw [if_neg hk] at h
    simp only [Option.some.injEq, Prod.mk.injEq] at h
    obtain ⟨rfl, rfl⟩ := h
    rw [hk2] at WI
    clear hs hk hk2 hr0_2 hc0_2
    go_enter Try.func31, Try.ntmps31
    go_wp2_with (first
      | ((with_reducible refine gate_dst (N := 2) rfl ?_); refine box_event ?hg (N := 2) ?hd (cs := #[.int .i64 a0_0, .int .i64 a0_1, .slice A0_2 l0_2.length c0_2]) (t := 43) ?hr ?_; (case hd => rfl); (case hg => rfl); (case hr => first | (go_simp; done) | (go_simp; rfl)); intro gb hg w1 hbox hb; have G1 := Aside0.mk hg; have K1 := Aside0.mk hbox; have B1 := Aside0.mk hb; clear hg hbox hb)
      | ((with_reducible refine gate_dst (N := 3) rfl ?_); refine box_event ?hg (N := 3) ?hd (cs := #[.int .i64 a1]) (t := 3) ?hr ?_; (case hd => rfl); (case hg => rfl); (case hr => first | (go_simp; done) | (go_simp; rfl)); intro gk hg w2 hbox hb; have G2 := Aside0.mk hg; have K2 := Aside0.mk hbox; have B2 := Aside0.mk hb; clear hg hbox hb; have z1 : w2.cell? ⟨gb, 0, none⟩ = some (.int .i64 a0_0) := (blk_cell (blk_below K1.out B2.out) 0).trans rfl; have z2 : w2.cell? ⟨gb, 1, none⟩ = some (.int .i64 a0_1) := (blk_cell (blk_below K1.out B2.out) 1).trans rfl; have z3 : w2.cell? ⟨gb, 2, none⟩ = some (.slice A0_2 l0_2.length c0_2) := (blk_cell (blk_below K1.out B2.out) 2).trans rfl)
      | (go_at_call 93; refine (SQ.out _ (B1.out.trans (B2.out.mono B1.out.size))).mono ?_; rintro e w3 ⟨rfl, hb, hb'⟩; have B3 := Aside0.mk hb; have K3 := Aside0.mk (blk_below K2.out hb'); have z4 : w3.cell? ⟨gk, 0, none⟩ = some (.int .i64 a1) := (blk_cell K3.out 0).trans rfl; clear hb hb')
      | (go_at_call 79; refine (WI.out _).mono ?_; rintro e w' ⟨rfl, rfl⟩))
    go_ret2
    exact ⟨_, rfl, Kd.S_nil _ _ _ _ _, by repeat (first | exact B3.out | apply below_drew1 | apply pw_below_drewN)⟩
  rw [if_pos hk] at h
  rw [hk] at WI
  simp only [Option.some.injEq, Prod.mk.injEq] at h
  obtain ⟨h, rfl⟩ := h
  obtain ⟨hl6, hlr, hl1, hrc, hbits⟩ := board_bits hs
  have KEY : ∀ (W : World) (gb gk go : Nat), Below w.heap.size w W → w.heap.size ≤ go → w.heap.size ≤ gb → w.heap.size ≤ gk → go ≠ gb → go ≠ gk → go < W.heap.size → gb < W.heap.size → gk < W.heap.size →
      PInv a0_0 a0_1 a1 gb gk go l0_2 A0_2 c0_2 w W (fun _ => False) [] W →
      Calls Try.prog 94 #[.int .i64 a0_0, .func (.func 95) #[] #[.pointer (some ⟨gb, 0, none⟩), .pointer (some ⟨gk, 0, none⟩), .pointer (some ⟨go, 0, none⟩)]] W fun e w' => e = .returned (.tuple #[]) ∧
        ∃ v, w'.heap[go]? = some (.cells #[v] 29 (0, 0)) ∧ Kd.S (Kd.slice 3 (Kd.int .i64)) 28 w' w.heap.size (fun _ => True) v r1 ∧ Below w.heap.size w w' := by
    intro W gb gk go hBW bo bb bk nob nok lo lb lk hst
    refine (PermsPH.perms_calls (.pointer (some ⟨gb, 0, none⟩)) (.pointer (some ⟨gk, 0, none⟩)) (.pointer (some ⟨go, 0, none⟩)) l0_2.length a0_0 hlr.symm hl1 hl6
      (PInv a0_0 a0_1 a1 gb gk go l0_2 A0_2 c0_2 w W)
      (by
        intro S vis w1 w2 hi hs1
        have kp : ∀ g, g < W.heap.size → ∀ {o}, w1.heap[g]? = some o → w2.heap[g]? = some o := fun g hg o ho => (hs1.kept.2 g (blk_lt ho) (fun h => by have := hi.s g h; omega)).trans ho
        obtain ⟨v, ho1, ho2⟩ := hi.o
        exact ⟨kp gb lb hi.b, kp gk lk hi.k, ⟨v, kp go lo ho1, Kd.S_step ho2 (fun i hi' hlt => hs1.kept.2 i hlt hi'.2.1)⟩, Still.below hi.B hs1 (fun i h => Nat.le_trans hBW.size (hi.s i h)), hi.s⟩)
      W
      (by
        intro S w1 hS hB1
        obtain ⟨v, ho1, ho2⟩ := hst.o
        exact ⟨blk_below hst.b hB1, blk_below hst.k hB1, ⟨v, blk_below ho1 hB1, Kd.S_below (Kd.S_mono (Kd.S_bound ho2) (fun i hi' => ⟨hi'.1.1, fun h => by have := hS i h; have := hi'.2.2.1; omega, hi'.1.2.2⟩)) hB1⟩, hBW.trans (hB1.mono hBW.size), hS⟩)
      (by
        intro S vis ps w1 a cp hS hSlt hps hmem hSa hC hcp hi
        have hin := perms_in (by obtain ⟨b, hb2⟩ := hmem; rw [hb2]; simp) hps
        obtain ⟨kk, hk⟩ := hits_ok hs hps hin
        obtain ⟨v, ho1, ho2⟩ := hi.o
        by_cases e : hitsF l0_2 ps 0 0 = a1
        · have hvl : (hitting l0_2 a1 vis).length ≤ 1000000 := by
            obtain ⟨b, hb2⟩ := hmem
            have h1 := perms_len hl6
            have h2 : (hitting l0_2 a1 vis).length ≤ vis.length := List.length_filter_le _ _
            rw [hb2, List.length_append] at h1
            omega
          have hgk2 := hi.k
          rw [← e] at hgk2
          refine (ph1_take a0_0 a0_1 (hitsF l0_2 ps 0 0) l0_2.length cp a gb gk go kk w.heap.size l0_2 ps (hitting l0_2 a1 vis) A0_2 c0_2 v (OkP w.heap.size S go gb gk) w1 hps hl6 hcp hc0_2 hC (Kd.C_below hr0_2 hi.B) hi.b hgk2 ho1 (fun k h => h.2.2.1) hi.B.size (fun k hk' => ⟨Nat.le_trans hi.B.size hk', fun h => by have := hSlt k h; omega, fun h => by have := blk_lt ho1; omega, fun h => by have := blk_lt hi.b; omega, fun h => by have := blk_lt hi.k; omega⟩) ho2 hvl hk).mono ?_
          rintro e' w2 ⟨rfl, v', ho3, ho4, hst2⟩
          have kp : ∀ g, g ≠ go → ¬ OkP w.heap.size S go gb gk g → ∀ {o}, w1.heap[g]? = some o → w2.heap[g]? = some o := fun g hg hn o ho => (hst2.kept.2 g (blk_lt ho) (fun h => h.elim hg hn)).trans ho
          refine ⟨rfl, ⟨kp gb (Ne.symm nob) (fun h => h.2.2.2.1 rfl) hi.b, kp gk (Ne.symm nok) (fun h => h.2.2.2.2 rfl) hi.k, ⟨v', ho3, ?_⟩, Still.below hi.B hst2 ?_, hi.s⟩, fun i hSi hlt => ?_⟩
          · unfold hitting at ho4 ⊢
            rw [List.filter_append, List.filter_cons, if_pos (decide_eq_true e), List.filter_nil]
            exact ho4
          · rintro i (rfl | h)
            · exact bo
            · exact h.1
          · exact hst2.kept.2 i hlt (fun h => h.elim (fun h => by have := hi.s i hSi; omega) (fun h => h.2.1 hSi))
        · refine (ph1_skip a0_0 a0_1 (hitsF l0_2 ps 0 0) a1 l0_2.length cp a gb gk go kk l0_2 ps A0_2 c0_2 w1 hps hcp hc0_2 hC (Kd.C_below hr0_2 hi.B) hi.b hi.k hk e).mono ?_
          rintro e' w2 ⟨rfl, hb2⟩
          refine ⟨rfl, ⟨blk_below hi.b hb2, blk_below hi.k hb2, ⟨v, blk_below ho1 hb2, ?_⟩, hi.B.trans (hb2.mono hi.B.size), hi.s⟩, fun i hSi hlt => hb2.block i hlt⟩
          unfold hitting at ho2 ⊢
          rw [List.filter_append, List.filter_cons, if_neg (by simpa using e), List.filter_nil, List.append_nil]
          exact Kd.S_below ho2 hb2)).mono ?_
    rintro e w' ⟨rfl, S, hS, hi⟩
    obtain ⟨v, ho1, ho2⟩ := hi.o
    exact ⟨rfl, v, ho1, by rw [← h]; exact Kd.S_mono ho2 (fun _ _ => trivial), hi.B⟩
  have KX := Lib.hid KEY
  clear KEY h hs hk hl6 hlr hl1 hrc hbits hr0_2 hc0_2
  go_enter Try.func31, Try.ntmps31
  go_wp2_with (first
    | ((with_reducible refine gate_dst (N := 2) rfl ?_); refine box_event ?hg (N := 2) ?hd (cs := #[.int .i64 a0_0, .int .i64 a0_1, .slice A0_2 l0_2.length c0_2]) (t := 43) ?hr ?_; (case hd => rfl); (case hg => rfl); (case hr => first | (go_simp; done) | (go_simp; rfl)); intro gb hg w1 hbox hb; have G1 := Aside0.mk hg; have K1 := Aside0.mk hbox; have B1 := Aside0.mk hb; clear hg hbox hb)
    | ((with_reducible refine gate_dst (N := 3) rfl ?_); refine box_event ?hg (N := 3) ?hd (cs := #[.int .i64 a1]) (t := 3) ?hr ?_; (case hd => rfl); (case hg => rfl); (case hr => first | (go_simp; done) | (go_simp; rfl)); intro gk hg w2 hbox hb; have G2 := Aside0.mk hg; have K2 := Aside0.mk hbox; have B2 := Aside0.mk hb; clear hg hbox hb; have z1 : w2.cell? ⟨gb, 0, none⟩ = some (.int .i64 a0_0) := (blk_cell (blk_below K1.out B2.out) 0).trans rfl; have z2 : w2.cell? ⟨gb, 1, none⟩ = some (.int .i64 a0_1) := (blk_cell (blk_below K1.out B2.out) 1).trans rfl; have z3 : w2.cell? ⟨gb, 2, none⟩ = some (.slice A0_2 l0_2.length c0_2) := (blk_cell (blk_below K1.out B2.out) 2).trans rfl)
    | (go_at_call 93; refine (SQ.out _ (B1.out.trans (B2.out.mono B1.out.size))).mono ?_; rintro e w3 ⟨rfl, hb, hb'⟩; have B3 := Aside0.mk hb; have K3 := Aside0.mk (blk_below K2.out hb'); have K3b := Aside0.mk (blk_below (blk_below K1.out B2.out) hb'); have z4 : w3.cell? ⟨gk, 0, none⟩ = some (.int .i64 a1) := (blk_cell K3.out 0).trans rfl; clear hb hb')
    | (go_at_call 79; refine (WI.out _).mono ?_; rintro e w' ⟨rfl, rfl⟩)
    | ((with_reducible refine gate_dst (N := 15) rfl ?_); refine Kd.S_lit (Kd.slice 3 (Kd.int .i64)) _ 28 ?hg (N := 15) ?hd (xs := ([] : List (List Int))) (inner := []) (ok := fun _ => True) (okp := fun _ => True) ?hr ?hp (fun _ hk => hk) trivial (Below.refl _ _) (Nat.le_refl _) (by simp) ?_; (case hd => rfl); (case hg => rfl); (case hr => first | (go_simp; done) | (go_simp; rfl)); (case hp => exact (Reps.none _ _)); intro v5 w5 ho5 hb hg_ hnew_; clear hg_ hnew_; obtain ⟨A5, c5, hv5⟩ := Kd.S_slice ho5; have hv6 : v5 = .slice A5 0 c5 := hv5; clear hv5; subst hv6; have O5 := Aside0.mk ho5; have K5 := Aside0.mk (blk_below K3.out hb); have K5b := Aside0.mk (blk_below K3b.out hb); have B5 := Aside0.mk hb; have L5 := Aside0.mk (And.intro (blk_lt K3.out) (blk_lt K3b.out)); clear ho5 hb)
    | ((with_reducible refine gate_dst (N := 6) rfl ?_); refine box_event ?hg (N := 6) ?hd (cs := #[.slice none 0 0]) (t := 29) ?hr ?_; (case hd => rfl); (case hg => rfl); (case hr => first | (go_simp; done) | (go_simp; rfl)); intro go hg w6 hbox hb; have G6 := Aside0.mk hg; have K6 := Aside0.mk hbox; have B6 := Aside0.mk hb; clear hg hbox hb; have y1 : w6.cell? ⟨go, 0, none⟩ = some (.slice none 0 0) := (blk_cell K6.out 0).trans rfl; have f1 : w6.frozen? ⟨go, 0, none⟩ = false := blk_frozen K6.out 0; have nbo := Aside0.mk (show gb ≠ go from Nat.ne_of_lt (by rw [G6.out]; exact blk_lt K5b.out)); have nko := Aside0.mk (show gk ≠ go from Nat.ne_of_lt (by rw [G6.out]; exact blk_lt K5.out)); have z5 : (w6.setCell ⟨go, 0, none⟩ (.slice A5 0 c5)).cell? ⟨gb, 0, none⟩ = some (.int .i64 a0_0) := (blk_cell (blk_far (blk_below K5b.out B6.out) nbo.out _) 0).trans rfl)
    | (go_at_call 94; (refine (KX.out _ gb gk go ?sB ?s1 ?s2 ?s3 ?s4 ?s5 ?s6 ?s7 ?s8 ?s9).mono ?_); (all_goals have o1 := G1.out); (all_goals have o2 := G2.out); (all_goals have o3 := B1.out.size); (all_goals have o4 := B3.out.size); (all_goals have o5 := B5.out.size); (all_goals have o6 := G6.out); (all_goals have o7 := blk_lt K6.out); (all_goals have o8 : ∀ v, (w6.setCell ⟨go, 0, none⟩ v).heap.size = w6.heap.size := (fun v => by simp [World.setCell])); (all_goals have o9 := blk_lt K5.out); (all_goals have o10 := blk_lt K5b.out); (case sB => exact Below.setCell ((B3.out.trans (B5.out.mono B3.out.size)).trans (B6.out.mono (by omega))) (by (try simp only []); omega) _); (case s1 => omega); (case s2 => omega); (case s3 => omega); (case s4 => exact Ne.symm nbo.out); (case s5 => exact Ne.symm nko.out); (case s6 => rw [o8]; omega); (case s7 => rw [o8]; omega); (case s8 => rw [o8]; omega); (case s9 => exact ⟨blk_far (blk_below K5b.out B6.out) nbo.out _, blk_far (blk_below K5.out B6.out) nko.out _, ⟨_, blk_put K6.out 0 _ rfl, Kd.S_far (Kd.S_mono (Kd.S_below (Kd.S_lower (Kd.S_bound O5.out) B3.out.size) B6.out) (fun i hi => (by have h1 := hi.2.1; have h2 := hi.2.2.1; have h3 := L5.out; exact ⟨by omega, fun h => h, by omega, by omega, by omega⟩))) (p := ⟨go, 0, none⟩) (fun k hk => hk.2.2.1) _⟩, Below.setCell ((B3.out.trans (B5.out.mono B3.out.size)).trans (B6.out.mono (by omega))) (by (try simp only []); omega) _, fun i hi => hi.elim⟩); clear o1 o2 o3 o4 o5 o6 o7 o8 o9 o10; rintro e w7 ⟨rfl, v7, hf1, hf2, hf3⟩; have F2 := Aside0.mk hf2; have F3 := Aside0.mk hf3; have y7 : w7.cell? ⟨go, 0, none⟩ = some v7 := (blk_cell hf1 0).trans rfl; clear hf1 hf2 hf3))
  go_ret2
  exact ⟨_, rfl, F2.out, F3.out⟩

end Go.Proofs.Ytiopnmgcajohfaa.Q
end
section
namespace Go.Proofs.Ytiopnmgcajohfaa.Q
open Go.RowKit Go.Proofs.YtiopnmgcajohfaaW.PrintWords Go.Proofs.YtiopnmgcajohfaaW.PrintLast Go.Proofs.YtiopnmgcajohfaaW.PrintMore
attribute [local go_sem] max2_int min2_int max_two min_two max_three min_three max_four min_four   -- for this text's walks alone
set_option linter.unusedVariables false
set_option linter.unusedSimpArgs false

/-! ### spec_PermutationsHitting: function 30 -/
mutual
def spec_PermutationsHitting.j0 : Nat → Int → Bool → Int → Int → List Int → Option ((List (List Int)) × Bool)
  | 0, _, _, _, _, _ => none
  | k + 1, x1, x16, x102000, x102001, x102002 => if x16 = true then (some (([] : List (List Int)), false)) else ((spec_hiAll.f k x102000 ([] : List Int)).bind fun t104 => (spec_PermutationsHitting.l0 k x1 ([] : List (List Int)) t104 (t104.length : Int) 0 x102000 x102001 x102002))
def spec_PermutationsHitting.l0 : Nat → Int → List (List Int) → List (List Int) → Int → Int → Int → Int → List Int → Option ((List (List Int)) × Bool)
  | 0, _, _, _, _, _, _, _, _ => none
  | k + 1, x1, x6, x19, x20, x21, x102000, x102001, x102002 => if x21 < x20 then (if 0 ≤ x21 then (if x21 < (x19.length : Int) then ((spec_hiHits.f k x102000 x102001 x102002 (rd_L1 x19 x21)).bind fun t108 => (if t108 = x1 then (if x6.length < 5864062014805 then (spec_PermutationsHitting.l0 k x1 (x6 ++ [rd_L1 x19 x21]) x19 x20 (wrap64 (x21 + 1)) x102000 x102001 x102002) else (none)) else (spec_PermutationsHitting.l0 k x1 x6 x19 x20 (wrap64 (x21 + 1)) x102000 x102001 x102002))) else (none)) else (none)) else (some (x6, true))
end
def spec_PermutationsHitting.f (k : Nat) (a0_0 : Int) (a0_1 : Int) (l0_2 : List Int) (a1 : Int) : Option ((List (List Int)) × Bool) := (spec_hiGood.f k a0_0 a0_1 l0_2).bind fun t102 => (if t102 = true then ((spec_l1In.f a1 0 6).bind fun t103 => (spec_PermutationsHitting.j0 k a1 (!t103) a0_0 a0_1 l0_2)) else (spec_PermutationsHitting.j0 k a1 true a0_0 a0_1 l0_2))
theorem spec_PermutationsHitting.mono_l : ∀ k, (∀ y0 y1 y2 y3 y4, LeO (spec_PermutationsHitting.j0 k y0 y1 y2 y3 y4) (spec_PermutationsHitting.j0 (k + 1) y0 y1 y2 y3 y4)) ∧ (∀ y0 y1 y2 y3 y4 y5 y6 y7, LeO (spec_PermutationsHitting.l0 k y0 y1 y2 y3 y4 y5 y6 y7) (spec_PermutationsHitting.l0 (k + 1) y0 y1 y2 y3 y4 y5 y6 y7))
  | 0 => ⟨fun _ _ _ _ _ r h => by simp [spec_PermutationsHitting.j0] at h, fun _ _ _ _ _ _ _ _ r h => by simp [spec_PermutationsHitting.l0] at h⟩
  | k + 1 => by
    obtain ⟨ih0, ih1⟩ := spec_PermutationsHitting.mono_l k
    refine ⟨?_, ?_⟩
    · intro y0 y1 y2 y3 y4
      unfold spec_PermutationsHitting.j0
      repeat' first
      | (with_reducible exact ih0 _ _ _ _ _)
      | (with_reducible exact ih1 _ _ _ _ _ _ _ _)
      | (with_reducible exact spec_hiAll.mono _ _ _)
      | (with_reducible exact spec_hiGood.mono _ _ _ _)
      | (with_reducible exact spec_hiHits.mono _ _ _ _ _)
      | (with_reducible exact LeO.refl _)
      | (with_reducible exact LeO.none _)
      | (with_reducible refine LeO.ite ?_ ?_)
      | (with_reducible refine LeO.bind ?_ (fun _ => ?_))
      | exact ih0 _ _ _ _ _
      | exact ih1 _ _ _ _ _ _ _ _
      | exact spec_hiAll.mono _ _ _
      | exact spec_hiGood.mono _ _ _ _
      | exact spec_hiHits.mono _ _ _ _ _
      | exact LeO.none _
      | refine LeO.ite ?_ ?_
      | refine LeO.bind ?_ (fun _ => ?_)
    · intro y0 y1 y2 y3 y4 y5 y6 y7
      unfold spec_PermutationsHitting.l0
      repeat' first
      | (with_reducible exact ih0 _ _ _ _ _)
      | (with_reducible exact ih1 _ _ _ _ _ _ _ _)
      | (with_reducible exact spec_hiAll.mono _ _ _)
      | (with_reducible exact spec_hiGood.mono _ _ _ _)
      | (with_reducible exact spec_hiHits.mono _ _ _ _ _)
      | (with_reducible exact LeO.refl _)
      | (with_reducible exact LeO.none _)
      | (with_reducible refine LeO.ite ?_ ?_)
      | (with_reducible refine LeO.bind ?_ (fun _ => ?_))
      | exact ih0 _ _ _ _ _
      | exact ih1 _ _ _ _ _ _ _ _
      | exact spec_hiAll.mono _ _ _
      | exact spec_hiGood.mono _ _ _ _
      | exact spec_hiHits.mono _ _ _ _ _
      | exact LeO.none _
      | refine LeO.ite ?_ ?_
      | refine LeO.bind ?_ (fun _ => ?_)
theorem spec_PermutationsHitting.mono : ∀ a0 a1 a2 a3 k, LeO (spec_PermutationsHitting.f k a0 a1 a2 a3) (spec_PermutationsHitting.f (k + 1) a0 a1 a2 a3) := by
  intro a0 a1 a2 a3 k
  obtain ⟨ih0, ih1⟩ := spec_PermutationsHitting.mono_l k
  unfold spec_PermutationsHitting.f
  repeat' first
      | (with_reducible exact ih0 _ _ _ _ _)
      | (with_reducible exact ih1 _ _ _ _ _ _ _ _)
      | (with_reducible exact spec_hiAll.mono _ _ _)
      | (with_reducible exact spec_hiGood.mono _ _ _ _)
      | (with_reducible exact spec_hiHits.mono _ _ _ _ _)
      | (with_reducible exact LeO.refl _)
      | (with_reducible exact LeO.none _)
      | (with_reducible refine LeO.ite ?_ ?_)
      | (with_reducible refine LeO.bind ?_ (fun _ => ?_))
      | exact ih0 _ _ _ _ _
      | exact ih1 _ _ _ _ _ _ _ _
      | exact spec_hiAll.mono _ _ _
      | exact spec_hiGood.mono _ _ _ _
      | exact spec_hiHits.mono _ _ _ _ _
      | exact LeO.none _
      | refine LeO.ite ?_ ?_
      | refine LeO.bind ?_ (fun _ => ?_)
set_option maxHeartbeats 8000000 in
set_option maxRecDepth 100000 in
theorem spec_PermutationsHitting.calls (k : Nat) (a0_0 : Int) (a0_1 : Int) (A0_2 : Option Addr) (c0_2 : Nat) (l0_2 : List Int) (a1 : Int) (r1 : List (List Int)) (r2 : Bool) (w : World) (hr0_2 : Kd.C (Kd.int .i64) w A0_2 l0_2.length l0_2) (hc0_2 : l0_2.length ≤ c0_2) (h : spec_PermutationsHitting.f k a0_0 a0_1 l0_2 a1 = some (r1, r2)) :
    Calls Try.prog 30 #[.agg #[.int .i64 a0_0, .int .i64 a0_1, .slice A0_2 l0_2.length c0_2], .int .i64 a1] w fun e w' => ∃ v0_ : Value, e = .returned (.tuple #[v0_, .bool r2]) ∧ Kd.N (Kd.slice 3 (Kd.int .i64)) 28 w' w.heap.size (fun k_ => (w.heap.size ≤ k_)) v0_ r1 ∧ Below w.heap.size w w' := by
  have hu43 := Try.underlying43
  have HR0_2 := Aside0.mk hr0_2
  have HC0_2 := Aside0.mk hc0_2
  clear hr0_2 hc0_2
  have HB := Aside0.mk (Below.refl w.heap.size w)
  have H : ((spec_hiGood.f k a0_0 a0_1 l0_2).bind fun t102 => (if t102 = true then ((spec_l1In.f a1 0 6).bind fun t103 => (spec_PermutationsHitting.j0 k a1 (!t103) a0_0 a0_1 l0_2)) else (spec_PermutationsHitting.j0 k a1 true a0_0 a0_1 l0_2))) = some (r1, r2) := h
  clear h
  have HC3 := Aside0.mk H
  clear H
  go_enter Try.func30, Try.ntmps30
  go_upto_region 1 with (first | ((with_reducible refine gate_dst (N := 2) rfl ?_); refine box_event ?hg (N := 2) ?hd (cs := #[.int .i64 a0_0, .int .i64 a0_1, .slice A0_2 l0_2.length c0_2]) (t := 43) ?hr ?_; (case hd => rfl); (case hg => rfl); (case hr => first | (go_simp; done) | (go_simp; rfl)); intro gb101 hg w4 hbox hb; have n0_ := Aside0.mk (below_step (by repeat (first | (with_reducible first | exact HB.out | apply below_alloc | apply pw_below_drewN | apply below_drew1) | exact HB.out)) hb); have n1_ := Aside0.mk (hbox); have n2_ := Aside0.mk ((by rw [hg]; exact (below_size (by repeat (first | (with_reducible first | exact HB.out | apply below_alloc | apply pw_below_drewN | apply below_drew1) | exact HB.out))) : w.heap.size ≤ gb101)); have n3_ := Aside0.mk ((by rw [hg]; exact (below_size (by repeat (first | (with_reducible first | exact HB.out | apply below_alloc | apply pw_below_drewN | apply below_drew1) | exact HB.out))) : w.heap.size ≤ gb101)); clear HB; have HB := n0_; have BK101 := n1_; have GW101 := n2_; have GE101 := n3_; clear n0_ n1_ n2_ n3_; clear hb hbox hg))
  (try simp only [Act.put, List.setIfInBounds_toArray, List.set_cons_zero, List.set_cons_succ])
  go_cut [16] (fun v16 wc => ∃ (kq : Nat) (x16_2 : Bool), v16 = .bool x16_2 ∧ Aside0 (spec_PermutationsHitting.j0 kq a1 x16_2 a0_0 a0_1 l0_2 = some (r1, r2)) ∧ Aside0 (kq ≤ k) ∧ Aside0 (wc.heap[gb101]? = some (.cells #[.int .i64 a0_0, .int .i64 a0_1, (.slice A0_2 l0_2.length c0_2)] 43 (0, 0))) ∧ Aside0 (Below w.heap.size w wc))
  case first =>
    have H := HC3.out
    clear HC3
    replace H := Option.bind_eq_some_iff.mp H
    obtain ⟨t102, A50, H⟩ := H
    replace H : (if t102 = true then ((spec_l1In.f a1 0 6).bind fun t103 => (spec_PermutationsHitting.j0 k a1 (!t103) a0_0 a0_1 l0_2)) else (spec_PermutationsHitting.j0 k a1 true a0_0 a0_1 l0_2)) = some (r1, r2) := H
    have A5 := Aside0.mk A50
    clear A50
    by_cases c6 : t102 = true
    · subst c6
      have H1 : ((spec_l1In.f a1 0 6).bind fun t103 => (spec_PermutationsHitting.j0 k a1 (!t103) a0_0 a0_1 l0_2)) = some (r1, r2) := by rw [if_pos rfl] at H; exact H
      clear H
      have H := H1
      clear H1
      replace H := Option.bind_eq_some_iff.mp H
      obtain ⟨t103, A70, H⟩ := H
      replace H : (spec_PermutationsHitting.j0 k a1 (!t103) a0_0 a0_1 l0_2) = some (r1, r2) := H
      have A7 := Aside0.mk A70
      clear A70
      have H' := Aside0.mk H
      clear H
      have hcz8_0 : w4.cell? ⟨gb101, 0, none⟩ = some (.int .i64 a0_0) := (blk_cell BK101.out 0).trans rfl
      have hcz8_1 : w4.cell? ⟨gb101, 1, none⟩ = some (.int .i64 a0_1) := (blk_cell BK101.out 1).trans rfl
      have hcz8_2 : w4.cell? ⟨gb101, 2, none⟩ = some (.slice A0_2 l0_2.length c0_2) := (blk_cell BK101.out 2).trans rfl
      have hfz8_0 := blk_frozen BK101.out 0
      have hfz8_1 := blk_frozen BK101.out 1
      have hfz8_2 := blk_frozen BK101.out 2
      go_wp2_with (first | ((with_reducible refine gate_callee (f := 90) rfl ?_); refine goesL_ (some 10) rfl rfl Try.func90 (by kernel_rfl) rfl #[.agg #[.int .i64 a0_0, .int .i64 a0_1, .slice A0_2 l0_2.length c0_2]] rfl (by (try simp only [List.map_toArray, List.map_cons, List.map_nil]); first | done | rfl | (simp only [List.length_drop, List.length_take]; rfl)) ?_; (with_reducible refine (spec_hiGood.calls k a0_0 a0_1 _ _ l0_2 true _ ?side1 ?side2 A5.out).mono ?_); (case side1 => repeat (first | exact (Kd.C_below HR0_2.out HB.out) | (with_reducible refine Kd.C_alloc ?_ _) | (with_reducible refine Kd.C_drewN ?_ _) | (with_reducible refine Kd.C_drew ?_))); (case side2 => exact HC0_2.out); rintro e w9 ⟨rfl, hb⟩; refine ⟨_, rfl, ?_⟩; have n0_ := Aside0.mk (blk_below (g := gb101) (o := .cells #[.int .i64 a0_0, .int .i64 a0_1, .slice A0_2 l0_2.length c0_2] 43 (0, 0)) (by (with_reducible repeat (first | refine blk_drewN ?_ _ | refine blk_drew ?_ | refine blk_alloc ?_ _)); exact BK101.out) hb); have n1_ := Aside0.mk (below_step (by repeat (first | (with_reducible first | exact HB.out | apply below_alloc | apply pw_below_drewN | apply below_drew1 | refine below_set ?_ GE101.out) | exact HB.out)) hb); clear BK101; clear HB; have BK101 := n0_; have HB := n1_; clear n0_ n1_; (try clear hb); (try clear hb2); (try clear hk); (try clear hi)) | (go_at_call 77; (with_reducible refine (spec_l1In.calls a1 0 6 t103 _ A7.out).mono ?_); rintro e w' ⟨rfl, ⟨nd, rfl⟩⟩))
      go_meet
      case rel => exact ⟨_, (!t103), (by first | rfl | (simp; done) | (simp [*]; done)), H', ⟨by first | omega | exact Nat.le_refl _⟩, ⟨by (with_reducible repeat (first | refine blk_drewN ?_ _ | refine blk_drew ?_ | refine blk_alloc ?_ _)); exact BK101.out⟩, ⟨by repeat (first | (with_reducible first | exact HB.out | apply below_alloc | apply pw_below_drewN | apply below_drew1 | refine below_set ?_ GE101.out) | exact HB.out)⟩⟩
    · replace c6 := Bool.eq_false_iff.mpr c6
      subst c6
      have H1 : (spec_PermutationsHitting.j0 k a1 true a0_0 a0_1 l0_2) = some (r1, r2) := by rw [if_neg (show ¬ (false = true) by decide)] at H; exact H
      clear H
      have H := H1
      clear H1
      have H' := Aside0.mk H
      clear H
      have hcz10_0 : w4.cell? ⟨gb101, 0, none⟩ = some (.int .i64 a0_0) := (blk_cell BK101.out 0).trans rfl
      have hcz10_1 : w4.cell? ⟨gb101, 1, none⟩ = some (.int .i64 a0_1) := (blk_cell BK101.out 1).trans rfl
      have hcz10_2 : w4.cell? ⟨gb101, 2, none⟩ = some (.slice A0_2 l0_2.length c0_2) := (blk_cell BK101.out 2).trans rfl
      have hfz10_0 := blk_frozen BK101.out 0
      have hfz10_1 := blk_frozen BK101.out 1
      have hfz10_2 := blk_frozen BK101.out 2
      go_wp2_with (first | ((with_reducible refine gate_callee (f := 90) rfl ?_); refine goesL_ (some 10) rfl rfl Try.func90 (by kernel_rfl) rfl #[.agg #[.int .i64 a0_0, .int .i64 a0_1, .slice A0_2 l0_2.length c0_2]] rfl (by (try simp only [List.map_toArray, List.map_cons, List.map_nil]); first | done | rfl | (simp only [List.length_drop, List.length_take]; rfl)) ?_; (with_reducible refine (spec_hiGood.calls k a0_0 a0_1 _ _ l0_2 false _ ?side1 ?side2 A5.out).mono ?_); (case side1 => repeat (first | exact (Kd.C_below HR0_2.out HB.out) | (with_reducible refine Kd.C_alloc ?_ _) | (with_reducible refine Kd.C_drewN ?_ _) | (with_reducible refine Kd.C_drew ?_))); (case side2 => exact HC0_2.out); rintro e w11 ⟨rfl, hb⟩; refine ⟨_, rfl, ?_⟩; have n0_ := Aside0.mk (blk_below (g := gb101) (o := .cells #[.int .i64 a0_0, .int .i64 a0_1, .slice A0_2 l0_2.length c0_2] 43 (0, 0)) (by (with_reducible repeat (first | refine blk_drewN ?_ _ | refine blk_drew ?_ | refine blk_alloc ?_ _)); exact BK101.out) hb); have n1_ := Aside0.mk (below_step (by repeat (first | (with_reducible first | exact HB.out | apply below_alloc | apply pw_below_drewN | apply below_drew1 | refine below_set ?_ GE101.out) | exact HB.out)) hb); clear BK101; clear HB; have BK101 := n0_; have HB := n1_; clear n0_ n1_; (try clear hb); (try clear hb2); (try clear hk); (try clear hi)))
      go_meet
      case rel => exact ⟨_, (true), (by first | rfl | (simp; done) | (simp [*]; done)), H', ⟨by first | omega | exact Nat.le_refl _⟩, ⟨by (with_reducible repeat (first | refine blk_drewN ?_ _ | refine blk_drew ?_ | refine blk_alloc ?_ _)); exact BK101.out⟩, ⟨by repeat (first | (with_reducible first | exact HB.out | apply below_alloc | apply pw_below_drewN | apply below_drew1 | refine below_set ?_ GE101.out) | exact HB.out)⟩⟩
  case rest =>
    clear HC3
    try clear p2
    try clear c3
    try clear c6
    try clear c9
    try clear hcz10_0
    try clear hcz10_1
    try clear hcz10_2
    try clear hcz8_0
    try clear hcz8_1
    try clear hcz8_2
    try clear hfz10_0
    try clear hfz10_1
    try clear hfz10_2
    try clear hfz8_0
    try clear hfz8_1
    try clear hfz8_2
    obtain ⟨kq, x16_2, rfl, HA, HJ2, BK101, HB⟩ := hcut
    cases kq with
    | zero => exact absurd HA.out (by simp [spec_PermutationsHitting.j0])
    | succ kj2 =>
      have H := HA.out
      clear HA
      simp only [spec_PermutationsHitting.j0] at H
      by_cases c12 : x16_2 = true
      · subst c12
        have H1 : (some (([] : List (List Int)), false)) = some (r1, r2) := by rw [if_pos rfl] at H; exact H
        clear H
        have H := H1
        clear H1
        simp only [Option.some.injEq, Prod.mk.injEq] at H
        obtain ⟨rfl, rfl⟩ := H
        go_wp2
        go_ret2
        exact ⟨_, by first | rfl | (simp [errW_none, errW_some] <;> rfl) | (simp [*, errW_none, errW_some] <;> rfl), by first | exact Kd.S_nil _ _ _ _ _ | exact Kd.N_nil _ _ _ _ _ | exact Kd.V_nil _ _ _ _ _ | exact Kd.Q_nil _ _ _ _ _ | exact Kd.R_nil _ _ _ _ _, by repeat (first | (with_reducible first | exact HB.out | apply below_alloc | apply pw_below_drewN | apply below_drew1 | refine below_set ?_ GE101.out) | exact HB.out)⟩
      · replace c12 := Bool.eq_false_iff.mpr c12
        subst c12
        have H1 : ((spec_hiAll.f kj2 a0_0 ([] : List Int)).bind fun t104 => (spec_PermutationsHitting.l0 kj2 a1 ([] : List (List Int)) t104 (t104.length : Int) 0 a0_0 a0_1 l0_2)) = some (r1, r2) := by rw [if_neg (show ¬ (false = true) by decide)] at H; exact H
        clear H
        have H := H1
        clear H1
        replace H := Option.bind_eq_some_iff.mp H
        obtain ⟨t104, A130, H⟩ := H
        replace H : (spec_PermutationsHitting.l0 kj2 a1 ([] : List (List Int)) t104 (t104.length : Int) 0 a0_0 a0_1 l0_2) = some (r1, r2) := H
        have A13 := Aside0.mk A130
        clear A130
        have H' := Aside0.mk H
        clear H
        have hcz14_0 : wc.cell? ⟨gb101, 0, none⟩ = some (.int .i64 a0_0) := (blk_cell BK101.out 0).trans rfl
        have hcz14_1 : wc.cell? ⟨gb101, 1, none⟩ = some (.int .i64 a0_1) := (blk_cell BK101.out 1).trans rfl
        have hcz14_2 : wc.cell? ⟨gb101, 2, none⟩ = some (.slice A0_2 l0_2.length c0_2) := (blk_cell BK101.out 2).trans rfl
        have hfz14_0 := blk_frozen BK101.out 0
        have hfz14_1 := blk_frozen BK101.out 1
        have hfz14_2 := blk_frozen BK101.out 2
        go_wp2_with (first | ((with_reducible refine gate_callee (f := 91) rfl ?_); refine goesL_ (some 19) rfl rfl Try.func91 (by kernel_rfl) rfl #[.int .i64 a0_0, .slice none 0 0] rfl (by (try simp only [List.map_toArray, List.map_cons, List.map_nil]); first | done | rfl | (simp only [List.length_drop, List.length_take]; rfl)) ?_; (refine (spec_hiAll.calls kj2 a0_0 _ _ ([] : List Int) t104 _ ?side1 ?side2 A13.out).mono ?_); (case side1 => exact Kd.C_nil _ _); (case side2 => exact Nat.le_refl _); rintro e w15 ⟨v105, rfl, ho0, hb⟩; refine ⟨_, rfl, ?_⟩; have n0_ := Aside0.mk (Kd.N_lower (Kd.N_mono (ok' := fun k_ => (w.heap.size ≤ k_) ∧ k_ ≠ gb101) ho0 (fun k_ hk_ => ⟨(Nat.le_trans (below_size (by repeat (first | (with_reducible first | exact HB.out | apply below_alloc | apply pw_below_drewN | apply below_drew1 | refine below_set ?_ GE101.out) | exact HB.out))) hk_), (Kd.freshB (g := gb101) (o := .cells #[.int .i64 a0_0, .int .i64 a0_1, .slice A0_2 l0_2.length c0_2] 43 (0, 0)) (by (with_reducible repeat (first | refine blk_drewN ?_ _ | refine blk_drew ?_ | refine blk_alloc ?_ _)); exact BK101.out) k_ hk_)⟩)) (below_size (by repeat (first | (with_reducible first | exact HB.out | apply below_alloc | apply pw_below_drewN | apply below_drew1 | refine below_set ?_ GE101.out) | exact HB.out)))); have n1_ := Aside0.mk (blk_below (g := gb101) (o := .cells #[.int .i64 a0_0, .int .i64 a0_1, .slice A0_2 l0_2.length c0_2] 43 (0, 0)) (by (with_reducible repeat (first | refine blk_drewN ?_ _ | refine blk_drew ?_ | refine blk_alloc ?_ _)); exact BK101.out) hb); have n2_ := Aside0.mk (below_step (by repeat (first | (with_reducible first | exact HB.out | apply below_alloc | apply pw_below_drewN | apply below_drew1 | refine below_set ?_ GE101.out) | exact HB.out)) hb); clear BK101; clear HB; have HO106 := n0_; have BK101 := n1_; have HB := n2_; clear n0_ n1_ n2_; (try clear hb); (try clear hb2); (try clear hk); (try clear hi); (try clear ho0); obtain ⟨Ao16, co16, eo16⟩ := Kd.N_slice HO106.out; subst eo16))
        go_loopg [6, 21] kj2 (fun kq v6 v21 w' => ∃ (x6_2 : List (List Int)) (x21_2 : Int), v21 = .int .i64 x21_2 ∧ Aside0 (spec_PermutationsHitting.l0 kq a1 x6_2 t104 (t104.length : Int) x21_2 a0_0 a0_1 l0_2 = some (r1, r2)) ∧ Aside0 (kq ≤ kj2) ∧ Aside0 (Kd.N (Kd.slice 3 (Kd.int .i64)) 28 w' w.heap.size (fun k_ => (w.heap.size ≤ k_) ∧ some k_ ≠ ((.slice Ao16 t104.length co16) : Value).ownBlock ∧ k_ ≠ gb101) v6 x6_2) ∧ Aside0 (Kd.N (Kd.slice 3 (Kd.int .i64)) 28 w' w.heap.size (fun k_ => (w.heap.size ≤ k_) ∧ some k_ ≠ (v6 : Value).ownBlock ∧ k_ ≠ gb101) (.slice Ao16 t104.length co16) t104) ∧ Aside0 (w'.heap[gb101]? = some (.cells #[.int .i64 a0_0, .int .i64 a0_1, (.slice A0_2 l0_2.length c0_2)] 43 (0, 0))) ∧ Aside0 (Below w.heap.size w w'))
        case atStart => exact ⟨(([] : List (List Int))), (0), (by first | rfl | (simp; done) | (simp [*]; done)), H', ⟨Nat.le_refl _⟩, ⟨by first | exact Kd.S_nil _ _ _ _ _ | exact Kd.N_nil _ _ _ _ _ | exact Kd.V_nil _ _ _ _ _ | exact Kd.Q_nil _ _ _ _ _ | exact Kd.R_nil _ _ _ _ _⟩, ⟨by (with_reducible repeat (first | apply Kd.N_alloc | apply Kd.N_drewN | apply Kd.N_drew)); exact Kd.N_mono HO106.out (fun _ hk => ⟨hk.1, ⟨(by simp [Value.ownBlock]), hk.2⟩⟩)⟩, ⟨by (with_reducible repeat (first | refine blk_drewN ?_ _ | refine blk_drew ?_ | refine blk_alloc ?_ _)); exact BK101.out⟩, ⟨by repeat (first | (with_reducible first | exact HB.out | apply below_alloc | apply pw_below_drewN | apply below_drew1 | refine below_set ?_ GE101.out) | exact HB.out)⟩⟩
        case round =>
          clear H'
          try clear c1
          try clear p2
          try clear c3
          try clear c6
          try clear c9
          try clear c12
          try clear hcz10_0
          try clear hcz10_1
          try clear hcz10_2
          try clear hcz14_0
          try clear hcz14_1
          try clear hcz14_2
          try clear hcz8_0
          try clear hcz8_1
          try clear hcz8_2
          try clear hfz10_0
          try clear hfz10_1
          try clear hfz10_2
          try clear hfz14_0
          try clear hfz14_1
          try clear hfz14_2
          try clear hfz8_0
          try clear hfz8_1
          try clear hfz8_2
          try clear p2
          obtain ⟨x6_2, x21_2, rfl, HA, HK2, HO_6, HO_19, BK101, HB⟩ := hrel
          cases gk with
          | zero => exact absurd HA.out (by simp [spec_PermutationsHitting.l0])
          | succ k2 =>
            have H := HA.out
            clear HA
            simp only [spec_PermutationsHitting.l0] at H
            by_cases c17 : x21_2 < (t104.length : Int)
            · rw [if_pos c17] at H
              have c17b0 : decide (x21_2 < (t104.length : Int)) = true := decide_eq_true c17
              clear c17
              by_cases c18 : 0 ≤ x21_2
              · rw [if_pos c18] at H
                have c18b0 : decide (0 ≤ x21_2) = true := decide_eq_true c18
                clear c18
                by_cases c19 : x21_2 < (t104.length : Int)
                · rw [if_pos c19] at H
                  have c19b0 : decide (x21_2 < (t104.length : Int)) = true := decide_eq_true c19
                  clear c19
                  replace H := Option.bind_eq_some_iff.mp H
                  obtain ⟨t108, A200, H⟩ := H
                  replace H : (if t108 = a1 then (if x6_2.length < 5864062014805 then (spec_PermutationsHitting.l0 k2 a1 (x6_2 ++ [rd_L1 t104 x21_2]) t104 (t104.length : Int) (wrap64 (x21_2 + 1)) a0_0 a0_1 l0_2) else (none)) else (spec_PermutationsHitting.l0 k2 a1 x6_2 t104 (t104.length : Int) (wrap64 (x21_2 + 1)) a0_0 a0_1 l0_2)) = some (r1, r2) := H
                  have A20 := Aside0.mk A200
                  clear A200
                  by_cases c21 : t108 = a1
                  · rw [if_pos c21] at H
                    have c21b0 : (t108 == a1) = true := beq_iff_eq.mpr c21
                    have c21b1 : (t108 != a1) = false := bne_eq_false_iff_eq.mpr c21
                    clear c21
                    by_cases c22 : x6_2.length < 5864062014805
                    · rw [if_pos c22] at H
                      have LMc22 := Aside0.mk c22
                      clear c22
                      obtain ⟨y109, hy109⟩ : ∃ y_ : List (List Int), y_ = (x6_2 ++ [rd_L1 t104 x21_2]) := ⟨_, rfl⟩
                      replace H : (spec_PermutationsHitting.l0 k2 a1 y109 t104 (t104.length : Int) (wrap64 (x21_2 + 1)) a0_0 a0_1 l0_2) = some (r1, r2) := by first | (rw [hy109]; with_reducible exact H) | (have H2_ := (Option.bind_some _ _).symm.trans H; rw [hy109]; with_reducible exact H2_) | (have H2_ := (Option.bind_some _ _).symm.trans H; with_reducible exact H2_) | with_reducible exact H | (rw [hy109]; exact H) | exact H
                      have Ny109 := Aside0.mk hy109
                      clear hy109
                      have H' := Aside0.mk H
                      clear H
                      have p107 : 0 ≤ (x21_2 : Int) := of_decide_eq_true (by first | (with_reducible assumption) | assumption)
                      have q107 : x21_2 < (t104.length : Int) := of_decide_eq_true (by first | (with_reducible assumption) | assumption)
                      obtain ⟨ad107, A107_0, c107_0, e107, hx107_0, hl107_0, hi107_0⟩ := at_L1 (Kd.N_reads' HO_19.out).2.2 x21_2 p107 q107
                      cases e107
                      obtain ⟨ce107, hce107, hMe107, hcc107⟩ := Kd.N_get HO_19.out [] x21_2 p107 (by first | exact q107 | exact of_decide_eq_true (by first | (with_reducible assumption) | assumption) | (have e_ := (Kd.N_reads' HO_19.out).1; omega))
                      obtain ⟨ua107_0, uc107_0, rfl, ul107_0, ge107_0⟩ := Kd.FK_slice_open hMe107
                      have hv107_0 := hcc107 0 _ rfl
                      rw [Nat.add_zero, show ((Kd.slice 3 (Kd.int .i64))).sz = 1 from rfl, Nat.mul_one] at hv107_0
                      replace hv107_0 := Option.some.inj (hv107_0.symm.trans hx107_0)
                      injection hv107_0 with hva_ hvn_ hvc_
                      rw [hva_] at ge107_0
                      rw [hvc_] at ul107_0
                      have HL107_0 := Aside0.mk (show Kd.V (Kd.int .i64) 3 _ w.heap.size _ _ (rd_L1 t104 x21_2) from Kd.V_mk ul107_0 ge107_0)
                      clear hva_ hvn_ hvc_ ge107_0 ul107_0
                      clear hcc107 hce107
                      have HR107_0 := Aside0.mk hi107_0
                      have HC107_0 := Aside0.mk hl107_0
                      clear hi107_0 hl107_0
                      replace p107 := eq_true p107
                      replace q107 := eq_true q107
                      have hcz23_0 : wr.cell? ⟨gb101, 0, none⟩ = some (.int .i64 a0_0) := (blk_cell BK101.out 0).trans rfl
                      have hcz23_1 : wr.cell? ⟨gb101, 1, none⟩ = some (.int .i64 a0_1) := (blk_cell BK101.out 1).trans rfl
                      have hcz23_2 : wr.cell? ⟨gb101, 2, none⟩ = some (.slice A0_2 l0_2.length c0_2) := (blk_cell BK101.out 2).trans rfl
                      have hfz23_0 := blk_frozen BK101.out 0
                      have hfz23_1 := blk_frozen BK101.out 1
                      have hfz23_2 := blk_frozen BK101.out 2
                      go_wp2_with (first | ((with_reducible refine gate_callee (f := 92) rfl ?_); refine goesL_ (some 27) rfl rfl Try.func92 (by kernel_rfl) rfl #[.agg #[.int .i64 a0_0, .int .i64 a0_1, .slice A0_2 l0_2.length c0_2], .slice A107_0 (rd_L1 t104 x21_2).length c107_0] rfl (by (try simp only [List.map_toArray, List.map_cons, List.map_nil]); first | done | rfl | (simp only [List.length_drop, List.length_take]; rfl)) ?_; (with_reducible refine (spec_hiHits.calls k2 a0_0 a0_1 _ _ l0_2 _ _ (rd_L1 t104 x21_2) t108 _ ?side1 ?side2 ?side3 ?side4 A20.out).mono ?_); (case side1 => repeat (first | exact (Kd.C_below HR0_2.out HB.out) | (with_reducible refine Kd.C_alloc ?_ _) | (with_reducible refine Kd.C_drewN ?_ _) | (with_reducible refine Kd.C_drew ?_))); (case side2 => exact HC0_2.out); (case side3 => repeat (first | exact (by repeat (first | (with_reducible exact HR107_0.out) | (with_reducible refine Kd.C_alloc ?_ _) | (with_reducible refine Kd.C_drewN ?_ _) | (with_reducible refine Kd.C_drew ?_) | exact HR107_0.out)) | (with_reducible refine Kd.C_alloc ?_ _) | (with_reducible refine Kd.C_drewN ?_ _) | (with_reducible refine Kd.C_drew ?_))); (case side4 => exact HC107_0.out); rintro e w24 ⟨rfl, hb⟩; refine ⟨_, rfl, ?_⟩; have n0_ := Aside0.mk (Kd.N_below (by (with_reducible repeat (first | apply Kd.N_alloc | apply Kd.N_drewN | apply Kd.N_drew)); exact HO_6.out) hb); have n1_ := Aside0.mk (Kd.N_below (by (with_reducible repeat (first | apply Kd.N_alloc | apply Kd.N_drewN | apply Kd.N_drew)); exact HO_19.out) hb); have n2_ := Aside0.mk (Kd.V_below (by (with_reducible repeat (first | apply Kd.V_alloc | apply Kd.V_drewN | apply Kd.V_drew)); exact HL107_0.out) hb); have n3_ := Aside0.mk (blk_below (g := gb101) (o := .cells #[.int .i64 a0_0, .int .i64 a0_1, .slice A0_2 l0_2.length c0_2] 43 (0, 0)) (by (with_reducible repeat (first | refine blk_drewN ?_ _ | refine blk_drew ?_ | refine blk_alloc ?_ _)); exact BK101.out) hb); have n4_ := Aside0.mk (Kd.C_below (by repeat (first | (with_reducible exact HR107_0.out) | (with_reducible refine Kd.C_alloc ?_ _) | (with_reducible refine Kd.C_drewN ?_ _) | (with_reducible refine Kd.C_drew ?_) | exact HR107_0.out)) hb); have n5_ := Aside0.mk (below_step (by repeat (first | (with_reducible first | exact HB.out | apply below_alloc | apply pw_below_drewN | apply below_drew1 | refine below_set ?_ GE101.out) | exact HB.out)) hb); clear HO_6; clear HO_19; clear HL107_0; clear BK101; clear HR107_0; clear HB; have HO_6 := n0_; have HO_19 := n1_; have HL107_0 := n2_; have BK101 := n3_; have HR107_0 := n4_; have HB := n5_; clear n0_ n1_ n2_ n3_ n4_ n5_; (try clear hb); (try clear hb2); (try clear hk); (try clear hi)) | ((with_reducible refine gate_builtin (b := .append) (xs := #[.tmp 30, .tmp 32]) rfl ?_); at_builtin; refine Kd.N_append (Kd.slice 3 (Kd.int .i64)) (w0 := w) w.heap.size rfl (.tmp 30) (.tmp 32) 29 28 (.slice none 0 0) 24 rfl Try.underlying29 info28 rfl (by decide) (by omega) u6 x6_2 (rd_L1 t104 x21_2) [.slice A107_0 (rd_L1 t104 x21_2).length c107_0] (fun k_ => (w.heap.size ≤ k_) ∧ some k_ ≠ (.slice (some ad107) t104.length co16 : Value).ownBlock ∧ k_ ≠ gb101) (fun k_ => ((fun k_ => (w.heap.size ≤ k_) ∧ some k_ ≠ (.slice (some ad107) t104.length co16 : Value).ownBlock ∧ k_ ≠ gb101)) k_ ∧ some k_ ≠ (u6 : Value).ownBlock) rfl rfl ?aP (fun _ hk => hk) ?aF ?aO ?aB ?aS ?aL ?_; (case aP => exact (Kd.FK_slice_mk (Kd.V_reads' (Kd.V_mono (ok' := (fun k_ => ((fun k_ => (w.heap.size ≤ k_) ∧ some k_ ≠ (.slice (some ad107) t104.length co16 : Value).ownBlock ∧ k_ ≠ gb101)) k_ ∧ some k_ ≠ (u6 : Value).ownBlock)) (HL107_0.out) (fun k_ hk => ⟨⟨hk.1.1, ⟨hk.2, hk.1.2.2⟩⟩, hk.1.2.1⟩))).2.1 (Kd.V_F (Kd.V_mono (ok' := (fun k_ => ((fun k_ => (w.heap.size ≤ k_) ∧ some k_ ≠ (.slice (some ad107) t104.length co16 : Value).ownBlock ∧ k_ ≠ gb101)) k_ ∧ some k_ ≠ (u6 : Value).ownBlock)) (HL107_0.out) (fun k_ hk => ⟨⟨hk.1.1, ⟨hk.2, hk.1.2.2⟩⟩, hk.1.2.1⟩))))); (case aB => exact (by repeat (first | (with_reducible first | exact HB.out | apply below_alloc | apply pw_below_drewN | apply below_drew1 | refine below_set ?_ GE101.out) | exact HB.out))); (case aF => exact (fun k_ hk => ⟨(Nat.le_trans (below_size (by repeat (first | (with_reducible first | exact HB.out | apply below_alloc | apply pw_below_drewN | apply below_drew1 | refine below_set ?_ GE101.out) | exact HB.out))) hk), Kd.fresh' (Kd.N_lt (by (with_reducible repeat (first | apply Kd.N_alloc | apply Kd.N_drewN | apply Kd.N_drew)); exact HO_19.out)) k_ hk, Kd.freshB (g := gb101) (o := .cells #[.int .i64 a0_0, .int .i64 a0_1, .slice A0_2 l0_2.length c0_2] 43 (0, 0)) (by (with_reducible repeat (first | refine blk_drewN ?_ _ | refine blk_drew ?_ | refine blk_alloc ?_ _)); exact BK101.out) k_ hk⟩)); (case aO => exact (by (with_reducible repeat (first | apply Kd.N_alloc | apply Kd.N_drewN | apply Kd.N_drew)); exact HO_6.out)); (case aS => exact (below_size (by repeat (first | (with_reducible first | exact HB.out | apply below_alloc | apply pw_below_drewN | apply below_drew1 | refine below_set ?_ GE101.out) | exact HB.out)))); (case aL => have := LMc22.out; omega); intro v110 w25 ho hb hg hat; rw [← Ny109.out] at ho; have n0_ := Aside0.mk (Kd.N_afterv (ok := (fun k_ => (w.heap.size ≤ k_) ∧ k_ ≠ gb101)) (by (with_reducible repeat (first | apply Kd.N_alloc | apply Kd.N_drewN | apply Kd.N_drew)); exact Kd.N_mono HO_19.out (fun _ hk => ⟨⟨hk.1, hk.2.2⟩, hk.2.1⟩)) hg hat); have n1_ := Aside0.mk (blk_grown (g := gb101) (o := .cells #[.int .i64 a0_0, .int .i64 a0_1, .slice A0_2 l0_2.length c0_2] 43 (0, 0)) (by (with_reducible repeat (first | refine blk_drewN ?_ _ | refine blk_drew ?_ | refine blk_alloc ?_ _)); exact BK101.out) hg (Kd.N_ne HO_6.out BK101.out (by decide))); have n2_ := Aside0.mk (Kd.V_afterv (ok := (fun k_ => (w.heap.size ≤ k_) ∧ some k_ ≠ (.slice (some ad107) t104.length co16 : Value).ownBlock ∧ k_ ≠ gb101)) (by (with_reducible repeat (first | apply Kd.V_alloc | apply Kd.V_drewN | apply Kd.V_drew)); exact Kd.V_mono HL107_0.out (fun _ hk => ⟨⟨hk.1.1, ⟨hk.2, hk.1.2.2⟩⟩, hk.1.2.1⟩)) hg hat); have n3_ := Aside0.mk (hb); have n4_ := Aside0.mk (ho); clear HO_19; clear BK101; clear HL107_0; clear HB; clear HO_6; have HO_19 := n0_; have BK101 := n1_; have HL107_0 := n2_; have HB := n3_; have HO111 := n4_; clear n0_ n1_ n2_ n3_ n4_; clear ho hb hg hat))
                      go_roundg k2
                      case measure => have := HJ2.out; have := HK2.out; omega
                      case rel => exact ⟨(y109), (wrap64 (x21_2 + 1)), (by first | rfl | (simp; done) | (simp [*]; done)), H', ⟨by have := HJ2.out; have := HK2.out; omega⟩, ⟨by (with_reducible repeat (first | apply Kd.N_alloc | apply Kd.N_drewN | apply Kd.N_drew)); exact HO111.out⟩, ⟨by (with_reducible repeat (first | apply Kd.N_alloc | apply Kd.N_drewN | apply Kd.N_drew)); exact Kd.N_mono HO_19.out (fun _ hk => ⟨hk.1.1, ⟨hk.2, hk.1.2⟩⟩)⟩, ⟨by (with_reducible repeat (first | refine blk_drewN ?_ _ | refine blk_drew ?_ | refine blk_alloc ?_ _)); exact BK101.out⟩, ⟨by repeat (first | (with_reducible first | exact HB.out | apply below_alloc | apply pw_below_drewN | apply below_drew1 | refine below_set ?_ GE101.out) | exact HB.out)⟩⟩
                    · rw [if_neg c22] at H
                      exact absurd H (by simp)
                  · rw [if_neg c21] at H
                    have c21b0 : (t108 == a1) = false := beq_eq_false_iff_ne.mpr c21
                    have c21b1 : (t108 != a1) = true := bne_iff_ne.mpr c21
                    have H' := Aside0.mk H
                    clear H
                    have p107 : 0 ≤ (x21_2 : Int) := of_decide_eq_true (by first | (with_reducible assumption) | assumption)
                    have q107 : x21_2 < (t104.length : Int) := of_decide_eq_true (by first | (with_reducible assumption) | assumption)
                    obtain ⟨ad107, A107_0, c107_0, e107, hx107_0, hl107_0, hi107_0⟩ := at_L1 (Kd.N_reads' HO_19.out).2.2 x21_2 p107 q107
                    cases e107
                    obtain ⟨ce107, hce107, hMe107, hcc107⟩ := Kd.N_get HO_19.out [] x21_2 p107 (by first | exact q107 | exact of_decide_eq_true (by first | (with_reducible assumption) | assumption) | (have e_ := (Kd.N_reads' HO_19.out).1; omega))
                    obtain ⟨ua107_0, uc107_0, rfl, ul107_0, ge107_0⟩ := Kd.FK_slice_open hMe107
                    have hv107_0 := hcc107 0 _ rfl
                    rw [Nat.add_zero, show ((Kd.slice 3 (Kd.int .i64))).sz = 1 from rfl, Nat.mul_one] at hv107_0
                    replace hv107_0 := Option.some.inj (hv107_0.symm.trans hx107_0)
                    injection hv107_0 with hva_ hvn_ hvc_
                    rw [hva_] at ge107_0
                    rw [hvc_] at ul107_0
                    have HL107_0 := Aside0.mk (show Kd.V (Kd.int .i64) 3 _ w.heap.size _ _ (rd_L1 t104 x21_2) from Kd.V_mk ul107_0 ge107_0)
                    clear hva_ hvn_ hvc_ ge107_0 ul107_0
                    clear hcc107 hce107
                    have HR107_0 := Aside0.mk hi107_0
                    have HC107_0 := Aside0.mk hl107_0
                    clear hi107_0 hl107_0
                    replace p107 := eq_true p107
                    replace q107 := eq_true q107
                    have hcz26_0 : wr.cell? ⟨gb101, 0, none⟩ = some (.int .i64 a0_0) := (blk_cell BK101.out 0).trans rfl
                    have hcz26_1 : wr.cell? ⟨gb101, 1, none⟩ = some (.int .i64 a0_1) := (blk_cell BK101.out 1).trans rfl
                    have hcz26_2 : wr.cell? ⟨gb101, 2, none⟩ = some (.slice A0_2 l0_2.length c0_2) := (blk_cell BK101.out 2).trans rfl
                    have hfz26_0 := blk_frozen BK101.out 0
                    have hfz26_1 := blk_frozen BK101.out 1
                    have hfz26_2 := blk_frozen BK101.out 2
                    go_wp2_with (first | ((with_reducible refine gate_callee (f := 92) rfl ?_); refine goesL_ (some 27) rfl rfl Try.func92 (by kernel_rfl) rfl #[.agg #[.int .i64 a0_0, .int .i64 a0_1, .slice A0_2 l0_2.length c0_2], .slice A107_0 (rd_L1 t104 x21_2).length c107_0] rfl (by (try simp only [List.map_toArray, List.map_cons, List.map_nil]); first | done | rfl | (simp only [List.length_drop, List.length_take]; rfl)) ?_; (with_reducible refine (spec_hiHits.calls k2 a0_0 a0_1 _ _ l0_2 _ _ (rd_L1 t104 x21_2) t108 _ ?side1 ?side2 ?side3 ?side4 A20.out).mono ?_); (case side1 => repeat (first | exact (Kd.C_below HR0_2.out HB.out) | (with_reducible refine Kd.C_alloc ?_ _) | (with_reducible refine Kd.C_drewN ?_ _) | (with_reducible refine Kd.C_drew ?_))); (case side2 => exact HC0_2.out); (case side3 => repeat (first | exact (by repeat (first | (with_reducible exact HR107_0.out) | (with_reducible refine Kd.C_alloc ?_ _) | (with_reducible refine Kd.C_drewN ?_ _) | (with_reducible refine Kd.C_drew ?_) | exact HR107_0.out)) | (with_reducible refine Kd.C_alloc ?_ _) | (with_reducible refine Kd.C_drewN ?_ _) | (with_reducible refine Kd.C_drew ?_))); (case side4 => exact HC107_0.out); rintro e w27 ⟨rfl, hb⟩; refine ⟨_, rfl, ?_⟩; have n0_ := Aside0.mk (Kd.N_below (by (with_reducible repeat (first | apply Kd.N_alloc | apply Kd.N_drewN | apply Kd.N_drew)); exact HO_6.out) hb); have n1_ := Aside0.mk (Kd.N_below (by (with_reducible repeat (first | apply Kd.N_alloc | apply Kd.N_drewN | apply Kd.N_drew)); exact HO_19.out) hb); have n2_ := Aside0.mk (Kd.V_below (by (with_reducible repeat (first | apply Kd.V_alloc | apply Kd.V_drewN | apply Kd.V_drew)); exact HL107_0.out) hb); have n3_ := Aside0.mk (blk_below (g := gb101) (o := .cells #[.int .i64 a0_0, .int .i64 a0_1, .slice A0_2 l0_2.length c0_2] 43 (0, 0)) (by (with_reducible repeat (first | refine blk_drewN ?_ _ | refine blk_drew ?_ | refine blk_alloc ?_ _)); exact BK101.out) hb); have n4_ := Aside0.mk (Kd.C_below (by repeat (first | (with_reducible exact HR107_0.out) | (with_reducible refine Kd.C_alloc ?_ _) | (with_reducible refine Kd.C_drewN ?_ _) | (with_reducible refine Kd.C_drew ?_) | exact HR107_0.out)) hb); have n5_ := Aside0.mk (below_step (by repeat (first | (with_reducible first | exact HB.out | apply below_alloc | apply pw_below_drewN | apply below_drew1 | refine below_set ?_ GE101.out) | exact HB.out)) hb); clear HO_6; clear HO_19; clear HL107_0; clear BK101; clear HR107_0; clear HB; have HO_6 := n0_; have HO_19 := n1_; have HL107_0 := n2_; have BK101 := n3_; have HR107_0 := n4_; have HB := n5_; clear n0_ n1_ n2_ n3_ n4_ n5_; (try clear hb); (try clear hb2); (try clear hk); (try clear hi)))
                    go_roundg k2
                    case measure => have := HJ2.out; have := HK2.out; omega
                    case rel => exact ⟨(x6_2), (wrap64 (x21_2 + 1)), (by first | rfl | (simp; done) | (simp [*]; done)), H', ⟨by have := HJ2.out; have := HK2.out; omega⟩, ⟨by (with_reducible repeat (first | apply Kd.N_alloc | apply Kd.N_drewN | apply Kd.N_drew)); exact HO_6.out⟩, ⟨by (with_reducible repeat (first | apply Kd.N_alloc | apply Kd.N_drewN | apply Kd.N_drew)); exact HO_19.out⟩, ⟨by (with_reducible repeat (first | refine blk_drewN ?_ _ | refine blk_drew ?_ | refine blk_alloc ?_ _)); exact BK101.out⟩, ⟨by repeat (first | (with_reducible first | exact HB.out | apply below_alloc | apply pw_below_drewN | apply below_drew1 | refine below_set ?_ GE101.out) | exact HB.out)⟩⟩
                · rw [if_neg c19] at H
                  exact absurd H (by simp)
              · rw [if_neg c18] at H
                exact absurd H (by simp)
            · rw [if_neg c17] at H
              have c17b0 : decide (x21_2 < (t104.length : Int)) = false := decide_eq_false c17
              clear c17
              simp only [Option.some.injEq, Prod.mk.injEq] at H
              obtain ⟨rfl, rfl⟩ := H
              go_wp2
              go_ret2
              exact ⟨_, by first | rfl | (simp [errW_none, errW_some] <;> rfl) | (simp [*, errW_none, errW_some] <;> rfl), by (with_reducible repeat (first | apply Kd.N_alloc | apply Kd.N_drewN | apply Kd.N_drew)); exact Kd.N_mono HO_6.out (fun _ hk => hk.1), by repeat (first | (with_reducible first | exact HB.out | apply below_alloc | apply pw_below_drewN | apply below_drew1 | refine below_set ?_ GE101.out) | exact HB.out)⟩

end Go.Proofs.Ytiopnmgcajohfaa.Q
end
section
namespace Go.Proofs.Ytiopnmgcajohfaa.PermHitK
set_option linter.unusedVariables false
open Go.RowKit Go.Proofs.Ytiopnmgcajohfaa.Q Go.Proofs.YtiopnmgcajohfaaW.PrintWords Go.Proofs.YtiopnmgcajohfaaW.PrintLast Go.Proofs.YtiopnmgcajohfaaW.PrintMore
open Go.Proofs.YtiopnmgcajohfaaL Go.Proofs.Ytiopnmgcajohfaa.LawK Go.Proofs.Ytiopnmgcajohfaa.BoardK Go.Proofs.Ytiopnmgcajohfaa.PermK Go.Proofs.Ytiopnmgcajohfaa.Walk Go.Proofs.Ytiopnmgcajohfaa.HN Go.Proofs.Ytiopnmgcajohfaa.HitAllK

def ans (r c : Int) (l : List Int) (k : Int) : List (List Int) × Bool := if (squareB r c l && inR 0 6 k) = true then (hitting l k (permsOf l.length), true) else ([], false)
theorem impl_f (r c : Int) (l : List Int) (k : Int) : impl_PermutationsHitting.f r c l k = some (ans r c l k) := by
  unfold impl_PermutationsHitting.f ans
  cases squareB r c l <;> cases inR 0 6 k <;> rfl
theorem perms_shape {n : Nat} {p : List Int} (h : p ∈ permsOf n) : p.length = n ∧ ∀ x ∈ p, 0 ≤ x ∧ x < n := by
  obtain ⟨s, h1, h2⟩ := ways_shape _ _ _ _ _ _ p (List.mem_filter.1 h).1
  have hp2 : p.length = n := by rw [h1]; simpa using h2
  exact ⟨hp2, perms_in h hp2⟩
theorem spec_l0 {RI CI : Int} {l : List Int} (hs : squareB RI CI l = true) (kI : Int) (L : List (List Int)) (hL : L.length ≤ 117649) (hin : ∀ p ∈ L, p.length = l.length ∧ ∀ x ∈ p, 0 ≤ x ∧ x < l.length) :
    ∀ (d i : Nat) (o : List (List Int)), i + d = L.length → o.length ≤ i → Ev (fun k => spec_PermutationsHitting.l0 k kI o L (L.length : Int) i RI CI l) (o ++ hitting l kI (L.drop i), true)
  | 0, i, o, hi, ho => by
    refine Ev.step (f := fun _ => some (o, true)) (fun k => ?_) (evEq (Ev.now _) (by rw [List.drop_eq_nil_of_le (by omega)]; simp [hitting]))
    rw [spec_PermutationsHitting.l0, if_neg (by omega)]
  | d + 1, i, o, hi, ho => by
    obtain ⟨q1, q2, q3, q4, q5⟩ := board_bits hs
    have h1 : wrap64 ((i : Int) + 1) = ((i + 1 : Nat) : Int) := by rw [w64 (by omega) (by omega)]; rfl
    have hi2 : i < L.length := by omega
    obtain ⟨p1, p2⟩ := hin L[i] (List.getElem_mem hi2)
    have hh : Ev (fun k => spec_hiHits.f k RI CI l L[i]) (hitsF l L[i] 0 0) := by
      have := spec_hits (l := l) (p := L[i]) RI CI p1 q1 q5 (fun x hx => by have := p2 x hx; omega) L[i].length 0 0 (by omega) (by omega) (by omega)
      rw [List.drop_zero] at this
      exact this
    have hrd : rd_L1 L (i : Int) = L[i] := by unfold rd_L1; rw [Int.toNat_natCast]; exact gD_lt _ _ hi2
    rw [List.drop_eq_getElem_cons hi2]
    refine Ev.step (fun k => by rw [spec_PermutationsHitting.l0, if_pos (by omega), if_pos (by omega), if_pos (by omega), hrd]) ?_
    refine Ev.bind hh ?_
    by_cases e : hitsF l L[i] 0 0 = kI
    · have ih := spec_l0 hs kI L hL hin d (i + 1) (o ++ [L[i]]) (by omega) (by rw [List.length_append, List.length_singleton]; omega)
      refine Ev.congr (fun k => by rw [if_pos e, if_pos (by omega), h1]) (evEq ih ?_)
      unfold hitting
      rw [List.filter_cons, if_pos (decide_eq_true e), List.append_assoc]; rfl
    · have ih := spec_l0 hs kI L hL hin d (i + 1) o (by omega) (by omega)
      refine Ev.congr (fun k => by rw [if_neg e, h1]) (evEq ih ?_)
      unfold hitting
      rw [List.filter_cons, if_neg (by simpa using e)]
theorem spec_answer {r c : Int} {l : List Int} (k : Int) (hl : l.length ≤ 1048576) : Ev (fun n => spec_PermutationsHitting.f n r c l k) (ans r c l k) := by
  unfold spec_PermutationsHitting.f ans
  have no : Ev (fun n => spec_PermutationsHitting.j0 n k true r c l) ([], false) := Ev.step (f := fun _ => some ([], false)) (fun n => by rw [spec_PermutationsHitting.j0, if_pos rfl]) (Ev.now _)
  refine Ev.bind (hiGood r c (by omega)) ?_
  by_cases hs : squareB r c l = true
  · rw [hs, Bool.true_and]
    refine Ev.congr (fun n => by rw [if_pos rfl, l1In_f, Option.bind_some]) ?_
    by_cases hk : inR 0 6 k = true
    · rw [if_pos hk, hk]
      obtain ⟨q1, q2, q3, q4, q5⟩ := board_bits hs
      refine Ev.step (fun n => by rw [spec_PermutationsHitting.j0, if_neg (by simp)]) ?_
      rw [← q2]
      refine Ev.bind (spec_all q1 l.length [] (by simp)) ?_
      rw [← permsOf_all]
      have := spec_l0 hs k (permsOf l.length) (perms_len q1) (fun p hp => perms_shape hp) (permsOf l.length).length 0 [] (by omega) (by simp)
      rw [List.drop_zero, List.nil_append] at this
      rw [q2]
      exact this
    · rw [if_neg hk, show inR 0 6 k = false by simpa using hk]
      exact no
  · rw [show squareB r c l = false by simpa using hs, Bool.false_and, if_neg (by simp)]
    exact Ev.congr (fun n => if_neg (by simp)) no
theorem ans_in {r c : Int} {l : List Int} {k : Int} : (ans r c l k).1.length ≤ 117649 ∧ ∀ p ∈ (ans r c l k).1, p.length ≤ 6 := by
  unfold ans
  by_cases h : (squareB r c l && inR 0 6 k) = true
  · rw [if_pos h]
    rw [Bool.and_eq_true] at h
    obtain ⟨q1, q2, q3, q4, q5⟩ := board_bits h.1
    have h1 := perms_len q1
    have h2 : (hitting l k (permsOf l.length)).length ≤ (permsOf l.length).length := List.length_filter_le _ _
    exact ⟨by simp only []; omega, fun p hp => by have := perms_shape (List.mem_filter.1 hp).1; omega⟩
  · rw [if_neg h]; simp
end Go.Proofs.Ytiopnmgcajohfaa.PermHitK
end
section
namespace Go.Proofs.Ytiopnmgcajohfaa.Q
set_option linter.unusedVariables false
open Go.RowKit Go.Proofs.YtiopnmgcajohfaaW.PrintWords Go.Proofs.YtiopnmgcajohfaaW.PrintLast Go.Proofs.YtiopnmgcajohfaaW.PrintMore
open Go.Proofs.Ytiopnmgcajohfaa.PermHitK
theorem ans_PermutationsHitting (r c : Int) (l : List Int) (k : Int) (hl : l.length ≤ 1048576) : ∃ (rows : List (List Int)) (ok : Bool), rows.length ≤ 1000000 ∧ (∀ x ∈ rows, x.length ≤ 1000) ∧ (∃ n, spec_PermutationsHitting.f n r c l k = some (rows, ok)) ∧ impl_PermutationsHitting.f r c l k = some (rows, ok) :=
  ⟨(ans r c l k).1, (ans r c l k).2, by have := (@ans_in r c l k).1; omega, fun x hx => by have := (@ans_in r c l k).2 x hx; omega, (spec_answer k hl).rounds, impl_f r c l k⟩
end Go.Proofs.Ytiopnmgcajohfaa.Q
end
section
namespace Go.Proofs.Ytiopnmgcajohfaa.Q
set_option linter.unusedVariables false
set_option linter.unusedSimpArgs false
open Go.RowKit Go.Proofs.YtiopnmgcajohfaaW.PrintWords Go.Proofs.YtiopnmgcajohfaaW.PrintLast Go.Proofs.YtiopnmgcajohfaaW.PrintMore
open Go.Proofs.YtiopnmgcajohfaaL Go.Proofs.Ytiopnmgcajohfaa.LawK Go.Proofs.Ytiopnmgcajohfaa.BoardK Go.Proofs.Ytiopnmgcajohfaa.MarkK
set_option maxHeartbeats 16000000 in
set_option maxRecDepth 100000 in
theorem laws_FnExactPermutationsHitting.walk (a0_0 a0_1 : Int) (a0_2 : Option Addr) (len0_2 cap0_2 : Nat) (z0_2 : List Int) (a1 : Int) (w : World) (w0_0 : (Lit.int .i64 a0_0).wf = true) (w0_1 : (Lit.int .i64 a0_1).wf = true)
    (w0_2 : (a0_2 = none ∧ len0_2 = 0 ∧ cap0_2 = 0 ∧ z0_2 = []) ∨ ∃ x, a0_2 = some x ∧ len0_2 ≤ cap0_2 ∧ cap0_2 ≤ maxLen ∧ z0_2.length = cap0_2 ∧ (∀ i, i < z0_2.length → w.cell? (x.add i) = some (.int .i64 (z0_2.getD i 0))) ∧ ∀ n ∈ z0_2, (Lit.int .i64 n).wf = true) (y0_2 : len0_2 * 8 ≤ 140737488351232) (w1 : (Lit.int .i64 a1).wf = true) :
    Calls Try.prog 6 #[.agg #[.int .i64 a0_0, .int .i64 a0_1, .slice a0_2 len0_2 cap0_2], .int .i64 a1] w fun e w' => e = .returned (.bool true) ∧ Below w.heap.size w w' := by
  obtain ⟨l, rfl, hr, hm, hw, hc⟩ := ReadsInt.ofRowC w0_2
  have hC := Kd.C_of_reads (d := (0 : Int)) (h1 := fun _ => rfl) hr
  have hu24 := Try.underlying39
  have hu25 := Try.underlying43
  have SZ := Lib.hid (fun (W : World) (hb : Below w.heap.size w W) => laws_szBoard.calls a0_0 a0_1 a0_2 cap0_2 l 1048576 _ W (Kd.C_below hC hb) hc (szBoard_f a0_0 a0_1 l y0_2))
  by_cases hlb : l.length ≤ 1048576
  rotate_left
  · rw [if_neg hlb] at SZ
    clear hlb hC hr hm hw hc w0_0 w0_1 w0_2 y0_2 w1
    go_enter Try.func6, Try.ntmps6
    go_wp2_with (first
      | ((with_reducible refine gate_dst (N := 2) rfl ?_); refine box_event ?hg (N := 2) ?hd (cs := #[.int .i64 a0_0, .int .i64 a0_1, .slice a0_2 l.length cap0_2]) (t := 39) ?hr ?_; (case hd => rfl); (case hg => rfl); (case hr => first | (go_simp; done) | (go_simp; rfl)); intro gb hg w1 hbox hb; have K1 := Aside0.mk hbox; have B1 := Aside0.mk hb; clear hg hbox hb; have z1 : w1.cell? ⟨gb, 0, none⟩ = some (.int .i64 a0_0) := (blk_cell K1.out 0).trans rfl; have z2 : w1.cell? ⟨gb, 1, none⟩ = some (.int .i64 a0_1) := (blk_cell K1.out 1).trans rfl; have z3 : w1.cell? ⟨gb, 2, none⟩ = some (.slice a0_2 l.length cap0_2) := (blk_cell K1.out 2).trans rfl)
      | (go_at_call 23; refine (SZ.out _ B1.out).mono ?_; rintro e w2 ⟨rfl, hb⟩; have B2 := Aside0.mk (B1.out.trans (hb.mono B1.out.size)); clear hb))
    go_ret
    exact ⟨rfl, B2.out⟩
  rw [if_pos hlb] at SZ
  obtain ⟨sz, hsz⟩ : ∃ sz : Int, sz = 1048576 - (l.length : Int) := ⟨_, rfl⟩
  rw [← hsz] at SZ
  have hszb : decide (sz < 0) = false := decide_eq_false (by omega)
  obtain ⟨kt, ht⟩ := (toBoard a0_0 a0_1 hlb).rounds
  obtain ⟨rows, ok, hrl, hrx, hSP, hIM⟩ := ans_PermutationsHitting a0_0 a0_1 l a1 hlb
  obtain ⟨kb, hkb⟩ := (eqBoard a0_0 a0_1 (l := l) (by omega)).rounds
  obtain ⟨km, hkm⟩ : ∃ k, laws_markBoard.f k a0_0 a0_1 l 1 = some (1 + (l.length : Int), iota 1 l.length) := Ev.rounds (show Ev (fun k => laws_markBoard.f k a0_0 a0_1 l 1) (1 + (l.length : Int), iota 1 l.length) by unfold laws_markBoard.f; exact Ev.bind (markIntS l (by omega) (by omega)) (Ev.now _))
  obtain ⟨ke, hke⟩ := (eqIntSS (a := rows) (b := rows) (by omega) (fun x hx => by have := hrx x hx; omega)).rounds
  rw [decide_eq_true rfl] at hke
  have htot : total rows ≤ 1000000 * 1000 := total_le hrl hrx
  obtain ⟨kh, hkh⟩ := (heldIntSS rows (m := 1) (by omega) (by omega) (by omega)).rounds
  obtain ⟨tot, htt⟩ : ∃ tot : Int, tot = 1 + (total rows : Int) := ⟨_, rfl⟩
  rw [← htt] at hkh
  have ht0 : decide (tot < 0) = false := decide_eq_false (by omega)
  obtain ⟨mb, hmb⟩ : ∃ mb : Int, mb = 1 + (l.length : Int) := ⟨_, rfl⟩
  rw [← hmb] at hkm
  have hmb0 : decide (mb < 0) = false := decide_eq_false (by omega)
  have TB := Lib.hid (fun (W : World) (hb : Below w.heap.size w W) => laws_toBoard.calls kt a0_0 a0_1 a0_2 cap0_2 l _ _ _ W (Kd.C_below hC hb) hc ht)
  have SP := Lib.hid (fun (W : World) (A : Option Addr) (c : Nat) (h : Kd.R (Kd.int .i64) 3 W 0 (fun _ => True) (.slice A l.length c) l) => spec_PermutationsHitting.calls hSP.choose a0_0 a0_1 A c l a1 rows ok W (Kd.R_reads' h).2.2 (Kd.R_reads' h).2.1 hSP.choose_spec)
  have IM := Lib.hid (fun (W : World) (A : Option Addr) (c : Nat) (h : Kd.R (Kd.int .i64) 3 W 0 (fun _ => True) (.slice A l.length c) l) => impl_PermutationsHitting.calls a0_0 a0_1 A c l a1 rows ok W (Kd.R_reads' h).2.2 (Kd.R_reads' h).2.1 hIM)
  have EB := Lib.hid (fun (W : World) (A : Option Addr) (c : Nat) (h : Kd.R (Kd.int .i64) 3 W 0 (fun _ => True) (.slice A l.length c) l) (A2 : Option Addr) (c2 : Nat) (h2 : Kd.R (Kd.int .i64) 3 W 0 (fun _ => True) (.slice A2 l.length c2) l) => laws_eqBoard.calls kb a0_0 a0_1 A c l a0_0 a0_1 A2 c2 l true W (Kd.R_reads' h).2.2 (Kd.R_reads' h).2.1 (Kd.R_reads' h2).2.2 (Kd.R_reads' h2).2.1 hkb)
  have ES := Lib.hid (fun (W : World) (A : Option Addr) (c : Nat) (h : Kd.V (Kd.slice 3 (Kd.int .i64)) 28 W 0 (fun _ => True) (.slice A rows.length c) rows) (A2 : Option Addr) (c2 : Nat) (h2 : Kd.V (Kd.slice 3 (Kd.int .i64)) 28 W 0 (fun _ => True) (.slice A2 rows.length c2) rows) => laws_eqIntSS.calls ke A c rows A2 c2 rows true W (Kd.V_reads' h).2.2 (Kd.V_reads' h).2.1 (Kd.V_reads' h2).2.2 (Kd.V_reads' h2).2.1 hke)
  have HD := Lib.hid (fun (W : World) (A : Option Addr) (c : Nat) (h : Kd.V (Kd.slice 3 (Kd.int .i64)) 28 W 0 (fun _ => True) (.slice A (marks 1 rows).length c) (marks 1 rows)) => laws_heldIntSS.calls kh A c (marks 1 rows) 1 tot W (Kd.V_reads' h).2.2 (Kd.V_reads' h).2.1 hkh)
  have hml := marks_length rows 1
  rw [hml] at HD
  have MB := Lib.hid (fun (W w0 : World) (hB : Below w0.heap.size w0 W) (u : Value) (h : Kd.R (Kd.int .i64) 3 W w0.heap.size (fun k_ => some k_ = u.ownBlock) u l) => laws_markBoard.calls km a0_0 a0_1 (fun k_ => some k_ = u.ownBlock) u l 1 _ _ w0 W hB h hkm)
  have MS := Lib.hid (fun (W w0 : World) (bs : Nat) (P : Nat → Prop) (v : Value) (ho : Kd.S (Kd.slice 3 (Kd.int .i64)) 28 W bs P v rows) (hbs : w0.heap.size ≤ bs) (hB : Below w0.heap.size w0 W) => markIntSS_calls P v rows 1 w0 W bs ho hbs hB (by omega) (by omega) (by omega))
  rw [← htt] at MS
  clear hlb hC hr hm hw hc w0_0 w0_1 w0_2 y0_2 hsz ht hrl hrx hSP hIM hkb hkm hke htot hkh htt hmb hml w1
  go_enter Try.func6, Try.ntmps6
  go_wp2_with ((with_reducible refine gate_dst (N := 2) rfl ?_); refine box_event ?hg (N := 2) ?hd (cs := #[.int .i64 a0_0, .int .i64 a0_1, .slice a0_2 l.length cap0_2]) (t := 39) ?hr ?_; (case hd => rfl); (case hg => rfl); (case hr => first | (go_simp; done) | (go_simp; rfl)); intro gb hg w1 hbox hb; have KB := Aside0.mk hbox; have BW := Aside0.mk hb; have GB := Aside0.mk (show gb < w1.heap.size from blk_lt hbox); clear hg hbox hb; have z1 : w1.cell? ⟨gb, 0, none⟩ = some (.int .i64 a0_0) := (blk_cell KB.out 0).trans rfl; have z2 : w1.cell? ⟨gb, 1, none⟩ = some (.int .i64 a0_1) := (blk_cell KB.out 1).trans rfl; have z3 : w1.cell? ⟨gb, 2, none⟩ = some (.slice a0_2 l.length cap0_2) := (blk_cell KB.out 2).trans rfl)
  go_at_call 23; refine (SZ.out _ BW.out).mono ?_; rintro e w2 ⟨rfl, hb⟩; have KB_ := Aside0.mk (blk_below (by (with_reducible repeat (first | refine blk_drewN ?_ _ | refine blk_drew ?_ | refine blk_alloc ?_ _)); exact KB.out) hb); have BW_ := Aside0.mk (below_step (by repeat (first | (with_reducible first | exact BW.out | apply below_alloc | apply pw_below_drewN | apply below_drew1) | exact BW.out)) hb); clear KB; have KB := KB_; clear KB_; clear BW; have BW := BW_; clear BW_; clear hb
  have ya0 : w2.cell? ⟨gb, 0, none⟩ = some (.int .i64 a0_0) := (blk_cell KB.out 0).trans rfl; have ya1 : w2.cell? ⟨gb, 1, none⟩ = some (.int .i64 a0_1) := (blk_cell KB.out 1).trans rfl; have ya2 : w2.cell? ⟨gb, 2, none⟩ = some (.slice a0_2 l.length cap0_2) := (blk_cell KB.out 2).trans rfl
  go_wp2_with fail
  go_at_call 25; refine (TB.out _ (by repeat (first | (with_reducible first | exact BW.out | apply below_alloc | apply pw_below_drewN | apply below_drew1) | exact BW.out))).mono ?_; rintro e w3 ⟨v1, rfl, ho, hb⟩; obtain ⟨A1, c1, rfl⟩ := Kd.R_slice ho; have KB_ := Aside0.mk (blk_below (by (with_reducible repeat (first | refine blk_drewN ?_ _ | refine blk_drew ?_ | refine blk_alloc ?_ _)); exact KB.out) hb); have BW_ := Aside0.mk (below_step (by repeat (first | (with_reducible first | exact BW.out | apply below_alloc | apply pw_below_drewN | apply below_drew1) | exact BW.out)) hb); clear KB; have KB := KB_; clear KB_; clear BW; have BW := BW_; clear BW_; have O1 := Aside0.mk (Kd.R_mono (Kd.R_lower ho (Nat.zero_le _)) (ok' := fun _ => True) (fun _ _ => trivial)); clear ho hb
  have yb0 : w3.cell? ⟨gb, 0, none⟩ = some (.int .i64 a0_0) := (blk_cell KB.out 0).trans rfl; have yb1 : w3.cell? ⟨gb, 1, none⟩ = some (.int .i64 a0_1) := (blk_cell KB.out 1).trans rfl; have yb2 : w3.cell? ⟨gb, 2, none⟩ = some (.slice a0_2 l.length cap0_2) := (blk_cell KB.out 2).trans rfl
  go_wp2_with fail
  go_at_call 30; refine (SP.out _ A1 c1 (by (with_reducible repeat (first | apply Kd.R_alloc | apply Kd.R_drewN | apply Kd.R_drew)); exact O1.out)).mono ?_; rintro e w4 ⟨v0, rfl, ho, hb⟩; have KB_ := Aside0.mk (blk_below (by (with_reducible repeat (first | refine blk_drewN ?_ _ | refine blk_drew ?_ | refine blk_alloc ?_ _)); exact KB.out) hb); have BW_ := Aside0.mk (below_step (by repeat (first | (with_reducible first | exact BW.out | apply below_alloc | apply pw_below_drewN | apply below_drew1) | exact BW.out)) hb); clear KB; have KB := KB_; clear KB_; clear BW; have BW := BW_; clear BW_; have OW0 : Kd.V (Kd.slice 3 (Kd.int .i64)) 28 w4 0 (fun _ => True) v0 rows := Kd.N_V (Kd.N_mono ho (ok' := fun _ => True) (fun _ _ => trivial)); obtain ⟨AW, cW, hv0⟩ := Kd.V_slice OW0; subst hv0; have OW := Aside0.mk (Kd.V_mono (Kd.V_bound OW0) (ok' := fun k => k < w4.heap.size) (fun _ h => h.2)); clear ho hb OW0 O1
  have L4 := Aside0.mk (Nat.le_refl w4.heap.size)
  have BX := Aside0.mk (Below.refl w4.heap.size w4)
  have BW4 := BW; have G4 := Aside0.mk (show gb < w4.heap.size from blk_lt KB.out); clear BW GB
  have yc0 : w4.cell? ⟨gb, 0, none⟩ = some (.int .i64 a0_0) := (blk_cell KB.out 0).trans rfl; have yc1 : w4.cell? ⟨gb, 1, none⟩ = some (.int .i64 a0_1) := (blk_cell KB.out 1).trans rfl; have yc2 : w4.cell? ⟨gb, 2, none⟩ = some (.slice a0_2 l.length cap0_2) := (blk_cell KB.out 2).trans rfl
  go_wp2_with fail
  go_at_call 25; refine (TB.out _ BW4.out).mono ?_; rintro e w5 ⟨v2, rfl, ho, hb⟩; have BX5 := Aside0.mk (show w4.heap.size ≤ w5.heap.size from hb.size); obtain ⟨AX, cX, rfl⟩ := Kd.R_slice ho; have KB_ := Aside0.mk (blk_below (by (with_reducible repeat (first | refine blk_drewN ?_ _ | refine blk_drew ?_ | refine blk_alloc ?_ _)); exact KB.out) hb); have OW_ := Aside0.mk (Kd.V_below (by (with_reducible repeat (first | apply Kd.V_alloc | apply Kd.V_drewN | apply Kd.V_drew)); exact OW.out) hb); have BX_ := Aside0.mk (below_step (by repeat (first | (with_reducible first | exact BX.out | apply below_alloc | apply pw_below_drewN | apply below_drew1) | exact BX.out)) hb); clear KB; have KB := KB_; clear KB_; clear OW; have OW := OW_; clear OW_; clear BX; have BX := BX_; clear BX_; have OX := Aside0.mk (Kd.R_mono (Kd.R_bound ho) (ok' := fun k => w4.heap.size ≤ k ∧ k < w5.heap.size) (fun _ h => ⟨h.2.1, h.2.2.1⟩)); clear ho hb
  have yd0 : w5.cell? ⟨gb, 0, none⟩ = some (.int .i64 a0_0) := (blk_cell KB.out 0).trans rfl; have yd1 : w5.cell? ⟨gb, 1, none⟩ = some (.int .i64 a0_1) := (blk_cell KB.out 1).trans rfl; have yd2 : w5.cell? ⟨gb, 2, none⟩ = some (.slice a0_2 l.length cap0_2) := (blk_cell KB.out 2).trans rfl
  go_wp2_with fail
  obtain ⟨gx, hgx⟩ : ∃ g : Nat, g = w5.heap.size := ⟨_, rfl⟩
  obtain ⟨w6, hw6⟩ : ∃ W : World, W = w5.alloc (Obj.cells #[.int .i64 a0_0, .int .i64 a0_1, .slice AX l.length cX] 43) := ⟨_, rfl⟩
  rw [← hw6, ← hgx]
  have hb : Below w5.heap.size w5 w6 := by rw [hw6]; exact below_alloc (Below.refl _ _) _
  have NX := Aside0.mk (show gb ≠ gx from fun h => absurd (blk_lt KB.out) (by omega))
  have KB_ := Aside0.mk (blk_below (by (with_reducible repeat (first | refine blk_drewN ?_ _ | refine blk_drew ?_ | refine blk_alloc ?_ _)); exact KB.out) hb); have OW_ := Aside0.mk (Kd.V_below (by (with_reducible repeat (first | apply Kd.V_alloc | apply Kd.V_drewN | apply Kd.V_drew)); exact OW.out) hb); have BX_ := Aside0.mk (below_step (by repeat (first | (with_reducible first | exact BX.out | apply below_alloc | apply pw_below_drewN | apply below_drew1) | exact BX.out)) hb); have OX_ := Aside0.mk (Kd.R_below (by (with_reducible repeat (first | apply Kd.R_alloc | apply Kd.R_drewN | apply Kd.R_drew)); exact OX.out) hb); clear KB; have KB := KB_; clear KB_; clear OW; have OW := OW_; clear OW_; clear BX; have BX := BX_; clear BX_; clear OX; have OX := OX_; clear OX_
  have KX := Aside0.mk (show w6.heap[gx]? = some (Obj.cells #[.int .i64 a0_0, .int .i64 a0_1, .slice AX l.length cX] 43 (0, 0)) by rw [hw6, hgx]; exact Array.getElem?_push_size)
  have L5 := Aside0.mk hgx
  have G56 := Aside0.mk (show w4.heap.size ≤ w5.heap.size from BX5.out)
  have L6 := Aside0.mk (show w6.heap.size = gx + 1 by rw [hw6, hgx]; exact Array.size_push _)
  clear hb hw6 hgx
  have ye0 : w6.cell? ⟨gb, 0, none⟩ = some (.int .i64 a0_0) := (blk_cell KB.out 0).trans rfl; have ye1 : w6.cell? ⟨gb, 1, none⟩ = some (.int .i64 a0_1) := (blk_cell KB.out 1).trans rfl; have ye2 : w6.cell? ⟨gb, 2, none⟩ = some (.slice a0_2 l.length cap0_2) := (blk_cell KB.out 2).trans rfl; have xe0 : w6.cell? ⟨gx, 0, none⟩ = some (.int .i64 a0_0) := (blk_cell KX.out 0).trans rfl; have xe1 : w6.cell? ⟨gx, 1, none⟩ = some (.int .i64 a0_1) := (blk_cell KX.out 1).trans rfl; have xe2 : w6.cell? ⟨gx, 2, none⟩ = some (.slice AX l.length cX) := (blk_cell KX.out 2).trans rfl
  go_at_call 31; refine (IM.out _ AX cX (Kd.R_mono (Kd.R_lower (by (with_reducible repeat (first | apply Kd.R_alloc | apply Kd.R_drewN | apply Kd.R_drew)); exact OX.out) (Nat.zero_le _)) (fun _ _ => trivial))).mono ?_; rintro e w7 ⟨v3, rfl, ho, hb⟩; have KB_ := Aside0.mk (blk_below (by (with_reducible repeat (first | refine blk_drewN ?_ _ | refine blk_drew ?_ | refine blk_alloc ?_ _)); exact KB.out) hb); have OW_ := Aside0.mk (Kd.V_below (by (with_reducible repeat (first | apply Kd.V_alloc | apply Kd.V_drewN | apply Kd.V_drew)); exact OW.out) hb); have BX_ := Aside0.mk (below_step (by repeat (first | (with_reducible first | exact BX.out | apply below_alloc | apply pw_below_drewN | apply below_drew1) | exact BX.out)) hb); have OX_ := Aside0.mk (Kd.R_below (by (with_reducible repeat (first | apply Kd.R_alloc | apply Kd.R_drewN | apply Kd.R_drew)); exact OX.out) hb); have KX_ := Aside0.mk (blk_below (by (with_reducible repeat (first | refine blk_drewN ?_ _ | refine blk_drew ?_ | refine blk_alloc ?_ _)); exact KX.out) hb); clear KB; have KB := KB_; clear KB_; clear OW; have OW := OW_; clear OW_; clear BX; have BX := BX_; clear BX_; clear OX; have OX := OX_; clear OX_; clear KX; have KX := KX_; clear KX_; obtain ⟨AG, cG, hv3⟩ := Kd.S_slice ho; subst hv3; have OG := Aside0.mk (Kd.S_mono (Kd.S_bound ho) (ok' := fun k => w6.heap.size ≤ k) (fun _ h => h.2.1)); clear ho hb
  have yf0 : w7.cell? ⟨gb, 0, none⟩ = some (.int .i64 a0_0) := (blk_cell KB.out 0).trans rfl; have yf1 : w7.cell? ⟨gb, 1, none⟩ = some (.int .i64 a0_1) := (blk_cell KB.out 1).trans rfl; have yf2 : w7.cell? ⟨gb, 2, none⟩ = some (.slice a0_2 l.length cap0_2) := (blk_cell KB.out 2).trans rfl; have xf0 : w7.cell? ⟨gx, 0, none⟩ = some (.int .i64 a0_0) := (blk_cell KX.out 0).trans rfl; have xf1 : w7.cell? ⟨gx, 1, none⟩ = some (.int .i64 a0_1) := (blk_cell KX.out 1).trans rfl; have xf2 : w7.cell? ⟨gx, 2, none⟩ = some (.slice AX l.length cX) := (blk_cell KX.out 2).trans rfl
  go_wp2_with fail
  go_at_call 18; refine (ES.out _ AG cG (Kd.S_V (Kd.S_mono (by (with_reducible repeat (first | apply Kd.S_alloc | apply Kd.S_drewN | apply Kd.S_drew)); exact OG.out) (ok' := fun _ => True) (fun _ _ => trivial))) AW cW (Kd.V_mono (by (with_reducible repeat (first | apply Kd.V_alloc | apply Kd.V_drewN | apply Kd.V_drew)); exact OW.out) (fun _ _ => trivial))).mono ?_; rintro e w8 ⟨rfl, hd⟩; have hb := hd.below; have KB_ := Aside0.mk (blk_below (by (with_reducible repeat (first | refine blk_drewN ?_ _ | refine blk_drew ?_ | refine blk_alloc ?_ _)); exact KB.out) hb); have OW_ := Aside0.mk (Kd.V_below (by (with_reducible repeat (first | apply Kd.V_alloc | apply Kd.V_drewN | apply Kd.V_drew)); exact OW.out) hb); have BX_ := Aside0.mk (below_step (by repeat (first | (with_reducible first | exact BX.out | apply below_alloc | apply pw_below_drewN | apply below_drew1) | exact BX.out)) hb); have OX_ := Aside0.mk (Kd.R_below (by (with_reducible repeat (first | apply Kd.R_alloc | apply Kd.R_drewN | apply Kd.R_drew)); exact OX.out) hb); have KX_ := Aside0.mk (blk_below (by (with_reducible repeat (first | refine blk_drewN ?_ _ | refine blk_drew ?_ | refine blk_alloc ?_ _)); exact KX.out) hb); have OG_ := Aside0.mk (Kd.S_below (by (with_reducible repeat (first | apply Kd.S_alloc | apply Kd.S_drewN | apply Kd.S_drew)); exact OG.out) hb); clear KB; have KB := KB_; clear KB_; clear OW; have OW := OW_; clear OW_; clear BX; have BX := BX_; clear BX_; clear OX; have OX := OX_; clear OX_; clear KX; have KX := KX_; clear KX_; clear OG; have OG := OG_; clear OG_; clear hb hd
  have yg0 : w8.cell? ⟨gb, 0, none⟩ = some (.int .i64 a0_0) := (blk_cell KB.out 0).trans rfl; have yg1 : w8.cell? ⟨gb, 1, none⟩ = some (.int .i64 a0_1) := (blk_cell KB.out 1).trans rfl; have yg2 : w8.cell? ⟨gb, 2, none⟩ = some (.slice a0_2 l.length cap0_2) := (blk_cell KB.out 2).trans rfl; have xg0 : w8.cell? ⟨gx, 0, none⟩ = some (.int .i64 a0_0) := (blk_cell KX.out 0).trans rfl; have xg1 : w8.cell? ⟨gx, 1, none⟩ = some (.int .i64 a0_1) := (blk_cell KX.out 1).trans rfl; have xg2 : w8.cell? ⟨gx, 2, none⟩ = some (.slice AX l.length cX) := (blk_cell KX.out 2).trans rfl
  go_wp2_with fail
  have KB_ := Aside0.mk (blk_drew KB.out); have OW_ := Aside0.mk (Kd.V_drew OW.out); have BX_ := Aside0.mk (below_drew1 BX.out); have OX_ := Aside0.mk (Kd.R_drew OX.out); have KX_ := Aside0.mk (blk_drew KX.out); have OG_ := Aside0.mk (Kd.S_drew OG.out); clear KB; have KB := KB_; clear KB_; clear OW; have OW := OW_; clear OW_; clear BX; have BX := BX_; clear BX_; clear OX; have OX := OX_; clear OX_; clear KX; have KX := KX_; clear KX_; clear OG; have OG := OG_; clear OG_
  refine start_ (n := 5) (S := fun w' => w'.cell? ⟨gx, 0, none⟩ = some (.int .i64 a0_0) ∧ w'.cell? ⟨gx, 1, none⟩ = some (.int .i64 a0_1) ∧ w'.cell? ⟨gx, 2, none⟩ = some (.slice AX l.length cX) ∧ w'.cell? ⟨gb, 0, none⟩ = some (.int .i64 a0_0) ∧ w'.cell? ⟨gb, 1, none⟩ = some (.int .i64 a0_1) ∧ w'.cell? ⟨gb, 2, none⟩ = some (.slice a0_2 l.length cap0_2)) (ds := []) #[false, false, false, false, false] (by kernel_rfl) rfl rfl ⟨(blk_cell KX.out 0).trans rfl, (blk_cell KX.out 1).trans rfl, (blk_cell KX.out 2).trans rfl, (blk_cell KB.out 0).trans rfl, (blk_cell KB.out 1).trans rfl, (blk_cell KB.out 2).trans rfl⟩ (fun hHeld => ?_)
  generalize w8.drew = w9 at KB OW BX OX KX OG hHeld ⊢
  refine take_ (i := 0) (N := some 45) (v := ?_) (a' := ?_) #[true, false, false, false, false] rfl rfl (by kernel_rfl) (fun _ _ _ h => h) (Or.inl ⟨by rfl, ?_⟩) hHeld ?_ ?_
  rotate_left
  · rintro w' ⟨s0, s1, s2, s3, s4, s5⟩
    go_simp
    with_reducible rfl
  rotate_left
  · simp only [Act.put, List.setIfInBounds_toArray, List.set_cons_zero, List.set_cons_succ, i64_w, i32_w]
    rfl
  refine take_ (i := 1) (N := some 46) (v := ?_) (a' := ?_) #[true, true, false, false, false] rfl rfl (by kernel_rfl) (fun _ _ _ h => h) (Or.inl ⟨by rfl, ?_⟩) hHeld ?_ ?_
  rotate_left
  · rintro w' ⟨s0, s1, s2, s3, s4, s5⟩
    go_simp
    with_reducible rfl
  rotate_left
  · simp only [Act.put, List.setIfInBounds_toArray, List.set_cons_zero, List.set_cons_succ, i64_w, i32_w]
    rfl
  refine one_ (i := 2) (N := some 47) #[true, true, true, false, false] rfl rfl (by kernel_rfl) (by decide) (fun K hK => ?_)
  refine goes_ Try.func25 (by kernel_rfl) rfl #[.agg #[.int .i64 a0_0, .int .i64 a0_1, .slice a0_2 l.length cap0_2]] (by rfl) rfl rfl (by (try simp only [List.map_toArray, List.map_cons, List.map_nil]); first | done | rfl | (simp only [List.length_drop, List.length_take]; rfl)) ?_
  refine (TB.out _ (below_step BW4.out BX.out)).mono ?_
  rintro e w10 ⟨v4, rfl, ho, hb⟩; obtain ⟨AY, cY, rfl⟩ := Kd.R_slice ho; refine ⟨_, rfl, ?_⟩; have KB_ := Aside0.mk (blk_below (by (with_reducible repeat (first | refine blk_drewN ?_ _ | refine blk_drew ?_ | refine blk_alloc ?_ _)); exact KB.out) hb); have OW_ := Aside0.mk (Kd.V_below (by (with_reducible repeat (first | apply Kd.V_alloc | apply Kd.V_drewN | apply Kd.V_drew)); exact OW.out) hb); have BX_ := Aside0.mk (below_step (by repeat (first | (with_reducible first | exact BX.out | apply below_alloc | apply pw_below_drewN | apply below_drew1) | exact BX.out)) hb); have OX_ := Aside0.mk (Kd.R_below (by (with_reducible repeat (first | apply Kd.R_alloc | apply Kd.R_drewN | apply Kd.R_drew)); exact OX.out) hb); have KX_ := Aside0.mk (blk_below (by (with_reducible repeat (first | refine blk_drewN ?_ _ | refine blk_drew ?_ | refine blk_alloc ?_ _)); exact KX.out) hb); have OG_ := Aside0.mk (Kd.S_below (by (with_reducible repeat (first | apply Kd.S_alloc | apply Kd.S_drewN | apply Kd.S_drew)); exact OG.out) hb); clear KB; have KB := KB_; clear KB_; clear OW; have OW := OW_; clear OW_; clear BX; have BX := BX_; clear BX_; clear OX; have OX := OX_; clear OX_; clear KX; have KX := KX_; clear KX_; clear OG; have OG := OG_; clear OG_; have OY := Aside0.mk (Kd.R_mono (Kd.R_lower ho (Nat.zero_le _)) (ok' := fun _ => True) (fun _ _ => trivial)); clear ho hb
  refine hK.out _ _ ⟨(blk_cell KX.out 0).trans rfl, (blk_cell KX.out 1).trans rfl, (blk_cell KX.out 2).trans rfl, (blk_cell KB.out 0).trans rfl, (blk_cell KB.out 1).trans rfl, (blk_cell KB.out 2).trans rfl⟩ (fun hHeld => ?_)
  clear hK K
  refine norm_ (a' := ?_) ?_ ?_
  rotate_left
  · show Act.put _ (some 47) _ = _
    simp only [Act.put, List.setIfInBounds_toArray, List.set_cons_zero, List.set_cons_succ, i64_w, i32_w]
    rfl
  refine one_ (i := 3) (N := some 48) #[true, true, true, true, false] rfl rfl (by kernel_rfl) (by decide) (fun K hK => ?_)
  refine goes_ Try.func27 (by kernel_rfl) rfl #[.agg #[.int .i64 a0_0, .int .i64 a0_1, .slice AX l.length cX], .agg #[.int .i64 a0_0, .int .i64 a0_1, .slice AY l.length cY]] (by rfl) rfl rfl (by (try simp only [List.map_toArray, List.map_cons, List.map_nil]); first | done | rfl | (simp only [List.length_drop, List.length_take]; rfl)) ?_
  refine (EB.out _ AX cX (Kd.R_mono (Kd.R_lower (by (with_reducible repeat (first | apply Kd.R_alloc | apply Kd.R_drewN | apply Kd.R_drew)); exact OX.out) (Nat.zero_le _)) (fun _ _ => trivial)) AY cY OY.out).mono ?_
  rintro e w11 ⟨rfl, hb⟩; refine ⟨_, rfl, ?_⟩; have KB_ := Aside0.mk (blk_below (by (with_reducible repeat (first | refine blk_drewN ?_ _ | refine blk_drew ?_ | refine blk_alloc ?_ _)); exact KB.out) hb); have OW_ := Aside0.mk (Kd.V_below (by (with_reducible repeat (first | apply Kd.V_alloc | apply Kd.V_drewN | apply Kd.V_drew)); exact OW.out) hb); have BX_ := Aside0.mk (below_step (by repeat (first | (with_reducible first | exact BX.out | apply below_alloc | apply pw_below_drewN | apply below_drew1) | exact BX.out)) hb); have OX_ := Aside0.mk (Kd.R_below (by (with_reducible repeat (first | apply Kd.R_alloc | apply Kd.R_drewN | apply Kd.R_drew)); exact OX.out) hb); have KX_ := Aside0.mk (blk_below (by (with_reducible repeat (first | refine blk_drewN ?_ _ | refine blk_drew ?_ | refine blk_alloc ?_ _)); exact KX.out) hb); have OG_ := Aside0.mk (Kd.S_below (by (with_reducible repeat (first | apply Kd.S_alloc | apply Kd.S_drewN | apply Kd.S_drew)); exact OG.out) hb); clear KB; have KB := KB_; clear KB_; clear OW; have OW := OW_; clear OW_; clear BX; have BX := BX_; clear BX_; clear OX; have OX := OX_; clear OX_; clear KX; have KX := KX_; clear KX_; clear OG; have OG := OG_; clear OG_; clear hb OY
  refine hK.out _ _ ⟨(blk_cell KX.out 0).trans rfl, (blk_cell KX.out 1).trans rfl, (blk_cell KX.out 2).trans rfl, (blk_cell KB.out 0).trans rfl, (blk_cell KB.out 1).trans rfl, (blk_cell KB.out 2).trans rfl⟩ (fun hHeld => ?_)
  clear hK K
  refine norm_ (a' := ?_) ?_ ?_
  rotate_left
  · show Act.put _ (some 48) _ = _
    simp only [Act.put, List.setIfInBounds_toArray, List.set_cons_zero, List.set_cons_succ, i64_w, i32_w]
    rfl
  refine pure_ (i := 4) (N := some 49) (v := ?_) (a' := ?_) #[true, true, true, true, true] rfl rfl (by kernel_rfl) (fun _ _ _ h => h) (Or.inl ⟨by rfl, ?_⟩) ?_ ?_
  rotate_left
  · intro w'
    go_simp
    with_reducible rfl
  rotate_left
  · simp only [Act.put, List.setIfInBounds_toArray, List.set_cons_zero, List.set_cons_succ, i64_w, i32_w]
    rfl
  refine done_ (by kernel_rfl) ?_
  have yh0 : w11.cell? ⟨gb, 0, none⟩ = some (.int .i64 a0_0) := (blk_cell KB.out 0).trans rfl; have yh1 : w11.cell? ⟨gb, 1, none⟩ = some (.int .i64 a0_1) := (blk_cell KB.out 1).trans rfl; have yh2 : w11.cell? ⟨gb, 2, none⟩ = some (.slice a0_2 l.length cap0_2) := (blk_cell KB.out 2).trans rfl; have xh0 : w11.cell? ⟨gx, 0, none⟩ = some (.int .i64 a0_0) := (blk_cell KX.out 0).trans rfl; have xh1 : w11.cell? ⟨gx, 1, none⟩ = some (.int .i64 a0_1) := (blk_cell KX.out 1).trans rfl; have xh2 : w11.cell? ⟨gx, 2, none⟩ = some (.slice AX l.length cX) := (blk_cell KX.out 2).trans rfl
  go_wp2_with fail
  go_at_call 28; refine (MB.out _ w4 (by repeat (first | (with_reducible first | exact BX.out | apply below_alloc | apply pw_below_drewN | apply below_drew1) | exact BX.out)) (.slice AX l.length cX) (Kd.R_tight rfl (by (with_reducible repeat (first | apply Kd.R_alloc | apply Kd.R_drewN | apply Kd.R_drew)); exact OX.out))).mono ?_; rintro e w12 ⟨rfl, _, hb, hk⟩; have OW_ := Aside0.mk (Kd.V_kept (by (with_reducible repeat (first | apply Kd.V_alloc | apply Kd.V_drewN | apply Kd.V_drew)); exact OW.out) hk (fun k h1 h2 => absurd (OX.out.1 k h2.symm).1 (by omega))); have OG_ := Aside0.mk (Kd.S_kept (by (with_reducible repeat (first | apply Kd.S_alloc | apply Kd.S_drewN | apply Kd.S_drew)); exact OG.out) hk (fun k h1 h2 => absurd (OX.out.1 k h2.symm).2 (by have := L5.out; have := L6.out; omega))); have KB_ := Aside0.mk (blk_kept (by (with_reducible repeat (first | refine blk_drewN ?_ _ | refine blk_drew ?_ | refine blk_alloc ?_ _)); exact KB.out) hk (fun h2 => absurd (OX.out.1 gb h2.symm).1 (by have := G4.out; omega))); clear OW OG KB BX OX KX; have OW := OW_; have OG := OG_; have KB := KB_; have BX := Aside0.mk hb; clear OW_ OG_ KB_ hb hk
  have yi0 : w12.cell? ⟨gb, 0, none⟩ = some (.int .i64 a0_0) := (blk_cell KB.out 0).trans rfl; have yi1 : w12.cell? ⟨gb, 1, none⟩ = some (.int .i64 a0_1) := (blk_cell KB.out 1).trans rfl; have yi2 : w12.cell? ⟨gb, 2, none⟩ = some (.slice a0_2 l.length cap0_2) := (blk_cell KB.out 2).trans rfl
  go_wp2_with fail
  go_at_call 18; refine (ES.out _ AG cG (Kd.S_V (Kd.S_mono (by (with_reducible repeat (first | apply Kd.S_alloc | apply Kd.S_drewN | apply Kd.S_drew)); exact OG.out) (ok' := fun _ => True) (fun _ _ => trivial))) AW cW (Kd.V_mono (by (with_reducible repeat (first | apply Kd.V_alloc | apply Kd.V_drewN | apply Kd.V_drew)); exact OW.out) (fun _ _ => trivial))).mono ?_; rintro e w13 ⟨rfl, hd⟩; have hb := hd.below; have KB_ := Aside0.mk (blk_below (by (with_reducible repeat (first | refine blk_drewN ?_ _ | refine blk_drew ?_ | refine blk_alloc ?_ _)); exact KB.out) hb); have OW_ := Aside0.mk (Kd.V_below (by (with_reducible repeat (first | apply Kd.V_alloc | apply Kd.V_drewN | apply Kd.V_drew)); exact OW.out) hb); have BX_ := Aside0.mk (below_step (by repeat (first | (with_reducible first | exact BX.out | apply below_alloc | apply pw_below_drewN | apply below_drew1) | exact BX.out)) hb); have OG_ := Aside0.mk (Kd.S_below (by (with_reducible repeat (first | apply Kd.S_alloc | apply Kd.S_drewN | apply Kd.S_drew)); exact OG.out) hb); clear KB; have KB := KB_; clear KB_; clear OW; have OW := OW_; clear OW_; clear BX; have BX := BX_; clear BX_; clear OG; have OG := OG_; clear OG_; clear hb hd
  have yj0 : w13.cell? ⟨gb, 0, none⟩ = some (.int .i64 a0_0) := (blk_cell KB.out 0).trans rfl; have yj1 : w13.cell? ⟨gb, 1, none⟩ = some (.int .i64 a0_1) := (blk_cell KB.out 1).trans rfl; have yj2 : w13.cell? ⟨gb, 2, none⟩ = some (.slice a0_2 l.length cap0_2) := (blk_cell KB.out 2).trans rfl
  go_wp2_with fail
  go_at_call 21; refine (MS.out _ w4 w6.heap.size (fun k => w6.heap.size ≤ k) (.slice AG rows.length cG) (by (with_reducible repeat (first | apply Kd.S_alloc | apply Kd.S_drewN | apply Kd.S_drew)); exact OG.out) (by have := L5.out; have := L6.out; have := G56.out; omega) (by repeat (first | (with_reducible first | exact BX.out | apply below_alloc | apply pw_below_drewN | apply below_drew1) | exact BX.out))).mono ?_; rintro e w14 ⟨rfl, ho, hb, hk⟩; have OW_ := Aside0.mk (Kd.V_kept (by (with_reducible repeat (first | apply Kd.V_alloc | apply Kd.V_drewN | apply Kd.V_drew)); exact OW.out) hk (fun k h1 h2 => absurd (show w6.heap.size ≤ k from h2) (by have := L5.out; have := L6.out; have := G56.out; omega))); have KB_ := Aside0.mk (blk_kept (by (with_reducible repeat (first | refine blk_drewN ?_ _ | refine blk_drew ?_ | refine blk_alloc ?_ _)); exact KB.out) hk (fun h2 => absurd (show w6.heap.size ≤ gb from h2) (by have := G4.out; have := L5.out; have := L6.out; have := G56.out; omega))); clear OW OG KB BX; have OW := OW_; have KB := KB_; have OG := Aside0.mk ho; have BX := Aside0.mk hb; clear OW_ KB_ ho hb hk
  have yk0 : w14.cell? ⟨gb, 0, none⟩ = some (.int .i64 a0_0) := (blk_cell KB.out 0).trans rfl; have yk1 : w14.cell? ⟨gb, 1, none⟩ = some (.int .i64 a0_1) := (blk_cell KB.out 1).trans rfl; have yk2 : w14.cell? ⟨gb, 2, none⟩ = some (.slice a0_2 l.length cap0_2) := (blk_cell KB.out 2).trans rfl
  go_wp2_with fail
  go_at_call 22; refine (HD.out _ AG cG (Kd.S_V (Kd.S_mono (by (with_reducible repeat (first | apply Kd.S_alloc | apply Kd.S_drewN | apply Kd.S_drew)); exact OG.out) (ok' := fun _ => True) (fun _ _ => trivial)))).mono ?_; rintro e w15 ⟨rfl, hd⟩; have hb := hd.below; have KB_ := Aside0.mk (blk_below (by (with_reducible repeat (first | refine blk_drewN ?_ _ | refine blk_drew ?_ | refine blk_alloc ?_ _)); exact KB.out) hb); have OW_ := Aside0.mk (Kd.V_below (by (with_reducible repeat (first | apply Kd.V_alloc | apply Kd.V_drewN | apply Kd.V_drew)); exact OW.out) hb); have BX_ := Aside0.mk (below_step (by repeat (first | (with_reducible first | exact BX.out | apply below_alloc | apply pw_below_drewN | apply below_drew1) | exact BX.out)) hb); have OG_ := Aside0.mk (Kd.S_below (by (with_reducible repeat (first | apply Kd.S_alloc | apply Kd.S_drewN | apply Kd.S_drew)); exact OG.out) hb); clear KB; have KB := KB_; clear KB_; clear OW; have OW := OW_; clear OW_; clear BX; have BX := BX_; clear BX_; clear OG; have OG := OG_; clear OG_; clear hb hd
  have yl0 : w15.cell? ⟨gb, 0, none⟩ = some (.int .i64 a0_0) := (blk_cell KB.out 0).trans rfl; have yl1 : w15.cell? ⟨gb, 1, none⟩ = some (.int .i64 a0_1) := (blk_cell KB.out 1).trans rfl; have yl2 : w15.cell? ⟨gb, 2, none⟩ = some (.slice a0_2 l.length cap0_2) := (blk_cell KB.out 2).trans rfl
  go_wp2_with fail
  go_at_call 25; refine (TB.out _ (below_step BW4.out (by repeat (first | (with_reducible first | exact BX.out | apply below_alloc | apply pw_below_drewN | apply below_drew1) | exact BX.out)))).mono ?_; rintro e w16 ⟨v5, rfl, ho, hb⟩; obtain ⟨AZ, cZ, rfl⟩ := Kd.R_slice ho; have KB_ := Aside0.mk (blk_below (by (with_reducible repeat (first | refine blk_drewN ?_ _ | refine blk_drew ?_ | refine blk_alloc ?_ _)); exact KB.out) hb); have OW_ := Aside0.mk (Kd.V_below (by (with_reducible repeat (first | apply Kd.V_alloc | apply Kd.V_drewN | apply Kd.V_drew)); exact OW.out) hb); have BX_ := Aside0.mk (below_step (by repeat (first | (with_reducible first | exact BX.out | apply below_alloc | apply pw_below_drewN | apply below_drew1) | exact BX.out)) hb); have OG_ := Aside0.mk (Kd.S_below (by (with_reducible repeat (first | apply Kd.S_alloc | apply Kd.S_drewN | apply Kd.S_drew)); exact OG.out) hb); clear KB; have KB := KB_; clear KB_; clear OW; have OW := OW_; clear OW_; clear BX; have BX := BX_; clear BX_; clear OG; have OG := OG_; clear OG_; have OY := Aside0.mk (Kd.R_mono (Kd.R_lower ho (Nat.zero_le _)) (ok' := fun _ => True) (fun _ _ => trivial)); clear ho hb
  have ym0 : w16.cell? ⟨gb, 0, none⟩ = some (.int .i64 a0_0) := (blk_cell KB.out 0).trans rfl; have ym1 : w16.cell? ⟨gb, 1, none⟩ = some (.int .i64 a0_1) := (blk_cell KB.out 1).trans rfl; have ym2 : w16.cell? ⟨gb, 2, none⟩ = some (.slice a0_2 l.length cap0_2) := (blk_cell KB.out 2).trans rfl
  go_wp2_with fail
  go_at_call 31; refine (IM.out _ AZ cZ (by (with_reducible repeat (first | apply Kd.R_alloc | apply Kd.R_drewN | apply Kd.R_drew)); exact OY.out)).mono ?_; rintro e w17 ⟨v6, rfl, ho, hb⟩; have KB_ := Aside0.mk (blk_below (by (with_reducible repeat (first | refine blk_drewN ?_ _ | refine blk_drew ?_ | refine blk_alloc ?_ _)); exact KB.out) hb); have OW_ := Aside0.mk (Kd.V_below (by (with_reducible repeat (first | apply Kd.V_alloc | apply Kd.V_drewN | apply Kd.V_drew)); exact OW.out) hb); have BX_ := Aside0.mk (below_step (by repeat (first | (with_reducible first | exact BX.out | apply below_alloc | apply pw_below_drewN | apply below_drew1) | exact BX.out)) hb); have OG_ := Aside0.mk (Kd.S_below (by (with_reducible repeat (first | apply Kd.S_alloc | apply Kd.S_drewN | apply Kd.S_drew)); exact OG.out) hb); clear KB; have KB := KB_; clear KB_; clear OW; have OW := OW_; clear OW_; clear BX; have BX := BX_; clear BX_; clear OG; have OG := OG_; clear OG_; obtain ⟨AH, cH, hv6⟩ := Kd.S_slice ho; subst hv6; have OH := Aside0.mk (Kd.S_mono ho (ok' := fun _ => True) (fun _ _ => trivial)); clear ho hb OY
  have yn0 : w17.cell? ⟨gb, 0, none⟩ = some (.int .i64 a0_0) := (blk_cell KB.out 0).trans rfl; have yn1 : w17.cell? ⟨gb, 1, none⟩ = some (.int .i64 a0_1) := (blk_cell KB.out 1).trans rfl; have yn2 : w17.cell? ⟨gb, 2, none⟩ = some (.slice a0_2 l.length cap0_2) := (blk_cell KB.out 2).trans rfl
  go_wp2_with fail
  go_at_call 18; refine (ES.out _ AH cH (Kd.S_V (Kd.S_mono (by (with_reducible repeat (first | apply Kd.S_alloc | apply Kd.S_drewN | apply Kd.S_drew)); exact OH.out) (ok' := fun _ => True) (fun _ _ => trivial))) AW cW (Kd.V_mono (by (with_reducible repeat (first | apply Kd.V_alloc | apply Kd.V_drewN | apply Kd.V_drew)); exact OW.out) (fun _ _ => trivial))).mono ?_; rintro e w18 ⟨rfl, hd⟩; have hb := hd.below; have KB_ := Aside0.mk (blk_below (by (with_reducible repeat (first | refine blk_drewN ?_ _ | refine blk_drew ?_ | refine blk_alloc ?_ _)); exact KB.out) hb); have OW_ := Aside0.mk (Kd.V_below (by (with_reducible repeat (first | apply Kd.V_alloc | apply Kd.V_drewN | apply Kd.V_drew)); exact OW.out) hb); have BX_ := Aside0.mk (below_step (by repeat (first | (with_reducible first | exact BX.out | apply below_alloc | apply pw_below_drewN | apply below_drew1) | exact BX.out)) hb); have OG_ := Aside0.mk (Kd.S_below (by (with_reducible repeat (first | apply Kd.S_alloc | apply Kd.S_drewN | apply Kd.S_drew)); exact OG.out) hb); have OH_ := Aside0.mk (Kd.S_below (by (with_reducible repeat (first | apply Kd.S_alloc | apply Kd.S_drewN | apply Kd.S_drew)); exact OH.out) hb); clear KB; have KB := KB_; clear KB_; clear OW; have OW := OW_; clear OW_; clear BX; have BX := BX_; clear BX_; clear OG; have OG := OG_; clear OG_; clear OH; have OH := OH_; clear OH_; clear hb hd
  go_wp2_with fail
  go_at_call 22; refine (HD.out _ AG cG (Kd.S_V (Kd.S_mono (by (with_reducible repeat (first | apply Kd.S_alloc | apply Kd.S_drewN | apply Kd.S_drew)); exact OG.out) (ok' := fun _ => True) (fun _ _ => trivial)))).mono ?_; rintro e w19 ⟨rfl, hd⟩; have hb := hd.below; have KB_ := Aside0.mk (blk_below (by (with_reducible repeat (first | refine blk_drewN ?_ _ | refine blk_drew ?_ | refine blk_alloc ?_ _)); exact KB.out) hb); have OW_ := Aside0.mk (Kd.V_below (by (with_reducible repeat (first | apply Kd.V_alloc | apply Kd.V_drewN | apply Kd.V_drew)); exact OW.out) hb); have BX_ := Aside0.mk (below_step (by repeat (first | (with_reducible first | exact BX.out | apply below_alloc | apply pw_below_drewN | apply below_drew1) | exact BX.out)) hb); have OG_ := Aside0.mk (Kd.S_below (by (with_reducible repeat (first | apply Kd.S_alloc | apply Kd.S_drewN | apply Kd.S_drew)); exact OG.out) hb); have OH_ := Aside0.mk (Kd.S_below (by (with_reducible repeat (first | apply Kd.S_alloc | apply Kd.S_drewN | apply Kd.S_drew)); exact OH.out) hb); clear KB; have KB := KB_; clear KB_; clear OW; have OW := OW_; clear OW_; clear BX; have BX := BX_; clear BX_; clear OG; have OG := OG_; clear OG_; clear OH; have OH := OH_; clear OH_; clear hb hd
  go_wp2_with fail
  go_ret
  exact ⟨by first | rfl | simp, below_step BW4.out (by repeat (first | (with_reducible first | exact BX.out | apply below_alloc | apply pw_below_drewN | apply below_drew1) | exact BX.out))⟩
end Go.Proofs.Ytiopnmgcajohfaa.Q
end
