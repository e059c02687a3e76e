/- What perms does when it is given loop.example/g01125/impl.PermutationsHitting$1: one call for each permutation, in order. No conditions but a contract of the function that is called. -/
import Derived.Test.YtiopnmgcajohfaaPermsK
import Derived.Test.YtiopnmgcajohfaaWalkPerms
import Derived.Deep.QuietTactic
import Derived.BigQuiet
namespace Go.Proofs.Ytiopnmgcajohfaa.PermsPH
set_option linter.unusedVariables false
set_option linter.unusedSectionVars false
open Go.RowKit Go.Proofs.YtiopnmgcajohfaaW.PrintWords Go.Proofs.YtiopnmgcajohfaaW.PrintLast Go.Proofs.YtiopnmgcajohfaaW.PrintMore
open Go.Proofs.YtiopnmgcajohfaaL Go.Proofs.Ytiopnmgcajohfaa.LawK Go.Proofs.Ytiopnmgcajohfaa.BoardK Go.Proofs.Ytiopnmgcajohfaa.Walk Go.Proofs.Ytiopnmgcajohfaa.Q

section
variable (dd1 dd2 dd3 : Value) (R : Nat) (nI : Int) (hnI : nI = R) (a cp gn gf : Nat) (ps : List Int) (hps : ps.length = R) (hR : R ≤ 6) (hcp : R ≤ cp) (w : World) (hr : Kd.C (Kd.int .i64) w (some ⟨a, 0, none⟩) R ps)
  (hn : w.heap[gn]? = some (.cells #[.int .i64 nI] 3 (0, 0))) (hf : w.heap[gf]? = some (.cells #[.func (.func 95) #[] #[dd1, dd2, dd3]] 84 (0, 0)))
include hnI hps hR hcp hr hn hf
set_option maxHeartbeats 4000000 in
set_option maxRecDepth 100000 in
theorem perm1_skip (hk : rooksN ps ≠ R) : Calls Try.prog 140 #[.slice (some ⟨a, 0, none⟩) R cp, .pointer (some ⟨gn, 0, none⟩), .pointer (some ⟨gf, 0, none⟩)] w fun e w' => e = .returned (.bool true) ∧ Drawn0 w w' := by
  obtain ⟨kk, hrk⟩ := rooks_f (l := ps) (by omega)
  obtain ⟨rk, hrk2⟩ : ∃ rk : Int, rk = (rooksN ps : Int) := ⟨_, rfl⟩
  rw [← hrk2] at hrk
  have c1 : (rk == nI) = false := beq_eq_false_iff_ne.mpr (by omega)
  have z1 : w.cell? ⟨gn, 0, none⟩ = some (.int .i64 nI) := (blk_cell hn 0).trans rfl
  have A1 := Aside0.mk hrk
  have HR := Aside0.mk hr
  have HP := Aside0.mk hps
  have HC := Aside0.mk hcp
  have CC : ∀ q, Calls Try.prog 141 #[.slice (some ⟨a, 0, none⟩) R cp] (w.drewN q) fun e w'' => e = .returned (.int .i64 rk) ∧ ∃ m, w'' = w.drewN m := by
    intro q
    have hh := impl_rooks.calls kk (some ⟨a, 0, none⟩) cp ps rk (w.drewN q) (by rw [HP.out]; exact Kd.C_drewN HR.out q) (by rw [HP.out]; exact HC.out) A1.out
    rw [HP.out] at hh
    exact Calls.quiet_of (hh.mono (by rintro e w' ⟨rfl, ⟨m, rfl⟩⟩; exact ⟨rfl, m, rfl⟩))
  have CX := Lib.hid CC
  clear CC hrk hrk2 hn hf hps hr hk hnI hR hcp
  go_enter Try.func140, Try.ntmps140
  go_wp2
  go_quiet ((go_at_call 141; exact CX.out _))
  go_wp2
  go_ret
  exact ⟨rfl, by repeat (first | exact Drawn0.refl _ | apply Drawn0.step)⟩
set_option maxHeartbeats 4000000 in
set_option maxRecDepth 100000 in
theorem perm1_do (hk : rooksN ps = R) (X : World → Prop) (hdo : ∀ q, Calls Try.prog 95 #[.slice (some ⟨a, 0, none⟩) R cp, dd1, dd2, dd3] (w.drewN q) fun e w' => e = .returned (.tuple #[]) ∧ X w') :
    Calls Try.prog 140 #[.slice (some ⟨a, 0, none⟩) R cp, .pointer (some ⟨gn, 0, none⟩), .pointer (some ⟨gf, 0, none⟩)] w fun e w' => e = .returned (.bool true) ∧ X w' := by
  obtain ⟨kk, hrk⟩ := rooks_f (l := ps) (by omega)
  obtain ⟨rk, hrk2⟩ : ∃ rk : Int, rk = (rooksN ps : Int) := ⟨_, rfl⟩
  rw [← hrk2] at hrk
  have c1 : (rk == nI) = true := beq_iff_eq.mpr (by omega)
  have z1 : w.cell? ⟨gn, 0, none⟩ = some (.int .i64 nI) := (blk_cell hn 0).trans rfl
  have z2 : w.cell? ⟨gf, 0, none⟩ = some (.func (.func 95) #[] #[dd1, dd2, dd3]) := (blk_cell hf 0).trans rfl
  have A1 := Aside0.mk hrk
  have HR := Aside0.mk hr
  have HP := Aside0.mk hps
  have HC := Aside0.mk hcp
  have CC : ∀ q, Calls Try.prog 141 #[.slice (some ⟨a, 0, none⟩) R cp] (w.drewN q) fun e w'' => e = .returned (.int .i64 rk) ∧ ∃ m, w'' = w.drewN m := by
    intro q
    have hh := impl_rooks.calls kk (some ⟨a, 0, none⟩) cp ps rk (w.drewN q) (by rw [HP.out]; exact Kd.C_drewN HR.out q) (by rw [HP.out]; exact HC.out) A1.out
    rw [HP.out] at hh
    exact Calls.quiet_of (hh.mono (by rintro e w' ⟨rfl, ⟨m, rfl⟩⟩; exact ⟨rfl, m, rfl⟩))
  have CX := Lib.hid CC
  have DX := Lib.hid hdo
  clear CC hrk hrk2 hn hf hps hr hk hnI hR hcp hdo
  go_enter Try.func140, Try.ntmps140
  go_wp2
  go_quiet ((go_at_call 141; exact CX.out _))
  go_wp2_with (first | (go_at_call 95; (refine (DX.out _).mono ?_); rintro e w2 ⟨rfl, hx⟩))
  go_ret
  exact ⟨rfl, hx⟩
end
section
variable (dd1 dd2 dd3 : Value) (R : Nat) (nI : Int) (hnI : nI = R) (h1R : 1 ≤ R) (hR : R ≤ 6) (base : Nat)
  (Inv : (Nat → Prop) → List (List Int) → World → Prop) (hI : ∀ S vis w w', Inv S vis w → Still S w w' → Inv S vis w') (w0 : World)
  (h0 : ∀ S w, (∀ i, S i → w0.heap.size ≤ i) → Below w0.heap.size w0 w → Inv S [] w)
  (hdo : ∀ S vis ps w a cp, (∀ i, S i → w0.heap.size ≤ i) → (∀ i, S i → i < w.heap.size) → ps.length = R → (∃ b, permsOf R = vis ++ ps :: b) → S a → Kd.C (Kd.int .i64) w (some ⟨a, 0, none⟩) R ps → R ≤ cp → Inv S vis w →
    Calls Try.prog 95 #[.slice (some ⟨a, 0, none⟩) R cp, dd1, dd2, dd3] w fun e w' => e = .returned (.tuple #[]) ∧ Inv S (vis ++ [ps]) w' ∧ (∀ i, S i → i < w.heap.size → w'.heap[i]? = w.heap[i]?))
include hnI h1R hR hI h0 hdo
theorem perms_walk (gn gf gl cl : Nat) (W : World) (hB : Below w0.heap.size w0 W) (bn : w0.heap.size ≤ gn) (bf : w0.heap.size ≤ gf) (bl : w0.heap.size ≤ gl)
    (hn : W.heap[gn]? = some (.cells #[.int .i64 nI] 3 (0, 0))) (hf : W.heap[gf]? = some (.cells #[.func (.func 95) #[] #[dd1, dd2, dd3]] 84 (0, 0)))
    (hl : Kd.R (Kd.int .i64) 3 W 0 (fun i => i = gl) (.slice (some ⟨gl, 0, none⟩) R cl) (fullRows R)) :
    Calls Try.prog 139 #[.agg #[.int .i64 nI, .int .i64 nI, .slice (some ⟨gl, 0, none⟩) R cl], .func (.func 140) #[] #[.pointer (some ⟨gn, 0, none⟩), .pointer (some ⟨gf, 0, none⟩)]] W
      fun e w' => e = .returned (.tuple #[]) ∧ ∃ S, (∀ i, S i → w0.heap.size ≤ i) ∧ Inv S (permsOf R) w' := by
  have fl : (fullRows R).length = R := by simp [fullRows]
  have hcl : R ≤ cl := (Kd.R_reads' hl).2.1
  have lgl : gl < W.heap.size := by obtain ⟨cells, hc⟩ := Kd.R_typed hl gl rfl; exact blk_lt hc
  have lgn := blk_lt hn
  have lgf := blk_lt hf
  have hb : ∀ i (hi : i < (fullRows R).length), 0 ≤ (fullRows R)[i] ∧ (fullRows R)[i] < 2 ^ R := by
    intro i hi
    have : 0 < 2 ^ R := Nat.two_pow_pos R
    have e : ((2 ^ R : Nat) : Int) = 2 ^ R := by simp
    simp only [fullRows, List.getElem_replicate]
    omega
  have key := WalkPerms.walk_calls
    (fun S vis w => Inv (fun i => S i ∨ i = gn ∨ i = gf ∨ i = gl) (vis.filter (fun p => rooksN p == R)) w ∧ w.heap[gn]? = some (.cells #[.int .i64 nI] 3 (0, 0)) ∧ w.heap[gf]? = some (.cells #[.func (.func 95) #[] #[dd1, dd2, dd3]] 84 (0, 0)) ∧
      Kd.R (Kd.int .i64) 3 w 0 (fun i => i = gl) (.slice (some ⟨gl, 0, none⟩) R cl) (fullRows R) ∧ ∀ i, S i → W.heap.size ≤ i)
    (by
      rintro S vis w w' ⟨i1, i2, i3, i4, i5⟩ hs
      have kp : ∀ g, g < W.heap.size → ∀ {o}, w.heap[g]? = some o → w'.heap[g]? = some o := fun g hg o ho => (hs.kept.2 g (blk_lt ho) (fun h => by have := i5 g h; omega)).trans ho
      refine ⟨hI _ _ _ _ i1 ⟨hs.kept.mono (fun k hk => .inl hk), hs.os, hs.tape, hs.output⟩, kp gn lgn i2, kp gf lgf i3, Kd.R_step i4 (fun i hi hlt => by subst hi; exact hs.kept.2 _ hlt (fun h => by have := i5 _ h; omega)), i5⟩)
    R R nI nI hnI hnI (fullRows R) (some ⟨gl, 0, none⟩) cl (by rw [fl]; exact hcl) (.pointer (some ⟨gn, 0, none⟩)) (.pointer (some ⟨gf, 0, none⟩))
    (fun S vis w h => by have := (Kd.R_reads' h.2.2.2.1).2.2; exact this)
    fl h1R hR hR hb W
    (by
      intro S w hS hBw
      refine ⟨h0 _ w (fun i hi => ?_) (hB.trans (hBw.mono hB.size)), blk_below hn hBw, blk_below hf hBw, Kd.R_below hl hBw, hS⟩
      rcases hi with hi | rfl | rfl | rfl
      · exact Nat.le_trans hB.size (hS i hi)
      · exact bn
      · exact bf
      · exact bl)
    (by
      rintro S vis ps w a cp hS hSlt hps hmem hSa hC hcp ⟨i1, i2, i3, i4, i5⟩
      have hSlt' : ∀ i, (S i ∨ i = gn ∨ i = gf ∨ i = gl) → i < w.heap.size := by
        rintro i (hi | rfl | rfl | rfl)
        · exact hSlt i hi
        · exact blk_lt i2
        · exact blk_lt i3
        · obtain ⟨cells, hc⟩ := Kd.R_typed i4 _ rfl; exact blk_lt hc
      have hS' : ∀ i, (S i ∨ i = gn ∨ i = gf ∨ i = gl) → w0.heap.size ≤ i := by
        rintro i (hi | rfl | rfl | rfl)
        · exact Nat.le_trans hB.size (hS i hi)
        · exact bn
        · exact bf
        · exact bl
      by_cases hk : rooksN ps = R
      · have hmem2 : ∃ b, permsOf R = vis.filter (fun p => rooksN p == R) ++ ps :: b := by
          obtain ⟨b, hb2⟩ := hmem
          exact ⟨b.filter (fun p => rooksN p == R), by unfold permsOf; rw [hb2, List.filter_append, List.filter_cons, if_pos (by simp [hk])]⟩
        refine (perm1_do dd1 dd2 dd3 R nI hnI a cp gn gf ps hps hR hcp w hC i2 i3 hk (fun w' => Inv (fun i => S i ∨ i = gn ∨ i = gf ∨ i = gl) (vis.filter (fun p => rooksN p == R) ++ [ps]) w' ∧ (∀ i, (S i ∨ i = gn ∨ i = gf ∨ i = gl) → i < w.heap.size → w'.heap[i]? = w.heap[i]?)) (fun q => hdo _ _ ps (w.drewN q) a cp hS' hSlt' hps hmem2 (.inl hSa) (Kd.C_drewN hC q) hcp (hI _ _ _ _ i1 (Still.drewN w q)))).mono ?_
        rintro e w' ⟨rfl, hx, hkeep⟩
        refine ⟨rfl, ⟨?_, (hkeep _ (.inr (.inl rfl)) (blk_lt i2)).trans i2, (hkeep _ (.inr (.inr (.inl rfl))) (blk_lt i3)).trans i3, Kd.R_step i4 (fun i hi hlt => by subst hi; exact hkeep _ (.inr (.inr (.inr rfl))) hlt), i5⟩, fun i hi hlt => hkeep i (.inl hi) hlt⟩
        rw [List.filter_append]
        simpa [hk] using hx
      · refine (perm1_skip dd1 dd2 dd3 R nI hnI a cp gn gf ps hps hR hcp w hC i2 i3 hk).mono ?_
        rintro e w' ⟨rfl, ⟨m, rfl⟩⟩
        refine ⟨rfl, ⟨?_, i2, i3, Kd.R_drewN i4 m, i5⟩, fun i hi hlt => rfl⟩
        rw [List.filter_append]
        simpa [hk] using hI _ _ _ _ i1 (Still.drewN w m))
  rw [fl] at key
  refine key.mono ?_
  rintro e w' ⟨rfl, S, hS, i1, _⟩
  refine ⟨rfl, _, ?_, i1⟩
  rintro i (hi | rfl | rfl | rfl)
  · exact Nat.le_trans hB.size (Nat.le_trans (Nat.le_refl _) (hS i hi))
  · exact bn
  · exact bf
  · exact bl
set_option maxHeartbeats 4000000 in
set_option maxRecDepth 100000 in
theorem perms_calls : Calls Try.prog 94 #[.int .i64 nI, .func (.func 95) #[] #[dd1, dd2, dd3]] w0
      fun e w' => e = .returned (.tuple #[]) ∧ ∃ S, (∀ i, S i → w0.heap.size ≤ i) ∧ Inv S (permsOf R) w' := by
  have KX := Lib.hid (perms_walk dd1 dd2 dd3 R nI hnI h1R hR Inv hI w0 h0 hdo)
  obtain ⟨kk, hfb⟩ := fullBoard_f h1R hR
  rw [← hnI] at hfb
  have A1 := Aside0.mk hfb
  have fl := Aside0.mk (show (fullRows R).length = R by simp [fullRows])
  have p1 := Aside0.mk h1R
  have hu24 := Try.underlying43
  clear hfb hnI h1R hR hI h0 hdo
  go_enter Try.func94, Try.ntmps94
  go_wp2_with (first
    | ((with_reducible refine gate_dst (N := 2) rfl ?_); refine box_event ?hg (N := 2) ?hd (cs := #[.int .i64 nI]) (t := 3) ?hr ?_; (case hd => rfl); (case hg => rfl); (case hr => first | (go_simp; done) | (go_simp; rfl)); intro gn hg w1 hbox hb; have G1 := Aside0.mk hg; have K1 := Aside0.mk hbox; have B1 := Aside0.mk hb; clear hg hbox hb)
    | ((with_reducible refine gate_dst (N := 3) rfl ?_); refine box_event ?hg (N := 3) ?hd (cs := #[.func (.func 95) #[] #[dd1, dd2, dd3]]) (t := 84) ?hr ?_; (case hd => rfl); (case hg => rfl); (case hr => first | (go_simp; done) | (go_simp; rfl)); intro gf hg w2 hbox hb; have G2 := Aside0.mk hg; have K2 := Aside0.mk hbox; have B2 := Aside0.mk hb; clear hg hbox hb; have z2 : w2.cell? ⟨gn, 0, none⟩ = some (.int .i64 nI) := (blk_cell (blk_below K1.out B2.out) 0).trans rfl)
    | (go_at_call 138; (refine (impl_FullBoard.calls kk nI nI nI nI (fullRows R) true _ A1.out).mono ?_); rintro e w3 ⟨v3, rfl, ho3, hb⟩; obtain ⟨gl, cl, hv3, hgl, hgl2, cells3, hc3⟩ := Kd.R_form ho3 (by rw [fl.out]; exact p1.out); rw [fl.out] at hv3; subst hv3; have G3 := Aside0.mk (And.intro hgl hgl2); have B3 := Aside0.mk hb; have O3 := Aside0.mk ho3; clear hgl hgl2 hc3 hb ho3)
    | ((with_reducible refine gate_dst (N := 4) rfl ?_); refine box_event ?hg (N := 4) ?hd (cs := #[.int .i64 0, .int .i64 0, .slice none 0 0]) (t := 43) ?hr ?_; (case hd => rfl); (case hg => rfl); (case hr => first | (go_simp; done) | (go_simp; rfl)); intro gb hg w4 hbox hb; have G4 := Aside0.mk hg; have K4 := Aside0.mk hbox; have B4 := Aside0.mk hb; clear hg hbox hb; have y0 : w4.cell? ⟨gb, 0, none⟩ = some (.int .i64 0) := (blk_cell K4.out 0).trans rfl; have y1 : w4.cell? ⟨gb, 1, none⟩ = some (.int .i64 0) := (blk_cell K4.out 1).trans rfl; have y2 : w4.cell? ⟨gb, 2, none⟩ = some (.slice none 0 0) := (blk_cell K4.out 2).trans rfl; have f0 := blk_frozen K4.out 0; have f1 := blk_frozen K4.out 1; have f2 := blk_frozen K4.out 2)
    | (go_at_call 139; (refine (KX.out gn gf gl cl _ ?sB ?s1 ?s2 ?s3 ?sn ?sf ?sl).mono ?_); (case sB => (have o1 := blk_lt K1.out; have o2 := G2.out; have o3 := blk_lt K2.out; have o4 := G3.out; have o5 := G4.out; have o6 := blk_lt K4.out; have o7 := G1.out; have b4 : Below w0.heap.size w0 w4 := (((B1.out.trans (B2.out.mono (by omega))).trans (B3.out.mono (by omega))).trans (B4.out.mono (by omega))); exact Below.setCell (Below.setCell (Below.setCell b4 (by (try simp only []); omega) _) (by (try simp only []); omega) _) (by (try simp only []); omega) _)); (case s1 => (have o1 := blk_lt K1.out; have o2 := G2.out; have o3 := blk_lt K2.out; have o4 := G3.out; have o5 := G4.out; have o6 := blk_lt K4.out; have o7 := G1.out; omega)); (case s2 => (have o1 := blk_lt K1.out; have o2 := G2.out; have o3 := blk_lt K2.out; have o4 := G3.out; have o5 := G4.out; have o6 := blk_lt K4.out; have o7 := G1.out; omega)); (case s3 => (have o1 := blk_lt K1.out; have o2 := G2.out; have o3 := blk_lt K2.out; have o4 := G3.out; have o5 := G4.out; have o6 := blk_lt K4.out; have o7 := G1.out; omega)); (case sn => (have o1 := blk_lt K1.out; have o2 := G2.out; have o3 := blk_lt K2.out; have o4 := G3.out; have o5 := G4.out; have o6 := blk_lt K4.out; have o7 := G1.out; have q := blk_below (blk_below (blk_below K1.out B2.out) B3.out) B4.out; have e : gn ≠ gb := (by omega); exact blk_far (blk_far (blk_far q e _) e _) e _)); (case sf => (have o1 := blk_lt K1.out; have o2 := G2.out; have o3 := blk_lt K2.out; have o4 := G3.out; have o5 := G4.out; have o6 := blk_lt K4.out; have o7 := G1.out; have q := blk_below (blk_below K2.out B3.out) B4.out; have e : gf ≠ gb := (by omega); exact blk_far (blk_far (blk_far q e _) e _) e _)); (case sl => (have o1 := blk_lt K1.out; have o2 := G2.out; have o3 := blk_lt K2.out; have o4 := G3.out; have o5 := G4.out; have o6 := blk_lt K4.out; have o7 := G1.out; have q := Kd.R_below (Kd.R_mono (Kd.R_lower (Kd.R_tight rfl O3.out) (Nat.zero_le _)) (fun i hi => (by simpa [Value.ownBlock] using hi : i = gl))) B4.out; have e : ∀ i, i = gl → i ≠ gb := (fun i hi => by omega); exact Kd.R_far (Kd.R_far (Kd.R_far q e _) e _) e _)); rintro e w5 ⟨rfl, hfin⟩))
  first | go_end0 | ((try simp only [Exit.inBlock, Exit.then]); refine bodyPost_ret (results_none rfl _ _ _) rfl ?_)
  exact ⟨rfl, hfin⟩
end

end Go.Proofs.Ytiopnmgcajohfaa.PermsPH
