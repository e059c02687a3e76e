/- Texts of this claim put together (5): words, what the functions compute, and plain facts. No conditions. -/
import Derived.Test.YtiopnmgcajohfaaSFnKnownHits4
import Derived.Deep.QuietTactic
import Derived.BigQuiet
import Derived.Deep.RegionWith
import Derived.Test.YtiopnmgcajohfaaSFnKnownHits0
section
namespace Go.Proofs.Ytiopnmgcajohfaa.PermsHN
set_option linter.unusedVariables false
set_option linter.unusedSectionVars false
open Go.RowKit Go.Proofs.YtiopnmgcajohfaaW.PrintWords Go.Proofs.YtiopnmgcajohfaaW.PrintLast Go.Proofs.YtiopnmgcajohfaaW.PrintMore
open Go.Proofs.YtiopnmgcajohfaaL Go.Proofs.Ytiopnmgcajohfaa.LawK Go.Proofs.Ytiopnmgcajohfaa.BoardK Go.Proofs.Ytiopnmgcajohfaa.Walk Go.Proofs.Ytiopnmgcajohfaa.Q
section
variable (dd1 dd2 : Value) (R : Nat) (nI : Int) (hnI : nI = R) (a cp gn gf : Nat) (ps : List Int) (hps : ps.length = R) (hR : R ≤ 6) (hcp : R ≤ cp) (w : World) (hr : Kd.C (Kd.int .i64) w (some ⟨a, 0, none⟩) R ps)
  (hn : w.heap[gn]? = some (.cells #[.int .i64 nI] 3 (0, 0))) (hf : w.heap[gf]? = some (.cells #[.func (.func 144) #[] #[dd1, dd2]] 84 (0, 0)))
include hnI hps hR hcp hr hn hf
set_option maxHeartbeats 4000000 in
set_option maxRecDepth 100000 in
theorem perm1_skip (hk : rooksN ps ≠ R) : Calls Try.prog 140 #[.slice (some ⟨a, 0, none⟩) R cp, .pointer (some ⟨gn, 0, none⟩), .pointer (some ⟨gf, 0, none⟩)] w fun e w' => e = .returned (.bool true) ∧ Drawn0 w w' := by
  obtain ⟨kk, hrk⟩ := rooks_f (l := ps) (by omega)
  obtain ⟨rk, hrk2⟩ : ∃ rk : Int, rk = (rooksN ps : Int) := ⟨_, rfl⟩
  rw [← hrk2] at hrk
  have c1 : (rk == nI) = false := beq_eq_false_iff_ne.mpr (by omega)
  have z1 : w.cell? ⟨gn, 0, none⟩ = some (.int .i64 nI) := (blk_cell hn 0).trans rfl
  have A1 := Aside0.mk hrk
  have HR := Aside0.mk hr
  have HP := Aside0.mk hps
  have HC := Aside0.mk hcp
  have CC : ∀ q, Calls Try.prog 141 #[.slice (some ⟨a, 0, none⟩) R cp] (w.drewN q) fun e w'' => e = .returned (.int .i64 rk) ∧ ∃ m, w'' = w.drewN m := by
    intro q
    have hh := impl_rooks.calls kk (some ⟨a, 0, none⟩) cp ps rk (w.drewN q) (by rw [HP.out]; exact Kd.C_drewN HR.out q) (by rw [HP.out]; exact HC.out) A1.out
    rw [HP.out] at hh
    exact Calls.quiet_of (hh.mono (by rintro e w' ⟨rfl, ⟨m, rfl⟩⟩; exact ⟨rfl, m, rfl⟩))
  have CX := Lib.hid CC
  clear CC hrk hrk2 hn hf hps hr hk hnI hR hcp
  go_enter Try.func140, Try.ntmps140
  go_wp2
  go_quiet ((go_at_call 141; exact CX.out _))
  go_wp2
  go_ret
  exact ⟨rfl, by repeat (first | exact Drawn0.refl _ | apply Drawn0.step)⟩
set_option maxHeartbeats 4000000 in
set_option maxRecDepth 100000 in
theorem perm1_do (hk : rooksN ps = R) (X : World → Prop) (hdo : ∀ q, Calls Try.prog 144 #[.slice (some ⟨a, 0, none⟩) R cp, dd1, dd2] (w.drewN q) fun e w' => e = .returned (.tuple #[]) ∧ X w') :
    Calls Try.prog 140 #[.slice (some ⟨a, 0, none⟩) R cp, .pointer (some ⟨gn, 0, none⟩), .pointer (some ⟨gf, 0, none⟩)] w fun e w' => e = .returned (.bool true) ∧ X w' := by
  obtain ⟨kk, hrk⟩ := rooks_f (l := ps) (by omega)
  obtain ⟨rk, hrk2⟩ : ∃ rk : Int, rk = (rooksN ps : Int) := ⟨_, rfl⟩
  rw [← hrk2] at hrk
  have c1 : (rk == nI) = true := beq_iff_eq.mpr (by omega)
  have z1 : w.cell? ⟨gn, 0, none⟩ = some (.int .i64 nI) := (blk_cell hn 0).trans rfl
  have z2 : w.cell? ⟨gf, 0, none⟩ = some (.func (.func 144) #[] #[dd1, dd2]) := (blk_cell hf 0).trans rfl
  have A1 := Aside0.mk hrk
  have HR := Aside0.mk hr
  have HP := Aside0.mk hps
  have HC := Aside0.mk hcp
  have CC : ∀ q, Calls Try.prog 141 #[.slice (some ⟨a, 0, none⟩) R cp] (w.drewN q) fun e w'' => e = .returned (.int .i64 rk) ∧ ∃ m, w'' = w.drewN m := by
    intro q
    have hh := impl_rooks.calls kk (some ⟨a, 0, none⟩) cp ps rk (w.drewN q) (by rw [HP.out]; exact Kd.C_drewN HR.out q) (by rw [HP.out]; exact HC.out) A1.out
    rw [HP.out] at hh
    exact Calls.quiet_of (hh.mono (by rintro e w' ⟨rfl, ⟨m, rfl⟩⟩; exact ⟨rfl, m, rfl⟩))
  have CX := Lib.hid CC
  have DX := Lib.hid hdo
  clear CC hrk hrk2 hn hf hps hr hk hnI hR hcp hdo
  go_enter Try.func140, Try.ntmps140
  go_wp2
  go_quiet ((go_at_call 141; exact CX.out _))
  go_wp2_with (first | (go_at_call 144; (refine (DX.out _).mono ?_); rintro e w2 ⟨rfl, hx⟩))
  go_ret
  exact ⟨rfl, hx⟩
end
section
variable (dd1 dd2 : Value) (R : Nat) (nI : Int) (hnI : nI = R) (h1R : 1 ≤ R) (hR : R ≤ 6) (base : Nat)
  (Inv : (Nat → Prop) → List (List Int) → World → Prop) (hI : ∀ S vis w w', Inv S vis w → Still S w w' → Inv S vis w') (w0 : World)
  (h0 : ∀ S w, (∀ i, S i → w0.heap.size ≤ i) → Below w0.heap.size w0 w → Inv S [] w)
  (hdo : ∀ S vis ps w a cp, (∀ i, S i → w0.heap.size ≤ i) → (∀ i, S i → i < w.heap.size) → ps.length = R → (∃ b, permsOf R = vis ++ ps :: b) → S a → Kd.C (Kd.int .i64) w (some ⟨a, 0, none⟩) R ps → R ≤ cp → Inv S vis w →
    Calls Try.prog 144 #[.slice (some ⟨a, 0, none⟩) R cp, dd1, dd2] w fun e w' => e = .returned (.tuple #[]) ∧ Inv S (vis ++ [ps]) w' ∧ (∀ i, S i → i < w.heap.size → w'.heap[i]? = w.heap[i]?))
include hnI h1R hR hI h0 hdo
theorem perms_walk (gn gf gl cl : Nat) (W : World) (hB : Below w0.heap.size w0 W) (bn : w0.heap.size ≤ gn) (bf : w0.heap.size ≤ gf) (bl : w0.heap.size ≤ gl)
    (hn : W.heap[gn]? = some (.cells #[.int .i64 nI] 3 (0, 0))) (hf : W.heap[gf]? = some (.cells #[.func (.func 144) #[] #[dd1, dd2]] 84 (0, 0)))
    (hl : Kd.R (Kd.int .i64) 3 W 0 (fun i => i = gl) (.slice (some ⟨gl, 0, none⟩) R cl) (fullRows R)) :
    Calls Try.prog 139 #[.agg #[.int .i64 nI, .int .i64 nI, .slice (some ⟨gl, 0, none⟩) R cl], .func (.func 140) #[] #[.pointer (some ⟨gn, 0, none⟩), .pointer (some ⟨gf, 0, none⟩)]] W
      fun e w' => e = .returned (.tuple #[]) ∧ ∃ S, (∀ i, S i → w0.heap.size ≤ i) ∧ Inv S (permsOf R) w' := by
  have fl : (fullRows R).length = R := by simp [fullRows]
  have hcl : R ≤ cl := (Kd.R_reads' hl).2.1
  have lgl : gl < W.heap.size := by obtain ⟨cells, hc⟩ := Kd.R_typed hl gl rfl; exact blk_lt hc
  have lgn := blk_lt hn
  have lgf := blk_lt hf
  have hb : ∀ i (hi : i < (fullRows R).length), 0 ≤ (fullRows R)[i] ∧ (fullRows R)[i] < 2 ^ R := by
    intro i hi
    have : 0 < 2 ^ R := Nat.two_pow_pos R
    have e : ((2 ^ R : Nat) : Int) = 2 ^ R := by simp
    simp only [fullRows, List.getElem_replicate]
    omega
  have key := WalkPerms.walk_calls
    (fun S vis w => Inv (fun i => S i ∨ i = gn ∨ i = gf ∨ i = gl) (vis.filter (fun p => rooksN p == R)) w ∧ w.heap[gn]? = some (.cells #[.int .i64 nI] 3 (0, 0)) ∧ w.heap[gf]? = some (.cells #[.func (.func 144) #[] #[dd1, dd2]] 84 (0, 0)) ∧
      Kd.R (Kd.int .i64) 3 w 0 (fun i => i = gl) (.slice (some ⟨gl, 0, none⟩) R cl) (fullRows R) ∧ ∀ i, S i → W.heap.size ≤ i)
    (by
      rintro S vis w w' ⟨i1, i2, i3, i4, i5⟩ hs
      have kp : ∀ g, g < W.heap.size → ∀ {o}, w.heap[g]? = some o → w'.heap[g]? = some o := fun g hg o ho => (hs.kept.2 g (blk_lt ho) (fun h => by have := i5 g h; omega)).trans ho
      refine ⟨hI _ _ _ _ i1 ⟨hs.kept.mono (fun k hk => .inl hk), hs.os, hs.tape, hs.output⟩, kp gn lgn i2, kp gf lgf i3, Kd.R_step i4 (fun i hi hlt => by subst hi; exact hs.kept.2 _ hlt (fun h => by have := i5 _ h; omega)), i5⟩)
    R R nI nI hnI hnI (fullRows R) (some ⟨gl, 0, none⟩) cl (by rw [fl]; exact hcl) (.pointer (some ⟨gn, 0, none⟩)) (.pointer (some ⟨gf, 0, none⟩))
    (fun S vis w h => by have := (Kd.R_reads' h.2.2.2.1).2.2; exact this)
    fl h1R hR hR hb W
    (by
      intro S w hS hBw
      refine ⟨h0 _ w (fun i hi => ?_) (hB.trans (hBw.mono hB.size)), blk_below hn hBw, blk_below hf hBw, Kd.R_below hl hBw, hS⟩
      rcases hi with hi | rfl | rfl | rfl
      · exact Nat.le_trans hB.size (hS i hi)
      · exact bn
      · exact bf
      · exact bl)
    (by
      rintro S vis ps w a cp hS hSlt hps hmem hSa hC hcp ⟨i1, i2, i3, i4, i5⟩
      have hSlt' : ∀ i, (S i ∨ i = gn ∨ i = gf ∨ i = gl) → i < w.heap.size := by
        rintro i (hi | rfl | rfl | rfl)
        · exact hSlt i hi
        · exact blk_lt i2
        · exact blk_lt i3
        · obtain ⟨cells, hc⟩ := Kd.R_typed i4 _ rfl; exact blk_lt hc
      have hS' : ∀ i, (S i ∨ i = gn ∨ i = gf ∨ i = gl) → w0.heap.size ≤ i := by
        rintro i (hi | rfl | rfl | rfl)
        · exact Nat.le_trans hB.size (hS i hi)
        · exact bn
        · exact bf
        · exact bl
      by_cases hk : rooksN ps = R
      · have hmem2 : ∃ b, permsOf R = vis.filter (fun p => rooksN p == R) ++ ps :: b := by
          obtain ⟨b, hb2⟩ := hmem
          exact ⟨b.filter (fun p => rooksN p == R), by unfold permsOf; rw [hb2, List.filter_append, List.filter_cons, if_pos (by simp [hk])]⟩
        refine (perm1_do dd1 dd2 R nI hnI a cp gn gf ps hps hR hcp w hC i2 i3 hk (fun w' => Inv (fun i => S i ∨ i = gn ∨ i = gf ∨ i = gl) (vis.filter (fun p => rooksN p == R) ++ [ps]) w' ∧ (∀ i, (S i ∨ i = gn ∨ i = gf ∨ i = gl) → i < w.heap.size → w'.heap[i]? = w.heap[i]?)) (fun q => hdo _ _ ps (w.drewN q) a cp hS' hSlt' hps hmem2 (.inl hSa) (Kd.C_drewN hC q) hcp (hI _ _ _ _ i1 (Still.drewN w q)))).mono ?_
        rintro e w' ⟨rfl, hx, hkeep⟩
        refine ⟨rfl, ⟨?_, (hkeep _ (.inr (.inl rfl)) (blk_lt i2)).trans i2, (hkeep _ (.inr (.inr (.inl rfl))) (blk_lt i3)).trans i3, Kd.R_step i4 (fun i hi hlt => by subst hi; exact hkeep _ (.inr (.inr (.inr rfl))) hlt), i5⟩, fun i hi hlt => hkeep i (.inl hi) hlt⟩
        rw [List.filter_append]
        simpa [hk] using hx
      · refine (perm1_skip dd1 dd2 R nI hnI a cp gn gf ps hps hR hcp w hC i2 i3 hk).mono ?_
        rintro e w' ⟨rfl, ⟨m, rfl⟩⟩
        refine ⟨rfl, ⟨?_, i2, i3, Kd.R_drewN i4 m, i5⟩, fun i hi hlt => rfl⟩
        rw [List.filter_append]
        simpa [hk] using hI _ _ _ _ i1 (Still.drewN w m))
  rw [fl] at key
  refine key.mono ?_
  rintro e w' ⟨rfl, S, hS, i1, _⟩
  refine ⟨rfl, _, ?_, i1⟩
  rintro i (hi | rfl | rfl | rfl)
  · exact Nat.le_trans hB.size (Nat.le_trans (Nat.le_refl _) (hS i hi))
  · exact bn
  · exact bf
  · exact bl
set_option maxHeartbeats 4000000 in
set_option maxRecDepth 100000 in
theorem perms_calls : Calls Try.prog 94 #[.int .i64 nI, .func (.func 144) #[] #[dd1, dd2]] w0
      fun e w' => e = .returned (.tuple #[]) ∧ ∃ S, (∀ i, S i → w0.heap.size ≤ i) ∧ Inv S (permsOf R) w' := by
  have KX := Lib.hid (perms_walk dd1 dd2 R nI hnI h1R hR Inv hI w0 h0 hdo)
  obtain ⟨kk, hfb⟩ := fullBoard_f h1R hR
  rw [← hnI] at hfb
  have A1 := Aside0.mk hfb
  have fl := Aside0.mk (show (fullRows R).length = R by simp [fullRows])
  have p1 := Aside0.mk h1R
  have hu24 := Try.underlying43
  clear hfb hnI h1R hR hI h0 hdo
  go_enter Try.func94, Try.ntmps94
  go_wp2_with (first
    | ((with_reducible refine gate_dst (N := 2) rfl ?_); refine box_event ?hg (N := 2) ?hd (cs := #[.int .i64 nI]) (t := 3) ?hr ?_; (case hd => rfl); (case hg => rfl); (case hr => first | (go_simp; done) | (go_simp; rfl)); intro gn hg w1 hbox hb; have G1 := Aside0.mk hg; have K1 := Aside0.mk hbox; have B1 := Aside0.mk hb; clear hg hbox hb)
    | ((with_reducible refine gate_dst (N := 3) rfl ?_); refine box_event ?hg (N := 3) ?hd (cs := #[.func (.func 144) #[] #[dd1, dd2]]) (t := 84) ?hr ?_; (case hd => rfl); (case hg => rfl); (case hr => first | (go_simp; done) | (go_simp; rfl)); intro gf hg w2 hbox hb; have G2 := Aside0.mk hg; have K2 := Aside0.mk hbox; have B2 := Aside0.mk hb; clear hg hbox hb; have z2 : w2.cell? ⟨gn, 0, none⟩ = some (.int .i64 nI) := (blk_cell (blk_below K1.out B2.out) 0).trans rfl)
    | (go_at_call 138; (refine (impl_FullBoard.calls kk nI nI nI nI (fullRows R) true _ A1.out).mono ?_); rintro e w3 ⟨v3, rfl, ho3, hb⟩; obtain ⟨gl, cl, hv3, hgl, hgl2, cells3, hc3⟩ := Kd.R_form ho3 (by rw [fl.out]; exact p1.out); rw [fl.out] at hv3; subst hv3; have G3 := Aside0.mk (And.intro hgl hgl2); have B3 := Aside0.mk hb; have O3 := Aside0.mk ho3; clear hgl hgl2 hc3 hb ho3)
    | ((with_reducible refine gate_dst (N := 4) rfl ?_); refine box_event ?hg (N := 4) ?hd (cs := #[.int .i64 0, .int .i64 0, .slice none 0 0]) (t := 43) ?hr ?_; (case hd => rfl); (case hg => rfl); (case hr => first | (go_simp; done) | (go_simp; rfl)); intro gb hg w4 hbox hb; have G4 := Aside0.mk hg; have K4 := Aside0.mk hbox; have B4 := Aside0.mk hb; clear hg hbox hb; have y0 : w4.cell? ⟨gb, 0, none⟩ = some (.int .i64 0) := (blk_cell K4.out 0).trans rfl; have y1 : w4.cell? ⟨gb, 1, none⟩ = some (.int .i64 0) := (blk_cell K4.out 1).trans rfl; have y2 : w4.cell? ⟨gb, 2, none⟩ = some (.slice none 0 0) := (blk_cell K4.out 2).trans rfl; have f0 := blk_frozen K4.out 0; have f1 := blk_frozen K4.out 1; have f2 := blk_frozen K4.out 2)
    | (go_at_call 139; (refine (KX.out gn gf gl cl _ ?sB ?s1 ?s2 ?s3 ?sn ?sf ?sl).mono ?_); (case sB => (have o1 := blk_lt K1.out; have o2 := G2.out; have o3 := blk_lt K2.out; have o4 := G3.out; have o5 := G4.out; have o6 := blk_lt K4.out; have o7 := G1.out; have b4 : Below w0.heap.size w0 w4 := (((B1.out.trans (B2.out.mono (by omega))).trans (B3.out.mono (by omega))).trans (B4.out.mono (by omega))); exact Below.setCell (Below.setCell (Below.setCell b4 (by (try simp only []); omega) _) (by (try simp only []); omega) _) (by (try simp only []); omega) _)); (case s1 => (have o1 := blk_lt K1.out; have o2 := G2.out; have o3 := blk_lt K2.out; have o4 := G3.out; have o5 := G4.out; have o6 := blk_lt K4.out; have o7 := G1.out; omega)); (case s2 => (have o1 := blk_lt K1.out; have o2 := G2.out; have o3 := blk_lt K2.out; have o4 := G3.out; have o5 := G4.out; have o6 := blk_lt K4.out; have o7 := G1.out; omega)); (case s3 => (have o1 := blk_lt K1.out; have o2 := G2.out; have o3 := blk_lt K2.out; have o4 := G3.out; have o5 := G4.out; have o6 := blk_lt K4.out; have o7 := G1.out; omega)); (case sn => (have o1 := blk_lt K1.out; have o2 := G2.out; have o3 := blk_lt K2.out; have o4 := G3.out; have o5 := G4.out; have o6 := blk_lt K4.out; have o7 := G1.out; have q := blk_below (blk_below (blk_below K1.out B2.out) B3.out) B4.out; have e : gn ≠ gb := (by omega); exact blk_far (blk_far (blk_far q e _) e _) e _)); (case sf => (have o1 := blk_lt K1.out; have o2 := G2.out; have o3 := blk_lt K2.out; have o4 := G3.out; have o5 := G4.out; have o6 := blk_lt K4.out; have o7 := G1.out; have q := blk_below (blk_below K2.out B3.out) B4.out; have e : gf ≠ gb := (by omega); exact blk_far (blk_far (blk_far q e _) e _) e _)); (case sl => (have o1 := blk_lt K1.out; have o2 := G2.out; have o3 := blk_lt K2.out; have o4 := G3.out; have o5 := G4.out; have o6 := blk_lt K4.out; have o7 := G1.out; have q := Kd.R_below (Kd.R_mono (Kd.R_lower (Kd.R_tight rfl O3.out) (Nat.zero_le _)) (fun i hi => (by simpa [Value.ownBlock] using hi : i = gl))) B4.out; have e : ∀ i, i = gl → i ≠ gb := (fun i hi => by omega); exact Kd.R_far (Kd.R_far (Kd.R_far q e _) e _) e _)); rintro e w5 ⟨rfl, hfin⟩))
  first | go_end0 | ((try simp only [Exit.inBlock, Exit.then]); refine bodyPost_ret (results_none rfl _ _ _) rfl ?_)
  exact ⟨rfl, hfin⟩
end
end Go.Proofs.Ytiopnmgcajohfaa.PermsHN
end
section
namespace Go.Proofs.Ytiopnmgcajohfaa.Q
open Go.RowKit Go.Proofs.YtiopnmgcajohfaaW.PrintWords Go.Proofs.YtiopnmgcajohfaaW.PrintLast Go.Proofs.YtiopnmgcajohfaaW.PrintMore
attribute [local go_sem] max2_int min2_int max_two min_two max_three min_three max_four min_four   -- for this text's walks alone
set_option linter.unusedVariables false
set_option linter.unusedSimpArgs false
def impl_Board_hits.l0:Nat→Int→List Int→Int→Int→Int→Int→List Int→Option (Int)
|0,_,_,_,_,_,_,_=>none
|k + 1,x5,x8,x9,x10,x102000,x102001,x102002=>if x10 < x9 then (if 0≤x10 then (if x10 < (x8.length:Int) then ((impl_Board_has.f x102000 x102001 x102002 x10 (rd x8 x10)).bind fun t103=>(if t103=true then (impl_Board_hits.l0 k (wrap64 (x5 + 1)) x8 x9 (wrap64 (x10 + 1)) x102000 x102001 x102002) else (impl_Board_hits.l0 k x5 x8 x9 (wrap64 (x10 + 1)) x102000 x102001 x102002))) else (none)) else (none)) else (some x5)
def impl_Board_hits.f (k:Nat) (a0_0:Int) (a0_1:Int) (l0_2:List Int) (l1:List Int):Option (Int):=impl_Board_hits.l0 k 0 l1 (l1.length:Int) 0 a0_0 a0_1 l0_2
set_option maxHeartbeats 8000000 in
set_option maxRecDepth 100000 in
theorem impl_Board_hits.calls (k:Nat) (a0_0:Int) (a0_1:Int) (A0_2:Option Addr) (c0_2:Nat) (l0_2:List Int) (A1:Option Addr) (c1:Nat) (l1:List Int) (r:Int) (w:World) (hr0_2:Kd.C (Kd.int .i64) w A0_2 l0_2.length l0_2) (hc0_2:l0_2.length≤c0_2) (hr1:Kd.C (Kd.int .i64) w A1 l1.length l1) (hc1:l1.length≤c1) (h:impl_Board_hits.f k a0_0 a0_1 l0_2 l1=some r) :
  Calls Try.prog 96 #[.agg #[.int .i64 a0_0,.int .i64 a0_1,.slice A0_2 l0_2.length c0_2],.slice A1 l1.length c1] w fun e w'=>e=.returned (.int .i64 r)∧Below w.heap.size w w':=by
 have hu43:=Try.underlying43;have HR0_2:=za hr0_2;have HC0_2:=za hc0_2;clear hr0_2 hc0_2;have HR1:=za hr1;have HC1:=za hc1;clear hr1 hc1;have HB:=za (Below.refl w.heap.size w);have H:(impl_Board_hits.l0 k 0 l1 (l1.length:Int) 0 a0_0 a0_1 l0_2)=some r:=h;clear h;have H':=za H;clear H;(go_enter Try.func96,Try.ntmps96);(go_wp2_with (first|((with_reducible refine gate_dst (N:=2) rfl ?_);refine box_event ?hg (N:=2) ?hd (cs:=#[.int .i64 a0_0,.int .i64 a0_1,.slice A0_2 l0_2.length c0_2]) (t:=43) ?hr ?_;(case hd=>rfl);(case hg=>rfl);(case hr=>first|(go_simp;done)|(go_simp;rfl));intro gb101 hg w3 hbox hb;have BK101:=za (hbox);have GW101:=za ((by rw [hg];exact (zq (by repeat (first|(with_reducible first|exact HB.out|apply zj|apply zk|apply zi)|exact HB.out))):w.heap.size≤gb101));have GE101:=za ((by rw [hg];exact (zq (by repeat (first|(with_reducible first|exact HB.out|apply zj|apply zk|apply zi)|exact HB.out))):w.heap.size≤gb101));replace HB:=za (zu (by repeat (first|(with_reducible first|exact HB.out|apply zj|apply zk|apply zi)|exact HB.out)) hb);clear hb hbox hg)));(go_loopg [5,10] k (fun kq v5 v10 w'=>∃ (x5_1:Int) (x10_1:Int),v5=.int .i64 x5_1∧v10=.int .i64 x10_1∧Aside0 (impl_Board_hits.l0 kq x5_1 l1 (l1.length:Int) x10_1 a0_0 a0_1 l0_2=some r)∧Aside0 (kq≤k)∧Aside0 (w'.heap[gb101]?=some (.cells #[.int .i64 a0_0,.int .i64 a0_1,(.slice A0_2 l0_2.length c0_2)] 43 (0,0)))∧Aside0 (Below w.heap.size w w')));case atStart=>exact ⟨(0),(0),(by first|rfl|(simp;done)|(simp [*];done)),(by first|rfl|(simp;done)|(simp [*];done)),H',⟨Nat.le_refl _⟩,⟨by (with_reducible repeat (first|refine zd ?_ _|refine zb ?_|refine ze ?_ _));exact BK101.out⟩,⟨by repeat (first|(with_reducible first|exact HB.out|apply zj|apply zk|apply zi|refine zc ?_ GE101.out)|exact HB.out)⟩⟩
 case round =>
  clear H';(try clear c1);(try clear p2);obtain ⟨x5_1,x10_1,rfl,rfl,HA,HK1,BK101,HB⟩:=hrel
  cases gk with
 |zero=>exact absurd HA.out (by simp [impl_Board_hits.l0])
 |succ k1 =>
   have H:=HA.out;clear HA;simp only [impl_Board_hits.l0] at H;by_cases c4:x10_1 < (l1.length:Int)
   ·
    rw [if_pos c4] at H;have c4b0:decide (x10_1 < (l1.length:Int))=true:=decide_eq_true c4;clear c4;by_cases c5:0≤x10_1
    ·
     rw [if_pos c5] at H;have c5b0:decide (0≤x10_1)=true:=decide_eq_true c5;clear c5;by_cases c6:x10_1 < (l1.length:Int)
     ·
      rw [if_pos c6] at H;have c6b0:decide (x10_1 < (l1.length:Int))=true:=decide_eq_true c6;clear c6;obtain ⟨t103,A7,H⟩:=bindAside H;(try dsimp only at H);by_cases c8:t103=true
      · subst c8;(have H1:(impl_Board_hits.l0 k1 (wrap64 (x5_1 + 1)) l1 (l1.length:Int) (wrap64 (x10_1 + 1)) a0_0 a0_1 l0_2)=some r:=by rw [if_pos rfl] at H;exact H);clear H;have H:=H1;clear H1;have H':=za H;clear H;have p102:0≤(x10_1:Int):=of_decide_eq_true ‹_›;have q102:x10_1 < (l1.length:Int):=of_decide_eq_true ‹_›;obtain ⟨ad102,e102,hx102_0⟩:=Kd.at_int HR1.out x10_1 p102 q102;cases e102;replace hx102_0:=(HB.out.cell (World.block_lt_of_cell? w _ hx102_0)).trans hx102_0;replace p102:=eq_true p102;replace q102:=eq_true q102;have hcz9_0:wr.cell? ⟨gb101,0,none⟩=some (.int .i64 a0_0):=(zl BK101.out 0).trans rfl;have hcz9_1:wr.cell? ⟨gb101,1,none⟩=some (.int .i64 a0_1):=(zl BK101.out 1).trans rfl;have hcz9_2:wr.cell? ⟨gb101,2,none⟩=some (.slice A0_2 l0_2.length c0_2):=(zl BK101.out 2).trans rfl;have hfz9_0:=zm BK101.out 0;have hfz9_1:=zm BK101.out 1;have hfz9_2:=zm BK101.out 2;(go_wp2_with (first|((with_reducible refine zt (f:=136) rfl ?_);refine goesL_ (some 18) rfl rfl Try.func136 (by kernel_rfl) rfl #[.agg #[.int .i64 a0_0,.int .i64 a0_1,.slice A0_2 l0_2.length c0_2],.int .i64 x10_1,.int .i64 (rd l1 x10_1)] rfl (by first|rfl|simp only [z3_,z4_,z5_];try rfl) ?_;(with_reducible refine (impl_Board_has.calls a0_0 a0_1 _ _ l0_2 x10_1 (rd l1 x10_1) true _ ?side1 ?side2 A7.out).mono ?_);(case side1=>repeat (first|exact (Kd.C_below HR0_2.out HB.out)|(with_reducible refine Kd.C_alloc ?_ _)|(with_reducible refine Kd.C_drewN ?_ _)|(with_reducible refine Kd.C_drew ?_)));(case side2=>exact HC0_2.out);rintro e w10 ⟨rfl,hb⟩;refine ⟨_,rfl,?_⟩;replace BK101:=za (zo (g:=gb101) (o:=.cells #[.int .i64 a0_0,.int .i64 a0_1,.slice A0_2 l0_2.length c0_2] 43 (0,0)) (by apply_rules only [BK101.out,zd,zb,ze]) hb);replace HB:=za (zu (by repeat (first|(with_reducible first|exact HB.out|apply zj|apply zk|apply zi|refine zc ?_ GE101.out)|exact HB.out)) hb))));(go_roundg k1);(case measure=>have:=HK1.out;omega);case rel=>exact ⟨(wrap64 (x5_1 + 1)),(wrap64 (x10_1 + 1)),(by first|rfl|(simp;done)|(simp [*];done)),(by first|rfl|(simp;done)|(simp [*];done)),H',⟨by have:=HK1.out;omega⟩,⟨by (with_reducible repeat (first|refine zd ?_ _|refine zb ?_|refine ze ?_ _));exact BK101.out⟩,⟨by repeat (first|(with_reducible first|exact HB.out|apply zj|apply zk|apply zi|refine zc ?_ GE101.out)|exact HB.out)⟩⟩
      · replace c8:=Bool.eq_false_iff.mpr c8;subst c8;(have H1:(impl_Board_hits.l0 k1 x5_1 l1 (l1.length:Int) (wrap64 (x10_1 + 1)) a0_0 a0_1 l0_2)=some r:=by rw [if_neg (show ¬ (false=true) by decide)] at H;exact H);clear H;have H:=H1;clear H1;have H':=za H;clear H;have p102:0≤(x10_1:Int):=of_decide_eq_true ‹_›;have q102:x10_1 < (l1.length:Int):=of_decide_eq_true ‹_›;obtain ⟨ad102,e102,hx102_0⟩:=Kd.at_int HR1.out x10_1 p102 q102;cases e102;replace hx102_0:=(HB.out.cell (World.block_lt_of_cell? w _ hx102_0)).trans hx102_0;replace p102:=eq_true p102;replace q102:=eq_true q102;have hcz11_0:wr.cell? ⟨gb101,0,none⟩=some (.int .i64 a0_0):=(zl BK101.out 0).trans rfl;have hcz11_1:wr.cell? ⟨gb101,1,none⟩=some (.int .i64 a0_1):=(zl BK101.out 1).trans rfl;have hcz11_2:wr.cell? ⟨gb101,2,none⟩=some (.slice A0_2 l0_2.length c0_2):=(zl BK101.out 2).trans rfl;have hfz11_0:=zm BK101.out 0;have hfz11_1:=zm BK101.out 1;have hfz11_2:=zm BK101.out 2;(go_wp2_with (first|((with_reducible refine zt (f:=136) rfl ?_);refine goesL_ (some 18) rfl rfl Try.func136 (by kernel_rfl) rfl #[.agg #[.int .i64 a0_0,.int .i64 a0_1,.slice A0_2 l0_2.length c0_2],.int .i64 x10_1,.int .i64 (rd l1 x10_1)] rfl (by first|rfl|simp only [z3_,z4_,z5_];try rfl) ?_;(with_reducible refine (impl_Board_has.calls a0_0 a0_1 _ _ l0_2 x10_1 (rd l1 x10_1) false _ ?side1 ?side2 A7.out).mono ?_);(case side1=>repeat (first|exact (Kd.C_below HR0_2.out HB.out)|(with_reducible refine Kd.C_alloc ?_ _)|(with_reducible refine Kd.C_drewN ?_ _)|(with_reducible refine Kd.C_drew ?_)));(case side2=>exact HC0_2.out);rintro e w12 ⟨rfl,hb⟩;refine ⟨_,rfl,?_⟩;replace BK101:=za (zo (g:=gb101) (o:=.cells #[.int .i64 a0_0,.int .i64 a0_1,.slice A0_2 l0_2.length c0_2] 43 (0,0)) (by apply_rules only [BK101.out,zd,zb,ze]) hb);replace HB:=za (zu (by repeat (first|(with_reducible first|exact HB.out|apply zj|apply zk|apply zi|refine zc ?_ GE101.out)|exact HB.out)) hb))));(go_roundg k1);(case measure=>have:=HK1.out;omega);case rel=>exact ⟨(x5_1),(wrap64 (x10_1 + 1)),(by first|rfl|(simp;done)|(simp [*];done)),(by first|rfl|(simp;done)|(simp [*];done)),H',⟨by have:=HK1.out;omega⟩,⟨by (with_reducible repeat (first|refine zd ?_ _|refine zb ?_|refine ze ?_ _));exact BK101.out⟩,⟨by repeat (first|(with_reducible first|exact HB.out|apply zj|apply zk|apply zi|refine zc ?_ GE101.out)|exact HB.out)⟩⟩
     · rw [if_neg c6] at H;exact absurd H (by simp)
    · rw [if_neg c5] at H;exact absurd H (by simp)
   · rw [if_neg c4] at H;have c4b0:decide (x10_1 < (l1.length:Int))=false:=decide_eq_false c4;clear c4;obtain rfl:=Option.some.inj H;(go_wp2);(go_ret);exact ⟨by first|rfl|simp [*,errW_none,errW_some] <;> rfl,by repeat (first|(with_reducible first|exact HB.out|apply zj|apply zk|apply zi|refine zc ?_ GE101.out)|exact HB.out)⟩
end Go.Proofs.Ytiopnmgcajohfaa.Q
end
section
namespace Go.Proofs.Ytiopnmgcajohfaa.Q
open Go.RowKit Go.Proofs.YtiopnmgcajohfaaW.PrintWords Go.Proofs.YtiopnmgcajohfaaW.PrintLast Go.Proofs.YtiopnmgcajohfaaW.PrintMore
attribute [local go_sem] max2_int min2_int max_two min_two max_three min_three max_four min_four   -- for this text's walks alone
set_option linter.unusedVariables false
set_option linter.unusedSimpArgs false
end Go.Proofs.Ytiopnmgcajohfaa.Q
end
section
namespace Go.Proofs.Ytiopnmgcajohfaa.Q
open Go.RowKit Go.Proofs.YtiopnmgcajohfaaW.PrintWords Go.Proofs.YtiopnmgcajohfaaW.PrintLast Go.Proofs.YtiopnmgcajohfaaW.PrintMore
attribute [local go_sem] max2_int min2_int max_two min_two max_three min_three max_four min_four   -- for this text's walks alone
set_option linter.unusedVariables false
set_option linter.unusedSimpArgs false
end Go.Proofs.Ytiopnmgcajohfaa.Q
end
section
namespace Go.Proofs.Ytiopnmgcajohfaa.Q
open Go.RowKit Go.Proofs.YtiopnmgcajohfaaW.PrintWords Go.Proofs.YtiopnmgcajohfaaW.PrintLast Go.Proofs.YtiopnmgcajohfaaW.PrintMore
attribute [local go_sem] max2_int min2_int max_two min_two max_three min_three max_four min_four   -- for this text's walks alone
set_option linter.unusedVariables false
set_option linter.unusedSimpArgs false
end Go.Proofs.Ytiopnmgcajohfaa.Q
end
section
namespace Go.Proofs.Ytiopnmgcajohfaa.Q
open Go.RowKit Go.Proofs.YtiopnmgcajohfaaW.PrintWords Go.Proofs.YtiopnmgcajohfaaW.PrintLast Go.Proofs.YtiopnmgcajohfaaW.PrintMore
attribute [local go_sem] max2_int min2_int max_two min_two max_three min_three max_four min_four   -- for this text's walks alone
set_option linter.unusedVariables false
set_option linter.unusedSimpArgs false
end Go.Proofs.Ytiopnmgcajohfaa.Q
end
section
namespace Go.Proofs.Ytiopnmgcajohfaa.Q
open Go.RowKit Go.Proofs.YtiopnmgcajohfaaW.PrintWords Go.Proofs.YtiopnmgcajohfaaW.PrintLast Go.Proofs.YtiopnmgcajohfaaW.PrintMore
attribute [local go_sem] max2_int min2_int max_two min_two max_three min_three max_four min_four   -- for this text's walks alone
set_option linter.unusedVariables false
set_option linter.unusedSimpArgs false
end Go.Proofs.Ytiopnmgcajohfaa.Q
end
section
namespace Go.Proofs.Ytiopnmgcajohfaa.Q
open Go.RowKit Go.Proofs.YtiopnmgcajohfaaW.PrintWords Go.Proofs.YtiopnmgcajohfaaW.PrintLast Go.Proofs.YtiopnmgcajohfaaW.PrintMore
attribute [local go_sem] max2_int min2_int max_two min_two max_three min_three max_four min_four   -- for this text's walks alone
set_option linter.unusedVariables false
set_option linter.unusedSimpArgs false
def slices_Index_int_int.l0:Nat→List Int→Int→Int→Int→Option (Int)
|0,_,_,_,_=>none
|k + 1,x0,x1,x7,x8=>if x8 < x7 then (if 0≤x8 then (if x8 < (x0.length:Int) then (if x1=(rd x0 x8) then (some x8) else (slices_Index_int_int.l0 k x0 x1 x7 (wrap64 (x8 + 1)))) else (none)) else (none)) else (some (-1))
def slices_Index_int_int.f (k:Nat) (l0:List Int) (a1:Int):Option (Int):=slices_Index_int_int.l0 k l0 a1 (l0.length:Int) 0
end Go.Proofs.Ytiopnmgcajohfaa.Q
end
section
namespace Go.Proofs.Ytiopnmgcajohfaa.Q
open Go.RowKit Go.Proofs.YtiopnmgcajohfaaW.PrintWords Go.Proofs.YtiopnmgcajohfaaW.PrintLast Go.Proofs.YtiopnmgcajohfaaW.PrintMore
attribute [local go_sem] max2_int min2_int max_two min_two max_three min_three max_four min_four   -- for this text's walks alone
set_option linter.unusedVariables false
set_option linter.unusedSimpArgs false
def slices_Contains_int_int.f (k:Nat) (l0:List Int) (a1:Int):Option (Bool):=(slices_Index_int_int.f k l0 a1).bind fun t101=>(some (decide (t101 ≥ 0)))
end Go.Proofs.Ytiopnmgcajohfaa.Q
end
section
namespace Go.Proofs.Ytiopnmgcajohfaa.Q
open Go.RowKit Go.Proofs.YtiopnmgcajohfaaW.PrintWords Go.Proofs.YtiopnmgcajohfaaW.PrintLast Go.Proofs.YtiopnmgcajohfaaW.PrintMore
attribute [local go_sem] max2_int min2_int max_two min_two max_three min_three max_four min_four   -- for this text's walks alone
set_option linter.unusedVariables false
set_option linter.unusedSimpArgs false
end Go.Proofs.Ytiopnmgcajohfaa.Q
end
section
namespace Go.Proofs.Ytiopnmgcajohfaa.Q
open Go.RowKit Go.Proofs.YtiopnmgcajohfaaW.PrintWords Go.Proofs.YtiopnmgcajohfaaW.PrintLast Go.Proofs.YtiopnmgcajohfaaW.PrintMore
attribute [local go_sem] max2_int min2_int max_two min_two max_three min_three max_four min_four   -- for this text's walks alone
set_option linter.unusedVariables false
set_option linter.unusedSimpArgs false
end Go.Proofs.Ytiopnmgcajohfaa.Q
end
section
namespace Go.Proofs.Ytiopnmgcajohfaa.PermK
set_option linter.unusedVariables false
open Go.RowKit Go.Proofs.Ytiopnmgcajohfaa.Q Go.Proofs.YtiopnmgcajohfaaW.PrintWords Go.Proofs.YtiopnmgcajohfaaW.PrintLast Go.Proofs.YtiopnmgcajohfaaW.PrintMore
open Go.Proofs.YtiopnmgcajohfaaL Go.Proofs.Ytiopnmgcajohfaa.LawK Go.Proofs.Ytiopnmgcajohfaa.BoardK
theorem index_l0 {l : List Int} (x : Int) (hl : l.length ≤ 4611686018427387904) : ∀ (d i : Nat), i + d = l.length → ∃ r : Int, (decide (r ≥ 0) = decide (x ∈ l.drop i)) ∧ Ev (fun k => slices_Index_int_int.l0 k l x (l.length : Int) i) r
  | 0, i, hi => by
    refine ⟨-1, by rw [List.drop_eq_nil_of_le (by omega)]; rfl, Ev.step (f := fun _ => some (-1)) (fun k => ?_) (Ev.now _)⟩
    rw [slices_Index_int_int.l0, if_neg (by omega)]
  | d + 1, i, hi => by
    have h1 : wrap64 ((i : Int) + 1) = ((i + 1 : Nat) : Int) := by rw [w64 (by omega) (by omega)]; rfl
    have hi2 : i < l.length := by omega
    rw [List.drop_eq_getElem_cons hi2]
    by_cases e : x = l[i]
    · refine ⟨i, by rw [decide_eq_true (show x ∈ l[i] :: l.drop (i + 1) from List.mem_cons.2 (Or.inl e))]; simp, Ev.step (f := fun _ => some (i : Int)) (fun k => ?_) (Ev.now _)⟩
      rw [slices_Index_int_int.l0, if_pos (by omega), if_pos (by omega), if_pos (by omega), rd_lt _ _ hi2, if_pos e]
    · have : (x ∈ l[i] :: l.drop (i + 1)) ↔ x ∈ l.drop (i + 1) := by
        rw [List.mem_cons]; exact ⟨fun h => h.resolve_left e, Or.inr⟩
      rw [decide_eq_decide.mpr this]
      obtain ⟨r, hr, hev⟩ := index_l0 x hl d (i + 1) (by omega)
      refine ⟨r, hr, Ev.step (fun k => ?_) hev⟩
      rw [slices_Index_int_int.l0, if_pos (by omega), if_pos (by omega), if_pos (by omega), rd_lt _ _ hi2, if_neg e, h1]
theorem contains {l : List Int} (x : Int) (hl : l.length ≤ 4611686018427387904) : Ev (fun k => slices_Contains_int_int.f k l x) (decide (x ∈ l)) := by
  obtain ⟨r, hr, hev⟩ := index_l0 x hl l.length 0 (by omega)
  rw [List.drop_zero] at hr
  rw [← hr]
  unfold slices_Contains_int_int.f slices_Index_int_int.f
  exact Ev.bind (a := r) hev (Ev.now _)
def hitsF (l : List Int) : List Int → Nat → Int → Int
  | [], _, s => s
  | c :: t, i, s => hitsF l t (i + 1) (if cell l i c.toNat then s + 1 else s)
theorem impl_hits {l p : List Int} (r c : Int) (hp : p.length = l.length) (hl6 : l.length ≤ 6) (hb : ∀ i (hi : i < l.length), 0 ≤ l[i] ∧ l[i] < 64) (hin : ∀ x ∈ p, 0 ≤ x ∧ x < 64) : ∀ (d i : Nat) (s : Int), i + d = p.length → 0 ≤ s → s ≤ i → Ev (fun k => impl_Board_hits.l0 k s p (p.length : Int) i r c l) (hitsF l (p.drop i) i s)
  | 0, i, s, hi, h0, hs => by
    refine Ev.step (f := fun _ => some (hitsF l (p.drop i) i s)) (fun k => ?_) (Ev.now _)
    rw [impl_Board_hits.l0, if_neg (by omega), List.drop_eq_nil_of_le (by omega)]; rfl
  | d + 1, i, s, hi, h0, hs => by
    have h1 : wrap64 ((i : Int) + 1) = ((i + 1 : Nat) : Int) := by rw [w64 (by omega) (by omega)]; rfl
    have h2 : wrap64 (s + 1) = s + 1 := w64 (by omega) (by omega)
    have hi2 : i < p.length := by omega
    have hx := hin p[i] (List.getElem_mem hi2)
    obtain ⟨m, hm⟩ : ∃ m : Nat, p[i] = m := ⟨p[i].toNat, by omega⟩
    have hil : i < l.length := by omega
    have hc := has_f r c hil (hb i hil).1 (hb i hil).2 (show m ≤ 64 by omega)
    rw [List.drop_eq_getElem_cons hi2, hitsF, hm, Int.toNat_natCast]
    by_cases e : cell l i m = true
    · rw [if_pos e]
      refine Ev.step (fun k => ?_) (impl_hits r c hp hl6 hb hin d (i + 1) (s + 1) (by omega) (by omega) (by omega))
      rw [impl_Board_hits.l0, if_pos (by omega), if_pos (by omega), if_pos (by omega), rd_lt _ _ hi2, hm, hc, Option.bind_some, if_pos e, h1, h2]
    · rw [if_neg e]
      refine Ev.step (fun k => ?_) (impl_hits r c hp hl6 hb hin d (i + 1) s (by omega) (by omega) (by omega))
      rw [impl_Board_hits.l0, if_pos (by omega), if_pos (by omega), if_pos (by omega), rd_lt _ _ hi2, hm, hc, Option.bind_some, if_neg e, h1]
def squareB (r c : Int) (l : List Int) : Bool := isBoardB r c l && (r == c)
theorem isSquare_f (r c : Int) (l : List Int) : impl_isSquare.f r c l = some (squareB r c l) := by
  unfold impl_isSquare.f squareB impl_IsBoard.f
  rw [Option.bind_some]
  by_cases h : isBoardB r c l = true
  · rw [if_pos h, h, Bool.true_and]
  · have hf : isBoardB r c l = false := by simpa using h
    rw [if_neg h, hf, Bool.false_and]
theorem board_bits {r c : Int} {l : List Int} (h : squareB r c l = true) : l.length ≤ 6 ∧ (l.length : Int) = r ∧ 1 ≤ l.length ∧ r = c ∧ ∀ i (hi : i < l.length), 0 ≤ l[i] ∧ l[i] < 64 := by
  unfold squareB at h
  simp only [Bool.and_eq_true, beq_iff_eq] at h
  obtain ⟨R, C, rfl, rfl, h3, h4, h5, h6, h7, hb⟩ := board_of h.1
  have h64 := two_pow_six h7
  exact ⟨by omega, by omega, by omega, h.2, fun i hi => ⟨(hb i hi).1, by have := (hb i hi).2; omega⟩⟩
end Go.Proofs.Ytiopnmgcajohfaa.PermK
end
section
namespace Go.Proofs.Ytiopnmgcajohfaa.HN
set_option linter.unusedVariables false
open Go.RowKit Go.Proofs.YtiopnmgcajohfaaW.PrintWords Go.Proofs.YtiopnmgcajohfaaW.PrintLast Go.Proofs.YtiopnmgcajohfaaW.PrintMore
open Go.Proofs.YtiopnmgcajohfaaL Go.Proofs.Ytiopnmgcajohfaa.LawK Go.Proofs.Ytiopnmgcajohfaa.BoardK Go.Proofs.Ytiopnmgcajohfaa.Walk Go.Proofs.Ytiopnmgcajohfaa.Q Go.Proofs.Ytiopnmgcajohfaa.PermK
def countsF (l : List Int) (m : Nat) (vis : List (List Int)) : List Int := vis.foldl (fun o p => o.set (hitsF l p 0 0).toNat (IntKind.i64.wrap (rdOf 0 o (hitsF l p 0 0) + 1))) (List.replicate m 0)
theorem hitsF_bound (l : List Int) : ∀ (p : List Int) (i : Nat) (s : Int), s ≤ hitsF l p i s ∧ hitsF l p i s ≤ s + p.length
  | [], i, s => by simp [hitsF]
  | c :: t, i, s => by
    rw [hitsF]
    by_cases e : cell l i c.toNat = true
    · have := hitsF_bound l t (i + 1) (s + 1); rw [if_pos e, List.length_cons]; omega
    · have := hitsF_bound l t (i + 1) s; rw [if_neg e, List.length_cons]; omega
theorem ways_in (l : List Int) (C : Nat) : ∀ (d r t : Nat) (pre : List Int), (∀ x ∈ pre, -1 ≤ x ∧ x < C) → ∀ q ∈ waysFrom l C d r t pre, ∀ x ∈ q, -1 ≤ x ∧ x < C
  | 0, r, t, pre, h, q, hq => by rw [waysFrom, List.mem_singleton] at hq; subst hq; exact h
  | d + 1, r, t, pre, h, q, hq => by
    rw [waysFrom, List.mem_flatMap] at hq
    obtain ⟨c, hc, hq⟩ := hq
    have hc2 : -1 ≤ c ∧ c < C := by
      obtain ⟨i, hi, e⟩ := List.mem_iff_getElem.1 hc
      rw [iota_get] at e; rw [iota_length] at hi; omega
    have hn : ∀ x ∈ pre ++ [c], -1 ≤ x ∧ x < C := by
      intro x hx
      rcases List.mem_append.1 hx with hx | hx
      · exact h x hx
      · rw [List.mem_singleton.1 hx]; exact hc2
    unfold colWays at hq
    split at hq
    · exact ways_in l C d (r + 1) t _ hn q hq
    · split at hq
      · exact ways_in l C d (r + 1) _ _ hn q hq
      · cases hq
theorem perms_in {R : Nat} {p : List Int} (h : p ∈ permsOf R) (hp : p.length = R) : ∀ x ∈ p, 0 ≤ x ∧ x < R := by
  obtain ⟨h1, h2⟩ := List.mem_filter.1 h
  have h3 := ways_in _ R R 0 0 [] (by simp) p h1
  intro x hx
  have h4 : rooksN p = p.length := by rw [hp]; simpa using h2
  have h5 := List.countP_eq_length.1 h4 x hx
  have := h3 x hx
  simp at h5
  omega
theorem hits_ok {RI CI : Int} {l p : List Int} (hs : squareB RI CI l = true) (hp : p.length = l.length) (hin : ∀ x ∈ p, 0 ≤ x ∧ x < l.length) : ∃ kk, impl_Board_hits.f kk RI CI l p = some (hitsF l p 0 0) := by
  obtain ⟨h1, h2, h3, h4, h5⟩ := board_bits hs
  have := impl_hits (l := l) (p := p) RI CI hp h1 h5 (fun x hx => by have := hin x hx; omega) p.length 0 0 (by omega) (by omega) (by omega)
  rw [List.drop_zero] at this
  obtain ⟨kk, hk⟩ := this.rounds
  exact ⟨kk, hk⟩
end Go.Proofs.Ytiopnmgcajohfaa.HN
end
section
namespace Go.Proofs.Ytiopnmgcajohfaa.HN
set_option linter.unusedVariables false
set_option linter.unusedSectionVars false
open Go.RowKit Go.Proofs.YtiopnmgcajohfaaW.PrintWords Go.Proofs.YtiopnmgcajohfaaW.PrintLast Go.Proofs.YtiopnmgcajohfaaW.PrintMore
open Go.Proofs.YtiopnmgcajohfaaL Go.Proofs.Ytiopnmgcajohfaa.LawK Go.Proofs.Ytiopnmgcajohfaa.BoardK Go.Proofs.Ytiopnmgcajohfaa.Walk Go.Proofs.Ytiopnmgcajohfaa.Q Go.Proofs.Ytiopnmgcajohfaa.PermK
section
variable (RI CI hI : Int) (R m cp a go gb ga cp2 kk bs : Nat) (l ps out : List Int) (A0 : Option Addr) (c0 : Nat) (w : World)
  (hps : ps.length = R) (hcp : R ≤ cp) (hc0 : l.length ≤ c0) (hr : Kd.C (Kd.int .i64) w (some ⟨a, 0, none⟩) R ps) (hL : Kd.C (Kd.int .i64) w A0 l.length l)
  (hgo : w.heap[go]? = some (.cells #[.slice (some ⟨ga, 0, none⟩) m cp2] 28 (0, 0))) (hgb : w.heap[gb]? = some (.cells #[.int .i64 RI, .int .i64 CI, .slice A0 l.length c0] 43 (0, 0)))
  (ho : Kd.R (Kd.int .i64) 3 w bs (fun i => i = ga) (.slice (some ⟨ga, 0, none⟩) m cp2) out)
  (hh : impl_Board_hits.f kk RI CI l ps = some hI) (h0 : 0 ≤ hI) (h1 : hI < (m : Int))
include hps hcp hc0 hr hL hgo hgb ho hh h0 h1
set_option maxHeartbeats 4000000 in
set_option maxRecDepth 100000 in
theorem hn1 : Calls Try.prog 144 #[.slice (some ⟨a, 0, none⟩) R cp, .pointer (some ⟨go, 0, none⟩), .pointer (some ⟨gb, 0, none⟩)] w
    fun e w' => e = .returned (.tuple #[]) ∧ ∃ W2, Below w.heap.size w W2 ∧ w' = W2.setCell ⟨ga, hI.toNat, none⟩ (.int .i64 (IntKind.i64.wrap (rdOf 0 out hI + 1))) := by
  have CX := Lib.hid (fun (W : World) (hb : Below w.heap.size w W) => by
    have := impl_Board_hits.calls kk RI CI A0 c0 l (some ⟨a, 0, none⟩) cp ps hI W (Kd.C_below hL hb) hc0 (by rw [hps]; exact Kd.C_below hr hb) (by rw [hps]; exact hcp) hh
    rw [hps] at this
    have h2 : Calls Try.prog 96 #[.agg #[.int .i64 RI, .int .i64 CI, .slice A0 l.length c0], .slice (some ⟨a, 0, none⟩) R cp] W fun e w' => e = .returned (.int .i64 hI) ∧ Below w.heap.size w w' := this.mono (by rintro e w' ⟨rfl, h3⟩; exact ⟨rfl, hb.trans (h3.mono hb.size)⟩)
    exact h2)
  have FX := Lib.hid (fun (W : World) (hb : Below w.heap.size w W) => Kd.R_celln 0 (Kd.R_below ho hb) hI h0 h1)
  have BO := Aside0.mk hgo
  have hz1 : w.cell? ⟨go, 0, none⟩ = some (.slice (some ⟨ga, 0, none⟩) m cp2) := (blk_cell hgo 0).trans rfl
  have hz2 : w.cell? ⟨gb, 0, none⟩ = some (.int .i64 RI) := (blk_cell hgb 0).trans rfl
  have hz3 : w.cell? ⟨gb, 1, none⟩ = some (.int .i64 CI) := (blk_cell hgb 1).trans rfl
  have hz4 : w.cell? ⟨gb, 2, none⟩ = some (.slice A0 l.length c0) := (blk_cell hgb 2).trans rfl
  have p1 := eq_true h0
  have p2 := eq_true h1
  have hu24 := Try.underlying43
  clear hps hcp hc0 hr hL hgo hgb ho hh h0 h1
  go_enter Try.func144, Try.ntmps144
  go_wp2
  go_region_with ((go_at_call 96; refine (CX.out _ (by repeat (first | exact Below.refl _ _ | apply below_drew1 | apply pw_below_drewN))).mono ?_; rintro e w2 ⟨rfl, hb⟩; have hb2 := Aside0.mk hb; have hz5 : w2.cell? ⟨go, 0, none⟩ = some (.slice (some ⟨ga, 0, none⟩) m cp2) := (blk_cell (blk_below BO.out hb) 0).trans rfl; obtain ⟨hx, hf⟩ := FX.out w2 hb; clear hb))
  all_goals first | go_end0 | ((try simp only [Exit.inBlock, Exit.then]); refine bodyPost_ret (results_none rfl _ _ _) rfl ?_)
  all_goals exact ⟨rfl, w2, hb2.out, rfl⟩
end
end Go.Proofs.Ytiopnmgcajohfaa.HN
namespace Go.Proofs.Ytiopnmgcajohfaa.Q
open Go.RowKit Go.Proofs.YtiopnmgcajohfaaW.PrintWords Go.Proofs.YtiopnmgcajohfaaW.PrintLast Go.Proofs.YtiopnmgcajohfaaW.PrintMore
open Go.Proofs.YtiopnmgcajohfaaL Go.Proofs.Ytiopnmgcajohfaa.LawK Go.Proofs.Ytiopnmgcajohfaa.BoardK Go.Proofs.Ytiopnmgcajohfaa.Walk Go.Proofs.Ytiopnmgcajohfaa.PermK Go.Proofs.Ytiopnmgcajohfaa.HN
def impl_Board_hitNumbers.f (a0_0 : Int) (a0_1 : Int) (l0_2 : List Int) : Option (List Int) := if squareB a0_0 a0_1 l0_2 = true then some (countsF l0_2 (l0_2.length + 1) (permsOf l0_2.length)) else none
structure HInv (RI CI : Int) (m go gb ga cp2 : Nat) (l : List Int) (A0 : Option Addr) (c0 : Nat) (w0 W : World) (S : Nat → Prop) (vis : List (List Int)) (w : World) : Prop where
  o : w.heap[go]? = some (.cells #[.slice (some ⟨ga, 0, none⟩) m cp2] 28 (0, 0))
  b : w.heap[gb]? = some (.cells #[.int .i64 RI, .int .i64 CI, .slice A0 l.length c0] 43 (0, 0))
  r : Kd.R (Kd.int .i64) 3 w w0.heap.size (fun i => i = ga) (.slice (some ⟨ga, 0, none⟩) m cp2) (countsF l m vis)
  B : Below w0.heap.size w0 w
  s : ∀ i, S i → W.heap.size ≤ i
set_option maxHeartbeats 4000000 in
set_option maxRecDepth 100000 in
theorem impl_Board_hitNumbers.calls (a0_0 a0_1 : Int) (A0_2 : Option Addr) (c0_2 : Nat) (l0_2 : List Int) (r : List Int) (w : World) (hr0_2 : Kd.C (Kd.int .i64) w A0_2 l0_2.length l0_2) (hc0_2 : l0_2.length ≤ c0_2) (h : impl_Board_hitNumbers.f a0_0 a0_1 l0_2 = some r) :
    Calls Try.prog 99 #[.agg #[.int .i64 a0_0, .int .i64 a0_1, .slice A0_2 l0_2.length c0_2]] w fun e w' => ∃ v0_ : Value, e = .returned (v0_) ∧ Kd.R (Kd.int .i64) 3 w' w.heap.size (fun _ => True) v0_ r ∧ Below w.heap.size w w' := by
  by_cases hs : squareB a0_0 a0_1 l0_2 = true
  rotate_left
  · rw [impl_Board_hitNumbers.f, if_neg hs] at h; cases h
  rw [impl_Board_hitNumbers.f, if_pos hs] at h
  have h := Option.some.inj h
  obtain ⟨hl6, hlr, hl1, hrc, hbits⟩ := board_bits hs
  obtain ⟨m, hm⟩ : ∃ m, m = l0_2.length + 1 := ⟨_, rfl⟩
  rw [← hm] at h
  have KEY : ∀ (W : World) (go gb ga cp2 : Nat), Below w.heap.size w W → w.heap.size ≤ go → w.heap.size ≤ gb → w.heap.size ≤ ga → go ≠ ga → gb ≠ ga → go < W.heap.size → gb < W.heap.size → ga < W.heap.size →
      HInv a0_0 a0_1 m go gb ga cp2 l0_2 A0_2 c0_2 w W (fun _ => False) [] W →
      Calls Try.prog 94 #[.int .i64 a0_0, .func (.func 144) #[] #[.pointer (some ⟨go, 0, none⟩), .pointer (some ⟨gb, 0, none⟩)]] W fun e w' => e = .returned (.tuple #[]) ∧
        w'.heap[go]? = some (.cells #[.slice (some ⟨ga, 0, none⟩) m cp2] 28 (0, 0)) ∧ Kd.R (Kd.int .i64) 3 w' w.heap.size (fun i => i = ga) (.slice (some ⟨ga, 0, none⟩) m cp2) r ∧ Below w.heap.size w w' := by
    intro W go gb ga cp2 hBW bo bb ba noa nba lo lb la hst
    refine (PermsHN.perms_calls (.pointer (some ⟨go, 0, none⟩)) (.pointer (some ⟨gb, 0, none⟩)) l0_2.length a0_0 hlr.symm hl1 hl6
      (HInv a0_0 a0_1 m go gb ga cp2 l0_2 A0_2 c0_2 w W)
      (by
        intro S vis w1 w2 hi hs1
        have kp : ∀ g, g < W.heap.size → ∀ {o}, w1.heap[g]? = some o → w2.heap[g]? = some o := fun g hg o ho => (hs1.kept.2 g (blk_lt ho) (fun h => by have := hi.s g h; omega)).trans ho
        exact ⟨kp go lo hi.o, kp gb lb hi.b, Kd.R_step hi.r (fun i e hlt => by subst e; exact hs1.kept.2 _ hlt (fun h => by have := hi.s _ h; omega)), Still.below hi.B hs1 (fun i h => Nat.le_trans hBW.size (hi.s i h)), hi.s⟩)
      W
      (by
        intro S w1 hS hB1
        exact ⟨blk_below hst.o hB1, blk_below hst.b hB1, Kd.R_below hst.r hB1, hBW.trans (hB1.mono hBW.size), hS⟩)
      (by
        intro S vis ps w1 a cp hS _ hps hmem hSa hC hcp hi
        have hin := perms_in (by obtain ⟨b, hb2⟩ := hmem; rw [hb2]; simp) hps
        obtain ⟨kk, hk⟩ := hits_ok hs hps hin
        have hbd := hitsF_bound l0_2 ps 0 0
        refine (hn1 a0_0 a0_1 (hitsF l0_2 ps 0 0) l0_2.length m cp a go gb ga cp2 kk w.heap.size l0_2 ps (countsF l0_2 m vis) A0_2 c0_2 w1 hps hcp hc0_2 hC (Kd.C_below hr0_2 hi.B) hi.o hi.b hi.r hk (by omega) (by omega)).mono ?_
        rintro e w2 ⟨rfl, W2, hb2, rfl⟩
        have hga : a ≠ ga := fun e => by have := hi.s a hSa; omega
        refine ⟨rfl, ⟨blk_far (blk_below hi.o hb2) noa _, blk_far (blk_below hi.b hb2) nba _, ?_, Below.setCell (hi.B.trans (hb2.mono hi.B.size)) (by (try simp only []); exact ba) _, hi.s⟩, fun i hSi hlt => ?_⟩
        · have := Kd.R_putn (Kd.R_below hi.r hb2) (hitsF l0_2 ps 0 0) (IntKind.i64.wrap (rdOf 0 (countsF l0_2 m vis) (hitsF l0_2 ps 0 0) + 1))
          unfold countsF at this ⊢
          rw [List.foldl_append]
          exact this
        · have := hi.s i hSi
          rw [Below.heap_setCell _ _ _ _ (by (try simp only []); omega)]
          exact hb2.block i hlt)).mono ?_
    rintro e w' ⟨rfl, S, hS, hi⟩
    exact ⟨rfl, hi.o, by rw [← h]; exact hi.r, hi.B⟩
  have KX := Lib.hid KEY
  have p1 := Aside0.mk (show 0 ≤ wrap64 (a0_0 + 1) by rw [w64 (by omega) (by omega)]; omega)
  have p2 := Aside0.mk (show (wrap64 (a0_0 + 1)).toNat * 8 ≤ 281474976710656 by rw [w64 (by omega) (by omega)]; omega)
  have p3 := Aside0.mk (show (wrap64 (a0_0 + 1)).toNat = m by rw [w64 (by omega) (by omega)]; omega)
  have p4 := Aside0.mk (show 0 < m by omega)
  have hu24 := Try.underlying43
  clear KEY h hs hl6 hlr hl1 hrc hbits hm hr0_2 hc0_2
  go_enter Try.func99, Try.ntmps99
  go_wp2_with (first
    | ((with_reducible refine gate_dst (N := 1) rfl ?_); refine box_event ?hg (N := 1) ?hd (cs := #[.int .i64 a0_0, .int .i64 a0_1, .slice A0_2 l0_2.length c0_2]) (t := 43) ?hr ?_; (case hd => rfl); (case hg => rfl); (case hr => first | (go_simp; done) | (go_simp; rfl)); intro gb hg w1 hbox hb; have G1 := Aside0.mk hg; have K1 := Aside0.mk hbox; have B1 := Aside0.mk hb; clear hg hbox hb; have z1 : w1.cell? ⟨gb, 0, none⟩ = some (.int .i64 a0_0) := (blk_cell K1.out 0).trans rfl)
    | ((with_reducible refine gate_dst (N := 7) rfl ?_); refine Kd.R_make (Kd.int .i64) (w0 := w1) w1.heap.size 3 rfl (N := 7) rfl 28 _ _ rfl (wrap64 (a0_0 + 1)) rfl rfl Try.underlying28 (.int .i64 0) 8 info3 rfl (by decide) (by omega) 0 (ok := fun _ => True) (okp := fun _ => True) rfl (fun _ hk => hk) trivial p1.out p2.out (Below.refl _ _) (Nat.le_refl _) ?_; intro v3 w3 ho3 hb hg_ hnew_; clear hg_ hnew_; rw [p3.out] at ho3; obtain ⟨ga, cp2, hv3, hga, hga2, cells3, hc3⟩ := Kd.R_form ho3 (by rw [List.length_replicate]; exact p4.out); rw [List.length_replicate] at hv3; subst hv3; have G3 := Aside0.mk (And.intro hga hga2); clear hga hga2 hc3; have B3 := Aside0.mk hb; have O3 := Aside0.mk ho3; clear hb ho3)
    | ((with_reducible refine gate_dst (N := 3) rfl ?_); refine box_event ?hg (N := 3) ?hd (cs := #[.slice none 0 0]) (t := 28) ?hr ?_; (case hd => rfl); (case hg => rfl); (case hr => first | (go_simp; done) | (go_simp; rfl)); intro go hg w4 hbox hb; have G4 := Aside0.mk hg; have K4 := Aside0.mk hbox; have B4 := Aside0.mk hb; clear hg hbox hb; have y1 : w4.cell? ⟨go, 0, none⟩ = some (.slice none 0 0) := (blk_cell K4.out 0).trans rfl; have f1 : w4.frozen? ⟨go, 0, none⟩ = false := blk_frozen K4.out 0; have nbo := Aside0.mk (show gb ≠ go from Nat.ne_of_lt (by rw [G4.out]; exact Nat.lt_of_lt_of_le (blk_lt K1.out) B3.out.size)); have z2 : (w4.setCell ⟨go, 0, none⟩ (.slice (some ⟨ga, 0, none⟩) m cp2)).cell? ⟨gb, 0, none⟩ = some (.int .i64 a0_0) := (blk_cell (blk_far (blk_below (blk_below K1.out B3.out) B4.out) nbo.out _) 0).trans rfl)
    | (go_at_call 94; (refine (KX.out _ go gb ga cp2 ?sB ?s1 ?s2 ?s3 ?s4 ?s5 ?s6 ?s7 ?s8 ?s9).mono ?_); (case sB => (have o1 := blk_lt K1.out; have o2 := G1.out; have o4 := G3.out; have o5 := G4.out; have o6 := blk_lt K4.out; have o7 := B4.out.size; have o8 : ∀ v, (w4.setCell ⟨go, 0, none⟩ v).heap.size = w4.heap.size := (fun v => by simp [World.setCell]); exact Below.setCell ((B1.out.trans (B3.out.mono (by omega))).trans (B4.out.mono (by omega))) (by (try simp only []); omega) _)); (case s1 => (have o1 := blk_lt K1.out; have o2 := G1.out; have o4 := G3.out; have o5 := G4.out; have o6 := blk_lt K4.out; have o7 := B4.out.size; have o8 : ∀ v, (w4.setCell ⟨go, 0, none⟩ v).heap.size = w4.heap.size := (fun v => by simp [World.setCell]); omega)); (case s2 => (have o1 := blk_lt K1.out; have o2 := G1.out; have o4 := G3.out; have o5 := G4.out; have o6 := blk_lt K4.out; have o7 := B4.out.size; have o8 : ∀ v, (w4.setCell ⟨go, 0, none⟩ v).heap.size = w4.heap.size := (fun v => by simp [World.setCell]); omega)); (case s3 => (have o1 := blk_lt K1.out; have o2 := G1.out; have o4 := G3.out; have o5 := G4.out; have o6 := blk_lt K4.out; have o7 := B4.out.size; have o8 : ∀ v, (w4.setCell ⟨go, 0, none⟩ v).heap.size = w4.heap.size := (fun v => by simp [World.setCell]); omega)); (case s4 => (have o1 := blk_lt K1.out; have o2 := G1.out; have o4 := G3.out; have o5 := G4.out; have o6 := blk_lt K4.out; have o7 := B4.out.size; have o8 : ∀ v, (w4.setCell ⟨go, 0, none⟩ v).heap.size = w4.heap.size := (fun v => by simp [World.setCell]); omega)); (case s5 => (have o1 := blk_lt K1.out; have o2 := G1.out; have o4 := G3.out; have o5 := G4.out; have o6 := blk_lt K4.out; have o7 := B4.out.size; have o8 : ∀ v, (w4.setCell ⟨go, 0, none⟩ v).heap.size = w4.heap.size := (fun v => by simp [World.setCell]); omega)); (case s6 => (have o1 := blk_lt K1.out; have o2 := G1.out; have o4 := G3.out; have o5 := G4.out; have o6 := blk_lt K4.out; have o7 := B4.out.size; have o8 : ∀ v, (w4.setCell ⟨go, 0, none⟩ v).heap.size = w4.heap.size := (fun v => by simp [World.setCell]); rw [o8]; omega)); (case s7 => (have o1 := blk_lt K1.out; have o2 := G1.out; have o4 := G3.out; have o5 := G4.out; have o6 := blk_lt K4.out; have o7 := B4.out.size; have o8 : ∀ v, (w4.setCell ⟨go, 0, none⟩ v).heap.size = w4.heap.size := (fun v => by simp [World.setCell]); rw [o8]; omega)); (case s8 => (have o1 := blk_lt K1.out; have o2 := G1.out; have o4 := G3.out; have o5 := G4.out; have o6 := blk_lt K4.out; have o7 := B4.out.size; have o8 : ∀ v, (w4.setCell ⟨go, 0, none⟩ v).heap.size = w4.heap.size := (fun v => by simp [World.setCell]); rw [o8]; omega)); (case s9 => (have o1 := blk_lt K1.out; have o2 := G1.out; have o4 := G3.out; have o5 := G4.out; have o6 := blk_lt K4.out; have o7 := B4.out.size; have o8 : ∀ v, (w4.setCell ⟨go, 0, none⟩ v).heap.size = w4.heap.size := (fun v => by simp [World.setCell]); refine ⟨blk_put K4.out 0 _ rfl, blk_far (blk_below (blk_below K1.out B3.out) B4.out) nbo.out _, ?_, Below.setCell ((B1.out.trans (B3.out.mono (by omega))).trans (B4.out.mono (by omega))) (by (try simp only []); omega) _, fun i hi => hi.elim⟩; exact Kd.R_far (Kd.R_below (Kd.R_mono (Kd.R_lower (Kd.R_tight rfl O3.out) (by omega)) (fun i hi => (by simpa [Value.ownBlock] using hi : i = ga))) B4.out) (fun i hi => by (try simp only []); omega) _)); rintro e w5 ⟨rfl, hfo, hfr, hfb⟩; have HFR := Aside0.mk hfr; have HFB := Aside0.mk hfb; have y5 : w5.cell? ⟨go, 0, none⟩ = some (.slice (some ⟨ga, 0, none⟩) m cp2) := (blk_cell hfo 0).trans rfl; clear hfo hfr hfb))
  go_ret
  exact ⟨_, rfl, Kd.R_mono HFR.out (fun _ _ => trivial), HFB.out⟩
end Go.Proofs.Ytiopnmgcajohfaa.Q
end
section
namespace Go.Proofs.Ytiopnmgcajohfaa.Q
open Go.RowKit Go.Proofs.YtiopnmgcajohfaaW.PrintWords Go.Proofs.YtiopnmgcajohfaaW.PrintLast Go.Proofs.YtiopnmgcajohfaaW.PrintMore
attribute [local go_sem] max2_int min2_int max_two min_two max_three min_three max_four min_four   -- for this text's walks alone
set_option linter.unusedVariables false
set_option linter.unusedSimpArgs false
def impl_HitNumbers.f (a0_0:Int) (a0_1:Int) (l0_2:List Int):Option (List Int × Bool):=(impl_isSquare.f a0_0 a0_1 l0_2).bind fun t102=>(if t102=true then ((impl_Board_hitNumbers.f a0_0 a0_1 l0_2).bind fun t103=>(some (t103,true))) else (some (([]:List Int),false)))
set_option maxHeartbeats 8000000 in
set_option maxRecDepth 100000 in
theorem impl_HitNumbers.calls (a0_0:Int) (a0_1:Int) (A0_2:Option Addr) (c0_2:Nat) (l0_2:List Int) (r1:List Int) (r2:Bool) (w:World) (hr0_2:Kd.C (Kd.int .i64) w A0_2 l0_2.length l0_2) (hc0_2:l0_2.length≤c0_2) (h:impl_HitNumbers.f a0_0 a0_1 l0_2=some (r1,r2)) :
  Calls Try.prog 36 #[.agg #[.int .i64 a0_0,.int .i64 a0_1,.slice A0_2 l0_2.length c0_2]] w fun e w'=>∃ v0_:Value,e=.returned (.tuple #[v0_,.bool r2])∧Kd.R (Kd.int .i64) 3 w' w.heap.size (fun _=>True) v0_ r1∧Below w.heap.size w w':=by
 have hu43:=Try.underlying43;have HR0_2:=za hr0_2;have HC0_2:=za hc0_2;clear hr0_2 hc0_2;have HB:=za (Below.refl w.heap.size w);have H:((impl_isSquare.f a0_0 a0_1 l0_2).bind fun t102=>(if t102=true then ((impl_Board_hitNumbers.f a0_0 a0_1 l0_2).bind fun t103=>(some (t103,true))) else (some (([]:List Int),false))))=some (r1,r2):=h;clear h;obtain ⟨t102,A2,H⟩:=bindAside H;(try dsimp only at H);by_cases c3:t102=true
 · subst c3;(have H1:((impl_Board_hitNumbers.f a0_0 a0_1 l0_2).bind fun t103=>(some (t103,true)))=some (r1,r2):=by rw [if_pos rfl] at H;exact H);clear H;have H:=H1;clear H1;obtain ⟨t103,A4,H⟩:=bindAside H;(try dsimp only at H);simp only [Option.some.injEq,Prod.mk.injEq] at H;obtain ⟨rfl,rfl⟩:=H;(go_enter Try.func36,Try.ntmps36);(go_wp2_with (first|((with_reducible refine gate_dst (N:=1) rfl ?_);refine box_event ?hg (N:=1) ?hd (cs:=#[.int .i64 a0_0,.int .i64 a0_1,.slice A0_2 l0_2.length c0_2]) (t:=43) ?hr ?_;(case hd=>rfl);(case hg=>rfl);(case hr=>first|(go_simp;done)|(go_simp;rfl));intro gb101 hg w5 hbox hb;have BK101:=za (hbox);have GW101:=za ((by rw [hg];exact (zq (by repeat (first|(with_reducible first|exact HB.out|apply zj|apply zk|apply zi)|exact HB.out))):w.heap.size≤gb101));have GE101:=za ((by rw [hg];exact (zq (by repeat (first|(with_reducible first|exact HB.out|apply zj|apply zk|apply zi)|exact HB.out))):w.heap.size≤gb101));replace HB:=za (zu (by repeat (first|(with_reducible first|exact HB.out|apply zj|apply zk|apply zi)|exact HB.out)) hb);clear hb hbox hg;have hcz6_0:w5.cell? ⟨gb101,0,none⟩=some (.int .i64 a0_0):=(zl BK101.out 0).trans rfl;have hcz6_1:w5.cell? ⟨gb101,1,none⟩=some (.int .i64 a0_1):=(zl BK101.out 1).trans rfl;have hcz6_2:w5.cell? ⟨gb101,2,none⟩=some (.slice A0_2 l0_2.length c0_2):=(zl BK101.out 2).trans rfl;have hfz6_0:=zm BK101.out 0;have hfz6_1:=zm BK101.out 1;have hfz6_2:=zm BK101.out 2)|((with_reducible refine zt (f:=93) rfl ?_);refine goesL_ (some 5) rfl rfl Try.func93 (by kernel_rfl) rfl #[.agg #[.int .i64 a0_0,.int .i64 a0_1,.slice A0_2 l0_2.length c0_2]] rfl (by first|rfl|simp only [z3_,z4_,z5_];try rfl) ?_;(with_reducible refine (impl_isSquare.calls a0_0 a0_1 _ _ l0_2 true _ ?side1 ?side2 A2.out).mono ?_);(case side1=>repeat (first|exact (Kd.C_below HR0_2.out HB.out)|(with_reducible refine Kd.C_alloc ?_ _)|(with_reducible refine Kd.C_drewN ?_ _)|(with_reducible refine Kd.C_drew ?_)));(case side2=>exact HC0_2.out);rintro e w7 ⟨rfl,hb⟩;refine ⟨_,rfl,?_⟩;replace BK101:=za (zo (g:=gb101) (o:=.cells #[.int .i64 a0_0,.int .i64 a0_1,.slice A0_2 l0_2.length c0_2] 43 (0,0)) (by apply_rules only [BK101.out,zd,zb,ze]) hb);replace HB:=za (zu (by repeat (first|(with_reducible first|exact HB.out|apply zj|apply zk|apply zi|refine zc ?_ GE101.out)|exact HB.out)) hb);have hcz8_0:w7.cell? ⟨gb101,0,none⟩=some (.int .i64 a0_0):=(zl BK101.out 0).trans rfl;have hcz8_1:w7.cell? ⟨gb101,1,none⟩=some (.int .i64 a0_1):=(zl BK101.out 1).trans rfl;have hcz8_2:w7.cell? ⟨gb101,2,none⟩=some (.slice A0_2 l0_2.length c0_2):=(zl BK101.out 2).trans rfl;have hfz8_0:=zm BK101.out 0;have hfz8_1:=zm BK101.out 1;have hfz8_2:=zm BK101.out 2)|((with_reducible refine zt (f:=99) rfl ?_);refine goesL_ (some 8) rfl rfl Try.func99 (by kernel_rfl) rfl #[.agg #[.int .i64 a0_0,.int .i64 a0_1,.slice A0_2 l0_2.length c0_2]] rfl (by first|rfl|simp only [z3_,z4_,z5_];try rfl) ?_;(with_reducible refine (impl_Board_hitNumbers.calls a0_0 a0_1 _ _ l0_2 t103 _ ?side1 ?side2 A4.out).mono ?_);(case side1=>repeat (first|exact (Kd.C_below HR0_2.out HB.out)|(with_reducible refine Kd.C_alloc ?_ _)|(with_reducible refine Kd.C_drewN ?_ _)|(with_reducible refine Kd.C_drew ?_)));(case side2=>exact HC0_2.out);rintro e w9 ⟨v104,rfl,ho0,hb⟩;refine ⟨_,rfl,?_⟩;have HO105:=za (Kd.R_lower ho0 (zq (by repeat (first|(with_reducible first|exact HB.out|apply zj|apply zk|apply zi|refine zc ?_ GE101.out)|exact HB.out))));replace BK101:=za (zo (g:=gb101) (o:=.cells #[.int .i64 a0_0,.int .i64 a0_1,.slice A0_2 l0_2.length c0_2] 43 (0,0)) (by apply_rules only [BK101.out,zd,zb,ze]) hb);replace HB:=za (zu (by repeat (first|(with_reducible first|exact HB.out|apply zj|apply zk|apply zi|refine zc ?_ GE101.out)|exact HB.out)) hb))));(go_ret2);exact ⟨_,by first|rfl|simp [*,errW_none,errW_some] <;> rfl,by (with_reducible repeat (first|apply zg|apply zh|apply zf));exact HO105.out,by repeat (first|(with_reducible first|exact HB.out|apply zj|apply zk|apply zi|refine zc ?_ GE101.out)|exact HB.out)⟩
 · replace c3:=Bool.eq_false_iff.mpr c3;subst c3;(have H1:(some (([]:List Int),false))=some (r1,r2):=by rw [if_neg (show ¬ (false=true) by decide)] at H;exact H);clear H;have H:=H1;clear H1;simp only [Option.some.injEq,Prod.mk.injEq] at H;obtain ⟨rfl,rfl⟩:=H;(go_enter Try.func36,Try.ntmps36);(go_wp2_with (first|((with_reducible refine gate_dst (N:=1) rfl ?_);refine box_event ?hg (N:=1) ?hd (cs:=#[.int .i64 a0_0,.int .i64 a0_1,.slice A0_2 l0_2.length c0_2]) (t:=43) ?hr ?_;(case hd=>rfl);(case hg=>rfl);(case hr=>first|(go_simp;done)|(go_simp;rfl));intro gb101 hg w10 hbox hb;have BK101:=za (hbox);have GW101:=za ((by rw [hg];exact (zq (by repeat (first|(with_reducible first|exact HB.out|apply zj|apply zk|apply zi)|exact HB.out))):w.heap.size≤gb101));have GE101:=za ((by rw [hg];exact (zq (by repeat (first|(with_reducible first|exact HB.out|apply zj|apply zk|apply zi)|exact HB.out))):w.heap.size≤gb101));replace HB:=za (zu (by repeat (first|(with_reducible first|exact HB.out|apply zj|apply zk|apply zi)|exact HB.out)) hb);clear hb hbox hg;have hcz11_0:w10.cell? ⟨gb101,0,none⟩=some (.int .i64 a0_0):=(zl BK101.out 0).trans rfl;have hcz11_1:w10.cell? ⟨gb101,1,none⟩=some (.int .i64 a0_1):=(zl BK101.out 1).trans rfl;have hcz11_2:w10.cell? ⟨gb101,2,none⟩=some (.slice A0_2 l0_2.length c0_2):=(zl BK101.out 2).trans rfl;have hfz11_0:=zm BK101.out 0;have hfz11_1:=zm BK101.out 1;have hfz11_2:=zm BK101.out 2)|((with_reducible refine zt (f:=93) rfl ?_);refine goesL_ (some 5) rfl rfl Try.func93 (by kernel_rfl) rfl #[.agg #[.int .i64 a0_0,.int .i64 a0_1,.slice A0_2 l0_2.length c0_2]] rfl (by first|rfl|simp only [z3_,z4_,z5_];try rfl) ?_;(with_reducible refine (impl_isSquare.calls a0_0 a0_1 _ _ l0_2 false _ ?side1 ?side2 A2.out).mono ?_);(case side1=>repeat (first|exact (Kd.C_below HR0_2.out HB.out)|(with_reducible refine Kd.C_alloc ?_ _)|(with_reducible refine Kd.C_drewN ?_ _)|(with_reducible refine Kd.C_drew ?_)));(case side2=>exact HC0_2.out);rintro e w12 ⟨rfl,hb⟩;refine ⟨_,rfl,?_⟩;replace BK101:=za (zo (g:=gb101) (o:=.cells #[.int .i64 a0_0,.int .i64 a0_1,.slice A0_2 l0_2.length c0_2] 43 (0,0)) (by apply_rules only [BK101.out,zd,zb,ze]) hb);replace HB:=za (zu (by repeat (first|(with_reducible first|exact HB.out|apply zj|apply zk|apply zi|refine zc ?_ GE101.out)|exact HB.out)) hb))));(go_ret2);exact ⟨_,by first|rfl|simp [*,errW_none,errW_some] <;> rfl,by first|exact Kd.R_nil _ _ _ _ _|exact Kd.N_nil _ _ _ _ _|exact Kd.V_nil _ _ _ _ _|exact Kd.Q_nil _ _ _ _ _|exact Kd.S_nil _ _ _ _ _,by repeat (first|(with_reducible first|exact HB.out|apply zj|apply zk|apply zi|refine zc ?_ GE101.out)|exact HB.out)⟩
end Go.Proofs.Ytiopnmgcajohfaa.Q
end
section
namespace Go.Proofs.Ytiopnmgcajohfaa.Q
open Go.RowKit Go.Proofs.YtiopnmgcajohfaaW.PrintWords Go.Proofs.YtiopnmgcajohfaaW.PrintLast Go.Proofs.YtiopnmgcajohfaaW.PrintMore
attribute [local go_sem] max2_int min2_int max_two min_two max_three min_three max_four min_four   -- for this text's walks alone
set_option linter.unusedVariables false
set_option linter.unusedSimpArgs false
def IsS88 (w0 W:World) (g:Nat) (f0:List Int) (f1:Int) (f2:Int):Prop:=∃ A0 c0,W.heap[g]?=some (.cells #[.slice A0 f0.length c0,.int .i64 f1,.int .u64 f2] 88 (0,0))∧w0.heap.size≤g∧Kd.C (Kd.int .u8) w0 A0 f0.length f0
theorem IsS88.grown {w0 W:World} {g:Nat} {f0:List Int} {f1:Int} {f2:Int} {W1:World} {row:Option Nat} (h:IsS88 w0 W g f0 f1 f2) (hw:W.grownBy W1 row) (hne:some g ≠ row):IsS88 w0 W1 g f0 f1 f2:=by
 obtain ⟨A0,c0,hb,hg,hr0⟩:=h;exact ⟨A0,c0,blk_grown hb hw hne,hg,hr0⟩
theorem IsS88.kept {w0 W:World} {g:Nat} {f0:List Int} {f1:Int} {f2:Int} {W1:World} {S:Nat→Prop} (h:IsS88 w0 W g f0 f1 f2) (hk:Kept W W1 S) (hne:¬ S g):IsS88 w0 W1 g f0 f1 f2:=by
 obtain ⟨A0,c0,hb,hg,hr0⟩:=h;exact ⟨A0,c0,blk_kept hb hk hne,hg,hr0⟩
theorem IsS88.below {w0 W:World} {g:Nat} {f0:List Int} {f1:Int} {f2:Int} {W1:World} (h:IsS88 w0 W g f0 f1 f2) (hw:Below W.heap.size W W1):IsS88 w0 W1 g f0 f1 f2:=h.grown (grown_of_below hw none) (by simp)
theorem IsS88.alloc {w0 W:World} {g:Nat} {f0:List Int} {f1:Int} {f2:Int} (h:IsS88 w0 W g f0 f1 f2) (o:Obj):IsS88 w0 (W.alloc o) g f0 f1 f2:=h.below (zj (Below.refl _ _) o)
theorem IsS88.drewN {w0 W:World} {g:Nat} {f0:List Int} {f1:Int} {f2:Int} (h:IsS88 w0 W g f0 f1 f2) (m:Nat):IsS88 w0 (W.drewN m) g f0 f1 f2:=h
theorem IsS88.drew {w0 W:World} {g:Nat} {f0:List Int} {f1:Int} {f2:Int} (h:IsS88 w0 W g f0 f1 f2):IsS88 w0 W.drew g f0 f1 f2:=h
theorem IsS88.at_ {w0 W:World} {g:Nat} {f0:List Int} {f1:Int} {f2:Int} {w':World} {m:Nat} (hq:W.drewN m=w') (h:IsS88 w0 W g f0 f1 f2):IsS88 w0 w' g f0 f1 f2:=by subst hq;exact IsS88.drewN h m
theorem IsS88.apart {w0 W:World} {g:Nat} {f0:List Int} {f1:Int} {f2:Int} {α:Type} {d:Kd α} {e:Nat} {base:Nat} {ok:Nat→Prop} {v:Value} {xs:List α} (h:IsS88 w0 W g f0 f1 f2) (ho:d.R e W base ok v xs) (ht:∀ q,q ∈ e :: d.E→q ≠ 88):d.R e W base (fun k=>ok k∧k ≠ g) v xs:=by
 obtain ⟨A0,c0,hb,hg,hr0⟩:=h;exact zw ho hb ht
theorem IsS88.own_ne {w0 W:World} {g:Nat} {f0:List Int} {f1:Int} {f2:Int} {α:Type} {d:Kd α} {e:Nat} {base:Nat} {ok:Nat→Prop} {v:Value} {xs:List α} (h:IsS88 w0 W g f0 f1 f2) (ho:d.R e W base ok v xs) (ht:e ≠ 88):some g ≠ v.ownBlock:=by
 obtain ⟨A0,c0,hb,hg,hr0⟩:=h;exact Kd.R_ne ho hb ht
theorem IsS88.ge {w0 W:World} {g:Nat} {f0:List Int} {f1:Int} {f2:Int} (h:IsS88 w0 W g f0 f1 f2):w0.heap.size≤g:=by
 obtain ⟨A0,c0,hb,hg,hr0⟩:=h;exact hg
theorem cellS88_0 {W:World} {g:Nat} {A0:Option Addr} {c0:Nat} {f0:List Int} {f1:Int} {f2:Int} (h:W.heap[g]?=some (.cells #[.slice A0 f0.length c0,.int .i64 f1,.int .u64 f2] 88 (0,0))):W.cell? ⟨g,0,none⟩=some (.slice A0 f0.length c0):=(zl h 0).trans rfl
theorem cellS88_1 {W:World} {g:Nat} {A0:Option Addr} {c0:Nat} {f0:List Int} {f1:Int} {f2:Int} (h:W.heap[g]?=some (.cells #[.slice A0 f0.length c0,.int .i64 f1,.int .u64 f2] 88 (0,0))):W.cell? ⟨g,1,none⟩=some (.int .i64 f1):=(zl h 1).trans rfl
theorem IsS88.set_1 {w0 W:World} {g:Nat} {f0:List Int} {f1:Int} {f2:Int} (h:IsS88 w0 W g f0 f1 f2) (x:Int):IsS88 w0 (W.setCell ⟨g,1,none⟩ (.int .i64 x)) g f0 x f2:=by
 obtain ⟨A0,c0,hb,hg,hr0⟩:=h;exact ⟨A0,c0,by simpa using blk_set hb 1 (.int .i64 x),hg,hr0⟩
theorem cellS88_2 {W:World} {g:Nat} {A0:Option Addr} {c0:Nat} {f0:List Int} {f1:Int} {f2:Int} (h:W.heap[g]?=some (.cells #[.slice A0 f0.length c0,.int .i64 f1,.int .u64 f2] 88 (0,0))):W.cell? ⟨g,2,none⟩=some (.int .u64 f2):=(zl h 2).trans rfl
theorem IsS88.set_2 {w0 W:World} {g:Nat} {f0:List Int} {f1:Int} {f2:Int} (h:IsS88 w0 W g f0 f1 f2) (x:Int):IsS88 w0 (W.setCell ⟨g,2,none⟩ (.int .u64 x)) g f0 f1 x:=by
 obtain ⟨A0,c0,hb,hg,hr0⟩:=h;exact ⟨A0,c0,by simpa using blk_set hb 2 (.int .u64 x),hg,hr0⟩
def spec_l1Cur_next.f (s0_0:List Int) (s0_1:Int) (s0_2:Int):Option (Int × Int × Int):=if s0_1 < (s0_0.length:Int) then (if 0≤s0_1 then (if (wrap64 (s0_1 + 1))≤(s0_0.length:Int) then (some (wrap64 (rd s0_0 s0_1),wrap64 (s0_1 + 1),IntKind.u64.wrap ((IntKind.u64.wrap ((IntKind.u64.wrap (s0_2 * 6364136223846793005)) + (IntKind.u64.wrap (wrap64 (rd s0_0 s0_1))))) + 1442695040888963407))) else (some (wrap64 (Go.bits .and .u64 ((IntKind.u64.wrap ((IntKind.u64.wrap ((IntKind.u64.wrap (s0_2 * 6364136223846793005)) + (IntKind.u64.wrap (wrap64 (rd s0_0 s0_1))))) + 1442695040888963407)) / 1099511627776) 255),wrap64 (s0_1 + 1),IntKind.u64.wrap ((IntKind.u64.wrap ((IntKind.u64.wrap (s0_2 * 6364136223846793005)) + (IntKind.u64.wrap (wrap64 (rd s0_0 s0_1))))) + 1442695040888963407)))) else (none)) else (if (wrap64 (s0_1 + 1))≤(s0_0.length:Int) then (some (0,wrap64 (s0_1 + 1),IntKind.u64.wrap ((IntKind.u64.wrap ((IntKind.u64.wrap (s0_2 * 6364136223846793005)) + 0)) + 1442695040888963407))) else (some (wrap64 (Go.bits .and .u64 ((IntKind.u64.wrap ((IntKind.u64.wrap ((IntKind.u64.wrap (s0_2 * 6364136223846793005)) + 0)) + 1442695040888963407)) / 1099511627776) 255),wrap64 (s0_1 + 1),IntKind.u64.wrap ((IntKind.u64.wrap ((IntKind.u64.wrap (s0_2 * 6364136223846793005)) + 0)) + 1442695040888963407))))
set_option maxHeartbeats 8000000 in
set_option maxRecDepth 100000 in
theorem spec_l1Cur_next.calls (g:Nat) (s0_0:List Int) (s0_1:Int) (s0_2:Int) (r1:Int) (r2:Int) (r3:Int) (w0 w:World) (hI:IsS88 w0 w g s0_0 s0_1 s0_2) (hB:Below w0.heap.size w0 w) (h:spec_l1Cur_next.f s0_0 s0_1 s0_2=some (r1,r2,r3)) :
  Calls Try.prog 151 #[.pointer (some ⟨g,0,none⟩)] w fun e w'=>e=.returned (.int .i64 r1)∧IsS88 w0 w' g s0_0 r2 r3∧Below w0.heap.size w0 w'∧KeepBut w w' g none:=by
 have HI0:=za hI;have HK:=za (KeepBut.refl w g none);have HL:=za hB.size;clear hI;have HW0:=za hB.size;have HB:=za hB;clear hB;have H:(if s0_1 < (s0_0.length:Int) then (if 0≤s0_1 then (if (wrap64 (s0_1 + 1))≤(s0_0.length:Int) then (some (wrap64 (rd s0_0 s0_1),wrap64 (s0_1 + 1),IntKind.u64.wrap ((IntKind.u64.wrap ((IntKind.u64.wrap (s0_2 * 6364136223846793005)) + (IntKind.u64.wrap (wrap64 (rd s0_0 s0_1))))) + 1442695040888963407))) else (some (wrap64 (Go.bits .and .u64 ((IntKind.u64.wrap ((IntKind.u64.wrap ((IntKind.u64.wrap (s0_2 * 6364136223846793005)) + (IntKind.u64.wrap (wrap64 (rd s0_0 s0_1))))) + 1442695040888963407)) / 1099511627776) 255),wrap64 (s0_1 + 1),IntKind.u64.wrap ((IntKind.u64.wrap ((IntKind.u64.wrap (s0_2 * 6364136223846793005)) + (IntKind.u64.wrap (wrap64 (rd s0_0 s0_1))))) + 1442695040888963407)))) else (none)) else (if (wrap64 (s0_1 + 1))≤(s0_0.length:Int) then (some (0,wrap64 (s0_1 + 1),IntKind.u64.wrap ((IntKind.u64.wrap ((IntKind.u64.wrap (s0_2 * 6364136223846793005)) + 0)) + 1442695040888963407))) else (some (wrap64 (Go.bits .and .u64 ((IntKind.u64.wrap ((IntKind.u64.wrap ((IntKind.u64.wrap (s0_2 * 6364136223846793005)) + 0)) + 1442695040888963407)) / 1099511627776) 255),wrap64 (s0_1 + 1),IntKind.u64.wrap ((IntKind.u64.wrap ((IntKind.u64.wrap (s0_2 * 6364136223846793005)) + 0)) + 1442695040888963407)))))=some (r1,r2,r3):=h;clear h;by_cases c2:s0_1 < (s0_0.length:Int)
 ·
  rw [if_pos c2] at H;have c2b0:decide (s0_1 < (s0_0.length:Int))=true:=decide_eq_true c2;clear c2;by_cases c3:0≤s0_1
  ·
   rw [if_pos c3] at H;have c3b0:decide (0≤s0_1)=true:=decide_eq_true c3;clear c3;by_cases c4:(wrap64 (s0_1 + 1))≤(s0_0.length:Int)
   · rw [if_pos c4] at H;have c4b0:decide ((wrap64 (s0_1 + 1))≤(s0_0.length:Int))=true:=decide_eq_true c4;clear c4;simp only [Option.some.injEq,Prod.mk.injEq] at H;obtain ⟨rfl,rfl,rfl⟩:=H;obtain ⟨ASz5_0,cSz5_0,HGz5,hgz5,HSz5_0⟩:=HI0.out;have hcz5_0:=cellS88_0 HGz5;have hcz5_1:=cellS88_1 HGz5;have hcz5_2:=cellS88_2 HGz5;have hfz5_1:=zm HGz5 1;have hfz5_2:=zm HGz5 2;clear HGz5 hgz5;have p101:0≤(s0_1:Int):=of_decide_eq_true ‹_›;have q101:s0_1 < (s0_0.length:Int):=of_decide_eq_true ‹_›;obtain ⟨ad101,e101,hx101_0⟩:=Kd.at_int HSz5_0 s0_1 p101 q101;cases e101;replace hx101_0:=pw_cell_below HB.out hx101_0;replace p101:=eq_true p101;replace q101:=eq_true q101;(go_enter Try.func151,Try.ntmps151);(go_wp2);(repeat (go_quiet (fail);try go_wp2));(go_ret);(try simp only [Int.add_zero]);exact ⟨by first|rfl|simp [*,errW_none,errW_some] <;> rfl,by repeat (first|(with_reducible first|exact HI0.out|apply IsS88.alloc|apply IsS88.drewN|apply IsS88.drew|apply IsS88.set_1|apply IsS88.set_2)|exact HI0.out),by repeat (first|(with_reducible first|exact HB.out|apply zj|apply zk|apply zi|refine zc ?_ (IsS88.ge HI0.out))|exact HB.out),by repeat (first|(with_reducible first|exact HK.out|apply KeepBut.set_|apply keep_drewN|apply keep_drew|apply keep_alloc)|exact HK.out)⟩
   · rw [if_neg c4] at H;have c4b0:decide ((wrap64 (s0_1 + 1))≤(s0_0.length:Int))=false:=decide_eq_false c4;clear c4;simp only [Option.some.injEq,Prod.mk.injEq] at H;obtain ⟨rfl,rfl,rfl⟩:=H;obtain ⟨ASz6_0,cSz6_0,HGz6,hgz6,HSz6_0⟩:=HI0.out;have hcz6_0:=cellS88_0 HGz6;have hcz6_1:=cellS88_1 HGz6;have hcz6_2:=cellS88_2 HGz6;have hfz6_1:=zm HGz6 1;have hfz6_2:=zm HGz6 2;clear HGz6 hgz6;have p101:0≤(s0_1:Int):=of_decide_eq_true ‹_›;have q101:s0_1 < (s0_0.length:Int):=of_decide_eq_true ‹_›;obtain ⟨ad101,e101,hx101_0⟩:=Kd.at_int HSz6_0 s0_1 p101 q101;cases e101;replace hx101_0:=pw_cell_below HB.out hx101_0;replace p101:=eq_true p101;replace q101:=eq_true q101;(go_enter Try.func151,Try.ntmps151);(go_wp2);(repeat (go_quiet (fail);try go_wp2));(go_ret);(try simp only [Int.add_zero]);exact ⟨by first|rfl|simp [*,errW_none,errW_some] <;> rfl,by repeat (first|(with_reducible first|exact HI0.out|apply IsS88.alloc|apply IsS88.drewN|apply IsS88.drew|apply IsS88.set_1|apply IsS88.set_2)|exact HI0.out),by repeat (first|(with_reducible first|exact HB.out|apply zj|apply zk|apply zi|refine zc ?_ (IsS88.ge HI0.out))|exact HB.out),by repeat (first|(with_reducible first|exact HK.out|apply KeepBut.set_|apply keep_drewN|apply keep_drew|apply keep_alloc)|exact HK.out)⟩
  · rw [if_neg c3] at H;exact absurd H (by simp)
 ·
  rw [if_neg c2] at H;have c2b0:decide (s0_1 < (s0_0.length:Int))=false:=decide_eq_false c2;clear c2;by_cases c7:(wrap64 (s0_1 + 1))≤(s0_0.length:Int)
  · rw [if_pos c7] at H;have c7b0:decide ((wrap64 (s0_1 + 1))≤(s0_0.length:Int))=true:=decide_eq_true c7;clear c7;simp only [Option.some.injEq,Prod.mk.injEq] at H;obtain ⟨rfl,rfl,rfl⟩:=H;obtain ⟨ASz8_0,cSz8_0,HGz8,hgz8,HSz8_0⟩:=HI0.out;have hcz8_0:=cellS88_0 HGz8;have hcz8_1:=cellS88_1 HGz8;have hcz8_2:=cellS88_2 HGz8;have hfz8_1:=zm HGz8 1;have hfz8_2:=zm HGz8 2;clear HGz8 hgz8;(go_enter Try.func151,Try.ntmps151);(go_wp2);(repeat (go_quiet (fail);try go_wp2));(go_ret);(try simp only [Int.add_zero]);exact ⟨by first|rfl|simp [*,errW_none,errW_some] <;> rfl,by repeat (first|(with_reducible first|exact HI0.out|apply IsS88.alloc|apply IsS88.drewN|apply IsS88.drew|apply IsS88.set_1|apply IsS88.set_2)|exact HI0.out),by repeat (first|(with_reducible first|exact HB.out|apply zj|apply zk|apply zi|refine zc ?_ (IsS88.ge HI0.out))|exact HB.out),by repeat (first|(with_reducible first|exact HK.out|apply KeepBut.set_|apply keep_drewN|apply keep_drew|apply keep_alloc)|exact HK.out)⟩
  · rw [if_neg c7] at H;have c7b0:decide ((wrap64 (s0_1 + 1))≤(s0_0.length:Int))=false:=decide_eq_false c7;clear c7;simp only [Option.some.injEq,Prod.mk.injEq] at H;obtain ⟨rfl,rfl,rfl⟩:=H;obtain ⟨ASz9_0,cSz9_0,HGz9,hgz9,HSz9_0⟩:=HI0.out;have hcz9_0:=cellS88_0 HGz9;have hcz9_1:=cellS88_1 HGz9;have hcz9_2:=cellS88_2 HGz9;have hfz9_1:=zm HGz9 1;have hfz9_2:=zm HGz9 2;clear HGz9 hgz9;(go_enter Try.func151,Try.ntmps151);(go_wp2);(repeat (go_quiet (fail);try go_wp2));(go_ret);(try simp only [Int.add_zero]);exact ⟨by first|rfl|simp [*,errW_none,errW_some] <;> rfl,by repeat (first|(with_reducible first|exact HI0.out|apply IsS88.alloc|apply IsS88.drewN|apply IsS88.drew|apply IsS88.set_1|apply IsS88.set_2)|exact HI0.out),by repeat (first|(with_reducible first|exact HB.out|apply zj|apply zk|apply zi|refine zc ?_ (IsS88.ge HI0.out))|exact HB.out),by repeat (first|(with_reducible first|exact HK.out|apply KeepBut.set_|apply keep_drewN|apply keep_drew|apply keep_alloc)|exact HK.out)⟩
end Go.Proofs.Ytiopnmgcajohfaa.Q
end
section
namespace Go.Proofs.Ytiopnmgcajohfaa.Q
open Go.RowKit Go.Proofs.YtiopnmgcajohfaaW.PrintWords Go.Proofs.YtiopnmgcajohfaaW.PrintLast Go.Proofs.YtiopnmgcajohfaaW.PrintMore
attribute [local go_sem] max2_int min2_int max_two min_two max_three min_three max_four min_four   -- for this text's walks alone
set_option linter.unusedVariables false
set_option linter.unusedSimpArgs false
def spec_l1Cur_pick.f (s0_0:List Int) (s0_1:Int) (s0_2:Int) (a1:Int):Option (Int × Int × Int):=if a1≤1 then (some (0,s0_1,s0_2)) else ((spec_l1Cur_next.f s0_0 s0_1 s0_2).bind fun bt101=>(if a1 > 200 then ((spec_l1Cur_next.f s0_0 bt101.2.1 bt101.2.2).bind fun bt104=>(if a1=0 then (none) else (some (Int.tmod (wrap64 ((wrap64 (bt101.1 * 256)) + bt104.1)) a1,bt104.2.1,bt104.2.2)))) else (if a1=0 then (none) else (some (Int.tmod bt101.1 a1,bt101.2.1,bt101.2.2)))))
set_option maxHeartbeats 8000000 in
set_option maxRecDepth 100000 in
theorem spec_l1Cur_pick.calls (g:Nat) (s0_0:List Int) (s0_1:Int) (s0_2:Int) (a1:Int) (r1:Int) (r2:Int) (r3:Int) (w0 w:World) (hI:IsS88 w0 w g s0_0 s0_1 s0_2) (hB:Below w0.heap.size w0 w) (h:spec_l1Cur_pick.f s0_0 s0_1 s0_2 a1=some (r1,r2,r3)) :
  Calls Try.prog 127 #[.pointer (some ⟨g,0,none⟩),.int .i64 a1] w fun e w'=>e=.returned (.int .i64 r1)∧IsS88 w0 w' g s0_0 r2 r3∧Below w0.heap.size w0 w'∧KeepBut w w' g none:=by
 have HI0:=za hI;have HK:=za (KeepBut.refl w g none);have HL:=za hB.size;clear hI;have HW0:=za hB.size;have HB:=za hB;clear hB;have H:(if a1≤1 then (some (0,s0_1,s0_2)) else ((spec_l1Cur_next.f s0_0 s0_1 s0_2).bind fun bt101=>(if a1 > 200 then ((spec_l1Cur_next.f s0_0 bt101.2.1 bt101.2.2).bind fun bt104=>(if a1=0 then (none) else (some (Int.tmod (wrap64 ((wrap64 (bt101.1 * 256)) + bt104.1)) a1,bt104.2.1,bt104.2.2)))) else (if a1=0 then (none) else (some (Int.tmod bt101.1 a1,bt101.2.1,bt101.2.2))))))=some (r1,r2,r3):=h;clear h;by_cases c3:a1≤1
 · rw [if_pos c3] at H;have c3b0:decide (a1≤1)=true:=decide_eq_true c3;clear c3;simp only [Option.some.injEq,Prod.mk.injEq] at H;obtain ⟨rfl,rfl,rfl⟩:=H;(go_enter Try.func127,Try.ntmps127);(go_wp2);(go_ret);exact ⟨by first|rfl|simp [*,errW_none,errW_some] <;> rfl,by repeat (first|(with_reducible first|exact HI0.out|apply IsS88.alloc|apply IsS88.drewN|apply IsS88.drew|apply IsS88.set_1|apply IsS88.set_2)|exact HI0.out),by repeat (first|(with_reducible first|exact HB.out|apply zj|apply zk|apply zi|refine zc ?_ (IsS88.ge HI0.out))|exact HB.out),by repeat (first|(with_reducible first|exact HK.out|apply KeepBut.set_|apply keep_drewN|apply keep_drew|apply keep_alloc)|exact HK.out)⟩
 ·
  rw [if_neg c3] at H;have c3b0:decide (a1≤1)=false:=decide_eq_false c3;clear c3;obtain ⟨⟨t101,t102,t103⟩,A4,H⟩:=bindAside H;(try dsimp only at H);by_cases c5:a1 > 200
  ·
   rw [if_pos c5] at H;have c5b0:decide (200 < a1)=true:=decide_eq_true c5;clear c5;obtain ⟨⟨t104,t105,t106⟩,A6,H⟩:=bindAside H;(try dsimp only at H);by_cases c7:a1=0
   · rw [if_pos c7] at H;exact absurd H (by simp)
   · rw [if_neg c7] at H;have c7b0:(a1 == 0)=false:=beq_eq_false_iff_ne.mpr c7;have c7b1:(a1 != 0)=true:=bne_iff_ne.mpr c7;simp only [Option.some.injEq,Prod.mk.injEq] at H;obtain ⟨rfl,rfl,rfl⟩:=H;(go_enter Try.func127,Try.ntmps127);(go_wp2_with (first|((with_reducible refine zt (f:=151) rfl ?_);refine goesL_ (some 9) rfl rfl Try.func151 (by kernel_rfl) rfl #[.pointer (some ⟨g,0,none⟩)] rfl (by first|rfl|simp only [z3_,z4_,z5_];try rfl) ?_;(with_reducible refine (spec_l1Cur_next.calls g s0_0 s0_1 s0_2 t101 t102 t103 w0 _ ?side1 ?side2 A4.out).mono ?_);(case side1=>repeat (first|(with_reducible first|exact HI0.out|apply IsS88.alloc|apply IsS88.drewN|apply IsS88.drew|apply IsS88.set_1|apply IsS88.set_2)|exact HI0.out));(case side2=>repeat (first|(with_reducible first|exact HB.out|apply zj|apply zk|apply zi|refine zc ?_ (IsS88.ge HI0.out))|exact HB.out));rintro e w8 ⟨rfl,hi,hb,hk⟩;refine ⟨_,rfl,?_⟩;replace HK:=za (KeepBut.trans (by repeat (first|(with_reducible first|exact HK.out|apply KeepBut.set_|apply keep_drewN|apply keep_drew|apply keep_alloc)|exact HK.out)) hk (.inl rfl));replace HB:=za (hb);replace HI0:=za (hi))|((with_reducible refine zt (f:=151) rfl ?_);refine goesL_ (some 15) rfl rfl Try.func151 (by kernel_rfl) rfl #[.pointer (some ⟨g,0,none⟩)] rfl (by first|rfl|simp only [z3_,z4_,z5_];try rfl) ?_;(with_reducible refine (spec_l1Cur_next.calls g s0_0 t102 t103 t104 t105 t106 w0 _ ?side1 ?side2 A6.out).mono ?_);(case side1=>repeat (first|(with_reducible first|exact HI0.out|apply IsS88.alloc|apply IsS88.drewN|apply IsS88.drew|apply IsS88.set_1|apply IsS88.set_2)|exact HI0.out));(case side2=>repeat (first|(with_reducible first|exact HB.out|apply zj|apply zk|apply zi|refine zc ?_ (IsS88.ge HI0.out))|exact HB.out));rintro e w9 ⟨rfl,hi,hb,hk⟩;refine ⟨_,rfl,?_⟩;replace HK:=za (KeepBut.trans (by repeat (first|(with_reducible first|exact HK.out|apply KeepBut.set_|apply keep_drewN|apply keep_drew|apply keep_alloc)|exact HK.out)) hk (.inl rfl));replace HB:=za (hb);replace HI0:=za (hi))));(go_ret);exact ⟨by first|rfl|simp [*,errW_none,errW_some] <;> rfl,by repeat (first|(with_reducible first|exact HI0.out|apply IsS88.alloc|apply IsS88.drewN|apply IsS88.drew|apply IsS88.set_1|apply IsS88.set_2)|exact HI0.out),by repeat (first|(with_reducible first|exact HB.out|apply zj|apply zk|apply zi|refine zc ?_ (IsS88.ge HI0.out))|exact HB.out),by repeat (first|(with_reducible first|exact HK.out|apply KeepBut.set_|apply keep_drewN|apply keep_drew|apply keep_alloc)|exact HK.out)⟩
  ·
   rw [if_neg c5] at H;have c5b0:decide (200 < a1)=false:=decide_eq_false c5;clear c5;by_cases c10:a1=0
   · rw [if_pos c10] at H;exact absurd H (by simp)
   · rw [if_neg c10] at H;have c10b0:(a1 == 0)=false:=beq_eq_false_iff_ne.mpr c10;have c10b1:(a1 != 0)=true:=bne_iff_ne.mpr c10;simp only [Option.some.injEq,Prod.mk.injEq] at H;obtain ⟨rfl,rfl,rfl⟩:=H;(go_enter Try.func127,Try.ntmps127);(go_wp2_with (first|((with_reducible refine zt (f:=151) rfl ?_);refine goesL_ (some 9) rfl rfl Try.func151 (by kernel_rfl) rfl #[.pointer (some ⟨g,0,none⟩)] rfl (by first|rfl|simp only [z3_,z4_,z5_];try rfl) ?_;(with_reducible refine (spec_l1Cur_next.calls g s0_0 s0_1 s0_2 t101 t102 t103 w0 _ ?side1 ?side2 A4.out).mono ?_);(case side1=>repeat (first|(with_reducible first|exact HI0.out|apply IsS88.alloc|apply IsS88.drewN|apply IsS88.drew|apply IsS88.set_1|apply IsS88.set_2)|exact HI0.out));(case side2=>repeat (first|(with_reducible first|exact HB.out|apply zj|apply zk|apply zi|refine zc ?_ (IsS88.ge HI0.out))|exact HB.out));rintro e w11 ⟨rfl,hi,hb,hk⟩;refine ⟨_,rfl,?_⟩;replace HK:=za (KeepBut.trans (by repeat (first|(with_reducible first|exact HK.out|apply KeepBut.set_|apply keep_drewN|apply keep_drew|apply keep_alloc)|exact HK.out)) hk (.inl rfl));replace HB:=za (hb);replace HI0:=za (hi))));(go_ret);exact ⟨by first|rfl|simp [*,errW_none,errW_some] <;> rfl,by repeat (first|(with_reducible first|exact HI0.out|apply IsS88.alloc|apply IsS88.drewN|apply IsS88.drew|apply IsS88.set_1|apply IsS88.set_2)|exact HI0.out),by repeat (first|(with_reducible first|exact HB.out|apply zj|apply zk|apply zi|refine zc ?_ (IsS88.ge HI0.out))|exact HB.out),by repeat (first|(with_reducible first|exact HK.out|apply KeepBut.set_|apply keep_drewN|apply keep_drew|apply keep_alloc)|exact HK.out)⟩
end Go.Proofs.Ytiopnmgcajohfaa.Q
end
section
namespace Go.Proofs.Ytiopnmgcajohfaa.Q
open Go.RowKit Go.Proofs.YtiopnmgcajohfaaW.PrintWords Go.Proofs.YtiopnmgcajohfaaW.PrintLast Go.Proofs.YtiopnmgcajohfaaW.PrintMore
attribute [local go_sem] max2_int min2_int max_two min_two max_three min_three max_four min_four   -- for this text's walks alone
set_option linter.unusedVariables false
set_option linter.unusedSimpArgs false
def spec_l1Cur_among.f (s0_0:List Int) (s0_1:Int) (s0_2:Int) (l1:List Int):Option (Int × Int × Int):=(spec_l1Cur_pick.f s0_0 s0_1 s0_2 (l1.length:Int)).bind fun bt101=>(if 0≤bt101.1 then (if bt101.1 < (l1.length:Int) then (some (rd l1 bt101.1,bt101.2.1,bt101.2.2)) else (none)) else (none))
set_option maxHeartbeats 8000000 in
set_option maxRecDepth 100000 in
theorem spec_l1Cur_among.calls (g:Nat) (s0_0:List Int) (s0_1:Int) (s0_2:Int) (A1:Option Addr) (c1:Nat) (l1:List Int) (r1:Int) (r2:Int) (r3:Int) (w0 w:World) (hI:IsS88 w0 w g s0_0 s0_1 s0_2) (hB:Below w0.heap.size w0 w) (hr1:Kd.C (Kd.int .i64) w A1 l1.length l1) (hc1:l1.length≤c1) (hf1:∀ ad,A1=some ad→0 < l1.length→ad.block ≠ g) (h:spec_l1Cur_among.f s0_0 s0_1 s0_2 l1=some (r1,r2,r3)) :
  Calls Try.prog 98 #[.pointer (some ⟨g,0,none⟩),.slice A1 l1.length c1] w fun e w'=>e=.returned (.int .i64 r1)∧IsS88 w0 w' g s0_0 r2 r3∧Below w0.heap.size w0 w'∧KeepBut w w' g none:=by
 have HR1:=za hr1;have HC1:=za hc1;clear hr1 hc1;have HI0:=za hI;have HK:=za (KeepBut.refl w g none);have HL:=za hB.size;clear hI;have HW0:=za hB.size;have HB:=za hB;clear hB;have H:((spec_l1Cur_pick.f s0_0 s0_1 s0_2 (l1.length:Int)).bind fun bt101=>(if 0≤bt101.1 then (if bt101.1 < (l1.length:Int) then (some (rd l1 bt101.1,bt101.2.1,bt101.2.2)) else (none)) else (none)))=some (r1,r2,r3):=h;clear h;obtain ⟨⟨t101,t102,t103⟩,A3,H⟩:=bindAside H;(try dsimp only at H);by_cases c4:0≤t101
 ·
  rw [if_pos c4] at H;have c4b0:decide (0≤t101)=true:=decide_eq_true c4;clear c4;by_cases c5:t101 < (l1.length:Int)
  · rw [if_pos c5] at H;have c5b0:decide (t101 < (l1.length:Int))=true:=decide_eq_true c5;clear c5;simp only [Option.some.injEq,Prod.mk.injEq] at H;obtain ⟨rfl,rfl,rfl⟩:=H;(go_enter Try.func98,Try.ntmps98);(go_wp2_with (first|((with_reducible refine zt (f:=127) rfl ?_);refine goesL_ (some 9) rfl rfl Try.func127 (by kernel_rfl) rfl #[.pointer (some ⟨g,0,none⟩),.int .i64 (l1.length:Int)] rfl (by first|rfl|simp only [z3_,z4_,z5_];try rfl) ?_;(with_reducible refine (spec_l1Cur_pick.calls g s0_0 s0_1 s0_2 (l1.length:Int) t101 t102 t103 w0 _ ?side1 ?side2 A3.out).mono ?_);(case side1=>repeat (first|(with_reducible first|exact HI0.out|apply IsS88.alloc|apply IsS88.drewN|apply IsS88.drew|apply IsS88.set_1|apply IsS88.set_2)|exact HI0.out));(case side2=>repeat (first|(with_reducible first|exact HB.out|apply zj|apply zk|apply zi|refine zc ?_ (IsS88.ge HI0.out))|exact HB.out));rintro e w6 ⟨rfl,hi,hb,hk⟩;refine ⟨_,rfl,?_⟩;replace HK:=za (KeepBut.trans (by repeat (first|(with_reducible first|exact HK.out|apply KeepBut.set_|apply keep_drewN|apply keep_drew|apply keep_alloc)|exact HK.out)) hk (.inl rfl));replace HB:=za (hb);replace HI0:=za (hi);have p104:0≤(t101:Int):=of_decide_eq_true ‹_›;have q104:t101 < (l1.length:Int):=of_decide_eq_true ‹_›;obtain ⟨ad104,e104,hx104_0⟩:=Kd.at_int HR1.out t101 p104 q104;cases e104;replace hx104_0:=keep_cell HK.out hx104_0 (by first|(rw [add_block];exact hf1 _ rfl (by omega))|exact hf1 _ rfl (by omega)|exact hf1 ad104 rfl (by omega));replace p104:=eq_true p104;replace q104:=eq_true q104)));(go_ret);exact ⟨by first|rfl|simp [*,errW_none,errW_some] <;> rfl,by repeat (first|(with_reducible first|exact HI0.out|apply IsS88.alloc|apply IsS88.drewN|apply IsS88.drew|apply IsS88.set_1|apply IsS88.set_2)|exact HI0.out),by repeat (first|(with_reducible first|exact HB.out|apply zj|apply zk|apply zi|refine zc ?_ (IsS88.ge HI0.out))|exact HB.out),by repeat (first|(with_reducible first|exact HK.out|apply KeepBut.set_|apply keep_drewN|apply keep_drew|apply keep_alloc)|exact HK.out)⟩
  · rw [if_neg c5] at H;exact absurd H (by simp)
 · rw [if_neg c4] at H;exact absurd H (by simp)
end Go.Proofs.Ytiopnmgcajohfaa.Q
end
section
namespace Go.Proofs.Ytiopnmgcajohfaa.Q
open Go.RowKit Go.Proofs.YtiopnmgcajohfaaW.PrintWords Go.Proofs.YtiopnmgcajohfaaW.PrintLast Go.Proofs.YtiopnmgcajohfaaW.PrintMore
attribute [local go_sem] max2_int min2_int max_two min_two max_three min_three max_four min_four   -- for this text's walks alone
set_option linter.unusedVariables false
set_option linter.unusedSimpArgs false
def spec_DrawDiagonalBoard.f (l0:List Int):Option (Int):=(spec_l1Cur_among.f l0 0 0 (([1,2,3,4,5,6,7,0,(-1)]:List Int))).bind fun bt105=>(some bt105.1)
set_option maxHeartbeats 8000000 in
set_option maxRecDepth 100000 in
theorem spec_DrawDiagonalBoard.calls (A0:Option Addr) (c0:Nat) (l0:List Int) (r:Int) (w:World) (hr0:Kd.C (Kd.int .u8) w A0 l0.length l0) (hc0:l0.length≤c0) (h:spec_DrawDiagonalBoard.f l0=some r) :
  Calls Try.prog 41 #[.slice A0 l0.length c0] w fun e w'=>e=.returned (.int .i64 r)∧Below w.heap.size w w':=by
 have hu88:=Try.underlying88;have HR0:=za hr0;have HC0:=za hc0;clear hr0 hc0;have HB:=za (Below.refl w.heap.size w);have H:((spec_l1Cur_among.f l0 0 0 (([1,2,3,4,5,6,7,0,(-1)]:List Int))).bind fun bt105=>(some bt105.1))=some r:=h;clear h;obtain ⟨y102,hy102⟩:∃ y_:List Int,y_=(([1,2,3,4,5,6,7,0,(-1)]:List Int)):=⟨_,rfl⟩;(replace H:((spec_l1Cur_among.f l0 0 0 y102).bind fun bt105=>(some bt105.1))=some r:=by first|(rw [hy102];with_reducible exact H)|(have H2_:=(Option.bind_some _ _).symm.trans H;rw [hy102];with_reducible exact H2_)|(have H2_:=(Option.bind_some _ _).symm.trans H;with_reducible exact H2_)|with_reducible exact H|(rw [hy102];exact H)|exact H);have Ny102:=za hy102;clear hy102;obtain ⟨⟨t105,t106,t107⟩,A2,H⟩:=bindAside H;(try dsimp only at H);obtain rfl:=Option.some.inj H;(go_enter Try.func41,Try.ntmps41);(go_wp2_with (first|((with_reducible refine gate_dst (N:=6) rfl ?_);refine box_event ?hg (N:=6) ?hd (cs:=#[.slice A0 l0.length c0,.int .i64 0,.int .u64 0]) (t:=88) ?hr ?_;(case hd=>rfl);(case hg=>rfl);(case hr=>first|(go_simp;done)|(go_simp;rfl));intro gb101 hg w3 hbox hb;have BK101:=za (hbox);have GW101:=za ((by rw [hg];exact (zq (by repeat (first|(with_reducible first|exact HB.out|apply zj|apply zk|apply zi)|exact HB.out))):w.heap.size≤gb101));have GE101:=za ((by rw [hg];exact (zq (by repeat (first|(with_reducible first|exact HB.out|apply zj|apply zk|apply zi)|exact HB.out))):w.heap.size≤gb101));replace HB:=za (zu (by repeat (first|(with_reducible first|exact HB.out|apply zj|apply zk|apply zi)|exact HB.out)) hb);clear hb hbox hg;have HI101:=za (show IsS88 w _ gb101 l0 0 0 from ⟨_,_,BK101.out,GE101.out,HR0.out⟩))|((with_reducible refine gate_dst (N:=8) rfl ?_);refine Kd.R_lit (Kd.int .i64) _ 3 ?hg (N:=8) ?hd (xs:=([1,2,3,4,5,6,7,0,(-1)]:List Int)) (inner:=[.int .i64 1,.int .i64 2,.int .i64 3,.int .i64 4,.int .i64 5,.int .i64 6,.int .i64 7,.int .i64 0,.int .i64 (-1)]) (ok:=fun _=>True) (okp:=fun _=>True) ?hr ?hp (fun _ hk=>hk) trivial (Below.refl _ _) (Nat.le_refl _) (by simp) ?_;(case hd=>rfl);(case hg=>rfl);(case hr=>first|(go_simp;done)|(go_simp;rfl));(case hp=>exact (Reps.one (show Kd.M (Kd.int .i64) _ _ _ 1 [.int .i64 1] from rfl) (Reps.one (show Kd.M (Kd.int .i64) _ _ _ 2 [.int .i64 2] from rfl) (Reps.one (show Kd.M (Kd.int .i64) _ _ _ 3 [.int .i64 3] from rfl) (Reps.one (show Kd.M (Kd.int .i64) _ _ _ 4 [.int .i64 4] from rfl) (Reps.one (show Kd.M (Kd.int .i64) _ _ _ 5 [.int .i64 5] from rfl) (Reps.one (show Kd.M (Kd.int .i64) _ _ _ 6 [.int .i64 6] from rfl) (Reps.one (show Kd.M (Kd.int .i64) _ _ _ 7 [.int .i64 7] from rfl) (Reps.one (show Kd.M (Kd.int .i64) _ _ _ 0 [.int .i64 0] from rfl) (Reps.one (show Kd.M (Kd.int .i64) _ _ _ (-1) [.int .i64 (-1)] from rfl) (Reps.none _ _)))))))))));intro v103 w4 ho5 hb hg_ hnew_;clear hg_ hnew_;(first|rw [← Ny102.out] at ho5|(simp only [Int.reduceToNat] at ho5;rw [← Ny102.out] at ho5));have HO104:=za (Kd.R_lower ho5 (zq (by repeat (first|(with_reducible first|exact HB.out|apply zj|apply zk|apply zi|refine zc ?_ (IsS88.ge HI101.out))|exact HB.out))));replace HB:=za (zu (by repeat (first|(with_reducible first|exact HB.out|apply zj|apply zk|apply zi|refine zc ?_ (IsS88.ge HI101.out))|exact HB.out)) hb);replace HI101:=za (IsS88.below (by repeat (first|(with_reducible first|exact HI101.out|apply IsS88.alloc|apply IsS88.drewN|apply IsS88.drew|apply IsS88.set_1|apply IsS88.set_2)|exact HI101.out)) hb);clear hb ho5;obtain ⟨Ao6,co6,eo6⟩:=Kd.R_slice HO104.out;subst eo6)|((with_reducible refine zt (f:=98) rfl ?_);refine goesL_ (some 9) rfl rfl Try.func98 (by kernel_rfl) rfl #[.pointer (some ⟨gb101,0,none⟩),.slice Ao6 y102.length co6] rfl (by first|rfl|simp only [z3_,z4_,z5_];try rfl) ?_;(with_reducible refine (spec_l1Cur_among.calls gb101 l0 0 0 _ _ y102 t105 t106 t107 w _ ?side1 ?side2 ?side3 ?side4 ?side5 A2.out).mono ?_);(case side1=>repeat (first|(with_reducible first|exact HI101.out|apply IsS88.alloc|apply IsS88.drewN|apply IsS88.drew|apply IsS88.set_1|apply IsS88.set_2)|exact HI101.out));(case side2=>repeat (first|(with_reducible first|exact HB.out|apply zj|apply zk|apply zi|refine zc ?_ (IsS88.ge HI101.out))|exact HB.out));(case side3=>repeat (first|exact (zv HO104.out).2.2|(with_reducible refine Kd.C_alloc ?_ _)|(with_reducible refine Kd.C_drewN ?_ _)|(with_reducible refine Kd.C_drew ?_)));(case side4=>exact (zv HO104.out).2.1);(case side5=>exact far_slice (IsS88.own_ne HI101.out HO104.out (by decide)));rintro e w7 ⟨rfl,hi,hb,hk⟩;refine ⟨_,rfl,?_⟩;replace HO104:=za (zp (Kd.R_keep (IsS88.apart (show IsS88 w _ gb101 l0 0 0 from by repeat (first|(with_reducible first|exact HI101.out|apply IsS88.alloc|apply IsS88.drewN|apply IsS88.drew|apply IsS88.set_1|apply IsS88.set_2)|exact HI101.out)) (by (with_reducible repeat (first|apply zg|apply zh|apply zf));exact HO104.out) (by decide)) hk (fun _ h=>h.2)) (fun _ h=>h.1));replace HB:=za (hb);replace HI101:=za (hi))));(go_ret);exact ⟨by first|rfl|simp [*,errW_none,errW_some] <;> rfl,by repeat (first|(with_reducible first|exact HB.out|apply zj|apply zk|apply zi|refine zc ?_ (IsS88.ge HI101.out))|exact HB.out)⟩
end Go.Proofs.Ytiopnmgcajohfaa.Q
end
section
namespace Go.Proofs.Ytiopnmgcajohfaa.Q
open Go.RowKit Go.Proofs.YtiopnmgcajohfaaW.PrintWords Go.Proofs.YtiopnmgcajohfaaW.PrintLast Go.Proofs.YtiopnmgcajohfaaW.PrintMore
attribute [local go_sem] max2_int min2_int max_two min_two max_three min_three max_four min_four   -- for this text's walks alone
set_option linter.unusedVariables false
set_option linter.unusedSimpArgs false
def impl_DiagonalBoard_1.f (a0:Int) (a1:Int):Option (Bool):=some (a0 == a1)
set_option maxHeartbeats 8000000 in
set_option maxRecDepth 100000 in
theorem impl_DiagonalBoard_1.calls (a0:Int) (a1:Int) (r:Bool) (w:World) (h:impl_DiagonalBoard_1.f a0 a1=some r) :
  Calls Try.prog 106 #[.int .i64 a0,.int .i64 a1] w fun e w'=>e=.returned (.bool r)∧Drawn0 w w':=by
 have H:(some (a0 == a1))=some r:=h;clear h;obtain rfl:=Option.some.inj H;(go_enter Try.func106,Try.ntmps106);(go_wp2);(go_ret);exact ⟨by first|rfl|(simp;done)|(simp [*];done),by repeat (first|exact Drawn0.refl _|apply Drawn0.step)⟩
end Go.Proofs.Ytiopnmgcajohfaa.Q
end
section
namespace Go.Proofs.Ytiopnmgcajohfaa.Q
open Go.RowKit Go.Proofs.YtiopnmgcajohfaaW.PrintWords Go.Proofs.YtiopnmgcajohfaaW.PrintLast Go.Proofs.YtiopnmgcajohfaaW.PrintMore
attribute [local go_sem] max2_int min2_int max_two min_two max_three min_three max_four min_four   -- for this text's walks alone
set_option linter.unusedVariables false
set_option linter.unusedSimpArgs false
mutual
def impl_made_at_impl_DiagonalBoard_1.l0:Nat→Int→Int→Int→Int→Int→List Int→Option (Int × Int × List Int)
|0,_,_,_,_,_,_=>none
|k + 1,x0,x11,x12,x108000,x108001,x108002=>if x12 < x11 then (impl_made_at_impl_DiagonalBoard_1.l1 k x0 x12 x11 x12 x0 0 x108000 x108001 x108002) else (some (x108000,x108001,x108002))
def impl_made_at_impl_DiagonalBoard_1.l1:Nat→Int→Int→Int→Int→Int→Int→Int→Int→List Int→Option (Int × Int × List Int)
|0,_,_,_,_,_,_,_,_,_=>none
|k + 1,x0,x6,x11,x12,x15,x16,x108000,x108001,x108002=>if x16 < x15 then ((impl_DiagonalBoard_1.f x6 x16).bind fun t108=>(if t108=true then (if 0≤x6 then (if x6 < (x108002.length:Int) then (if 0≤x16 then (impl_made_at_impl_DiagonalBoard_1.l1 k x0 x6 x11 x12 x15 (wrap64 (x16 + 1)) x108000 x108001 (x108002.set (x6:Int).toNat (Go.bits .or .i64 (rd x108002 x6) (shl .i64 1 x16)))) else (none)) else (none)) else (none)) else (impl_made_at_impl_DiagonalBoard_1.l1 k x0 x6 x11 x12 x15 (wrap64 (x16 + 1)) x108000 x108001 x108002))) else (impl_made_at_impl_DiagonalBoard_1.l0 k x0 x11 (wrap64 (x12 + 1)) x108000 x108001 x108002)
end
def impl_made_at_impl_DiagonalBoard_1.f (k:Nat) (a0:Int) :Option (Int × Int × List Int):=(impl_newBoard.f a0 a0).bind fun bt102=>(impl_made_at_impl_DiagonalBoard_1.l0 k a0 a0 0 bt102.1 bt102.2.1 bt102.2.2)
theorem impl_made_at_impl_DiagonalBoard_1.mono_l:∀ k,(∀ y0 y1 y2 y3 y4 y5,LeO (impl_made_at_impl_DiagonalBoard_1.l0 k y0 y1 y2 y3 y4 y5) (impl_made_at_impl_DiagonalBoard_1.l0 (k + 1) y0 y1 y2 y3 y4 y5))∧(∀ y0 y1 y2 y3 y4 y5 y6 y7 y8,LeO (impl_made_at_impl_DiagonalBoard_1.l1 k y0 y1 y2 y3 y4 y5 y6 y7 y8) (impl_made_at_impl_DiagonalBoard_1.l1 (k + 1) y0 y1 y2 y3 y4 y5 y6 y7 y8))
|0=>⟨fun _ _ _ _ _ _ r h=>by simp [impl_made_at_impl_DiagonalBoard_1.l0] at h,fun _ _ _ _ _ _ _ _ _ r h=>by simp [impl_made_at_impl_DiagonalBoard_1.l1] at h⟩
|k + 1=>by
  obtain ⟨ih0,ih1⟩:=impl_made_at_impl_DiagonalBoard_1.mono_l k
  refine ⟨?_,?_⟩
  ·
   intro y0 y1 y2 y3 y4 y5
   unfold impl_made_at_impl_DiagonalBoard_1.l0
   repeat' first
  |(with_reducible exact ih0 _ _ _ _ _ _)
  |(with_reducible exact ih1 _ _ _ _ _ _ _ _ _)
  |(with_reducible exact LeO.refl _)
  |(with_reducible exact LeO.none _)
  |(with_reducible refine LeO.ite ?_ ?_)
  |(with_reducible refine LeO.bind ?_ (fun _=>?_))
  |exact ih0 _ _ _ _ _ _
  |exact ih1 _ _ _ _ _ _ _ _ _
  |exact LeO.none _
  |refine LeO.ite ?_ ?_
  |refine LeO.bind ?_ (fun _=>?_)
  ·
   intro y0 y1 y2 y3 y4 y5 y6 y7 y8
   unfold impl_made_at_impl_DiagonalBoard_1.l1
   repeat' first
  |(with_reducible exact ih0 _ _ _ _ _ _)
  |(with_reducible exact ih1 _ _ _ _ _ _ _ _ _)
  |(with_reducible exact LeO.refl _)
  |(with_reducible exact LeO.none _)
  |(with_reducible refine LeO.ite ?_ ?_)
  |(with_reducible refine LeO.bind ?_ (fun _=>?_))
  |exact ih0 _ _ _ _ _ _
  |exact ih1 _ _ _ _ _ _ _ _ _
  |exact LeO.none _
  |refine LeO.ite ?_ ?_
  |refine LeO.bind ?_ (fun _=>?_)
theorem impl_made_at_impl_DiagonalBoard_1.mono:∀ a0 k,LeO (impl_made_at_impl_DiagonalBoard_1.f k a0) (impl_made_at_impl_DiagonalBoard_1.f (k + 1) a0):=by
 intro a0 k;obtain ⟨ih0,ih1⟩:=impl_made_at_impl_DiagonalBoard_1.mono_l k;unfold impl_made_at_impl_DiagonalBoard_1.f
 repeat' first
  |(with_reducible exact ih0 _ _ _ _ _ _)
  |(with_reducible exact ih1 _ _ _ _ _ _ _ _ _)
  |(with_reducible exact LeO.refl _)
  |(with_reducible exact LeO.none _)
  |(with_reducible refine LeO.ite ?_ ?_)
  |(with_reducible refine LeO.bind ?_ (fun _=>?_))
  |exact ih0 _ _ _ _ _ _
  |exact ih1 _ _ _ _ _ _ _ _ _
  |exact LeO.none _
  |refine LeO.ite ?_ ?_
  |refine LeO.bind ?_ (fun _=>?_)
def impl_made_at_impl_DiagonalBoard_1.T9:Bool × List (List Nat × List Nat):=(true,[([],[]),([0],[0]),([],[]),([1,2],[1,2]),([3],[3]),([],[]),([5],[5]),([4,6],[4,6]),([1,2,0,1,2,3,4,5,6,7],[1,2]),([8,7,0,1,2,3,4,5,6,7],[7,8])])
def impl_made_at_impl_DiagonalBoard_1.B9:List Nat:=[0,1,0,7,15,0,32,127,255,511]
theorem impl_made_at_impl_DiagonalBoard_1.tab9:rtab .any (opsOf Try.f105 9)=impl_made_at_impl_DiagonalBoard_1.T9:=by kernel_rfl
theorem impl_made_at_impl_DiagonalBoard_1.bits9:waitsOk impl_made_at_impl_DiagonalBoard_1.T9.2 impl_made_at_impl_DiagonalBoard_1.B9=true:=by kernel_rfl
set_option maxHeartbeats 8000000 in
set_option maxRecDepth 100000 in
theorem impl_made_at_impl_DiagonalBoard_1.calls (k:Nat) (a0:Int)  (r1:Int) (r2:Int) (r3:List Int) (w:World) (h:impl_made_at_impl_DiagonalBoard_1.f k a0=some (r1,r2,r3)) :
  Calls Try.prog 105 #[.int .i64 a0,.func (.func 106) #[] #[]] w fun e w'=>∃ v2_:Value,e=.returned (.agg #[.int .i64 r1,.int .i64 r2,v2_])∧Kd.R (Kd.int .i64) 3 w' w.heap.size (fun _=>True) v2_ r3∧Below w.heap.size w w':=by
 have hu43:=Try.underlying43;have HB:=za (Below.refl w.heap.size w);have H:((impl_newBoard.f a0 a0).bind fun bt102=>(impl_made_at_impl_DiagonalBoard_1.l0 k a0 a0 0 bt102.1 bt102.2.1 bt102.2.2))=some (r1,r2,r3):=h;clear h;obtain ⟨⟨t102,t103,t104⟩,A3,H⟩:=bindAside H;(try dsimp only at H);have H':=za H;clear H;(go_enter Try.func105,Try.ntmps105);(go_wp2_with (first|((with_reducible refine gate_dst (N:=4) rfl ?_);refine box_event ?hg (N:=4) ?hd (cs:=#[.int .i64 0,.int .i64 0,.slice none 0 0]) (t:=43) ?hr ?_;(case hd=>rfl);(case hg=>rfl);(case hr=>first|(go_simp;done)|(go_simp;rfl));intro gb101 hg w4 hbox hb;have BK101:=za (hbox);have GW101:=za ((by rw [hg];exact (zq (by repeat (first|(with_reducible first|exact HB.out|apply zj|apply zk|apply zi)|exact HB.out))):w.heap.size≤gb101));have GE101:=za ((by rw [hg];exact (zq (by repeat (first|(with_reducible first|exact HB.out|apply zj|apply zk|apply zi)|exact HB.out))):w.heap.size≤gb101));replace HB:=za (zu (by repeat (first|(with_reducible first|exact HB.out|apply zj|apply zk|apply zi)|exact HB.out)) hb);clear hb hbox hg)|((with_reducible refine zt (f:=145) rfl ?_);refine goesL_ (some 10) rfl rfl Try.func145 (by kernel_rfl) rfl #[.int .i64 a0,.int .i64 a0] rfl (by first|rfl|simp only [z3_,z4_,z5_];try rfl) ?_;(with_reducible refine (impl_newBoard.calls a0 a0 t102 t103 t104 _ A3.out).mono ?_);rintro e w5 ⟨v105,rfl,ho0,hb⟩;refine ⟨_,rfl,?_⟩;have HO106:=za (Kd.R_lower ho0 (zq (by repeat (first|(with_reducible first|exact HB.out|apply zj|apply zk|apply zi|refine zc ?_ GE101.out)|exact HB.out))));replace BK101:=za (zo (g:=gb101) (o:=.cells #[.int .i64 0,.int .i64 0,.slice none 0 0] 43 (0,0)) (by apply_rules only [BK101.out,zd,zb,ze]) hb);replace HB:=za (zu (by repeat (first|(with_reducible first|exact HB.out|apply zj|apply zk|apply zi|refine zc ?_ GE101.out)|exact HB.out)) hb))|((with_reducible refine gate_dst (N:=5) rfl ?_);refine box_event ?hg (N:=5) ?hd (cs:=#[.int .i64 0,.int .i64 0,.slice none 0 0]) (t:=43) ?hr ?_;(case hd=>rfl);(case hg=>rfl);(case hr=>first|(go_simp;done)|(go_simp;rfl));intro gb107 hg w6 hbox hb;replace HO106:=za (zr (by (with_reducible repeat (first|apply zg|apply zh|apply zf));exact HO106.out) hb);have BK107:=za (hbox);have GW107:=za ((by rw [hg];exact (zq (by repeat (first|(with_reducible first|exact HB.out|apply zj|apply zk|apply zi|refine zc ?_ GE101.out)|exact HB.out))):w.heap.size≤gb107));have GE107:=za ((by rw [hg];exact (zq (by repeat (first|(with_reducible first|exact HB.out|apply zj|apply zk|apply zi|refine zc ?_ GE101.out)|exact HB.out))):w.heap.size≤gb107));replace HB:=za (zu (by repeat (first|(with_reducible first|exact HB.out|apply zj|apply zk|apply zi|refine zc ?_ GE101.out)|exact HB.out)) hb);have NB101_107:=za ((by rw [hg];exact Nat.ne_of_lt (blk_lt (g:=gb101) (o:=.cells #[.int .i64 0,.int .i64 0,.slice none 0 0] 43 (0,0)) (by apply_rules only [BK101.out,zd,zb,ze])):gb101 ≠ gb107));have NB107_101:=za ((by rw [hg];exact Nat.ne_of_gt (blk_lt (g:=gb101) (o:=.cells #[.int .i64 0,.int .i64 0,.slice none 0 0] 43 (0,0)) (by apply_rules only [BK101.out,zd,zb,ze])):gb107 ≠ gb101));replace BK101:=za (zo (g:=gb101) (o:=.cells #[.int .i64 0,.int .i64 0,.slice none 0 0] 43 (0,0)) (by apply_rules only [BK101.out,zd,zb,ze]) hb);clear hb hbox hg;have hnb7:=NB107_101.out;have hnc7:=NB101_107.out;have hcz8_0:w6.cell? ⟨gb107,0,none⟩=some (.int .i64 0):=(zl BK107.out 0).trans rfl;have hcz8_1:w6.cell? ⟨gb107,1,none⟩=some (.int .i64 0):=(zl BK107.out 1).trans rfl;have hcz8_2:w6.cell? ⟨gb107,2,none⟩=some (.slice none 0 0):=(zl BK107.out 2).trans rfl;have hfz8_0:=zm BK107.out 0;have hfz8_1:=zm BK107.out 1;have hfz8_2:=zm BK107.out 2;obtain ⟨Ao9,co9,eo9⟩:=Kd.R_slice HO106.out;subst eo9)));(go_loopg [12] k (fun kq v12 w'=>∃ (x12_1:Int) (x108002_1:List Int) (u108002:Value),v12=.int .i64 x12_1∧Aside0 (impl_made_at_impl_DiagonalBoard_1.l0 kq a0 a0 x12_1 t102 t103 x108002_1=some (r1,r2,r3))∧Aside0 (kq≤k)∧Aside0 (Kd.R (Kd.int .i64) 3 w' w.heap.size (fun _=>True) u108002 x108002_1)∧Aside0 (w'.heap[gb101]?=some (.cells #[.int .i64 0,.int .i64 0,(.slice none 0 0)] 43 (0,0)))∧Aside0 (w'.heap[gb107]?=some (.cells #[.int .i64 t102,.int .i64 t103,u108002] 43 (0,0)))∧Aside0 (Below w.heap.size w w')));case atStart=>exact ⟨(0),(t104),(.slice Ao9 t104.length co9),(by first|rfl|(simp;done)|(simp [*];done)),H',⟨Nat.le_refl _⟩,⟨by (with_reducible repeat (first|apply zg|apply zh|apply zf));exact zp (zn (p:=⟨gb107,2,none⟩) (zn (p:=⟨gb107,1,none⟩) (zn (p:=⟨gb107,0,none⟩) (zw HO106.out BK107.out (by decide)) (fun _ hk=>hk.2) (.int .i64 t102)) (fun _ hk=>hk.2) (.int .i64 t103)) (fun _ hk=>hk.2) (.slice Ao9 t104.length co9)) (fun _ hk=>trivial)⟩,⟨by (with_reducible repeat (first|refine zd ?_ _|refine zb ?_|refine ze ?_ _));refine zs ?_ NB101_107.out _;(with_reducible repeat (first|refine zd ?_ _|refine zb ?_|refine ze ?_ _));refine zs ?_ NB101_107.out _;(with_reducible repeat (first|refine zd ?_ _|refine zb ?_|refine ze ?_ _));refine zs ?_ NB101_107.out _;(with_reducible repeat (first|refine zd ?_ _|refine zb ?_|refine ze ?_ _));exact BK101.out⟩,⟨by (with_reducible repeat (first|refine zd ?_ _|refine zb ?_|refine ze ?_ _));refine blk_put (cs:=#[.int .i64 t102,.int .i64 t103,.slice none 0 0]) ?_ 2 _ rfl;(with_reducible repeat (first|refine zd ?_ _|refine zb ?_|refine ze ?_ _));refine blk_put (cs:=#[.int .i64 t102,.int .i64 0,.slice none 0 0]) ?_ 1 _ rfl;(with_reducible repeat (first|refine zd ?_ _|refine zb ?_|refine ze ?_ _));refine blk_put (cs:=#[.int .i64 0,.int .i64 0,.slice none 0 0]) ?_ 0 _ rfl;(with_reducible repeat (first|refine zd ?_ _|refine zb ?_|refine ze ?_ _));exact BK107.out⟩,⟨by repeat (first|(with_reducible first|exact HB.out|apply zj|apply zk|apply zi|refine zc ?_ GE101.out|refine zc ?_ GE107.out)|exact HB.out)⟩⟩
 case round =>
  clear H';(try clear c1);(try clear p2);(try clear c7);(try clear hcz8_0);(try clear hcz8_1);(try clear hcz8_2);(try clear hfz8_0);(try clear hfz8_1);(try clear hfz8_2);obtain ⟨x12_1,x108002_1,u108002,rfl,HA,HK1,HO_108002,BK101,BK107,HB⟩:=hrel
  cases gk with
 |zero=>exact absurd HA.out (by simp [impl_made_at_impl_DiagonalBoard_1.l0])
 |succ k1 =>
   have H:=HA.out;clear HA;simp only [impl_made_at_impl_DiagonalBoard_1.l0] at H;by_cases c10:x12_1 < a0
   ·
    rw [if_pos c10] at H;have c10b0:decide (x12_1 < a0)=true:=decide_eq_true c10;clear c10;have H':=za H;clear H;(go_wp2);(go_loopg [16] k1 (fun kq v16 w'=>∃ (x16_2:Int) (x108002_2:List Int) (u108002:Value),v16=.int .i64 x16_2∧Aside0 (impl_made_at_impl_DiagonalBoard_1.l1 kq a0 x12_1 a0 x12_1 a0 x16_2 t102 t103 x108002_2=some (r1,r2,r3))∧Aside0 (kq≤k1)∧Aside0 (Kd.R (Kd.int .i64) 3 w' w.heap.size (fun _=>True) u108002 x108002_2)∧Aside0 (w'.heap[gb101]?=some (.cells #[.int .i64 0,.int .i64 0,(.slice none 0 0)] 43 (0,0)))∧Aside0 (w'.heap[gb107]?=some (.cells #[.int .i64 t102,.int .i64 t103,u108002] 43 (0,0)))∧Aside0 (Below w.heap.size w w')));case atStart=>exact ⟨(0),(x108002_1),(u108002),(by first|rfl|(simp;done)|(simp [*];done)),H',⟨Nat.le_refl _⟩,⟨by (with_reducible repeat (first|apply zg|apply zh|apply zf));exact HO_108002.out⟩,⟨by (with_reducible repeat (first|refine zd ?_ _|refine zb ?_|refine ze ?_ _));exact BK101.out⟩,⟨by (with_reducible repeat (first|refine zd ?_ _|refine zb ?_|refine ze ?_ _));exact BK107.out⟩,⟨by repeat (first|(with_reducible first|exact HB.out|apply zj|apply zk|apply zi|refine zc ?_ GE101.out|refine zc ?_ GE107.out)|exact HB.out)⟩⟩
    case round =>
     clear H';(try clear c1);(try clear p2);(try clear c7);(try clear c10);(try clear c10b0);(try clear hcz8_0);(try clear hcz8_1);(try clear hcz8_2);(try clear hfz8_0);(try clear hfz8_1);(try clear hfz8_2);(try clear p2);obtain ⟨x16_2,x108002_2,u108002,rfl,HA,HK2,HO_108002,BK101,BK107,HB⟩:=hrel
     cases gk with
    |zero=>exact absurd HA.out (by simp [impl_made_at_impl_DiagonalBoard_1.l1])
    |succ k2 =>
      have H:=HA.out;clear HA;simp only [impl_made_at_impl_DiagonalBoard_1.l1] at H;by_cases c11:x16_2 < a0
      ·
       rw [if_pos c11] at H;have c11b0:decide (x16_2 < a0)=true:=decide_eq_true c11;clear c11;obtain ⟨t108,A12,H⟩:=bindAside H;(try dsimp only at H);by_cases c13:t108=true
       ·
        subst c13;(have H1:(if 0≤x12_1 then (if x12_1 < (x108002_2.length:Int) then (if 0≤x16_2 then (impl_made_at_impl_DiagonalBoard_1.l1 k2 a0 x12_1 a0 x12_1 a0 (wrap64 (x16_2 + 1)) t102 t103 (x108002_2.set (x12_1:Int).toNat (Go.bits .or .i64 (rd x108002_2 x12_1) (shl .i64 1 x16_2)))) else (none)) else (none)) else (none))=some (r1,r2,r3):=by rw [if_pos rfl] at H;exact H);clear H;have H:=H1;clear H1;by_cases c14:0≤x12_1
        ·
         rw [if_pos c14] at H;have c14b0:decide (0≤x12_1)=true:=decide_eq_true c14;clear c14;by_cases c15:x12_1 < (x108002_2.length:Int)
         ·
          rw [if_pos c15] at H;have c15b0:decide (x12_1 < (x108002_2.length:Int))=true:=decide_eq_true c15;clear c15;by_cases c16:0≤x16_2
          ·
           rw [if_pos c16] at H;have c16b0:=eq_true c16;have c16b1:decide (0≤x16_2)=true:=decide_eq_true c16;clear c16;obtain ⟨ji17,hji17⟩:∃ j_:Int,(shl .i64 1 x16_2)=j_:=⟨_,rfl⟩;(replace H:(impl_made_at_impl_DiagonalBoard_1.l1 k2 a0 x12_1 a0 x12_1 a0 (wrap64 (x16_2 + 1)) t102 t103 (x108002_2.set (x12_1:Int).toNat (Go.bits .or .i64 (rd x108002_2 x12_1) (ji17))))=some (r1,r2,r3):=by first|(rw [hji17] at H;exact H)|(simp only [hji17] at H ⊢;exact H));(try rw [hji17] at A12);have hji17_:(IntKind.i64.wrap (1 * 2 ^ min x16_2.toNat 64))=ji17:=hji17;have hji17z:x16_2≤64→(IntKind.i64.wrap (1 * 2 ^ x16_2.toNat))=ji17:=shl_small hji17;(have hji17u:(IntKind.i64.wrap (2 ^ min x16_2.toNat 64))=ji17:=by have h_:=hji17_;rw [Int.one_mul] at h_;exact h_);(have hji17v:x16_2≤64→(IntKind.i64.wrap (2 ^ x16_2.toNat))=ji17:=fun hle_=>by have h_:=hji17z hle_;rw [Int.one_mul] at h_;exact h_);have hji17y:(wrap64 (1 * 2 ^ min x16_2.toNat 64))=ji17:=(i64_w _).symm.trans hji17_;(have hji17x:x16_2≤64→(wrap64 (1 * 2 ^ x16_2.toNat))=ji17:=fun h_=>(i64_w _).symm.trans (hji17z h_));obtain ⟨y110,hy110⟩:∃ y_:List Int,y_=(x108002_2.set (x12_1:Int).toNat (Go.bits .or .i64 (rd x108002_2 x12_1) (ji17))):=⟨_,rfl⟩;(replace H:(impl_made_at_impl_DiagonalBoard_1.l1 k2 a0 x12_1 a0 x12_1 a0 (wrap64 (x16_2 + 1)) t102 t103 y110)=some (r1,r2,r3):=by first|(rw [hy110];with_reducible exact H)|(have H2_:=(Option.bind_some _ _).symm.trans H;rw [hy110];with_reducible exact H2_)|(have H2_:=(Option.bind_some _ _).symm.trans H;with_reducible exact H2_)|with_reducible exact H|(rw [hy110];exact H)|exact H);have Ny110:=za hy110;clear hy110;have H':=za H;clear H;(try go_wp2_with (first|(go_at_call 106;(with_reducible refine (impl_DiagonalBoard_1.calls x12_1 x16_2 true _ A12.out).mono ?_);rintro e w' ⟨rfl,⟨nd,rfl⟩⟩;(try (rw [drewN_self wr];generalize hq_:World.drewN wr _=wr;have n0_:Aside0 (Kd.R (Kd.int .i64) 3 wr w.heap.size (fun _=>True) u108002 x108002_2):=⟨by rw [← hq_];exact (by (with_reducible repeat (first|apply zg|apply zh|apply zf));exact HO_108002.out)⟩;have n1_:Aside0 (wr.heap[gb101]?=some (.cells #[.int .i64 0,.int .i64 0,.slice none 0 0] 43 (0,0))):=⟨by rw [← hq_];exact (by apply_rules only [BK101.out,zd,zb,ze])⟩;have n2_:Aside0 (wr.heap[gb107]?=some (.cells #[.int .i64 t102,.int .i64 t103,u108002] 43 (0,0))):=⟨by rw [← hq_];exact (by apply_rules only [BK107.out,zd,zb,ze])⟩;have n3_:Aside0 (Below w.heap.size w wr):=⟨by rw [← hq_];exact (by repeat (first|(with_reducible first|exact HB.out|apply zj|apply zk|apply zi|refine zc ?_ GE101.out|refine zc ?_ GE107.out)|exact HB.out))⟩;clear HO_108002 BK101 BK107 HB hq_;have HO_108002:=n0_;have BK101:=n1_;have BK107:=n2_;have HB:=n3_;clear n0_ n1_ n2_ n3_)))));replace HO_108002:=za (zf HO_108002.out);replace BK101:=za (zb BK101.out);replace BK107:=za (zb BK107.out);replace HB:=za (zi HB.out);obtain ⟨Ao20,co20,eo20⟩:=Kd.R_slice HO_108002.out;(first|subst eo20|(injection eo20 with f1_ f2_ f3_;have f4_:=f1_.symm;have f5_:=f3_.symm;clear f1_ f2_ f3_;subst f4_;subst f5_));have p109:0≤(x12_1:Int):=of_decide_eq_true ‹_›;have q109:x12_1 < (x108002_2.length:Int):=of_decide_eq_true ‹_›;obtain ⟨ad109,e109,hx109_0⟩:=Kd.at_int (zv HO_108002.out).2.2 x12_1 p109 q109;cases e109;replace p109:=eq_true p109;replace q109:=eq_true q109;have p18:0≤(x12_1:Int):=of_decide_eq_true ‹_›;have q18:(x12_1:Int) < ((x108002_2.length:Int):Int):=of_decide_eq_true ‹_›;obtain ⟨go18,co18,eo18,gb18,gl18,cl18,HG18⟩:=Kd.R_form HO_108002.out (by omega);(first|cases eo18|(injection eo18 with ea_ en_ ec_;(first|subst ea_|(injection ea_ with ea_;subst ea_));subst ec_;clear en_));have GB18:=za gb18;have GG18:=za HG18;clear gb18 gl18 HG18;(first|simp only [add_plain] at hx109_0|skip);obtain ⟨hx18_0,hf18_0⟩:=Kd.R_celln 0 HO_108002.out (x12_1:Int) p18 q18;replace p18:=eq_true p18;replace q18:=eq_true q18;have HP21:=Kd.R_putn HO_108002.out (x12_1:Int) (Go.bits .or .i64 (rd x108002_2 x12_1) (ji17));rw [← Ny110.out] at HP21;have HQ21:=za HP21;clear HP21;refine start_ (n:=10) (S:=fun w'=>w'.cell? ⟨gb107,0,none⟩=some (.int .i64 t102)∧w'.cell? ⟨gb107,1,none⟩=some (.int .i64 t103)∧w'.cell? ⟨gb107,2,none⟩=some (.slice (some ⟨go18,0,none⟩) x108002_2.length co20)∧w'.cell? ⟨go18,(x12_1).toNat,none⟩=some (.int .i64 (rd x108002_2 x12_1))) (ds:=[9]) #[false,false,false,false,false,false,false,false,false,false] (by kernel_rfl) rfl rfl ⟨(zl BK107.out 0).trans rfl,(zl BK107.out 1).trans rfl,(zl BK107.out 2).trans rfl,hx109_0⟩ (fun hHeld=>?_);refine with_tabW impl_made_at_impl_DiagonalBoard_1.tab9 impl_made_at_impl_DiagonalBoard_1.bits9 (fun HT_ HW_=>?_);generalize wr.drew=w19 at HO_108002 BK101 BK107 HB GG18 HQ21 hf18_0 hx109_0 hx18_0 hHeld ⊢;refine pure_ (i:=0) (N:=some 23) (v:=?_) (a':=?_) #[true,false,false,false,false,false,false,false,false,false] rfl rfl (any_of HT_.out (by kernel_rfl)) (fun _ _ _ h=>h) (Or.inl ⟨by rfl,?_⟩) ?_ ?_;rotate_left
           · intro w';go_simp;with_reducible rfl
           rotate_left
           · simp only [Act.put,z0_,z1_,z2_,i64_w,i32_w];rfl
           refine pure_ (i:=2) (N:=some 25) (v:=?_) (a':=?_) #[true,false,true,false,false,false,false,false,false,false] rfl rfl (any_of HT_.out (by kernel_rfl)) (fun _ _ _ h=>h) (Or.inl ⟨by rfl,?_⟩) ?_ ?_;rotate_left
           · intro w';go_simp;with_reducible rfl
           rotate_left
           · simp only [Act.put,z0_,z1_,z2_,i64_w,i32_w];rfl
           refine pure_ (i:=5) (N:=some 28) (v:=?_) (a':=?_) #[true,false,true,false,false,true,false,false,false,false] rfl rfl (any_of HT_.out (by kernel_rfl)) (fun _ _ _ h=>h) (Or.inl ⟨by rfl,?_⟩) ?_ ?_;rotate_left
           · intro w';go_simp;with_reducible rfl
           rotate_left
           · simp only [Act.put,z0_,z1_,z2_,i64_w,i32_w];rfl
           refine pure_ (i:=6) (N:=some 29) (v:=?_) (a':=?_) #[true,false,true,false,false,true,true,false,false,false] rfl rfl (any_of HT_.out (by kernel_rfl)) (fun _ _ _ h=>h) (Or.inl ⟨by rfl,?_⟩) ?_ ?_;rotate_left
           · intro w';go_simp;with_reducible rfl
           rotate_left
           · simp only [Act.put,z0_,z1_,z2_,i64_w,i32_w];rfl
           refine take_ (i:=1) (N:=some 24) (v:=?_) (a':=?_) #[true,true,true,false,false,true,true,false,false,false] rfl rfl (take_ofW HT_.out HW_.out (by kernel_rfl)) (fun _ _ _ h=>h) (Or.inl ⟨by rfl,?_⟩) hHeld ?_ ?_;rotate_left
           · rintro w' ⟨s0,s1,s2,s3⟩;go_simp;with_reducible rfl
           rotate_left
           · simp only [Act.put,z0_,z1_,z2_,i64_w,i32_w];rfl
           refine pure_ (i:=3) (N:=some 26) (v:=?_) (a':=?_) #[true,true,true,true,false,true,true,false,false,false] rfl rfl (any_of HT_.out (by kernel_rfl)) (fun _ _ _ h=>h) (Or.inl ⟨by rfl,?_⟩) ?_ ?_;rotate_left
           · intro w';go_simp;with_reducible rfl
           rotate_left
           · simp only [Act.put,z0_,z1_,z2_,i64_w,i32_w];rfl
           refine take_ (i:=4) (N:=some 27) (v:=?_) (a':=?_) #[true,true,true,true,true,true,true,false,false,false] rfl rfl (take_ofW HT_.out HW_.out (by kernel_rfl)) (fun _ _ _ h=>h) (Or.inl ⟨by rfl,?_⟩) hHeld ?_ ?_;rotate_left
           · rintro w' ⟨s0,s1,s2,s3⟩;go_simp;with_reducible rfl
           rotate_left
           · simp only [Act.put,z0_,z1_,z2_,i64_w,i32_w];rfl
           refine pure_ (i:=7) (N:=some 30) (v:=?_) (a':=?_) #[true,true,true,true,true,true,true,true,false,false] rfl rfl (any_of HT_.out (by kernel_rfl)) (fun _ _ _ h=>h) (Or.inl ⟨by rfl,?_⟩) ?_ ?_;rotate_left
           · intro w';go_simp;with_reducible rfl
           rotate_left
           · simp only [Act.put,z0_,z1_,z2_,i64_w,i32_w];rfl
           refine pure_ (i:=8) (N:=some 31) (v:=?_) (a':=?_) #[true,true,true,true,true,true,true,true,true,false] rfl rfl (any_of HT_.out (by kernel_rfl)) (fun _ _ _ h=>h) (Or.inl ⟨by rfl,?_⟩) ?_ ?_;rotate_left
           · intro w';go_simp;with_reducible rfl
           rotate_left
           · simp only [Act.put,z0_,z1_,z2_,i64_w,i32_w];rfl
           refine last_ (i:=9) (N:=none) #[true,true,true,true,true,true,true,true,true,true] rfl rfl (one_of HT_.out (by kernel_rfl)) (by decide) (fun K hK=>?_);refine skip_ (w1:=?_) (by rfl) rfl ?_ ?_;rotate_left
           · go_simp;rfl
           refine hK.out _ _ ?_;clear hK K;refine done_ (done_of HT_.out (by kernel_rfl)) ?_;(try go_wp2);(go_roundg k2);(case measure=>have:=HK1.out;have:=HK2.out;omega);case rel=>exact ⟨(wrap64 (x16_2 + 1)),(y110),(.slice (some ⟨go18,0,none⟩) x108002_2.length co20),(by first|rfl|(simp;done)|(simp [*];done)),H',⟨by have:=HK1.out;have:=HK2.out;omega⟩,⟨by (with_reducible repeat (first|apply zg|apply zh|apply zf));exact HQ21.out⟩,⟨by (with_reducible repeat (first|refine zd ?_ _|refine zb ?_|refine ze ?_ _));refine zs ?_ (by have h_:=Kd.R_ne HO_108002.out BK101.out (by decide);intro e_;exact h_ (by rw [e_];rfl)) _;(with_reducible repeat (first|refine zd ?_ _|refine zb ?_|refine ze ?_ _));exact BK101.out⟩,⟨by (with_reducible repeat (first|refine zd ?_ _|refine zb ?_|refine ze ?_ _));refine zs ?_ (by have h_:=Kd.R_ne HO_108002.out BK107.out (by decide);intro e_;exact h_ (by rw [e_];rfl)) _;(with_reducible repeat (first|refine zd ?_ _|refine zb ?_|refine ze ?_ _));exact BK107.out⟩,⟨by repeat (first|(with_reducible first|exact HB.out|apply zj|apply zk|apply zi|refine zc ?_ GB18.out|refine zc ?_ GE101.out|refine zc ?_ GE107.out)|exact HB.out)⟩⟩
          · rw [if_neg c16] at H;exact absurd H (by simp)
         · rw [if_neg c15] at H;exact absurd H (by simp)
        · rw [if_neg c14] at H;exact absurd H (by simp)
       · replace c13:=Bool.eq_false_iff.mpr c13;subst c13;(have H1:(impl_made_at_impl_DiagonalBoard_1.l1 k2 a0 x12_1 a0 x12_1 a0 (wrap64 (x16_2 + 1)) t102 t103 x108002_2)=some (r1,r2,r3):=by rw [if_neg (show ¬ (false=true) by decide)] at H;exact H);clear H;have H:=H1;clear H1;have H':=za H;clear H;(go_wp2_with (first|(go_at_call 106;(with_reducible refine (impl_DiagonalBoard_1.calls x12_1 x16_2 false _ A12.out).mono ?_);rintro e w' ⟨rfl,⟨nd,rfl⟩⟩)));(go_roundg k2);(case measure=>have:=HK1.out;have:=HK2.out;omega);case rel=>exact ⟨(wrap64 (x16_2 + 1)),(x108002_2),(u108002),(by first|rfl|(simp;done)|(simp [*];done)),H',⟨by have:=HK1.out;have:=HK2.out;omega⟩,⟨by (with_reducible repeat (first|apply zg|apply zh|apply zf));exact HO_108002.out⟩,⟨by (with_reducible repeat (first|refine zd ?_ _|refine zb ?_|refine ze ?_ _));exact BK101.out⟩,⟨by (with_reducible repeat (first|refine zd ?_ _|refine zb ?_|refine ze ?_ _));exact BK107.out⟩,⟨by repeat (first|(with_reducible first|exact HB.out|apply zj|apply zk|apply zi|refine zc ?_ GE101.out|refine zc ?_ GE107.out)|exact HB.out)⟩⟩
      · rw [if_neg c11] at H;have c11b0:decide (x16_2 < a0)=false:=decide_eq_false c11;clear c11;have H':=za H;clear H;(go_wp2);(go_roundg k2);(case measure=>have:=HK1.out;have:=HK2.out;omega);case rel=>exact ⟨(wrap64 (x12_1 + 1)),(x108002_2),(u108002),(by first|rfl|(simp;done)|(simp [*];done)),H',⟨by have:=HK1.out;have:=HK2.out;omega⟩,⟨by (with_reducible repeat (first|apply zg|apply zh|apply zf));exact HO_108002.out⟩,⟨by (with_reducible repeat (first|refine zd ?_ _|refine zb ?_|refine ze ?_ _));exact BK101.out⟩,⟨by (with_reducible repeat (first|refine zd ?_ _|refine zb ?_|refine ze ?_ _));exact BK107.out⟩,⟨by repeat (first|(with_reducible first|exact HB.out|apply zj|apply zk|apply zi|refine zc ?_ GE101.out|refine zc ?_ GE107.out)|exact HB.out)⟩⟩
   · rw [if_neg c10] at H;have c10b0:decide (x12_1 < a0)=false:=decide_eq_false c10;clear c10;simp only [Option.some.injEq,Prod.mk.injEq] at H;obtain ⟨rfl,rfl,rfl⟩:=H;have hnb22:=NB107_101.out;have hnc22:=NB101_107.out;have hcz23_0:wr.cell? ⟨gb107,0,none⟩=some (.int .i64 t102):=(zl BK107.out 0).trans rfl;have hcz23_1:wr.cell? ⟨gb107,1,none⟩=some (.int .i64 t103):=(zl BK107.out 1).trans rfl;have hcz23_2:wr.cell? ⟨gb107,2,none⟩=some (u108002):=(zl BK107.out 2).trans rfl;have hfz23_0:=zm BK107.out 0;have hfz23_1:=zm BK107.out 1;have hfz23_2:=zm BK107.out 2;have hcz24_0:wr.cell? ⟨gb101,0,none⟩=some (.int .i64 0):=(zl BK101.out 0).trans rfl;have hcz24_1:wr.cell? ⟨gb101,1,none⟩=some (.int .i64 0):=(zl BK101.out 1).trans rfl;have hcz24_2:wr.cell? ⟨gb101,2,none⟩=some (.slice none 0 0):=(zl BK101.out 2).trans rfl;have hfz24_0:=zm BK101.out 0;have hfz24_1:=zm BK101.out 1;have hfz24_2:=zm BK101.out 2;obtain ⟨Ao25,co25,eo25⟩:=Kd.R_slice HO_108002.out;subst eo25;(go_wp2);refine bodyPost_ret (results_cell_row rfl _ _ gb101 43 #[.int .i64 t102,.int .i64 t103,.slice Ao25 x108002_1.length co25] (0,0) _ rfl (by (with_reducible repeat (first|refine zd ?_ _|refine zb ?_|refine ze ?_ _));refine blk_put (cs:=#[.int .i64 t102,.int .i64 t103,.slice none 0 0]) ?_ 2 _ rfl;(with_reducible repeat (first|refine zd ?_ _|refine zb ?_|refine ze ?_ _));refine blk_put (cs:=#[.int .i64 t102,.int .i64 0,.slice none 0 0]) ?_ 1 _ rfl;(with_reducible repeat (first|refine zd ?_ _|refine zb ?_|refine ze ?_ _));refine blk_put (cs:=#[.int .i64 0,.int .i64 0,.slice none 0 0]) ?_ 0 _ rfl;(with_reducible repeat (first|refine zd ?_ _|refine zb ?_|refine ze ?_ _));exact BK101.out) Try.underlying43 rfl (by kernel_rfl)) rfl ?_;exact ⟨_,by first|rfl|simp [*,errW_none,errW_some] <;> rfl,by (with_reducible repeat (first|apply zg|apply zh|apply zf));exact zp (zn (p:=⟨gb101,2,none⟩) (zn (p:=⟨gb101,1,none⟩) (zn (p:=⟨gb101,0,none⟩) (zw HO_108002.out BK101.out (by decide)) (fun _ hk=>hk.2) (.int .i64 t102)) (fun _ hk=>hk.2) (.int .i64 t103)) (fun _ hk=>hk.2) (.slice Ao25 x108002_1.length co25)) (fun _ hk=>trivial),by repeat (first|(with_reducible first|exact HB.out|apply zj|apply zk|apply zi|refine zc ?_ GE101.out|refine zc ?_ GE107.out)|exact HB.out)⟩
end Go.Proofs.Ytiopnmgcajohfaa.Q
end
section
namespace Go.Proofs.Ytiopnmgcajohfaa.Q
open Go.RowKit Go.Proofs.YtiopnmgcajohfaaW.PrintWords Go.Proofs.YtiopnmgcajohfaaW.PrintLast Go.Proofs.YtiopnmgcajohfaaW.PrintMore
attribute [local go_sem] max2_int min2_int max_two min_two max_three min_three max_four min_four   -- for this text's walks alone
set_option linter.unusedVariables false
set_option linter.unusedSimpArgs false
def impl_DiagonalBoard.f (k:Nat) (a0:Int):Option (Int × Int × List Int × Bool):=(impl_isSide.f a0).bind fun t102=>(if t102=true then ((impl_made_at_impl_DiagonalBoard_1.f k a0).bind fun bt103=>(some (bt103.1,bt103.2.1,bt103.2.2,true))) else (some (0,0,([]:List Int),false)))
theorem impl_DiagonalBoard.mono:∀ a0 k,LeO (impl_DiagonalBoard.f k a0) (impl_DiagonalBoard.f (k + 1) a0):=by
 intro a0 k;unfold impl_DiagonalBoard.f
 repeat' first
  |(with_reducible exact impl_made_at_impl_DiagonalBoard_1.mono _ _)
  |(with_reducible exact LeO.refl _)
  |(with_reducible exact LeO.none _)
  |(with_reducible refine LeO.ite ?_ ?_)
  |(with_reducible refine LeO.bind ?_ (fun _=>?_))
  |exact impl_made_at_impl_DiagonalBoard_1.mono _ _
  |exact LeO.none _
  |refine LeO.ite ?_ ?_
  |refine LeO.bind ?_ (fun _=>?_)
set_option maxHeartbeats 8000000 in
set_option maxRecDepth 100000 in
theorem impl_DiagonalBoard.calls (k:Nat) (a0:Int) (r1:Int) (r2:Int) (r3:List Int) (r4:Bool) (w:World) (h:impl_DiagonalBoard.f k a0=some (r1,r2,r3,r4)) :
  Calls Try.prog 42 #[.int .i64 a0] w fun e w'=>∃ v2_:Value,e=.returned (.tuple #[.agg #[.int .i64 r1,.int .i64 r2,v2_],.bool r4])∧Kd.R (Kd.int .i64) 3 w' w.heap.size (fun _=>True) v2_ r3∧Below w.heap.size w w':=by
 have hu43:=Try.underlying43;have HB:=za (Below.refl w.heap.size w);have H:((impl_isSide.f a0).bind fun t102=>(if t102=true then ((impl_made_at_impl_DiagonalBoard_1.f k a0).bind fun bt103=>(some (bt103.1,bt103.2.1,bt103.2.2,true))) else (some (0,0,([]:List Int),false))))=some (r1,r2,r3,r4):=h;clear h;obtain ⟨t102,A2,H⟩:=bindAside H;(try dsimp only at H);by_cases c3:t102=true
 · subst c3;(have H1:((impl_made_at_impl_DiagonalBoard_1.f k a0).bind fun bt103=>(some (bt103.1,bt103.2.1,bt103.2.2,true)))=some (r1,r2,r3,r4):=by rw [if_pos rfl] at H;exact H);clear H;have H:=H1;clear H1;obtain ⟨⟨t103,t104,t105⟩,A4,H⟩:=bindAside H;(try dsimp only at H);simp only [Option.some.injEq,Prod.mk.injEq] at H;obtain ⟨rfl,rfl,rfl,rfl⟩:=H;(go_enter Try.func42,Try.ntmps42);(go_wp2_with (first|((with_reducible refine gate_dst (N:=2) rfl ?_);refine box_event ?hg (N:=2) ?hd (cs:=#[.int .i64 0,.int .i64 0,.slice none 0 0]) (t:=43) ?hr ?_;(case hd=>rfl);(case hg=>rfl);(case hr=>first|(go_simp;done)|(go_simp;rfl));intro gb101 hg w5 hbox hb;have BK101:=za (hbox);have GW101:=za ((by rw [hg];exact (zq (by repeat (first|(with_reducible first|exact HB.out|apply zj|apply zk|apply zi)|exact HB.out))):w.heap.size≤gb101));have GE101:=za ((by rw [hg];exact (zq (by repeat (first|(with_reducible first|exact HB.out|apply zj|apply zk|apply zi)|exact HB.out))):w.heap.size≤gb101));replace HB:=za (zu (by repeat (first|(with_reducible first|exact HB.out|apply zj|apply zk|apply zi)|exact HB.out)) hb);clear hb hbox hg)|((with_reducible refine zt (f:=104) rfl ?_);refine goesL_ (some 5) rfl rfl Try.func104 (by kernel_rfl) rfl #[.int .i64 a0] rfl (by first|rfl|simp only [z3_,z4_,z5_];try rfl) ?_;(with_reducible refine (impl_isSide.calls a0 true _ A2.out).mono ?_);rintro e w' ⟨rfl,⟨nd,rfl⟩⟩;refine ⟨_,rfl,?_⟩;(try (rw [drewN_self w5];generalize hq_:World.drewN w5 _=w5;have n0_:Aside0 (w5.heap[gb101]?=some (.cells #[.int .i64 0,.int .i64 0,.slice none 0 0] 43 (0,0))):=⟨by rw [← hq_];exact (by apply_rules only [BK101.out,zd,zb,ze])⟩;have n1_:Aside0 (Below w.heap.size w w5):=⟨by rw [← hq_];exact (by repeat (first|(with_reducible first|exact HB.out|apply zj|apply zk|apply zi|refine zc ?_ GE101.out)|exact HB.out))⟩;clear BK101 HB hq_;have BK101:=n0_;have HB:=n1_;clear n0_ n1_)))|((with_reducible refine zt (f:=105) rfl ?_);refine goesL_ (some 9) rfl rfl Try.func105 (by kernel_rfl) rfl #[.int .i64 a0,.func (.func 106) #[] #[]] rfl (by first|rfl|simp only [z3_,z4_,z5_];try rfl) ?_;(with_reducible refine (impl_made_at_impl_DiagonalBoard_1.calls k a0  t103 t104 t105 _ A4.out).mono ?_);rintro e w6 ⟨v106,rfl,ho0,hb⟩;refine ⟨_,rfl,?_⟩;have HO107:=za (Kd.R_lower ho0 (zq (by repeat (first|(with_reducible first|exact HB.out|apply zj|apply zk|apply zi|refine zc ?_ GE101.out)|exact HB.out))));replace BK101:=za (zo (g:=gb101) (o:=.cells #[.int .i64 0,.int .i64 0,.slice none 0 0] 43 (0,0)) (by apply_rules only [BK101.out,zd,zb,ze]) hb);replace HB:=za (zu (by repeat (first|(with_reducible first|exact HB.out|apply zj|apply zk|apply zi|refine zc ?_ GE101.out)|exact HB.out)) hb);have hcz7_0:w6.cell? ⟨gb101,0,none⟩=some (.int .i64 0):=(zl BK101.out 0).trans rfl;have hcz7_1:w6.cell? ⟨gb101,1,none⟩=some (.int .i64 0):=(zl BK101.out 1).trans rfl;have hcz7_2:w6.cell? ⟨gb101,2,none⟩=some (.slice none 0 0):=(zl BK101.out 2).trans rfl;have hfz7_0:=zm BK101.out 0;have hfz7_1:=zm BK101.out 1;have hfz7_2:=zm BK101.out 2;obtain ⟨Ao8,co8,eo8⟩:=Kd.R_slice HO107.out;subst eo8)));refine bodyPost_ret (results_ct rfl _ _ gb101 43 #[.int .i64 t103,.int .i64 t104,.slice Ao8 t105.length co8] (0,0) _ rfl (by (with_reducible repeat (first|refine zd ?_ _|refine zb ?_|refine ze ?_ _));refine blk_put (cs:=#[.int .i64 t103,.int .i64 t104,.slice none 0 0]) ?_ 2 _ rfl;(with_reducible repeat (first|refine zd ?_ _|refine zb ?_|refine ze ?_ _));refine blk_put (cs:=#[.int .i64 t103,.int .i64 0,.slice none 0 0]) ?_ 1 _ rfl;(with_reducible repeat (first|refine zd ?_ _|refine zb ?_|refine ze ?_ _));refine blk_put (cs:=#[.int .i64 0,.int .i64 0,.slice none 0 0]) ?_ 0 _ rfl;(with_reducible repeat (first|refine zd ?_ _|refine zb ?_|refine ze ?_ _));exact BK101.out) Try.underlying43 rfl (by kernel_rfl)) rfl ?_;exact ⟨_,by first|rfl|simp [*,errW_none,errW_some] <;> rfl,by (with_reducible repeat (first|apply zg|apply zh|apply zf));exact zp (zn (p:=⟨gb101,2,none⟩) (zn (p:=⟨gb101,1,none⟩) (zn (p:=⟨gb101,0,none⟩) (zw HO107.out BK101.out (by decide)) (fun _ hk=>hk.2) (.int .i64 t103)) (fun _ hk=>hk.2) (.int .i64 t104)) (fun _ hk=>hk.2) (.slice Ao8 t105.length co8)) (fun _ hk=>trivial),by repeat (first|(with_reducible first|exact HB.out|apply zj|apply zk|apply zi|refine zc ?_ GE101.out)|exact HB.out)⟩
 · replace c3:=Bool.eq_false_iff.mpr c3;subst c3;(have H1:(some (0,0,([]:List Int),false))=some (r1,r2,r3,r4):=by rw [if_neg (show ¬ (false=true) by decide)] at H;exact H);clear H;have H:=H1;clear H1;simp only [Option.some.injEq,Prod.mk.injEq] at H;obtain ⟨rfl,rfl,rfl,rfl⟩:=H;(go_enter Try.func42,Try.ntmps42);(go_wp2_with (first|((with_reducible refine gate_dst (N:=2) rfl ?_);refine box_event ?hg (N:=2) ?hd (cs:=#[.int .i64 0,.int .i64 0,.slice none 0 0]) (t:=43) ?hr ?_;(case hd=>rfl);(case hg=>rfl);(case hr=>first|(go_simp;done)|(go_simp;rfl));intro gb101 hg w9 hbox hb;have BK101:=za (hbox);have GW101:=za ((by rw [hg];exact (zq (by repeat (first|(with_reducible first|exact HB.out|apply zj|apply zk|apply zi)|exact HB.out))):w.heap.size≤gb101));have GE101:=za ((by rw [hg];exact (zq (by repeat (first|(with_reducible first|exact HB.out|apply zj|apply zk|apply zi)|exact HB.out))):w.heap.size≤gb101));replace HB:=za (zu (by repeat (first|(with_reducible first|exact HB.out|apply zj|apply zk|apply zi)|exact HB.out)) hb);clear hb hbox hg)|((with_reducible refine zt (f:=104) rfl ?_);refine goesL_ (some 5) rfl rfl Try.func104 (by kernel_rfl) rfl #[.int .i64 a0] rfl (by first|rfl|simp only [z3_,z4_,z5_];try rfl) ?_;(with_reducible refine (impl_isSide.calls a0 false _ A2.out).mono ?_);rintro e w' ⟨rfl,⟨nd,rfl⟩⟩;refine ⟨_,rfl,?_⟩;(try (rw [drewN_self w9];generalize hq_:World.drewN w9 _=w9;have n0_:Aside0 (w9.heap[gb101]?=some (.cells #[.int .i64 0,.int .i64 0,.slice none 0 0] 43 (0,0))):=⟨by rw [← hq_];exact (by apply_rules only [BK101.out,zd,zb,ze])⟩;have n1_:Aside0 (Below w.heap.size w w9):=⟨by rw [← hq_];exact (by repeat (first|(with_reducible first|exact HB.out|apply zj|apply zk|apply zi|refine zc ?_ GE101.out)|exact HB.out))⟩;clear BK101 HB hq_;have BK101:=n0_;have HB:=n1_;clear n0_ n1_));have hcz10_0:w9.cell? ⟨gb101,0,none⟩=some (.int .i64 0):=(zl BK101.out 0).trans rfl;have hcz10_1:w9.cell? ⟨gb101,1,none⟩=some (.int .i64 0):=(zl BK101.out 1).trans rfl;have hcz10_2:w9.cell? ⟨gb101,2,none⟩=some (.slice none 0 0):=(zl BK101.out 2).trans rfl;have hfz10_0:=zm BK101.out 0;have hfz10_1:=zm BK101.out 1;have hfz10_2:=zm BK101.out 2)));refine bodyPost_ret (results_ct rfl _ _ gb101 43 #[.int .i64 0,.int .i64 0,.slice none 0 0] (0,0) _ rfl (by (with_reducible repeat (first|refine zd ?_ _|refine zb ?_|refine ze ?_ _));refine blk_put (cs:=#[.int .i64 0,.int .i64 0,.slice none 0 0]) ?_ 2 _ rfl;(with_reducible repeat (first|refine zd ?_ _|refine zb ?_|refine ze ?_ _));refine blk_put (cs:=#[.int .i64 0,.int .i64 0,.slice none 0 0]) ?_ 1 _ rfl;(with_reducible repeat (first|refine zd ?_ _|refine zb ?_|refine ze ?_ _));refine blk_put (cs:=#[.int .i64 0,.int .i64 0,.slice none 0 0]) ?_ 0 _ rfl;(with_reducible repeat (first|refine zd ?_ _|refine zb ?_|refine ze ?_ _));exact BK101.out) Try.underlying43 rfl (by kernel_rfl)) rfl ?_;exact ⟨_,by first|rfl|simp [*,errW_none,errW_some] <;> rfl,by first|exact Kd.R_nil _ _ _ _ _|exact Kd.N_nil _ _ _ _ _|exact Kd.V_nil _ _ _ _ _|exact Kd.Q_nil _ _ _ _ _|exact Kd.S_nil _ _ _ _ _,by repeat (first|(with_reducible first|exact HB.out|apply zj|apply zk|apply zi|refine zc ?_ GE101.out)|exact HB.out)⟩
end Go.Proofs.Ytiopnmgcajohfaa.Q
end
