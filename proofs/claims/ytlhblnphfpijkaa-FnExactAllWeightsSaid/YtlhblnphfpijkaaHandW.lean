/- What the program's weights answers for lengths: the table of placements by rooks and free cells. No conditions. -/
import Derived.Test.YtlhblnphfpijkaaWalkW
import Derived.Test.YtlhblnphfpijkaaBag
import Derived.Test.YtlhblnphfpijkaaQimplboardOf
namespace Go.Proofs.Ytlhblnphfpijkaa.Q
set_option linter.unusedVariables false
open Go.RowKit Go.Proofs.YtlhblnphfpijkaaW.PrintWords Go.Proofs.YtlhblnphfpijkaaW.PrintLast Go.Proofs.YtlhblnphfpijkaaW.PrintMore
open Go.Proofs.YtlhblnphfpijkaaL Go.Proofs.Ytlhblnphfpijkaa.LawK Go.Proofs.Ytlhblnphfpijkaa.BoardK Go.Proofs.Ytlhblnphfpijkaa.Walk Go.Proofs.Ytlhblnphfpijkaa.LensK Go.Proofs.Ytlhblnphfpijkaa.FreeK Go.Proofs.Ytlhblnphfpijkaa.BagK
def impl_weights.f (l0 : List Int) : Option (List (List Int)) := if lenB l0 = true then some (wtab l0) else none
/-- The blocks that the table may have. -/
def OkW (n : Nat) (S : Nat → Prop) (gl go ab i : Nat) : Prop := n ≤ i ∧ ¬ S i ∧ i ≠ gl ∧ i ≠ go ∧ i ≠ ab
/-- What holds while the placements are told. -/
structure WInv (gl go g c1 ab cb : Nat) (l : List Int) (A0 : Option Addr) (c0 : Nat) (w0 W : World) (S : Nat → Prop) (vis : List (List Int)) (w : World) : Prop where
  cl : w.heap[gl]? = some (.cells #[.slice A0 l.length c0] 22 (0, 0))
  o : w.heap[go]? = some (.cells #[.slice (some ⟨g, 0, none⟩) (l.length + 1) c1] 23 (0, 0))
  b : Kd.R (Kd.int .i64) 3 w 0 (fun i => i = ab) (.slice (some ⟨ab, 0, none⟩) l.length cb) (rowsOf l)
  r : Kd.S (Kd.slice 3 (Kd.int .i64)) 22 w w0.heap.size (OkW w0.heap.size S gl go ab) (.slice (some ⟨g, 0, none⟩) (l.length + 1) c1) (vis.foldl (tab l) (List.replicate (l.length + 1) []))
  B : Below w0.heap.size w0 w
  s : ∀ i, S i → W.heap.size ≤ i
theorem allFree_bd (p : List Int) : ∀ (l : List Int) (i : Nat) (n : Int), (∀ x ∈ l, x ≤ 6) → n ≤ allFree p l i n ∧ allFree p l i n ≤ n + 6 * l.length
  | [], i, n, _ => by simp [allFree]
  | m :: t, i, n, h => by
    have h1 := rowFree_bound p i m.toNat 0 n
    have h2 := allFree_bd p t (i + 1) (rowFree p i m.toNat 0 n) (fun x hx => h x (List.mem_cons_of_mem _ hx))
    have h3 := h m List.mem_cons_self
    rw [allFree, List.length_cons]
    omega
theorem two_ev {α β : Type} {f : Nat → Option α} {g : Nat → Option β} {a : α} {b : β} (h : Ev f a) (k : Ev g b) : ∃ n, f n = some a ∧ g n = some b := by
  obtain ⟨K, h⟩ := h
  obtain ⟨K', k⟩ := k
  exact ⟨max K K', h _ (by omega), k _ (by omega)⟩
theorem rowsOf_bits {l : List Int} (h : lenB l = true) : ∀ i (hi : i < (rowsOf l).length), 0 ≤ (rowsOf l)[i] ∧ (rowsOf l)[i] < 2 ^ l.length := by
  obtain ⟨h1, h2, h3⟩ := len_of h
  intro i hi
  have hi2 : i < l.length := by simpa [rowsOf] using hi
  have h4 := h3 i hi2
  have e : (rowsOf l)[i] = 2 ^ l[i].toNat - 1 := by simp [rowsOf]
  have h5 : 2 ^ l[i].toNat ≤ 2 ^ l.length := Nat.pow_le_pow_right (by decide) (by omega)
  have h6 : 0 < 2 ^ l[i].toNat := Nat.two_pow_pos _
  have h7 : ((2 ^ l[i].toNat : Nat) : Int) = 2 ^ l[i].toNat := by simp
  have h8 : ((2 ^ l.length : Nat) : Int) = 2 ^ l.length := by simp
  rw [e]
  omega
set_option maxHeartbeats 8000000 in
set_option maxRecDepth 100000 in
theorem impl_weights.calls (A0 : Option Addr) (c0 : Nat) (l0 : List Int) (r : List (List Int)) (w : World) (hr0 : Kd.C (Kd.int .i64) w A0 l0.length l0) (hc0 : l0.length ≤ c0) (h : impl_weights.f l0 = some r) :
    Calls Try.prog 82 #[.slice A0 l0.length c0] w fun e w' => ∃ v0_ : Value, e = .returned (v0_) ∧ Kd.S (Kd.slice 3 (Kd.int .i64)) 22 w' w.heap.size (fun _ => True) v0_ r ∧ Below w.heap.size w w' := by
  by_cases hs : lenB l0 = true
  rotate_left
  · rw [impl_weights.f, if_neg hs] at h; cases h
  rw [impl_weights.f, if_pos hs] at h
  have h := Option.some.inj h
  obtain ⟨h1, h6, h3⟩ := len_of hs
  have hx6 : ∀ x ∈ l0, x ≤ 6 := fun x hx => by obtain ⟨i, hi, rfl⟩ := List.mem_iff_getElem.1 hx; have := h3 i hi; omega
  have rl : (rowsOf l0).length = l0.length := by simp [rowsOf]
  obtain ⟨kb, hkb⟩ := (impl_board hs).rounds
  have CB := Lib.hid (fun (W : World) (hb : Below w.heap.size w W) => by
    have := impl_boardOf.calls kb A0 c0 l0 _ _ _ W (Kd.C_below hr0 hb) hc0 hkb
    exact this)
  have KEY : ∀ (W : World) (gl go g c1 ab cb : Nat), Below w.heap.size w W → w.heap.size ≤ gl → w.heap.size ≤ go → gl < W.heap.size → go < W.heap.size → ab < W.heap.size → gl ≠ go → gl ≠ ab → go ≠ ab → l0.length ≤ cb → 
      WInv gl go g c1 ab cb l0 A0 c0 w W (fun _ => False) [] W →
      Calls Try.prog 112 #[.agg #[.int .i64 (l0.length : Int), .int .i64 (l0.length : Int), .slice (some ⟨ab, 0, none⟩) l0.length cb], .func (.func 113) #[] #[.pointer (some ⟨gl, 0, none⟩), .pointer (some ⟨go, 0, none⟩)]] W fun e w' => e = .returned (.tuple #[]) ∧
        ∃ v, w'.heap[go]? = some (.cells #[v] 23 (0, 0)) ∧ Kd.S (Kd.slice 3 (Kd.int .i64)) 22 w' w.heap.size (fun _ => True) v r ∧ Below w.heap.size w w' := by
    intro W gl go g c1 ab cb hBW bl bo ll lo lb nlo nla noa hcb hst
    have key := WalkW.walk_calls (WInv gl go g c1 ab cb l0 A0 c0 w W)
      (by
        intro S vis w1 w2 hi hs1
        have kp : ∀ g, g < W.heap.size → ∀ {o}, w1.heap[g]? = some o → w2.heap[g]? = some o := fun g hg o ho => (hs1.kept.2 g (blk_lt ho) (fun h => by have := hi.s g h; omega)).trans ho
        exact ⟨kp gl ll hi.cl, kp go lo hi.o, Kd.R_step hi.b (fun i hi' hlt => by subst hi'; exact hs1.kept.2 _ hlt (fun h => by have := hi.s _ h; omega)), Kd.S_step hi.r (fun i hi' hlt => hs1.kept.2 i hlt hi'.2.1), Still.below hi.B hs1 (fun i h => Nat.le_trans hBW.size (hi.s i h)), hi.s⟩)
      l0.length l0.length l0.length l0.length rfl rfl (rowsOf l0) (some ⟨ab, 0, none⟩) cb (by rw [rl]; exact hcb) (.pointer (some ⟨gl, 0, none⟩)) (.pointer (some ⟨go, 0, none⟩))
      (fun S vis w1 hi => by have := (Kd.R_reads' hi.b).2.2; exact this)
      rl h1 h6 h6 (rowsOf_bits hs) W
      (by
        intro S w1 hS hB1
        exact ⟨blk_below hst.cl hB1, blk_below hst.o hB1, Kd.R_below hst.b hB1, Kd.S_below (Kd.S_mono (Kd.S_bound hst.r) (fun i hi' => ⟨hi'.1.1, fun h => by have := hS i h; have := hi'.2.2.1; omega, hi'.1.2.2⟩)) hB1, hBW.trans (hB1.mono hBW.size), hS⟩)
      (by
        intro S vis ps w1 a cp hS hSlt hps hmem hSa hC hcp hi
        obtain ⟨b, hb2⟩ := hmem
        have hwl := ways_len6 hs
        rw [hb2, List.length_append, List.length_cons] at hwl
        have hvp : ∀ p ∈ vis, rooksN p ≤ l0.length := fun p hp => by
          obtain ⟨s, e1, e2⟩ := ways_pre (rowsOf l0) l0.length l0.length 0 0 [] p (by rw [hb2]; exact List.mem_append_left _ hp)
          have := rooksN_le p
          rw [e1, List.nil_append] at this ⊢
          omega
        have hT := RepT.fold (n := l0.length) (l := l0) vis (RepT.start l0.length) hvp (by simp; omega)
        rw [List.nil_append] at hT
        have hrk := rooksN_le ps
        have hfb := allFree_bd ps l0 0 0 hx6
        obtain ⟨eI, heI⟩ : ∃ eI : Nat, allFree ps l0 0 0 = eI := ⟨(allFree ps l0 0 0).toNat, by omega⟩
        have hev1 : Ev (fun k => impl_rooks.f k ps) (rooksN ps : Int) := by
          have h := rooks_l0 (l := ps) (by omega) ps.length 0 0 (by omega) (by omega)
          rw [List.drop_zero, Nat.zero_add] at h
          exact h
        have hev2 : Ev (fun k => impl_free.f k l0 ps) (eI : Int) := by
          have h := impl_rows (l := l0) (p := ps) h6 (fun i hi => by have := h3 i hi; omega) hps l0.length 0 0 (by omega) (by omega) (by omega)
          rw [List.drop_zero, heI] at h
          exact h
        obtain ⟨kk, hk1, hk2⟩ := two_ev hev1 hev2
        have hir := hi.r
        have hio := hi.o
        obtain ⟨out, hout⟩ : ∃ out, out = vis.foldl (tab l0) (List.replicate (l0.length + 1) []) := ⟨_, rfl⟩
        rw [← hout] at hT hir
        have hlen := hT.len
        have hkl : rooksN ps < out.length := by omega
        have hrow : out[rooksN ps]? = some (out.getD (rooksN ps) []) := by
          rw [List.getD_eq_getElem?_getD, List.getElem?_eq_getElem hkl]; rfl
        have hrep := hT.rep (rooksN ps) (by omega)
        have hshort : (out.getD (rooksN ps) []).length ≤ 1000 := by
          rcases Nat.eq_zero_or_pos (out.getD (rooksN ps) []).length with q | q
          · omega
          · have hne := hrep.last ((out.getD (rooksN ps) []).length - 1) (by omega)
            have hin := List.count_pos_iff.1 (Nat.pos_of_ne_zero hne)
            obtain ⟨p, hp, hpe⟩ := List.mem_map.1 hin
            have hpb := allFree_bd p l0 0 0 hx6
            unfold keyFrom at hpe
            rw [List.drop_zero] at hpe
            have := congrArg Prod.snd hpe
            simp only [] at this
            omega
        have hlo : l0.length + 1 = out.length := hlen.symm
        rw [hlo] at hio hir
        have hww : w.heap.size ≤ w1.heap.size := hi.B.size
        refine (W1.w1_calls (rooksN ps) eI l0.length cp a gl go w.heap.size kk g c1 l0 ps out A0 c0 _ (OkW w.heap.size S gl go ab) w1 hps hcp hc0 hC (Kd.C_below hr0 hi.B) hi.cl hio (fun k h => h.2.2.2.1) hww (fun k hk' => ⟨Nat.le_trans hww hk', fun h => by have := hSlt k h; omega, fun h => by have := blk_lt hi.cl; omega, fun h => by have := blk_lt hi.o; omega, fun h => by obtain ⟨cells, hc⟩ := Kd.R_typed hi.b ab rfl; have := blk_lt hc; omega⟩) hir hkl (by omega) hrow hshort (by omega) hk1 hk2).mono ?_
        rintro e w2 ⟨rfl, hS2, hK, hB2⟩
        refine ⟨rfl, ⟨blk_kept hi.cl hK (fun h => h.2.2.1 rfl), blk_kept hi.o hK (fun h => h.2.2.2.1 rfl), Kd.R_step hi.b (fun i hi' hlt => by subst hi'; exact hK.2 _ hlt (fun h => h.2.2.2.2 rfl)), ?_, hi.B.trans hB2, hi.s⟩, fun i hSi hlt => hK.2 i hlt (fun h => h.2.1 hSi)⟩
        rw [List.foldl_append, List.foldl_cons, List.foldl_nil, ← hout]
        rw [← hlo] at hS2
        unfold tab
        rw [heI]
        exact hS2)
    rw [rl] at key
    refine key.mono ?_
    rintro e w' ⟨rfl, S, hS, hi⟩
    exact ⟨rfl, _, hi.o, by rw [← h]; exact Kd.S_mono hi.r (fun _ _ => trivial), hi.B⟩
  have KX := Lib.hid KEY
  have HL := Aside0.mk (And.intro h1 (And.intro h6 rl))
  obtain ⟨ji, hji⟩ : ∃ j_ : Int, (wrap64 ((l0.length : Int) + 1)) = j_ := ⟨_, rfl⟩
  have hjiw : (IntKind.i64.wrap ((l0.length : Int) + 1)) = ji := (i64_w _).trans hji
  have hj2 : ji = ((l0.length + 1 : Nat) : Int) := by rw [← hji, w64 (by omega) (by omega)]; rfl
  have HJ := Aside0.mk hj2
  have hj0 : decide (0 ≤ ji) = true := decide_eq_true (by omega)
  clear KEY h hs h1 h6 h3 hx6 rl hkb hr0 hc0 hj2 hji
  have hu79 := Try.underlying79
  go_enter Try.func82, Try.ntmps82
  go_wp2_with (first
    | ((with_reducible refine gate_dst (N := 1) rfl ?_); refine box_event ?hg (N := 1) ?hd (cs := #[.slice A0 l0.length c0]) (t := 22) ?hr ?_; (case hd => rfl); (case hg => rfl); (case hr => first | (go_simp; done) | (go_simp; rfl)); intro gl hg w1 hbox hb; have G1 := Aside0.mk hg; have K1 := Aside0.mk hbox; have B1 := Aside0.mk hb; clear hg hbox hb; have z1 : w1.cell? ⟨gl, 0, none⟩ = some (.slice A0 l0.length c0) := (blk_cell K1.out 0).trans rfl)
    | ((with_reducible refine gate_dst (N := 7) rfl ?_); refine Kd.S_make (Kd.slice 3 (Kd.int .i64)) _ 22 rfl (N := 7) rfl 23 _ _ rfl ji rfl rfl Try.underlying23 (.slice none 0 0) 24 info22 rfl (by decide) (by omega) [] (ok := fun _ => True) (okp := fun _ => True) ⟨_, rfl, Kd.R_nil _ _ _ _ _⟩ (fun _ hk => hk) trivial (by have := HJ.out; omega) (by have := HJ.out; have := HL.out; omega) (Below.refl _ _) (Nat.le_refl _) ?_; intro v2 w2 ho hb hg_ hnew_; clear hg_ hnew_; rw [HJ.out, Int.toNat_natCast] at ho; obtain ⟨g, c1, ev2, hg1, hg2, cells2, hc2⟩ := Kd.S_form ho (by rw [List.length_replicate]; omega); rw [List.length_replicate] at ev2; subst ev2; have G2 := Aside0.mk (And.intro hg1 hg2); have O2 := Aside0.mk ho; have K2 := Aside0.mk (blk_below K1.out hb); have B2 := Aside0.mk hb; clear hg1 hg2 hc2 ho hb)
    | ((with_reducible refine gate_dst (N := 3) rfl ?_); refine box_event ?hg (N := 3) ?hd (cs := #[.slice none 0 0]) (t := 23) ?hr ?_; (case hd => rfl); (case hg => rfl); (case hr => first | (go_simp; done) | (go_simp; rfl)); intro go hg w3 hbox hb; have G3 := Aside0.mk hg; have K3 := Aside0.mk hbox; have B3 := Aside0.mk hb; clear hg hbox hb; have y1 : w3.cell? ⟨go, 0, none⟩ = some (.slice none 0 0) := (blk_cell K3.out 0).trans rfl; have f1 : w3.frozen? ⟨go, 0, none⟩ = false := blk_frozen K3.out 0; have nlo := Aside0.mk (show gl ≠ go from Nat.ne_of_lt (by rw [G3.out]; exact blk_lt K2.out)); have z5 : (w3.setCell ⟨go, 0, none⟩ (.slice (some ⟨g, 0, none⟩) (l0.length + 1) c1)).cell? ⟨gl, 0, none⟩ = some (.slice A0 l0.length c0) := (blk_cell (blk_far (blk_below K2.out B3.out) nlo.out _) 0).trans rfl)
    | (go_at_call 111; refine (CB.out _ ?sb).mono ?_; (case sb => (have o1 := blk_lt K1.out; have o2 := G1.out; have o3 := G3.out; have o4 := blk_lt K2.out; exact Below.setCell ((B1.out.trans (B2.out.mono (by omega))).trans (B3.out.mono (by omega))) (by (try simp only []); omega) _)); rintro e w4 ⟨v4, rfl, ho, hb⟩; obtain ⟨ab, cb, hv4, hab, hab2, cells4, hc4⟩ := Kd.R_form ho (by rw [HL.out.2.2]; exact HL.out.1); rw [HL.out.2.2] at hv4; subst hv4; have G4 := Aside0.mk (And.intro hab hab2); have O4 := Aside0.mk ho; have B4 := Aside0.mk hb; have K4 := Aside0.mk (blk_below (blk_far (blk_below K2.out B3.out) nlo.out _) hb); have K4b := Aside0.mk (blk_below (blk_put K3.out 0 _ rfl) hb); clear hab hab2 hc4 ho hb)
    | (go_at_call 112; (refine (KX.out _ gl go g c1 ab cb ?sB ?s1 ?s2 ?s3 ?s4 ?s5 ?s6 ?s7 ?s8 ?s9 ?sw).mono ?_); (all_goals have o1 := G1.out); (all_goals have o2 := blk_lt K1.out); (all_goals have o3 := G2.out); (all_goals have o4 := G3.out); (all_goals have o5 := G4.out); (all_goals have o6 := blk_lt K2.out); (all_goals have o7 := blk_lt K3.out); (all_goals have o8 : ∀ v, (w3.setCell ⟨go, 0, none⟩ v).heap.size = w3.heap.size := (fun v => by simp [World.setCell])); (all_goals rw [o8] at o5); (all_goals have o9 := blk_lt K4.out); (all_goals have o10 := blk_lt K4b.out); (all_goals have bb : Below w.heap.size w w4 := ((Below.setCell ((B1.out.trans (B2.out.mono (by omega))).trans (B3.out.mono (by omega))) (by (try simp only []); omega) _).trans (B4.out.mono (by rw [o8]; omega)))); (case sB => exact bb); (case s1 => omega); (case s2 => omega); (case s3 => omega); (case s4 => omega); (case s5 => omega); (case s6 => exact nlo.out); (case s7 => omega); (case s8 => omega); (case s9 => exact (Kd.R_reads' O4.out).2.1); (case sw => exact ⟨K4.out, K4b.out, Kd.R_mono (Kd.R_lower (Kd.R_tight rfl O4.out) (Nat.zero_le _)) (fun i hi => (by simpa [Value.ownBlock] using hi : i = ab)), Kd.S_below (Kd.S_far (p := ⟨go, 0, none⟩) (Kd.S_mono (Kd.S_below (Kd.S_lower (Kd.S_bound O2.out) (by omega)) B3.out) (ok' := OkW w.heap.size (fun _ => False) gl go ab) (fun i hi => (by have q1 := hi.2.1; have q2 := hi.2.2.1; exact ⟨by omega, fun h => h, by omega, by omega, by omega⟩))) (fun k hk => hk.2.2.2.1) _) B4.out, bb, fun i hi => hi.elim⟩); clear o1 o2 o3 o4 o5 o6 o7 o8 o9 o10 bb; rintro e w7 ⟨rfl, v7, hf1, hf2, hf3⟩; have F2 := Aside0.mk hf2; have F3 := Aside0.mk hf3; have y7 : w7.cell? ⟨go, 0, none⟩ = some v7 := (blk_cell hf1 0).trans rfl; clear hf1 hf2 hf3))
  go_ret
  exact ⟨_, rfl, F2.out, F3.out⟩
end Go.Proofs.Ytlhblnphfpijkaa.Q
