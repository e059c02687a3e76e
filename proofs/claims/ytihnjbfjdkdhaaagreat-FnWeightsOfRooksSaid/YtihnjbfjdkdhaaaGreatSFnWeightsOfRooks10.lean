/- Texts of this claim put together (10): words, what the functions compute, and plain facts. No conditions. -/
import Derived.Test.YtihnjbfjdkdhaaaGreatSFnWeightsOfRooks4
import Derived.Test.YtihnjbfjdkdhaaaGreatSFnWeightsOfRooks9
import Derived.Test.YtihnjbfjdkdhaaaGreatSFnWeightsOfRooks5
import Derived.Test.YtihnjbfjdkdhaaaGreatSFnWeightsOfRooks7
import Derived.Test.YtihnjbfjdkdhaaaGreatSFnWeightsOfRooks6
import Derived.Test.YtihnjbfjdkdhaaaGreatSFnWeightsOfRooks8
import Derived.Test.YtihnjbfjdkdhaaaGreatSFnWeightsOfRooks0
section
namespace Go.Proofs.YtihnjbfjdkdhaaaGreat.Q
set_option linter.unusedVariables false
open Go.RowKit Go.Proofs.YtihnjbfjdkdhaaaGreatW.PrintWords Go.Proofs.YtihnjbfjdkdhaaaGreatW.PrintLast Go.Proofs.YtihnjbfjdkdhaaaGreatW.PrintMore
open Go.Proofs.YtihnjbfjdkdhaaaGreatL Go.Proofs.YtihnjbfjdkdhaaaGreat.LawK Go.Proofs.YtihnjbfjdkdhaaaGreat.BoardK Go.Proofs.YtihnjbfjdkdhaaaGreat.Walk Go.Proofs.YtihnjbfjdkdhaaaGreat.WithK
def withs (k : Int) (vis : List (List Int)) : List (List Int) := vis.filter (fun p => decide (((rooksN p : Nat) : Int) = k))
def impl_Board_with.f (a0_0 : Int) (a0_1 : Int) (l0_2 : List Int) (a1 : Int) : Option (List (List Int)) := if isBoardB a0_0 a0_1 l0_2 = true then some (withs a1 (waysFrom l0_2 a0_1.toNat l0_2.length 0 0 [])) else none
def OkI (n : Nat) (S : Nat → Prop) (go gk i : Nat) : Prop := n ≤ i ∧ ¬ S i ∧ i ≠ go ∧ i ≠ gk
structure IInv (kI : Int) (gk go : Nat) (w0 W : World) (S : Nat → Prop) (vis : List (List Int)) (w : World) : Prop where
  k : w.heap[gk]? = some (.cells #[.int .i64 kI] 3 (0, 0))
  o : ∃ v, w.heap[go]? = some (.cells #[v] 30 (0, 0)) ∧ Kd.S (Kd.slice 3 (Kd.int .i64)) 24 w w0.heap.size (OkI w0.heap.size S go gk) v (withs kI vis)
  B : Below w0.heap.size w0 w
  s : ∀ i, S i → W.heap.size ≤ i
theorem ways6 {l : List Int} {R C : Nat} (hR : R ≤ 6) (hC : C ≤ 6) : (waysFrom l C R 0 0 []).length ≤ 117649 := by
  have h1 := ways_len l C R 0 0 []
  have h2 : (C + 1) ^ R ≤ 7 ^ 6 := Nat.le_trans (Nat.pow_le_pow_left (by omega) _) (Nat.pow_le_pow_right (by decide) hR)
  have h3 : (7 : Nat) ^ 6 = 117649 := by decide
  omega
set_option maxHeartbeats 8000000 in
set_option maxRecDepth 100000 in
theorem impl_Board_with.calls (a0_0 a0_1 : Int) (A0_2 : Option Addr) (c0_2 : Nat) (l0_2 : List Int) (a1 : Int) (r : List (List Int)) (w : World) (hr0_2 : Kd.C (Kd.int .i64) w A0_2 l0_2.length l0_2) (hc0_2 : l0_2.length ≤ c0_2) (h : impl_Board_with.f a0_0 a0_1 l0_2 a1 = some r) :
    Calls Tryz.prog 51 #[.agg #[.int .i64 a0_0, .int .i64 a0_1, .slice A0_2 l0_2.length c0_2], .int .i64 a1] w fun e w' => ∃ v0_ : Value, e = .returned (v0_) ∧ Kd.S (Kd.slice 3 (Kd.int .i64)) 24 w' w.heap.size (fun _ => True) v0_ r ∧ Below w.heap.size w w' := by
  by_cases hs : isBoardB a0_0 a0_1 l0_2 = true
  rotate_left
  · rw [impl_Board_with.f, if_neg hs] at h; cases h
  rw [impl_Board_with.f, if_pos hs] at h
  have h := Option.some.inj h
  obtain ⟨R, C, rfl, rfl, hlR, h1R, hR, h1C, hC, hbits⟩ := board_of hs
  rw [Int.toNat_natCast, hlR] at h
  have KEY : ∀ (W : World) (gk go : Nat), Below w.heap.size w W → w.heap.size ≤ go → w.heap.size ≤ gk → go ≠ gk → go < W.heap.size → gk < W.heap.size →
      IInv a1 gk go w W (fun _ => False) [] W →
      Calls Tryz.prog 77 #[.agg #[.int .i64 (R : Int), .int .i64 (C : Int), .slice A0_2 l0_2.length c0_2], .func (.func 84) #[] #[.pointer (some ⟨gk, 0, none⟩), .pointer (some ⟨go, 0, none⟩)]] W fun e w' => e = .returned (.tuple #[]) ∧
        ∃ v, w'.heap[go]? = some (.cells #[v] 30 (0, 0)) ∧ Kd.S (Kd.slice 3 (Kd.int .i64)) 24 w' w.heap.size (fun _ => True) v r ∧ Below w.heap.size w w' := by
    intro W gk go hBW bo bk nok lo lk hst
    refine (WalkWith.walk_calls (IInv a1 gk go w W)
      (by
        intro S vis w1 w2 hi hs1
        have kp : ∀ g, g < W.heap.size → ∀ {o}, w1.heap[g]? = some o → w2.heap[g]? = some o := fun g hg o ho => (hs1.kept.2 g (blk_lt ho) (fun h => by have := hi.s g h; omega)).trans ho
        obtain ⟨v, ho1, ho2⟩ := hi.o
        exact ⟨kp gk lk hi.k, ⟨v, kp go lo ho1, Kd.S_step ho2 (fun i hi' hlt => hs1.kept.2 i hlt hi'.2.1)⟩, Still.below hi.B hs1 (fun i h => Nat.le_trans hBW.size (hi.s i h)), hi.s⟩)
      R C R C rfl rfl l0_2 A0_2 c0_2 hc0_2 (.pointer (some ⟨gk, 0, none⟩)) (.pointer (some ⟨go, 0, none⟩))
      (fun S vis w1 hi => Kd.C_below hr0_2 hi.B)
      hlR h1R hR hC hbits W
      (by
        intro S w1 hS hB1
        obtain ⟨v, ho1, ho2⟩ := hst.o
        exact ⟨blk_below hst.k hB1, ⟨v, blk_below ho1 hB1, Kd.S_below (Kd.S_mono (Kd.S_bound ho2) (fun i hi' => ⟨hi'.1.1, fun h => by have := hS i h; have := hi'.2.2.1; omega, hi'.1.2.2⟩)) hB1⟩, hBW.trans (hB1.mono hBW.size), hS⟩)
      (by
        intro S vis ps w1 a cp hS hSlt hps hmem hSa hC2 hcp hi
        obtain ⟨kk, hk⟩ := rooks_f (l := ps) (by omega)
        obtain ⟨v, ho1, ho2⟩ := hi.o
        by_cases e : ((rooksN ps : Nat) : Int) = a1
        · have hvl : (withs a1 vis).length ≤ 1000000 := by
            obtain ⟨b, hb2⟩ := hmem
            have h1 := ways6 (l := l0_2) hR hC
            have h2 : (withs a1 vis).length ≤ vis.length := List.length_filter_le _ _
            rw [hb2, List.length_append] at h1
            omega
          have hgk2 := hi.k
          rw [← e] at hgk2
          refine (wi1_take ((rooksN ps : Nat) : Int) R cp a gk go kk w.heap.size ps (withs a1 vis) v (OkI w.heap.size S go gk) w1 hps hR hcp hC2 hgk2 ho1 (fun k h => h.2.2.1) hi.B.size (fun k hk' => ⟨Nat.le_trans hi.B.size hk', fun h => by have := hSlt k h; omega, fun h => by have := blk_lt ho1; omega, fun h => by have := blk_lt hi.k; omega⟩) ho2 hvl hk).mono ?_
          rintro e' w2 ⟨rfl, v', ho3, ho4, hst2⟩
          have kp : ∀ g, g ≠ go → ¬ OkI w.heap.size S go gk g → ∀ {o}, w1.heap[g]? = some o → w2.heap[g]? = some o := fun g hg hn o ho => (hst2.kept.2 g (blk_lt ho) (fun h => h.elim hg hn)).trans ho
          refine ⟨rfl, ⟨kp gk (Ne.symm nok) (fun h => h.2.2.2 rfl) hi.k, ⟨v', ho3, ?_⟩, Still.below hi.B hst2 ?_, hi.s⟩, fun i hSi hlt => ?_⟩
          · unfold withs at ho4 ⊢
            rw [List.filter_append, List.filter_cons, if_pos (decide_eq_true e), List.filter_nil]
            exact ho4
          · rintro i (rfl | h)
            · exact bo
            · exact h.1
          · exact hst2.kept.2 i hlt (fun h => h.elim (fun h => by have := hi.s i hSi; omega) (fun h => h.2.1 hSi))
        · refine (wi1_skip ((rooksN ps : Nat) : Int) a1 R cp a gk go kk ps w1 hps hcp hC2 hi.k hk e).mono ?_
          rintro e' w2 ⟨rfl, hb2⟩
          refine ⟨rfl, ⟨blk_below hi.k hb2, ⟨v, blk_below ho1 hb2, ?_⟩, hi.B.trans (hb2.mono hi.B.size), hi.s⟩, fun i hSi hlt => hb2.block i hlt⟩
          unfold withs at ho2 ⊢
          rw [List.filter_append, List.filter_cons, if_neg (by simpa using e), List.filter_nil, List.append_nil]
          exact Kd.S_below ho2 hb2)).mono ?_
    rintro e w' ⟨rfl, S, hS, hi⟩
    obtain ⟨v, ho1, ho2⟩ := hi.o
    exact ⟨rfl, v, ho1, by rw [← h]; exact Kd.S_mono ho2 (fun _ _ => trivial), hi.B⟩
  have KX := Lib.hid KEY
  have hu24 := Tryz.underlying42
  clear KEY h hs hlR h1R hR h1C hC hbits hr0_2 hc0_2
  generalize (R : Int) = RI at *
  generalize (C : Int) = CI at *
  go_enter Tryz.func51, Tryz.ntmps51
  go_wp2_with (first
    | ((with_reducible refine gate_dst (N := 2) rfl ?_); refine box_event ?hg (N := 2) ?hd (cs := #[.int .i64 RI, .int .i64 CI, .slice A0_2 l0_2.length c0_2]) (t := 42) ?hr ?_; (case hd => rfl); (case hg => rfl); (case hr => first | (go_simp; done) | (go_simp; rfl)); intro gb hg w1 hbox hb; have G1 := Aside0.mk hg; have K1 := Aside0.mk hbox; have B1 := Aside0.mk hb; clear hg hbox hb)
    | ((with_reducible refine gate_dst (N := 3) rfl ?_); refine box_event ?hg (N := 3) ?hd (cs := #[.int .i64 a1]) (t := 3) ?hr ?_; (case hd => rfl); (case hg => rfl); (case hr => first | (go_simp; done) | (go_simp; rfl)); intro gk hg w2 hbox hb; have G2 := Aside0.mk hg; have K2 := Aside0.mk hbox; have K2b := Aside0.mk (blk_below K1.out hb); have B2 := Aside0.mk hb; clear hg hbox hb)
    | ((with_reducible refine gate_dst (N := 6) rfl ?_); refine Kd.S_lit (Kd.slice 3 (Kd.int .i64)) _ 24 ?hg (N := 6) ?hd (xs := ([] : List (List Int))) (inner := []) (ok := fun _ => True) (okp := fun _ => True) ?hr ?hp (fun _ hk => hk) trivial (Below.refl _ _) (Nat.le_refl _) (by simp) ?_; (case hd => rfl); (case hg => rfl); (case hr => first | (go_simp; done) | (go_simp; rfl)); (case hp => exact (Reps.none _ _)); intro v5 w5 ho5 hb hg_ hnew_; clear hg_ hnew_; obtain ⟨A5, c5, hv5⟩ := Kd.S_slice ho5; have hv6 : v5 = .slice A5 0 c5 := hv5; clear hv5; subst hv6; have O5 := Aside0.mk ho5; have K5 := Aside0.mk (blk_below K2.out hb); have K5b := Aside0.mk (blk_below K2b.out hb); have B5 := Aside0.mk hb; have L5 := Aside0.mk (And.intro (blk_lt K2.out) (blk_lt K2b.out)); clear ho5 hb)
    | ((with_reducible refine gate_dst (N := 5) rfl ?_); refine box_event ?hg (N := 5) ?hd (cs := #[.slice none 0 0]) (t := 30) ?hr ?_; (case hd => rfl); (case hg => rfl); (case hr => first | (go_simp; done) | (go_simp; rfl)); intro go hg w6 hbox hb; have G6 := Aside0.mk hg; have K6 := Aside0.mk hbox; have B6 := Aside0.mk hb; clear hg hbox hb; have y1 : w6.cell? ⟨go, 0, none⟩ = some (.slice none 0 0) := (blk_cell K6.out 0).trans rfl; have f1 : w6.frozen? ⟨go, 0, none⟩ = false := blk_frozen K6.out 0; have nbo := Aside0.mk (show gb ≠ go from Nat.ne_of_lt (by rw [G6.out]; exact blk_lt K5b.out)); have nko := Aside0.mk (show gk ≠ go from Nat.ne_of_lt (by rw [G6.out]; exact blk_lt K5.out)); have z5 : (w6.setCell ⟨go, 0, none⟩ (.slice A5 0 c5)).cell? ⟨gb, 0, none⟩ = some (.int .i64 RI) := (blk_cell (blk_far (blk_below K5b.out B6.out) nbo.out _) 0).trans rfl; have z6 : (w6.setCell ⟨go, 0, none⟩ (.slice A5 0 c5)).cell? ⟨gb, 1, none⟩ = some (.int .i64 CI) := (blk_cell (blk_far (blk_below K5b.out B6.out) nbo.out _) 1).trans rfl; have z7 : (w6.setCell ⟨go, 0, none⟩ (.slice A5 0 c5)).cell? ⟨gb, 2, none⟩ = some (.slice A0_2 l0_2.length c0_2) := (blk_cell (blk_far (blk_below K5b.out B6.out) nbo.out _) 2).trans rfl)
    | (go_at_call 77; (refine (KX.out _ gk go ?sB ?s1 ?s2 ?s3 ?s4 ?s5 ?s6).mono ?_); (all_goals have o1 := G1.out); (all_goals have o2 := G2.out); (all_goals have o3 := B1.out.size); (all_goals have o4 := B2.out.size); (all_goals have o5 := B5.out.size); (all_goals have o6 := G6.out); (all_goals have o7 := blk_lt K6.out); (all_goals have o8 : ∀ v, (w6.setCell ⟨go, 0, none⟩ v).heap.size = w6.heap.size := (fun v => by simp [World.setCell])); (all_goals have o9 := blk_lt K5.out); (all_goals have bb : Below w.heap.size w (w6.setCell ⟨go, 0, none⟩ (.slice A5 0 c5)) := Below.setCell (((B1.out.trans (B2.out.mono (by omega))).trans (B5.out.mono (by omega))).trans (B6.out.mono (by omega))) (by (try simp only []); omega) _); (case sB => exact bb); (case s1 => omega); (case s2 => omega); (case s3 => exact Ne.symm nko.out); (case s4 => rw [o8]; omega); (case s5 => rw [o8]; have := B6.out.size; omega); (case s6 => exact ⟨blk_far (blk_below K5.out B6.out) nko.out _, ⟨_, blk_put K6.out 0 _ rfl, Kd.S_far (Kd.S_mono (Kd.S_below (Kd.S_lower (Kd.S_bound O5.out) (by omega)) B6.out) (fun i hi => (by have h1 := hi.2.1; have h2 := hi.2.2.1; have h3 := L5.out; exact ⟨by omega, fun h => h, by omega, by omega⟩))) (p := ⟨go, 0, none⟩) (fun k hk => hk.2.2.1) _⟩, bb, fun i hi => hi.elim⟩); clear o1 o2 o3 o4 o5 o6 o7 o8 o9 bb; rintro e w7 ⟨rfl, v7, hf1, hf2, hf3⟩; have F2 := Aside0.mk hf2; have F3 := Aside0.mk hf3; have y7 : w7.cell? ⟨go, 0, none⟩ = some v7 := (blk_cell hf1 0).trans rfl; clear hf1 hf2 hf3))
  go_ret
  exact ⟨_, rfl, F2.out, F3.out⟩
end Go.Proofs.YtihnjbfjdkdhaaaGreat.Q
end
section
namespace Go.Proofs.YtihnjbfjdkdhaaaGreat.Q
open Go.RowKit Go.Proofs.YtihnjbfjdkdhaaaGreatW.PrintWords Go.Proofs.YtihnjbfjdkdhaaaGreatW.PrintLast Go.Proofs.YtihnjbfjdkdhaaaGreatW.PrintMore
attribute [local go_sem] max2_int min2_int max_two min_two max_three min_three max_four min_four   -- for this text's walks alone
set_option linter.unusedVariables false
set_option linter.unusedSimpArgs false
def impl_PlacementsOf.j0:Nat→Int→Bool→Int→Int→List Int→Option ((List (List Int)) × Bool)
|0,_,_,_,_,_=>none
|k + 1,x1,x14,x102000,x102001,x102002=>if x14=true then (some (([]:List (List Int)),false)) else ((impl_Board_with.f x102000 x102001 x102002 x1).bind fun t104=>(if (t104.length:Int) > 500 then (some (([]:List (List Int)),false)) else (some (t104,true))))
def impl_PlacementsOf.f (k:Nat) (a0_0:Int) (a0_1:Int) (l0_2:List Int) (a1:Int):Option ((List (List Int)) × Bool):=(impl_IsBoard.f a0_0 a0_1 l0_2).bind fun t102=>(if t102=true then ((impl_within.f a1 0 6).bind fun t103=>(impl_PlacementsOf.j0 k a1 (!t103) a0_0 a0_1 l0_2)) else (impl_PlacementsOf.j0 k a1 true a0_0 a0_1 l0_2))
set_option maxHeartbeats 8000000 in
set_option maxRecDepth 100000 in
theorem impl_PlacementsOf.calls (k:Nat) (a0_0:Int) (a0_1:Int) (A0_2:Option Addr) (c0_2:Nat) (l0_2:List Int) (a1:Int) (r1:List (List Int)) (r2:Bool) (w:World) (hr0_2:Kd.C (Kd.int .i64) w A0_2 l0_2.length l0_2) (hc0_2:l0_2.length≤c0_2) (h:impl_PlacementsOf.f k a0_0 a0_1 l0_2 a1=some (r1,r2)) :
  Calls Tryz.prog 19 #[.agg #[.int .i64 a0_0,.int .i64 a0_1,.slice A0_2 l0_2.length c0_2],.int .i64 a1] w fun e w'=>∃ v0_:Value,e=.returned (.tuple #[v0_,.bool r2])∧Kd.S (Kd.slice 3 (Kd.int .i64)) 24 w' w.heap.size (fun _=>True) v0_ r1∧Below w.heap.size w w':=by
 have hu42:=Tryz.underlying42;have HR0_2:=za hr0_2;have HC0_2:=za hc0_2;clear hr0_2 hc0_2;have HB:=za (Below.refl w.heap.size w);have H:((impl_IsBoard.f a0_0 a0_1 l0_2).bind fun t102=>(if t102=true then ((impl_within.f a1 0 6).bind fun t103=>(impl_PlacementsOf.j0 k a1 (!t103) a0_0 a0_1 l0_2)) else (impl_PlacementsOf.j0 k a1 true a0_0 a0_1 l0_2)))=some (r1,r2):=h;clear h;have HC3:=za H;clear H;(go_enter Tryz.func19,Tryz.ntmps19);(go_upto_region 1 with (first|((with_reducible refine gate_dst (N:=2) rfl ?_);refine box_event ?hg (N:=2) ?hd (cs:=#[.int .i64 a0_0,.int .i64 a0_1,.slice A0_2 l0_2.length c0_2]) (t:=42) ?hr ?_;(case hd=>rfl);(case hg=>rfl);(case hr=>first|(go_simp;done)|(go_simp;rfl));intro gb101 hg w4 hbox hb;have BK101:=za (hbox);have GW101:=za ((by rw [hg];exact (zq (by repeat (first|(with_reducible first|exact HB.out|apply zc|apply zd|apply zb)|exact HB.out))):w.heap.size≤gb101));have GE101:=za ((by rw [hg];exact (zq (by repeat (first|(with_reducible first|exact HB.out|apply zc|apply zd|apply zb)|exact HB.out))):w.heap.size≤gb101));replace HB:=za (zm (by repeat (first|(with_reducible first|exact HB.out|apply zc|apply zd|apply zb)|exact HB.out)) hb);clear hb hbox hg)));(try simp only [Act.put,z0_,z1_,z2_]);go_cut [14] (fun v14 wc=>∃ (kq:Nat) (x14_2:Bool),v14=.bool x14_2∧Aside0 (impl_PlacementsOf.j0 kq a1 x14_2 a0_0 a0_1 l0_2=some (r1,r2))∧Aside0 (kq≤k)∧Aside0 (wc.heap[gb101]?=some (.cells #[.int .i64 a0_0,.int .i64 a0_1,(.slice A0_2 l0_2.length c0_2)] 42 (0,0)))∧Aside0 (Below w.heap.size w wc))
 case first =>
  have H:=HC3.out;clear HC3;obtain ⟨t102,A5,H⟩:=bindAside H;(try dsimp only at H);by_cases c6:t102=true
  · subst c6;(have H1:((impl_within.f a1 0 6).bind fun t103=>(impl_PlacementsOf.j0 k a1 (!t103) a0_0 a0_1 l0_2))=some (r1,r2):=by rw [if_pos rfl] at H;exact H);clear H;have H:=H1;clear H1;obtain ⟨t103,A7,H⟩:=bindAside H;(try dsimp only at H);have H':=za H;clear H;have hcz8_0:w4.cell? ⟨gb101,0,none⟩=some (.int .i64 a0_0):=(zn BK101.out 0).trans rfl;have hcz8_1:w4.cell? ⟨gb101,1,none⟩=some (.int .i64 a0_1):=(zn BK101.out 1).trans rfl;have hcz8_2:w4.cell? ⟨gb101,2,none⟩=some (.slice A0_2 l0_2.length c0_2):=(zn BK101.out 2).trans rfl;have hfz8_0:=zt BK101.out 0;have hfz8_1:=zt BK101.out 1;have hfz8_2:=zt BK101.out 2;(go_wp2_with (first|((with_reducible refine zo (f:=50) rfl ?_);refine zp (some 8) rfl rfl Tryz.func50 (by kernel_rfl) rfl #[.agg #[.int .i64 a0_0,.int .i64 a0_1,.slice A0_2 l0_2.length c0_2]] rfl (by first|rfl|simp only [z3_,z4_,z5_];try rfl) ?_;(with_reducible refine (impl_IsBoard.calls a0_0 a0_1 _ _ l0_2 true _ ?side1 ?side2 A5.out).mono ?_);(case side1=>repeat (first|exact (zG HR0_2.out HB.out)|(with_reducible refine zh ?_ _)|(with_reducible refine zi ?_ _)|(with_reducible refine zj ?_)));(case side2=>exact HC0_2.out);rintro e w9 ⟨rfl,hb⟩;refine ⟨_,rfl,?_⟩;replace BK101:=za (zB (g:=gb101) (o:=.cells #[.int .i64 a0_0,.int .i64 a0_1,.slice A0_2 l0_2.length c0_2] 42 (0,0)) (by apply_rules only [BK101.out,zv,zu,zw]) hb);replace HB:=za (zm (by repeat (first|(with_reducible first|exact HB.out|apply zc|apply zd|apply zb|refine zl ?_ GE101.out)|exact HB.out)) hb))|(go_at_call 48;(with_reducible refine (impl_within.calls a1 0 6 t103 _ A7.out).mono ?_);rintro e w' ⟨rfl,⟨nd,rfl⟩⟩)));(go_meet);case rel=>exact ⟨_,(!t103),(by first|rfl|(simp;done)|(simp [*];done)),H',⟨by first|omega|exact Nat.le_refl _⟩,⟨by (with_reducible repeat (first|refine zv ?_ _|refine zu ?_|refine zw ?_ _));exact BK101.out⟩,⟨by repeat (first|(with_reducible first|exact HB.out|apply zc|apply zd|apply zb|refine zl ?_ GE101.out)|exact HB.out)⟩⟩
  · replace c6:=Bool.eq_false_iff.mpr c6;subst c6;(have H1:(impl_PlacementsOf.j0 k a1 true a0_0 a0_1 l0_2)=some (r1,r2):=by rw [if_neg (show ¬ (false=true) by decide)] at H;exact H);clear H;have H:=H1;clear H1;have H':=za H;clear H;have hcz10_0:w4.cell? ⟨gb101,0,none⟩=some (.int .i64 a0_0):=(zn BK101.out 0).trans rfl;have hcz10_1:w4.cell? ⟨gb101,1,none⟩=some (.int .i64 a0_1):=(zn BK101.out 1).trans rfl;have hcz10_2:w4.cell? ⟨gb101,2,none⟩=some (.slice A0_2 l0_2.length c0_2):=(zn BK101.out 2).trans rfl;have hfz10_0:=zt BK101.out 0;have hfz10_1:=zt BK101.out 1;have hfz10_2:=zt BK101.out 2;(go_wp2_with (first|((with_reducible refine zo (f:=50) rfl ?_);refine zp (some 8) rfl rfl Tryz.func50 (by kernel_rfl) rfl #[.agg #[.int .i64 a0_0,.int .i64 a0_1,.slice A0_2 l0_2.length c0_2]] rfl (by first|rfl|simp only [z3_,z4_,z5_];try rfl) ?_;(with_reducible refine (impl_IsBoard.calls a0_0 a0_1 _ _ l0_2 false _ ?side1 ?side2 A5.out).mono ?_);(case side1=>repeat (first|exact (zG HR0_2.out HB.out)|(with_reducible refine zh ?_ _)|(with_reducible refine zi ?_ _)|(with_reducible refine zj ?_)));(case side2=>exact HC0_2.out);rintro e w11 ⟨rfl,hb⟩;refine ⟨_,rfl,?_⟩;replace BK101:=za (zB (g:=gb101) (o:=.cells #[.int .i64 a0_0,.int .i64 a0_1,.slice A0_2 l0_2.length c0_2] 42 (0,0)) (by apply_rules only [BK101.out,zv,zu,zw]) hb);replace HB:=za (zm (by repeat (first|(with_reducible first|exact HB.out|apply zc|apply zd|apply zb|refine zl ?_ GE101.out)|exact HB.out)) hb))));(go_meet);case rel=>exact ⟨_,(true),(by first|rfl|(simp;done)|(simp [*];done)),H',⟨by first|omega|exact Nat.le_refl _⟩,⟨by (with_reducible repeat (first|refine zv ?_ _|refine zu ?_|refine zw ?_ _));exact BK101.out⟩,⟨by repeat (first|(with_reducible first|exact HB.out|apply zc|apply zd|apply zb|refine zl ?_ GE101.out)|exact HB.out)⟩⟩
 case rest =>
  clear HC3;(try clear c1);(try clear p2);(try clear c5);(try clear c6);(try clear hcz10_0);(try clear hcz10_1);(try clear hcz10_2);(try clear hcz8_0);(try clear hcz8_1);(try clear hcz8_2);(try clear hfz10_0);(try clear hfz10_1);(try clear hfz10_2);(try clear hfz8_0);(try clear hfz8_1);(try clear hfz8_2);obtain ⟨kq,x14_2,rfl,HA,HJ2,BK101,HB⟩:=hcut
  cases kq with
 |zero=>exact absurd HA.out (by simp [impl_PlacementsOf.j0])
 |succ kj2 =>
   have H:=HA.out;clear HA;simp only [impl_PlacementsOf.j0] at H;by_cases c12:x14_2=true
   · subst c12;(have H1:(some (([]:List (List Int)),false))=some (r1,r2):=by rw [if_pos rfl] at H;exact H);clear H;have H:=H1;clear H1;simp only [Option.some.injEq,Prod.mk.injEq] at H;obtain ⟨rfl,rfl⟩:=H;(go_wp2);(go_ret2);exact ⟨_,by first|rfl|simp [*,errW_none,errW_some] <;> rfl,by first|exact Kd.S_nil _ _ _ _ _|exact Kd.N_nil _ _ _ _ _|exact Kd.V_nil _ _ _ _ _|exact Kd.Q_nil _ _ _ _ _|exact Kd.R_nil _ _ _ _ _,by repeat (first|(with_reducible first|exact HB.out|apply zc|apply zd|apply zb|refine zl ?_ GE101.out)|exact HB.out)⟩
   ·
    replace c12:=Bool.eq_false_iff.mpr c12;subst c12;(have H1:((impl_Board_with.f a0_0 a0_1 l0_2 a1).bind fun t104=>(if (t104.length:Int) > 500 then (some (([]:List (List Int)),false)) else (some (t104,true))))=some (r1,r2):=by rw [if_neg (show ¬ (false=true) by decide)] at H;exact H);clear H;have H:=H1;clear H1;obtain ⟨t104,A13,H⟩:=bindAside H;(try dsimp only at H);by_cases c14:(t104.length:Int) > 500
    · rw [if_pos c14] at H;have c14b0:decide (500 < (t104.length:Int))=true:=decide_eq_true c14;have c14b1:decide (500 < t104.length)=true:=decide_eq_true (by omega);clear c14;simp only [Option.some.injEq,Prod.mk.injEq] at H;obtain ⟨rfl,rfl⟩:=H;have hcz15_0:wc.cell? ⟨gb101,0,none⟩=some (.int .i64 a0_0):=(zn BK101.out 0).trans rfl;have hcz15_1:wc.cell? ⟨gb101,1,none⟩=some (.int .i64 a0_1):=(zn BK101.out 1).trans rfl;have hcz15_2:wc.cell? ⟨gb101,2,none⟩=some (.slice A0_2 l0_2.length c0_2):=(zn BK101.out 2).trans rfl;have hfz15_0:=zt BK101.out 0;have hfz15_1:=zt BK101.out 1;have hfz15_2:=zt BK101.out 2;(go_wp2_with (first|((with_reducible refine zo (f:=51) rfl ?_);refine zp (some 17) rfl rfl Tryz.func51 (by kernel_rfl) rfl #[.agg #[.int .i64 a0_0,.int .i64 a0_1,.slice A0_2 l0_2.length c0_2],.int .i64 a1] rfl (by first|rfl|simp only [z3_,z4_,z5_];try rfl) ?_;(with_reducible refine (impl_Board_with.calls a0_0 a0_1 _ _ l0_2 a1 t104 _ ?side1 ?side2 A13.out).mono ?_);(case side1=>repeat (first|exact (zG HR0_2.out HB.out)|(with_reducible refine zh ?_ _)|(with_reducible refine zi ?_ _)|(with_reducible refine zj ?_)));(case side2=>exact HC0_2.out);rintro e w16 ⟨v105,rfl,ho0,hb⟩;refine ⟨_,rfl,?_⟩;have HO106:=za (Kd.S_lower ho0 (zq (by repeat (first|(with_reducible first|exact HB.out|apply zc|apply zd|apply zb|refine zl ?_ GE101.out)|exact HB.out))));replace BK101:=za (zB (g:=gb101) (o:=.cells #[.int .i64 a0_0,.int .i64 a0_1,.slice A0_2 l0_2.length c0_2] 42 (0,0)) (by apply_rules only [BK101.out,zv,zu,zw]) hb);replace HB:=za (zm (by repeat (first|(with_reducible first|exact HB.out|apply zc|apply zd|apply zb|refine zl ?_ GE101.out)|exact HB.out)) hb);obtain ⟨Ao17,co17,eo17⟩:=Kd.S_slice HO106.out;subst eo17)));(go_ret2);exact ⟨_,by first|rfl|simp [*,errW_none,errW_some] <;> rfl,by first|exact Kd.S_nil _ _ _ _ _|exact Kd.N_nil _ _ _ _ _|exact Kd.V_nil _ _ _ _ _|exact Kd.Q_nil _ _ _ _ _|exact Kd.R_nil _ _ _ _ _,by repeat (first|(with_reducible first|exact HB.out|apply zc|apply zd|apply zb|refine zl ?_ GE101.out)|exact HB.out)⟩
    · rw [if_neg c14] at H;have c14b0:decide (500 < (t104.length:Int))=false:=decide_eq_false c14;have c14b1:decide (500 < t104.length)=false:=decide_eq_false (by omega);clear c14;simp only [Option.some.injEq,Prod.mk.injEq] at H;obtain ⟨rfl,rfl⟩:=H;have hcz18_0:wc.cell? ⟨gb101,0,none⟩=some (.int .i64 a0_0):=(zn BK101.out 0).trans rfl;have hcz18_1:wc.cell? ⟨gb101,1,none⟩=some (.int .i64 a0_1):=(zn BK101.out 1).trans rfl;have hcz18_2:wc.cell? ⟨gb101,2,none⟩=some (.slice A0_2 l0_2.length c0_2):=(zn BK101.out 2).trans rfl;have hfz18_0:=zt BK101.out 0;have hfz18_1:=zt BK101.out 1;have hfz18_2:=zt BK101.out 2;(go_wp2_with (first|((with_reducible refine zo (f:=51) rfl ?_);refine zp (some 17) rfl rfl Tryz.func51 (by kernel_rfl) rfl #[.agg #[.int .i64 a0_0,.int .i64 a0_1,.slice A0_2 l0_2.length c0_2],.int .i64 a1] rfl (by first|rfl|simp only [z3_,z4_,z5_];try rfl) ?_;(with_reducible refine (impl_Board_with.calls a0_0 a0_1 _ _ l0_2 a1 t104 _ ?side1 ?side2 A13.out).mono ?_);(case side1=>repeat (first|exact (zG HR0_2.out HB.out)|(with_reducible refine zh ?_ _)|(with_reducible refine zi ?_ _)|(with_reducible refine zj ?_)));(case side2=>exact HC0_2.out);rintro e w19 ⟨v105,rfl,ho0,hb⟩;refine ⟨_,rfl,?_⟩;have HO106:=za (Kd.S_lower ho0 (zq (by repeat (first|(with_reducible first|exact HB.out|apply zc|apply zd|apply zb|refine zl ?_ GE101.out)|exact HB.out))));replace BK101:=za (zB (g:=gb101) (o:=.cells #[.int .i64 a0_0,.int .i64 a0_1,.slice A0_2 l0_2.length c0_2] 42 (0,0)) (by apply_rules only [BK101.out,zv,zu,zw]) hb);replace HB:=za (zm (by repeat (first|(with_reducible first|exact HB.out|apply zc|apply zd|apply zb|refine zl ?_ GE101.out)|exact HB.out)) hb);obtain ⟨Ao20,co20,eo20⟩:=Kd.S_slice HO106.out;subst eo20)));(go_ret2);exact ⟨_,by first|rfl|simp [*,errW_none,errW_some] <;> rfl,by (with_reducible repeat (first|apply zH|apply zI|apply Kd.S_drew));exact HO106.out,by repeat (first|(with_reducible first|exact HB.out|apply zc|apply zd|apply zb|refine zl ?_ GE101.out)|exact HB.out)⟩
end Go.Proofs.YtihnjbfjdkdhaaaGreat.Q
end
section
namespace Go.Proofs.YtihnjbfjdkdhaaaGreat.Q
open Go.RowKit Go.Proofs.YtihnjbfjdkdhaaaGreatW.PrintWords Go.Proofs.YtihnjbfjdkdhaaaGreatW.PrintLast Go.Proofs.YtihnjbfjdkdhaaaGreatW.PrintMore
attribute [local go_sem] max2_int min2_int max_two min_two max_three min_three max_four min_four   -- for this text's walks alone
set_option linter.unusedVariables false
set_option linter.unusedSimpArgs false
def spec_l1Cur_among.f (s0_0:List Int) (s0_1:Int) (s0_2:Int) (l1:List Int):Option (Int × Int × Int):=(spec_l1Cur_pick.f s0_0 s0_1 s0_2 (l1.length:Int)).bind fun bt101=>(if 0≤bt101.1 then (if bt101.1 < (l1.length:Int) then (some (rd l1 bt101.1,bt101.2.1,bt101.2.2)) else (none)) else (none))
set_option maxHeartbeats 8000000 in
set_option maxRecDepth 100000 in
theorem spec_l1Cur_among.calls (g:Nat) (s0_0:List Int) (s0_1:Int) (s0_2:Int) (A1:Option Addr) (c1:Nat) (l1:List Int) (r1:Int) (r2:Int) (r3:Int) (w0 w:World) (hI:IsS55 w0 w g s0_0 s0_1 s0_2) (hB:Below w0.heap.size w0 w) (hr1:Kd.C (Kd.int .i64) w A1 l1.length l1) (hc1:l1.length≤c1) (hf1:∀ ad,A1=some ad→0 < l1.length→ad.block ≠ g) (h:spec_l1Cur_among.f s0_0 s0_1 s0_2 l1=some (r1,r2,r3)) :
  Calls Tryz.prog 86 #[.pointer (some ⟨g,0,none⟩),.slice A1 l1.length c1] w fun e w'=>e=.returned (.int .i64 r1)∧IsS55 w0 w' g s0_0 r2 r3∧Below w0.heap.size w0 w'∧KeepBut w w' g none:=by
 have HR1:=za hr1;have HC1:=za hc1;clear hr1 hc1;have HI0:=za hI;have HK:=za (KeepBut.refl w g none);have HL:=za hB.size;clear hI;have HW0:=za hB.size;have HB:=za hB;clear hB;have H:((spec_l1Cur_pick.f s0_0 s0_1 s0_2 (l1.length:Int)).bind fun bt101=>(if 0≤bt101.1 then (if bt101.1 < (l1.length:Int) then (some (rd l1 bt101.1,bt101.2.1,bt101.2.2)) else (none)) else (none)))=some (r1,r2,r3):=h;clear h;obtain ⟨⟨t101,t102,t103⟩,A3,H⟩:=bindAside H;(try dsimp only at H);by_cases c4:0≤t101
 ·
  rw [if_pos c4] at H;have c4b0:decide (0≤t101)=true:=decide_eq_true c4;clear c4;by_cases c5:t101 < (l1.length:Int)
  · rw [if_pos c5] at H;have c5b0:decide (t101 < (l1.length:Int))=true:=decide_eq_true c5;clear c5;simp only [Option.some.injEq,Prod.mk.injEq] at H;obtain ⟨rfl,rfl,rfl⟩:=H;(go_enter Tryz.func86,Tryz.ntmps86);(go_wp2_with (first|((with_reducible refine zo (f:=31) rfl ?_);refine zp (some 9) rfl rfl Tryz.func31 (by kernel_rfl) rfl #[.pointer (some ⟨g,0,none⟩),.int .i64 (l1.length:Int)] rfl (by first|rfl|simp only [z3_,z4_,z5_];try rfl) ?_;(with_reducible refine (spec_l1Cur_pick.calls g s0_0 s0_1 s0_2 (l1.length:Int) t101 t102 t103 w0 _ ?side1 ?side2 A3.out).mono ?_);(case side1=>repeat (first|(with_reducible first|exact HI0.out|apply IsS55.alloc|apply IsS55.drewN|apply IsS55.drew|apply IsS55.set_1|apply IsS55.set_2)|exact HI0.out));(case side2=>repeat (first|(with_reducible first|exact HB.out|apply zc|apply zd|apply zb|refine zl ?_ (IsS55.ge HI0.out))|exact HB.out));rintro e w6 ⟨rfl,hi,hb,hk⟩;refine ⟨_,rfl,?_⟩;replace HK:=za (KeepBut.trans (by repeat (first|(with_reducible first|exact HK.out|apply zC|apply zD|apply zE|apply zF)|exact HK.out)) hk (.inl rfl));replace HB:=za (hb);replace HI0:=za (hi);have p104:0≤(t101:Int):=of_decide_eq_true ‹_›;have q104:t101 < (l1.length:Int):=of_decide_eq_true ‹_›;obtain ⟨ad104,e104,hx104_0⟩:=zz HR1.out t101 p104 q104;cases e104;replace hx104_0:=keep_cell HK.out hx104_0 (by first|(rw [add_block];exact hf1 _ rfl (by omega))|exact hf1 _ rfl (by omega)|exact hf1 ad104 rfl (by omega));replace p104:=eq_true p104;replace q104:=eq_true q104)));(go_ret);exact ⟨by first|rfl|simp [*,errW_none,errW_some] <;> rfl,by repeat (first|(with_reducible first|exact HI0.out|apply IsS55.alloc|apply IsS55.drewN|apply IsS55.drew|apply IsS55.set_1|apply IsS55.set_2)|exact HI0.out),by repeat (first|(with_reducible first|exact HB.out|apply zc|apply zd|apply zb|refine zl ?_ (IsS55.ge HI0.out))|exact HB.out),by repeat (first|(with_reducible first|exact HK.out|apply zC|apply zD|apply zE|apply zF)|exact HK.out)⟩
  · rw [if_neg c5] at H;exact absurd H (by simp)
 · rw [if_neg c4] at H;exact absurd H (by simp)
end Go.Proofs.YtihnjbfjdkdhaaaGreat.Q
end
section
namespace Go.Proofs.YtihnjbfjdkdhaaaGreat.Q
open Go.RowKit Go.Proofs.YtihnjbfjdkdhaaaGreatW.PrintWords Go.Proofs.YtihnjbfjdkdhaaaGreatW.PrintLast Go.Proofs.YtihnjbfjdkdhaaaGreatW.PrintMore
attribute [local go_sem] max2_int min2_int max_two min_two max_three min_three max_four min_four   -- for this text's walks alone
set_option linter.unusedVariables false
set_option linter.unusedSimpArgs false
def spec_l1Cur_base.f (s0_0:List Int) (s0_1:Int) (s0_2:Int):Option (Int × Int × Int):=(spec_l1Cur_one.f s0_0 s0_1 s0_2 14).bind fun bt101=>(if bt101.1=true then ((spec_l1Cur_among.f s0_0 bt101.2.1 bt101.2.2 (([(-1),0,1,4]:List Int))).bind fun bt107=>(some (bt107.1,bt107.2.1,bt107.2.2))) else ((spec_l1Cur_pick.f s0_0 bt101.2.1 bt101.2.2 2).bind fun bt110=>(some (wrap64 (2 + bt110.1),bt110.2.1,bt110.2.2))))
set_option maxHeartbeats 8000000 in
set_option maxRecDepth 100000 in
theorem spec_l1Cur_base.calls (g:Nat) (s0_0:List Int) (s0_1:Int) (s0_2:Int) (r1:Int) (r2:Int) (r3:Int) (w0 w:World) (hI:IsS55 w0 w g s0_0 s0_1 s0_2) (hB:Below w0.heap.size w0 w) (h:spec_l1Cur_base.f s0_0 s0_1 s0_2=some (r1,r2,r3)) :
  Calls Tryz.prog 52 #[.pointer (some ⟨g,0,none⟩)] w fun e w'=>e=.returned (.int .i64 r1)∧IsS55 w0 w' g s0_0 r2 r3∧Below w0.heap.size w0 w'∧KeepBut w w' g none:=by
 have HI0:=za hI;have HK:=za (KeepBut.refl w g none);have HL:=za hB.size;clear hI;have HW0:=za hB.size;have HB:=za hB;clear hB;have H:((spec_l1Cur_one.f s0_0 s0_1 s0_2 14).bind fun bt101=>(if bt101.1=true then ((spec_l1Cur_among.f s0_0 bt101.2.1 bt101.2.2 (([(-1),0,1,4]:List Int))).bind fun bt107=>(some (bt107.1,bt107.2.1,bt107.2.2))) else ((spec_l1Cur_pick.f s0_0 bt101.2.1 bt101.2.2 2).bind fun bt110=>(some (wrap64 (2 + bt110.1),bt110.2.1,bt110.2.2)))))=some (r1,r2,r3):=h;clear h;obtain ⟨⟨t101,t102,t103⟩,A2,H⟩:=bindAside H;(try dsimp only at H);by_cases c3:t101=true
 · subst c3;(have H1:((spec_l1Cur_among.f s0_0 t102 t103 (([(-1),0,1,4]:List Int))).bind fun bt107=>(some (bt107.1,bt107.2.1,bt107.2.2)))=some (r1,r2,r3):=by rw [if_pos rfl] at H;exact H);clear H;have H:=H1;clear H1;obtain ⟨y104,hy104⟩:∃ y_:List Int,y_=(([(-1),0,1,4]:List Int)):=⟨_,rfl⟩;(replace H:((spec_l1Cur_among.f s0_0 t102 t103 y104).bind fun bt107=>(some (bt107.1,bt107.2.1,bt107.2.2)))=some (r1,r2,r3):=by first|(rw [hy104];with_reducible exact H)|(have H2_:=(Option.bind_some _ _).symm.trans H;rw [hy104];with_reducible exact H2_)|(have H2_:=(Option.bind_some _ _).symm.trans H;with_reducible exact H2_)|with_reducible exact H|(rw [hy104];exact H)|exact H);have Ny104:=za hy104;clear hy104;obtain ⟨⟨t107,t108,t109⟩,A4,H⟩:=bindAside H;(try dsimp only at H);simp only [Option.some.injEq,Prod.mk.injEq] at H;obtain ⟨rfl,rfl,rfl⟩:=H;(go_enter Tryz.func52,Tryz.ntmps52);(go_wp2_with (first|((with_reducible refine zo (f:=35) rfl ?_);refine zp (some 4) rfl rfl Tryz.func35 (by kernel_rfl) rfl #[.pointer (some ⟨g,0,none⟩),.int .i64 14] rfl (by first|rfl|simp only [z3_,z4_,z5_];try rfl) ?_;(with_reducible refine (spec_l1Cur_one.calls g s0_0 s0_1 s0_2 14 true t102 t103 w0 _ ?side1 ?side2 A2.out).mono ?_);(case side1=>repeat (first|(with_reducible first|exact HI0.out|apply IsS55.alloc|apply IsS55.drewN|apply IsS55.drew|apply IsS55.set_1|apply IsS55.set_2)|exact HI0.out));(case side2=>repeat (first|(with_reducible first|exact HB.out|apply zc|apply zd|apply zb|refine zl ?_ (IsS55.ge HI0.out))|exact HB.out));rintro e w5 ⟨rfl,hi,hb,hk⟩;refine ⟨_,rfl,?_⟩;replace HK:=za (KeepBut.trans (by repeat (first|(with_reducible first|exact HK.out|apply zC|apply zD|apply zE|apply zF)|exact HK.out)) hk (.inl rfl));replace HB:=za (hb);replace HI0:=za (hi))|((with_reducible refine gate_dst (N:=6) rfl ?_);refine Kd.R_lit (Kd.int .i64) _ 3 ?hg (N:=6) ?hd (xs:=([(-1),0,1,4]:List Int)) (inner:=[.int .i64 (-1),.int .i64 0,.int .i64 1,.int .i64 4]) (ok:=fun _=>True) (okp:=fun _=>True) ?hr ?hp (fun _ hk=>hk) trivial (Below.refl _ _) (Nat.le_refl _) (by simp) ?_;(case hd=>rfl);(case hg=>rfl);(case hr=>first|(go_simp;done)|(go_simp;rfl));(case hp=>exact (Reps.one (show Kd.M (Kd.int .i64) _ _ _ (-1) [.int .i64 (-1)] from rfl) (Reps.one (show Kd.M (Kd.int .i64) _ _ _ 0 [.int .i64 0] from rfl) (Reps.one (show Kd.M (Kd.int .i64) _ _ _ 1 [.int .i64 1] from rfl) (Reps.one (show Kd.M (Kd.int .i64) _ _ _ 4 [.int .i64 4] from rfl) (Reps.none _ _))))));intro v105 w6 ho7 hb hg_ hnew_;clear hg_ hnew_;(first|rw [← Ny104.out] at ho7|(simp only [Int.reduceToNat] at ho7;rw [← Ny104.out] at ho7));have HO106:=za (zA ho7 (keep_size (w:=w) (g:=g) (row:=none) (by repeat (first|(with_reducible first|exact HK.out|apply zC|apply zD|apply zE|apply zF)|exact HK.out))));replace HK:=za (KeepBut.trans (by repeat (first|(with_reducible first|exact HK.out|apply zC|apply zD|apply zE|apply zF)|exact HK.out)) (KeepBut.of_below hb g none) (.inl rfl));replace HB:=za (zm (by repeat (first|(with_reducible first|exact HB.out|apply zc|apply zd|apply zb|refine zl ?_ (IsS55.ge HI0.out))|exact HB.out)) hb);replace HI0:=za (IsS55.below (by repeat (first|(with_reducible first|exact HI0.out|apply IsS55.alloc|apply IsS55.drewN|apply IsS55.drew|apply IsS55.set_1|apply IsS55.set_2)|exact HI0.out)) hb);clear hb ho7;obtain ⟨Ao8,co8,eo8⟩:=zy HO106.out;subst eo8)|((with_reducible refine zo (f:=86) rfl ?_);refine zp (some 7) rfl rfl Tryz.func86 (by kernel_rfl) rfl #[.pointer (some ⟨g,0,none⟩),.slice Ao8 y104.length co8] rfl (by first|rfl|simp only [z3_,z4_,z5_];try rfl) ?_;(with_reducible refine (spec_l1Cur_among.calls g s0_0 t102 t103 _ _ y104 t107 t108 t109 w0 _ ?side1 ?side2 ?side3 ?side4 ?side5 A4.out).mono ?_);(case side1=>repeat (first|(with_reducible first|exact HI0.out|apply IsS55.alloc|apply IsS55.drewN|apply IsS55.drew|apply IsS55.set_1|apply IsS55.set_2)|exact HI0.out));(case side2=>repeat (first|(with_reducible first|exact HB.out|apply zc|apply zd|apply zb|refine zl ?_ (IsS55.ge HI0.out))|exact HB.out));(case side3=>repeat (first|exact (zk HO106.out).2.2|(with_reducible refine zh ?_ _)|(with_reducible refine zi ?_ _)|(with_reducible refine zj ?_)));(case side4=>exact (zk HO106.out).2.1);(case side5=>exact far_slice (IsS55.own_ne HI0.out HO106.out (by decide)));rintro e w9 ⟨rfl,hi,hb,hk⟩;refine ⟨_,rfl,?_⟩;replace HO106:=za (zs (Kd.R_keep (IsS55.apart (show IsS55 w0 _ g s0_0 t102 t103 from by repeat (first|(with_reducible first|exact HI0.out|apply IsS55.alloc|apply IsS55.drewN|apply IsS55.drew|apply IsS55.set_1|apply IsS55.set_2)|exact HI0.out)) (by (with_reducible repeat (first|apply zf|apply zg|apply ze));exact HO106.out) (by decide)) hk (fun _ h=>h.2)) (fun _ h=>h.1));replace HK:=za (KeepBut.trans (by repeat (first|(with_reducible first|exact HK.out|apply zC|apply zD|apply zE|apply zF)|exact HK.out)) hk (.inl rfl));replace HB:=za (hb);replace HI0:=za (hi))));(go_ret);exact ⟨by first|rfl|simp [*,errW_none,errW_some] <;> rfl,by repeat (first|(with_reducible first|exact HI0.out|apply IsS55.alloc|apply IsS55.drewN|apply IsS55.drew|apply IsS55.set_1|apply IsS55.set_2)|exact HI0.out),by repeat (first|(with_reducible first|exact HB.out|apply zc|apply zd|apply zb|refine zl ?_ (IsS55.ge HI0.out))|exact HB.out),by repeat (first|(with_reducible first|exact HK.out|apply zC|apply zD|apply zE|apply zF)|exact HK.out)⟩
 · replace c3:=Bool.eq_false_iff.mpr c3;subst c3;(have H1:((spec_l1Cur_pick.f s0_0 t102 t103 2).bind fun bt110=>(some (wrap64 (2 + bt110.1),bt110.2.1,bt110.2.2)))=some (r1,r2,r3):=by rw [if_neg (show ¬ (false=true) by decide)] at H;exact H);clear H;have H:=H1;clear H1;obtain ⟨⟨t110,t111,t112⟩,A10,H⟩:=bindAside H;(try dsimp only at H);simp only [Option.some.injEq,Prod.mk.injEq] at H;obtain ⟨rfl,rfl,rfl⟩:=H;(go_enter Tryz.func52,Tryz.ntmps52);(go_wp2_with (first|((with_reducible refine zo (f:=35) rfl ?_);refine zp (some 4) rfl rfl Tryz.func35 (by kernel_rfl) rfl #[.pointer (some ⟨g,0,none⟩),.int .i64 14] rfl (by first|rfl|simp only [z3_,z4_,z5_];try rfl) ?_;(with_reducible refine (spec_l1Cur_one.calls g s0_0 s0_1 s0_2 14 false t102 t103 w0 _ ?side1 ?side2 A2.out).mono ?_);(case side1=>repeat (first|(with_reducible first|exact HI0.out|apply IsS55.alloc|apply IsS55.drewN|apply IsS55.drew|apply IsS55.set_1|apply IsS55.set_2)|exact HI0.out));(case side2=>repeat (first|(with_reducible first|exact HB.out|apply zc|apply zd|apply zb|refine zl ?_ (IsS55.ge HI0.out))|exact HB.out));rintro e w11 ⟨rfl,hi,hb,hk⟩;refine ⟨_,rfl,?_⟩;replace HK:=za (KeepBut.trans (by repeat (first|(with_reducible first|exact HK.out|apply zC|apply zD|apply zE|apply zF)|exact HK.out)) hk (.inl rfl));replace HB:=za (hb);replace HI0:=za (hi))|((with_reducible refine zo (f:=31) rfl ?_);refine zp (some 9) rfl rfl Tryz.func31 (by kernel_rfl) rfl #[.pointer (some ⟨g,0,none⟩),.int .i64 2] rfl (by first|rfl|simp only [z3_,z4_,z5_];try rfl) ?_;(with_reducible refine (spec_l1Cur_pick.calls g s0_0 t102 t103 2 t110 t111 t112 w0 _ ?side1 ?side2 A10.out).mono ?_);(case side1=>repeat (first|(with_reducible first|exact HI0.out|apply IsS55.alloc|apply IsS55.drewN|apply IsS55.drew|apply IsS55.set_1|apply IsS55.set_2)|exact HI0.out));(case side2=>repeat (first|(with_reducible first|exact HB.out|apply zc|apply zd|apply zb|refine zl ?_ (IsS55.ge HI0.out))|exact HB.out));rintro e w12 ⟨rfl,hi,hb,hk⟩;refine ⟨_,rfl,?_⟩;replace HK:=za (KeepBut.trans (by repeat (first|(with_reducible first|exact HK.out|apply zC|apply zD|apply zE|apply zF)|exact HK.out)) hk (.inl rfl));replace HB:=za (hb);replace HI0:=za (hi))));(go_ret);exact ⟨by first|rfl|simp [*,errW_none,errW_some] <;> rfl,by repeat (first|(with_reducible first|exact HI0.out|apply IsS55.alloc|apply IsS55.drewN|apply IsS55.drew|apply IsS55.set_1|apply IsS55.set_2)|exact HI0.out),by repeat (first|(with_reducible first|exact HB.out|apply zc|apply zd|apply zb|refine zl ?_ (IsS55.ge HI0.out))|exact HB.out),by repeat (first|(with_reducible first|exact HK.out|apply zC|apply zD|apply zE|apply zF)|exact HK.out)⟩
end Go.Proofs.YtihnjbfjdkdhaaaGreat.Q
end
section
namespace Go.Proofs.YtihnjbfjdkdhaaaGreat.Q
open Go.RowKit Go.Proofs.YtihnjbfjdkdhaaaGreatW.PrintWords Go.Proofs.YtihnjbfjdkdhaaaGreatW.PrintLast Go.Proofs.YtihnjbfjdkdhaaaGreatW.PrintMore
attribute [local go_sem] max2_int min2_int max_two min_two max_three min_three max_four min_four   -- for this text's walks alone
set_option linter.unusedVariables false
set_option linter.unusedSimpArgs false
def spec_DrawWeightAt.f (k:Nat) (l0:List Int):Option (List Int × Int × Int):=(spec_l1Cur_lengths.f k l0 0 0).bind fun bt102=>((spec_l1Cur_pick.f l0 bt102.2.1 bt102.2.2 (wrap64 ((bt102.1.length:Int) + 3))).bind fun bt107=>((spec_l1Cur_base.f l0 bt107.2.1 bt107.2.2).bind fun bt110=>(some (bt102.1,wrap64 (bt107.1 - 1),bt110.1))))
set_option maxHeartbeats 8000000 in
set_option maxRecDepth 100000 in
theorem spec_DrawWeightAt.calls (k:Nat) (A0:Option Addr) (c0:Nat) (l0:List Int) (r1:List Int) (r2:Int) (r3:Int) (w:World) (hr0:Kd.C (Kd.int .u8) w A0 l0.length l0) (hc0:l0.length≤c0) (h:spec_DrawWeightAt.f k l0=some (r1,r2,r3)) :
  Calls Tryz.prog 20 #[.slice A0 l0.length c0] w fun e w'=>∃ v0_:Value,e=.returned (.tuple #[v0_,.int .i64 r2,.int .i64 r3])∧Kd.R (Kd.int .i64) 3 w' w.heap.size (fun _=>True) v0_ r1∧Below w.heap.size w w':=by
 have hu55:=Tryz.underlying55;have HR0:=za hr0;have HC0:=za hc0;clear hr0 hc0;have HB:=za (Below.refl w.heap.size w);have H:((spec_l1Cur_lengths.f k l0 0 0).bind fun bt102=>((spec_l1Cur_pick.f l0 bt102.2.1 bt102.2.2 (wrap64 ((bt102.1.length:Int) + 3))).bind fun bt107=>((spec_l1Cur_base.f l0 bt107.2.1 bt107.2.2).bind fun bt110=>(some (bt102.1,wrap64 (bt107.1 - 1),bt110.1)))))=some (r1,r2,r3):=h;clear h;obtain ⟨⟨t102,t105,t106⟩,A2,H⟩:=bindAside H;(try dsimp only at H);obtain ⟨⟨t107,t108,t109⟩,A3,H⟩:=bindAside H;(try dsimp only at H);obtain ⟨⟨t110,t111,t112⟩,A4,H⟩:=bindAside H;(try dsimp only at H);simp only [Option.some.injEq,Prod.mk.injEq] at H;obtain ⟨rfl,rfl,rfl⟩:=H;(go_enter Tryz.func20,Tryz.ntmps20);(go_wp2_with (first|((with_reducible refine gate_dst (N:=9) rfl ?_);refine box_event ?hg (N:=9) ?hd (cs:=#[.slice A0 l0.length c0,.int .i64 0,.int .u64 0]) (t:=55) ?hr ?_;(case hd=>rfl);(case hg=>rfl);(case hr=>first|(go_simp;done)|(go_simp;rfl));intro gb101 hg w5 hbox hb;have BK101:=za (hbox);have GW101:=za ((by rw [hg];exact (zq (by repeat (first|(with_reducible first|exact HB.out|apply zc|apply zd|apply zb)|exact HB.out))):w.heap.size≤gb101));have GE101:=za ((by rw [hg];exact (zq (by repeat (first|(with_reducible first|exact HB.out|apply zc|apply zd|apply zb)|exact HB.out))):w.heap.size≤gb101));replace HB:=za (zm (by repeat (first|(with_reducible first|exact HB.out|apply zc|apply zd|apply zb)|exact HB.out)) hb);clear hb hbox hg;have HI101:=za (show IsS55 w _ gb101 l0 0 0 from ⟨_,_,BK101.out,GE101.out,HR0.out⟩))|((with_reducible refine zo (f:=30) rfl ?_);refine zp (some 11) rfl rfl Tryz.func30 (by kernel_rfl) rfl #[.pointer (some ⟨gb101,0,none⟩)] rfl (by first|rfl|simp only [z3_,z4_,z5_];try rfl) ?_;(with_reducible refine (spec_l1Cur_lengths.calls k gb101 l0 0 0 t102 t105 t106 w _ ?side1 ?side2 A2.out).mono ?_);(case side1=>repeat (first|(with_reducible first|exact HI101.out|apply IsS55.alloc|apply IsS55.drewN|apply IsS55.drew|apply IsS55.set_1|apply IsS55.set_2)|exact HI101.out));(case side2=>repeat (first|(with_reducible first|exact HB.out|apply zc|apply zd|apply zb|refine zl ?_ (IsS55.ge HI101.out))|exact HB.out));rintro e w6 ⟨v103,rfl,ho0,hi,hb,hk⟩;refine ⟨_,rfl,?_⟩;have HO104:=za (zA ho0 (zq (by repeat (first|(with_reducible first|exact HB.out|apply zc|apply zd|apply zb|refine zl ?_ (IsS55.ge HI101.out))|exact HB.out))));replace HB:=za (hb);replace HI101:=za (hi);obtain ⟨Ao7,co7,eo7⟩:=zy HO104.out;subst eo7)|((with_reducible refine zo (f:=31) rfl ?_);refine zp (some 17) rfl rfl Tryz.func31 (by kernel_rfl) rfl #[.pointer (some ⟨gb101,0,none⟩),.int .i64 (wrap64 ((t102.length:Int) + 3))] rfl (by first|rfl|simp only [z3_,z4_,z5_];try rfl) ?_;(with_reducible refine (spec_l1Cur_pick.calls gb101 l0 t105 t106 (wrap64 ((t102.length:Int) + 3)) t107 t108 t109 w _ ?side1 ?side2 A3.out).mono ?_);(case side1=>repeat (first|(with_reducible first|exact HI101.out|apply IsS55.alloc|apply IsS55.drewN|apply IsS55.drew|apply IsS55.set_1|apply IsS55.set_2)|exact HI101.out));(case side2=>repeat (first|(with_reducible first|exact HB.out|apply zc|apply zd|apply zb|refine zl ?_ (IsS55.ge HI101.out))|exact HB.out));rintro e w8 ⟨rfl,hi,hb,hk⟩;refine ⟨_,rfl,?_⟩;replace HO104:=za (zs (Kd.R_keep (IsS55.apart (show IsS55 w _ gb101 l0 t105 t106 from by repeat (first|(with_reducible first|exact HI101.out|apply IsS55.alloc|apply IsS55.drewN|apply IsS55.drew|apply IsS55.set_1|apply IsS55.set_2)|exact HI101.out)) (by (with_reducible repeat (first|apply zf|apply zg|apply ze));exact HO104.out) (by decide)) hk (fun _ h=>h.2)) (fun _ h=>h.1));replace HB:=za (hb);replace HI101:=za (hi))|((with_reducible refine zo (f:=52) rfl ?_);refine zp (some 20) rfl rfl Tryz.func52 (by kernel_rfl) rfl #[.pointer (some ⟨gb101,0,none⟩)] rfl (by first|rfl|simp only [z3_,z4_,z5_];try rfl) ?_;(with_reducible refine (spec_l1Cur_base.calls gb101 l0 t108 t109 t110 t111 t112 w _ ?side1 ?side2 A4.out).mono ?_);(case side1=>repeat (first|(with_reducible first|exact HI101.out|apply IsS55.alloc|apply IsS55.drewN|apply IsS55.drew|apply IsS55.set_1|apply IsS55.set_2)|exact HI101.out));(case side2=>repeat (first|(with_reducible first|exact HB.out|apply zc|apply zd|apply zb|refine zl ?_ (IsS55.ge HI101.out))|exact HB.out));rintro e w9 ⟨rfl,hi,hb,hk⟩;refine ⟨_,rfl,?_⟩;replace HO104:=za (zs (Kd.R_keep (IsS55.apart (show IsS55 w _ gb101 l0 t108 t109 from by repeat (first|(with_reducible first|exact HI101.out|apply IsS55.alloc|apply IsS55.drewN|apply IsS55.drew|apply IsS55.set_1|apply IsS55.set_2)|exact HI101.out)) (by (with_reducible repeat (first|apply zf|apply zg|apply ze));exact HO104.out) (by decide)) hk (fun _ h=>h.2)) (fun _ h=>h.1));replace HB:=za (hb);replace HI101:=za (hi))));(go_ret3);exact ⟨_,by first|rfl|simp [*,errW_none,errW_some] <;> rfl,by (with_reducible repeat (first|apply zf|apply zg|apply ze));exact HO104.out,by repeat (first|(with_reducible first|exact HB.out|apply zc|apply zd|apply zb|refine zl ?_ (IsS55.ge HI101.out))|exact HB.out)⟩
end Go.Proofs.YtihnjbfjdkdhaaaGreat.Q
end
section
namespace Go.Proofs.YtihnjbfjdkdhaaaGreat.Q
open Go.RowKit Go.Proofs.YtihnjbfjdkdhaaaGreatW.PrintWords Go.Proofs.YtihnjbfjdkdhaaaGreatW.PrintLast Go.Proofs.YtihnjbfjdkdhaaaGreatW.PrintMore
attribute [local go_sem] max2_int min2_int max_two min_two max_three min_three max_four min_four   -- for this text's walks alone
set_option linter.unusedVariables false
set_option linter.unusedSimpArgs false
def impl_isQ.f (a0:Int):Option (Bool):=(impl_within.f a0 2 3).bind fun t101=>(some t101)
set_option maxHeartbeats 8000000 in
set_option maxRecDepth 100000 in
theorem impl_isQ.calls (a0:Int) (r:Bool) (w:World) (h:impl_isQ.f a0=some r) :
  Calls Tryz.prog 53 #[.int .i64 a0] w fun e w'=>e=.returned (.bool r)∧Drawn0 w w':=by
 have H:((impl_within.f a0 2 3).bind fun t101=>(some t101))=some r:=h;clear h;obtain ⟨t101,A2,H⟩:=bindAside H;(try dsimp only at H);obtain rfl:=Option.some.inj H;(go_enter Tryz.func53,Tryz.ntmps53);(go_wp2_with (first|((with_reducible refine zo (f:=48) rfl ?_);refine zp (some 4) rfl rfl Tryz.func48 (by kernel_rfl) rfl #[.int .i64 a0,.int .i64 2,.int .i64 3] rfl (by first|rfl|simp only [z3_,z4_,z5_];try rfl) ?_;(with_reducible refine (impl_within.calls a0 2 3 t101 _ A2.out).mono ?_);rintro e w' ⟨rfl,⟨nd,rfl⟩⟩;refine ⟨_,rfl,?_⟩)));(go_ret);exact ⟨by first|rfl|(simp;done)|(simp [*];done),by repeat (first|exact Drawn0.refl _|apply Drawn0.step)⟩
end Go.Proofs.YtihnjbfjdkdhaaaGreat.Q
end
section
namespace Go.Proofs.YtihnjbfjdkdhaaaGreat.Q
open Go.RowKit Go.Proofs.YtihnjbfjdkdhaaaGreatW.PrintWords Go.Proofs.YtihnjbfjdkdhaaaGreatW.PrintLast Go.Proofs.YtihnjbfjdkdhaaaGreatW.PrintMore
attribute [local go_sem] max2_int min2_int max_two min_two max_three min_three max_four min_four   -- for this text's walks alone
set_option linter.unusedVariables false
set_option linter.unusedSimpArgs false
def impl_power.l0:Nat→Int→Int→Int→Int→Option (Int)
|0,_,_,_,_=>none
|k + 1,x0,x5,x6,x7=>if x7 < x6 then (impl_power.l0 k x0 (wrap64 (x5 * x0)) x6 (wrap64 (x7 + 1))) else (some x5)
def impl_power.f (k:Nat) (a0:Int) (a1:Int):Option (Int):=impl_power.l0 k a0 1 a1 0
theorem impl_power.mono_l:∀ k,(∀ y0 y1 y2 y3,LeO (impl_power.l0 k y0 y1 y2 y3) (impl_power.l0 (k + 1) y0 y1 y2 y3))
|0=>fun _ _ _ _ r h=>by simp [impl_power.l0] at h
|k + 1=>by
  have ih0:=impl_power.mono_l k
  ·
   intro y0 y1 y2 y3
   unfold impl_power.l0
   repeat' first
  |(with_reducible exact ih0 _ _ _ _)
  |(with_reducible exact LeO.refl _)
  |(with_reducible exact LeO.none _)
  |(with_reducible refine LeO.ite ?_ ?_)
  |(with_reducible refine LeO.bind ?_ (fun _=>?_))
  |exact ih0 _ _ _ _
  |exact LeO.none _
  |refine LeO.ite ?_ ?_
  |refine LeO.bind ?_ (fun _=>?_)
theorem impl_power.mono:∀ a0 a1 k,LeO (impl_power.f k a0 a1) (impl_power.f (k + 1) a0 a1):=by
 intro a0 a1 k;have ih0:=impl_power.mono_l k;unfold impl_power.f
 repeat' first
  |(with_reducible exact ih0 _ _ _ _)
  |(with_reducible exact LeO.refl _)
  |(with_reducible exact LeO.none _)
  |(with_reducible refine LeO.ite ?_ ?_)
  |(with_reducible refine LeO.bind ?_ (fun _=>?_))
  |exact ih0 _ _ _ _
  |exact LeO.none _
  |refine LeO.ite ?_ ?_
  |refine LeO.bind ?_ (fun _=>?_)
set_option maxHeartbeats 8000000 in
set_option maxRecDepth 100000 in
theorem impl_power.calls (k:Nat) (a0:Int) (a1:Int) (r:Int) (w:World) (h:impl_power.f k a0 a1=some r) :
  Calls Tryz.prog 87 #[.int .i64 a0,.int .i64 a1] w fun e w'=>e=.returned (.int .i64 r)∧Drawn0 w w':=by
 have H:(impl_power.l0 k a0 1 a1 0)=some r:=h;clear h;have H':=za H;clear H;(go_enter Tryz.func87,Tryz.ntmps87);(go_wp2);(go_loopg [5,7] k (fun kq v5 v7 w'=>∃ (x5_1:Int) (x7_1:Int),v5=.int .i64 x5_1∧v7=.int .i64 x7_1∧Aside0 (impl_power.l0 kq a0 x5_1 a1 x7_1=some r)∧Aside0 (kq≤k)∧Drawn0 w w'));case atStart=>exact ⟨(1),(0),(by first|rfl|(simp;done)|(simp [*];done)),(by first|rfl|(simp;done)|(simp [*];done)),H',⟨Nat.le_refl _⟩,by repeat (first|exact Drawn0.refl _|apply Drawn0.step)⟩
 case round =>
  clear H';(try clear p2);obtain ⟨x5_1,x7_1,rfl,rfl,HA,HK1,⟨m1,rfl⟩⟩:=hrel
  cases gk with
 |zero=>exact absurd HA.out (by simp [impl_power.l0])
 |succ k1 =>
   have H:=HA.out;clear HA;simp only [impl_power.l0] at H;by_cases c3:x7_1 < a1
   · rw [if_pos c3] at H;have c3b0:decide (x7_1 < a1)=true:=decide_eq_true c3;clear c3;have H':=za H;clear H;(go_wp2);(go_roundg k1);(case measure=>have:=HK1.out;omega);case rel=>exact ⟨(wrap64 (x5_1 * a0)),(wrap64 (x7_1 + 1)),(by first|rfl|(simp;done)|(simp [*];done)),(by first|rfl|(simp;done)|(simp [*];done)),H',⟨by have:=HK1.out;omega⟩,by repeat (first|exact Drawn0.refl _|apply Drawn0.step)⟩
   · rw [if_neg c3] at H;have c3b0:decide (x7_1 < a1)=false:=decide_eq_false c3;clear c3;obtain rfl:=Option.some.inj H;(go_wp2);(go_ret);exact ⟨by first|rfl|(simp;done)|(simp [*];done),by repeat (first|exact Drawn0.refl _|apply Drawn0.step)⟩
end Go.Proofs.YtihnjbfjdkdhaaaGreat.Q
end
section
namespace Go.Proofs.YtihnjbfjdkdhaaaGreat.Q
open Go.RowKit Go.Proofs.YtihnjbfjdkdhaaaGreatW.PrintWords Go.Proofs.YtihnjbfjdkdhaaaGreatW.PrintLast Go.Proofs.YtihnjbfjdkdhaaaGreatW.PrintMore
attribute [local go_sem] max2_int min2_int max_two min_two max_three min_three max_four min_four   -- for this text's walks alone
set_option linter.unusedVariables false
set_option linter.unusedSimpArgs false
def impl_at.l0:Nat→Int→Int→List Int→Int→Int→Option (Int)
|0,_,_,_,_,_=>none
|k + 1,x1,x5,x8,x9,x10=>if x10 < x9 then (if 0≤x10 then (if x10 < (x8.length:Int) then ((impl_power.f k x1 x10).bind fun t102=>(impl_at.l0 k x1 (wrap64 (x5 + (wrap64 ((rd x8 x10) * t102)))) x8 x9 (wrap64 (x10 + 1)))) else (none)) else (none)) else (some x5)
def impl_at.f (k:Nat) (l0:List Int) (a1:Int):Option (Int):=impl_at.l0 k a1 0 l0 (l0.length:Int) 0
set_option maxHeartbeats 8000000 in
set_option maxRecDepth 100000 in
theorem impl_at.calls (k:Nat) (A0:Option Addr) (c0:Nat) (l0:List Int) (a1:Int) (r:Int) (w:World) (hr0:Kd.C (Kd.int .i64) w A0 l0.length l0) (hc0:l0.length≤c0) (h:impl_at.f k l0 a1=some r) :
  Calls Tryz.prog 54 #[.slice A0 l0.length c0,.int .i64 a1] w fun e w'=>e=.returned (.int .i64 r)∧Drawn0 w w':=by
 have HR0:=za hr0;have HC0:=za hc0;clear hr0 hc0;have H:(impl_at.l0 k a1 0 l0 (l0.length:Int) 0)=some r:=h;clear h;have H':=za H;clear H;(go_enter Tryz.func54,Tryz.ntmps54);(go_wp2);(go_loopg [5,10] k (fun kq v5 v10 w'=>∃ (x5_1:Int) (x10_1:Int),v5=.int .i64 x5_1∧v10=.int .i64 x10_1∧Aside0 (impl_at.l0 kq a1 x5_1 l0 (l0.length:Int) x10_1=some r)∧Aside0 (kq≤k)∧Drawn0 w w'));case atStart=>exact ⟨(0),(0),(by first|rfl|(simp;done)|(simp [*];done)),(by first|rfl|(simp;done)|(simp [*];done)),H',⟨Nat.le_refl _⟩,by repeat (first|exact Drawn0.refl _|apply Drawn0.step)⟩
 case round =>
  clear H';(try clear p2);obtain ⟨x5_1,x10_1,rfl,rfl,HA,HK1,⟨m1,rfl⟩⟩:=hrel
  cases gk with
 |zero=>exact absurd HA.out (by simp [impl_at.l0])
 |succ k1 =>
   have H:=HA.out;clear HA;simp only [impl_at.l0] at H;by_cases c3:x10_1 < (l0.length:Int)
   ·
    rw [if_pos c3] at H;have c3b0:decide (x10_1 < (l0.length:Int))=true:=decide_eq_true c3;clear c3;by_cases c4:0≤x10_1
    ·
     rw [if_pos c4] at H;have c4b0:decide (0≤x10_1)=true:=decide_eq_true c4;clear c4;by_cases c5:x10_1 < (l0.length:Int)
     · rw [if_pos c5] at H;have c5b0:decide (x10_1 < (l0.length:Int))=true:=decide_eq_true c5;clear c5;obtain ⟨t102,A6,H⟩:=bindAside H;(try dsimp only at H);have H':=za H;clear H;have p101:0≤(x10_1:Int):=of_decide_eq_true ‹_›;have q101:x10_1 < (l0.length:Int):=of_decide_eq_true ‹_›;obtain ⟨ad101,e101,hx101_0⟩:=zz HR0.out x10_1 p101 q101;cases e101;replace p101:=eq_true p101;replace q101:=eq_true q101;(go_wp2_with (first|((with_reducible refine zo (f:=87) rfl ?_);refine zp (some 19) rfl rfl Tryz.func87 (by kernel_rfl) rfl #[.int .i64 a1,.int .i64 x10_1] rfl (by first|rfl|simp only [z3_,z4_,z5_];try rfl) ?_;(with_reducible refine (impl_power.calls k1 a1 x10_1 t102 _ A6.out).mono ?_);rintro e w' ⟨rfl,⟨nd,rfl⟩⟩;refine ⟨_,rfl,?_⟩)));(go_roundg k1);(case measure=>have:=HK1.out;omega);case rel=>exact ⟨(wrap64 (x5_1 + (wrap64 ((rd l0 x10_1) * t102)))),(wrap64 (x10_1 + 1)),(by first|rfl|(simp;done)|(simp [*];done)),(by first|rfl|(simp;done)|(simp [*];done)),H',⟨by have:=HK1.out;omega⟩,by repeat (first|exact Drawn0.refl _|apply Drawn0.step)⟩
     · rw [if_neg c5] at H;exact absurd H (by simp)
    · rw [if_neg c4] at H;exact absurd H (by simp)
   · rw [if_neg c3] at H;have c3b0:decide (x10_1 < (l0.length:Int))=false:=decide_eq_false c3;clear c3;obtain rfl:=Option.some.inj H;(go_wp2);(go_ret);exact ⟨by first|rfl|(simp;done)|(simp [*];done),by repeat (first|exact Drawn0.refl _|apply Drawn0.step)⟩
end Go.Proofs.YtihnjbfjdkdhaaaGreat.Q
end
section
namespace Go.Proofs.YtihnjbfjdkdhaaaGreat.Q
open Go.RowKit Go.Proofs.YtihnjbfjdkdhaaaGreatW.PrintWords Go.Proofs.YtihnjbfjdkdhaaaGreatW.PrintLast Go.Proofs.YtihnjbfjdkdhaaaGreatW.PrintMore
attribute [local go_sem] max2_int min2_int max_two min_two max_three min_three max_four min_four   -- for this text's walks alone
set_option linter.unusedVariables false
set_option linter.unusedSimpArgs false
def impl_WeightAt.f (k:Nat) (l0:List Int) (a1:Int) (a2:Int):Option (Int × Bool):=(impl_WeightsOf.f k l0 a1).bind fun bt101=>(if bt101.2=true then ((impl_isQ.f a2).bind fun t105=>(if t105=true then ((impl_at.f k bt101.1 a2).bind fun t106=>(some (t106,true))) else (some (0,false)))) else (some (0,false)))
set_option maxHeartbeats 8000000 in
set_option maxRecDepth 100000 in
theorem impl_WeightAt.calls (k:Nat) (A0:Option Addr) (c0:Nat) (l0:List Int) (a1:Int) (a2:Int) (r1:Int) (r2:Bool) (w:World) (hr0:Kd.C (Kd.int .i64) w A0 l0.length l0) (hc0:l0.length≤c0) (h:impl_WeightAt.f k l0 a1 a2=some (r1,r2)) :
  Calls Tryz.prog 21 #[.slice A0 l0.length c0,.int .i64 a1,.int .i64 a2] w fun e w'=>e=.returned (.tuple #[.int .i64 r1,.bool r2])∧Below w.heap.size w w':=by
 have HR0:=za hr0;have HC0:=za hc0;clear hr0 hc0;have HB:=za (Below.refl w.heap.size w);have H:((impl_WeightsOf.f k l0 a1).bind fun bt101=>(if bt101.2=true then ((impl_isQ.f a2).bind fun t105=>(if t105=true then ((impl_at.f k bt101.1 a2).bind fun t106=>(some (t106,true))) else (some (0,false)))) else (some (0,false))))=some (r1,r2):=h;clear h;obtain ⟨⟨t101,t102⟩,A4,H⟩:=bindAside H;(try dsimp only at H);by_cases c5:t102=true
 ·
  subst c5;(have H1:((impl_isQ.f a2).bind fun t105=>(if t105=true then ((impl_at.f k t101 a2).bind fun t106=>(some (t106,true))) else (some (0,false))))=some (r1,r2):=by rw [if_pos rfl] at H;exact H);clear H;have H:=H1;clear H1;obtain ⟨t105,A6,H⟩:=bindAside H;(try dsimp only at H);by_cases c7:t105=true
  · subst c7;(have H1:((impl_at.f k t101 a2).bind fun t106=>(some (t106,true)))=some (r1,r2):=by rw [if_pos rfl] at H;exact H);clear H;have H:=H1;clear H1;obtain ⟨t106,A8,H⟩:=bindAside H;(try dsimp only at H);simp only [Option.some.injEq,Prod.mk.injEq] at H;obtain ⟨rfl,rfl⟩:=H;(go_enter Tryz.func21,Tryz.ntmps21);(go_wp2_with (first|((with_reducible refine zo (f:=15) rfl ?_);refine zp (some 13) rfl rfl Tryz.func15 (by kernel_rfl) rfl #[.slice A0 l0.length c0,.int .i64 a1] rfl (by first|rfl|simp only [z3_,z4_,z5_];try rfl) ?_;(with_reducible refine (impl_WeightsOf.calls k _ _ l0 a1 t101 true _ ?side1 ?side2 A4.out).mono ?_);(case side1=>repeat (first|exact HR0.out|(with_reducible refine zh ?_ _)|(with_reducible refine zi ?_ _)|(with_reducible refine zj ?_)));(case side2=>exact HC0.out);rintro e w9 ⟨v103,rfl,ho0,hb⟩;refine ⟨_,rfl,?_⟩;have HO104:=za (zA ho0 (zq (by repeat (first|(with_reducible first|exact HB.out|apply zc|apply zd|apply zb)|exact HB.out))));replace HB:=za (zm (by repeat (first|(with_reducible first|exact HB.out|apply zc|apply zd|apply zb)|exact HB.out)) hb))|(go_at_call 53;(with_reducible refine (impl_isQ.calls a2 true _ A6.out).mono ?_);rintro e w' ⟨rfl,⟨nd,rfl⟩⟩;obtain ⟨Ao10,co10,eo10⟩:=zy HO104.out;subst eo10)|((with_reducible refine zo (f:=54) rfl ?_);refine zp (some 25) rfl rfl Tryz.func54 (by kernel_rfl) rfl #[.slice Ao10 t101.length co10,.int .i64 a2] rfl (by first|rfl|simp only [z3_,z4_,z5_];try rfl) ?_;(with_reducible refine (impl_at.calls k _ _ t101 a2 t106 _ ?side1 ?side2 A8.out).mono ?_);(case side1=>repeat (first|exact (zk HO104.out).2.2|(with_reducible refine zh ?_ _)|(with_reducible refine zi ?_ _)|(with_reducible refine zj ?_)));(case side2=>exact (zk HO104.out).2.1);rintro e w' ⟨rfl,⟨nd,rfl⟩⟩;refine ⟨_,rfl,?_⟩)));(go_ret2);exact ⟨by first|rfl|simp [*,errW_none,errW_some] <;> rfl,by repeat (first|(with_reducible first|exact HB.out|apply zc|apply zd|apply zb)|exact HB.out)⟩
  · replace c7:=Bool.eq_false_iff.mpr c7;subst c7;(have H1:(some (0,false))=some (r1,r2):=by rw [if_neg (show ¬ (false=true) by decide)] at H;exact H);clear H;have H:=H1;clear H1;simp only [Option.some.injEq,Prod.mk.injEq] at H;obtain ⟨rfl,rfl⟩:=H;(go_enter Tryz.func21,Tryz.ntmps21);(go_wp2_with (first|((with_reducible refine zo (f:=15) rfl ?_);refine zp (some 13) rfl rfl Tryz.func15 (by kernel_rfl) rfl #[.slice A0 l0.length c0,.int .i64 a1] rfl (by first|rfl|simp only [z3_,z4_,z5_];try rfl) ?_;(with_reducible refine (impl_WeightsOf.calls k _ _ l0 a1 t101 true _ ?side1 ?side2 A4.out).mono ?_);(case side1=>repeat (first|exact HR0.out|(with_reducible refine zh ?_ _)|(with_reducible refine zi ?_ _)|(with_reducible refine zj ?_)));(case side2=>exact HC0.out);rintro e w11 ⟨v103,rfl,ho0,hb⟩;refine ⟨_,rfl,?_⟩;have HO104:=za (zA ho0 (zq (by repeat (first|(with_reducible first|exact HB.out|apply zc|apply zd|apply zb)|exact HB.out))));replace HB:=za (zm (by repeat (first|(with_reducible first|exact HB.out|apply zc|apply zd|apply zb)|exact HB.out)) hb))|(go_at_call 53;(with_reducible refine (impl_isQ.calls a2 false _ A6.out).mono ?_);rintro e w' ⟨rfl,⟨nd,rfl⟩⟩)));(go_ret2);exact ⟨by first|rfl|simp [*,errW_none,errW_some] <;> rfl,by repeat (first|(with_reducible first|exact HB.out|apply zc|apply zd|apply zb)|exact HB.out)⟩
 · replace c5:=Bool.eq_false_iff.mpr c5;subst c5;(have H1:(some (0,false))=some (r1,r2):=by rw [if_neg (show ¬ (false=true) by decide)] at H;exact H);clear H;have H:=H1;clear H1;simp only [Option.some.injEq,Prod.mk.injEq] at H;obtain ⟨rfl,rfl⟩:=H;(go_enter Tryz.func21,Tryz.ntmps21);(go_wp2_with (first|((with_reducible refine zo (f:=15) rfl ?_);refine zp (some 13) rfl rfl Tryz.func15 (by kernel_rfl) rfl #[.slice A0 l0.length c0,.int .i64 a1] rfl (by first|rfl|simp only [z3_,z4_,z5_];try rfl) ?_;(with_reducible refine (impl_WeightsOf.calls k _ _ l0 a1 t101 false _ ?side1 ?side2 A4.out).mono ?_);(case side1=>repeat (first|exact HR0.out|(with_reducible refine zh ?_ _)|(with_reducible refine zi ?_ _)|(with_reducible refine zj ?_)));(case side2=>exact HC0.out);rintro e w12 ⟨v103,rfl,ho0,hb⟩;refine ⟨_,rfl,?_⟩;have HO104:=za (zA ho0 (zq (by repeat (first|(with_reducible first|exact HB.out|apply zc|apply zd|apply zb)|exact HB.out))));replace HB:=za (zm (by repeat (first|(with_reducible first|exact HB.out|apply zc|apply zd|apply zb)|exact HB.out)) hb))));(go_ret2);exact ⟨by first|rfl|simp [*,errW_none,errW_some] <;> rfl,by repeat (first|(with_reducible first|exact HB.out|apply zc|apply zd|apply zb)|exact HB.out)⟩
end Go.Proofs.YtihnjbfjdkdhaaaGreat.Q
end
section
namespace Go.Proofs.YtihnjbfjdkdhaaaGreat.Q
open Go.RowKit Go.Proofs.YtihnjbfjdkdhaaaGreatW.PrintWords Go.Proofs.YtihnjbfjdkdhaaaGreatW.PrintLast Go.Proofs.YtihnjbfjdkdhaaaGreatW.PrintMore
attribute [local go_sem] max2_int min2_int max_two min_two max_three min_three max_four min_four   -- for this text's walks alone
set_option linter.unusedVariables false
set_option linter.unusedSimpArgs false
def spec_weBase.f (a0:Int):Option (Bool):=(spec_l1In.f a0 2 3).bind fun t101=>(some t101)
set_option maxHeartbeats 8000000 in
set_option maxRecDepth 100000 in
theorem spec_weBase.calls (a0:Int) (r:Bool) (w:World) (h:spec_weBase.f a0=some r) :
  Calls Tryz.prog 55 #[.int .i64 a0] w fun e w'=>e=.returned (.bool r)∧Drawn0 w w':=by
 have H:((spec_l1In.f a0 2 3).bind fun t101=>(some t101))=some r:=h;clear h;obtain ⟨t101,A2,H⟩:=bindAside H;(try dsimp only at H);obtain rfl:=Option.some.inj H;(go_enter Tryz.func55,Tryz.ntmps55);(go_wp2_with (first|((with_reducible refine zo (f:=58) rfl ?_);refine zp (some 4) rfl rfl Tryz.func58 (by kernel_rfl) rfl #[.int .i64 a0,.int .i64 2,.int .i64 3] rfl (by first|rfl|simp only [z3_,z4_,z5_];try rfl) ?_;(with_reducible refine (spec_l1In.calls a0 2 3 t101 _ A2.out).mono ?_);rintro e w' ⟨rfl,⟨nd,rfl⟩⟩;refine ⟨_,rfl,?_⟩)));(go_ret);exact ⟨by first|rfl|(simp;done)|(simp [*];done),by repeat (first|exact Drawn0.refl _|apply Drawn0.step)⟩
end Go.Proofs.YtihnjbfjdkdhaaaGreat.Q
end
section
namespace Go.Proofs.YtihnjbfjdkdhaaaGreat.Q
open Go.RowKit Go.Proofs.YtihnjbfjdkdhaaaGreatW.PrintWords Go.Proofs.YtihnjbfjdkdhaaaGreatW.PrintLast Go.Proofs.YtihnjbfjdkdhaaaGreatW.PrintMore
attribute [local go_sem] max2_int min2_int max_two min_two max_three min_three max_four min_four   -- for this text's walks alone
set_option linter.unusedVariables false
set_option linter.unusedSimpArgs false
def spec_weAt.l0:Nat→Int→Int→Int→List Int→Int→Int→Option (Int)
|0,_,_,_,_,_,_=>none
|k + 1,x1,x5,x6,x9,x10,x11=>if x11 < x10 then (if 0≤x11 then (if x11 < (x9.length:Int) then (spec_weAt.l0 k x1 (wrap64 (x5 + (wrap64 ((rd x9 x11) * x6)))) (wrap64 (x6 * x1)) x9 x10 (wrap64 (x11 + 1))) else (none)) else (none)) else (some x5)
def spec_weAt.f (k:Nat) (l0:List Int) (a1:Int):Option (Int):=spec_weAt.l0 k a1 0 1 l0 (l0.length:Int) 0
set_option maxHeartbeats 8000000 in
set_option maxRecDepth 100000 in
theorem spec_weAt.calls (k:Nat) (A0:Option Addr) (c0:Nat) (l0:List Int) (a1:Int) (r:Int) (w:World) (hr0:Kd.C (Kd.int .i64) w A0 l0.length l0) (hc0:l0.length≤c0) (h:spec_weAt.f k l0 a1=some r) :
  Calls Tryz.prog 56 #[.slice A0 l0.length c0,.int .i64 a1] w fun e w'=>e=.returned (.int .i64 r)∧Drawn0 w w':=by
 have HR0:=za hr0;have HC0:=za hc0;clear hr0 hc0;have H:(spec_weAt.l0 k a1 0 1 l0 (l0.length:Int) 0)=some r:=h;clear h;have H':=za H;clear H;(go_enter Tryz.func56,Tryz.ntmps56);(go_wp2);(go_loopg [5,6,11] k (fun kq v5 v6 v11 w'=>∃ (x5_1:Int) (x6_1:Int) (x11_1:Int),v5=.int .i64 x5_1∧v6=.int .i64 x6_1∧v11=.int .i64 x11_1∧Aside0 (spec_weAt.l0 kq a1 x5_1 x6_1 l0 (l0.length:Int) x11_1=some r)∧Aside0 (kq≤k)∧Drawn0 w w'));case atStart=>exact ⟨(0),(1),(0),(by first|rfl|(simp;done)|(simp [*];done)),(by first|rfl|(simp;done)|(simp [*];done)),(by first|rfl|(simp;done)|(simp [*];done)),H',⟨Nat.le_refl _⟩,by repeat (first|exact Drawn0.refl _|apply Drawn0.step)⟩
 case round =>
  clear H';(try clear p2);obtain ⟨x5_1,x6_1,x11_1,rfl,rfl,rfl,HA,HK1,⟨m1,rfl⟩⟩:=hrel
  cases gk with
 |zero=>exact absurd HA.out (by simp [spec_weAt.l0])
 |succ k1 =>
   have H:=HA.out;clear HA;simp only [spec_weAt.l0] at H;by_cases c3:x11_1 < (l0.length:Int)
   ·
    rw [if_pos c3] at H;have c3b0:decide (x11_1 < (l0.length:Int))=true:=decide_eq_true c3;clear c3;by_cases c4:0≤x11_1
    ·
     rw [if_pos c4] at H;have c4b0:decide (0≤x11_1)=true:=decide_eq_true c4;clear c4;by_cases c5:x11_1 < (l0.length:Int)
     · rw [if_pos c5] at H;have c5b0:decide (x11_1 < (l0.length:Int))=true:=decide_eq_true c5;clear c5;have H':=za H;clear H;have p101:0≤(x11_1:Int):=of_decide_eq_true ‹_›;have q101:x11_1 < (l0.length:Int):=of_decide_eq_true ‹_›;obtain ⟨ad101,e101,hx101_0⟩:=zz HR0.out x11_1 p101 q101;cases e101;replace p101:=eq_true p101;replace q101:=eq_true q101;(go_wp2);(go_roundg k1);(case measure=>have:=HK1.out;omega);case rel=>exact ⟨(wrap64 (x5_1 + (wrap64 ((rd l0 x11_1) * x6_1)))),(wrap64 (x6_1 * a1)),(wrap64 (x11_1 + 1)),(by first|rfl|(simp;done)|(simp [*];done)),(by first|rfl|(simp;done)|(simp [*];done)),(by first|rfl|(simp;done)|(simp [*];done)),H',⟨by have:=HK1.out;omega⟩,by repeat (first|exact Drawn0.refl _|apply Drawn0.step)⟩
     · rw [if_neg c5] at H;exact absurd H (by simp)
    · rw [if_neg c4] at H;exact absurd H (by simp)
   · rw [if_neg c3] at H;have c3b0:decide (x11_1 < (l0.length:Int))=false:=decide_eq_false c3;clear c3;obtain rfl:=Option.some.inj H;(go_wp2);(go_ret);exact ⟨by first|rfl|(simp;done)|(simp [*];done),by repeat (first|exact Drawn0.refl _|apply Drawn0.step)⟩
end Go.Proofs.YtihnjbfjdkdhaaaGreat.Q
end
section
namespace Go.Proofs.YtihnjbfjdkdhaaaGreat.Q
open Go.RowKit Go.Proofs.YtihnjbfjdkdhaaaGreatW.PrintWords Go.Proofs.YtihnjbfjdkdhaaaGreatW.PrintLast Go.Proofs.YtihnjbfjdkdhaaaGreatW.PrintMore
attribute [local go_sem] max2_int min2_int max_two min_two max_three min_three max_four min_four   -- for this text's walks alone
set_option linter.unusedVariables false
set_option linter.unusedSimpArgs false
def spec_WeightAt.j0:Nat→List Int→Int→Int→Bool→Option (Int × Bool)
|0,_,_,_,_=>none
|k + 1,x0,x1,x2,x16=>if x16=true then (some (0,false)) else ((spec_weAll.f k x0).bind fun t103=>(if 0≤x1 then (if x1 < (t103.length:Int) then ((spec_weAt.f k (rd_L2 t103 x1) x2).bind fun t107=>(some (t107,true))) else (none)) else (none)))
def spec_WeightAt.f (k:Nat) (l0:List Int) (a1:Int) (a2:Int):Option (Int × Bool):=(spec_weAsked.f k l0 a1).bind fun t101=>(if t101=true then ((spec_weBase.f a2).bind fun t102=>(spec_WeightAt.j0 k l0 a1 a2 (!t102))) else (spec_WeightAt.j0 k l0 a1 a2 true))
set_option maxHeartbeats 8000000 in
set_option maxRecDepth 100000 in
theorem spec_WeightAt.calls (k:Nat) (A0:Option Addr) (c0:Nat) (l0:List Int) (a1:Int) (a2:Int) (r1:Int) (r2:Bool) (w:World) (hr0:Kd.C (Kd.int .i64) w A0 l0.length l0) (hc0:l0.length≤c0) (h:spec_WeightAt.f k l0 a1 a2=some (r1,r2)) :
  Calls Tryz.prog 22 #[.slice A0 l0.length c0,.int .i64 a1,.int .i64 a2] w fun e w'=>e=.returned (.tuple #[.int .i64 r1,.bool r2])∧Below w.heap.size w w':=by
 have HR0:=za hr0;have HC0:=za hc0;clear hr0 hc0;have HB:=za (Below.refl w.heap.size w);have H:((spec_weAsked.f k l0 a1).bind fun t101=>(if t101=true then ((spec_weBase.f a2).bind fun t102=>(spec_WeightAt.j0 k l0 a1 a2 (!t102))) else (spec_WeightAt.j0 k l0 a1 a2 true)))=some (r1,r2):=h;clear h;have HC4:=za H;clear H;(go_enter Tryz.func22,Tryz.ntmps22);(go_upto_region 1 with (fail));go_cut [16] (fun v16 wc=>∃ (kq:Nat) (x16_3:Bool),v16=.bool x16_3∧Aside0 (spec_WeightAt.j0 kq l0 a1 a2 x16_3=some (r1,r2))∧Aside0 (kq≤k)∧Aside0 (Below w.heap.size w wc))
 case first =>
  have H:=HC4.out;clear HC4;obtain ⟨t101,A5,H⟩:=bindAside H;(try dsimp only at H);by_cases c6:t101=true
  · subst c6;(have H1:((spec_weBase.f a2).bind fun t102=>(spec_WeightAt.j0 k l0 a1 a2 (!t102)))=some (r1,r2):=by rw [if_pos rfl] at H;exact H);clear H;have H:=H1;clear H1;obtain ⟨t102,A7,H⟩:=bindAside H;(try dsimp only at H);have H':=za H;clear H;(go_wp2_with (first|((with_reducible refine zo (f:=49) rfl ?_);refine zp (some 10) rfl rfl Tryz.func49 (by kernel_rfl) rfl #[.slice A0 l0.length c0,.int .i64 a1] rfl (by first|rfl|simp only [z3_,z4_,z5_];try rfl) ?_;(with_reducible refine (spec_weAsked.calls k _ _ l0 a1 true _ ?side1 ?side2 A5.out).mono ?_);(case side1=>repeat (first|exact (zG HR0.out HB.out)|(with_reducible refine zh ?_ _)|(with_reducible refine zi ?_ _)|(with_reducible refine zj ?_)));(case side2=>exact HC0.out);rintro e w' ⟨rfl,⟨nd,rfl⟩⟩;refine ⟨_,rfl,?_⟩)|(go_at_call 55;(with_reducible refine (spec_weBase.calls a2 t102 _ A7.out).mono ?_);rintro e w' ⟨rfl,⟨nd,rfl⟩⟩)));(go_meet);case rel=>exact ⟨_,(!t102),(by first|rfl|(simp;done)|(simp [*];done)),H',⟨by first|omega|exact Nat.le_refl _⟩,⟨by repeat (first|(with_reducible first|exact HB.out|apply zc|apply zd|apply zb)|exact HB.out)⟩⟩
  · replace c6:=Bool.eq_false_iff.mpr c6;subst c6;(have H1:(spec_WeightAt.j0 k l0 a1 a2 true)=some (r1,r2):=by rw [if_neg (show ¬ (false=true) by decide)] at H;exact H);clear H;have H:=H1;clear H1;have H':=za H;clear H;(go_wp2_with (first|((with_reducible refine zo (f:=49) rfl ?_);refine zp (some 10) rfl rfl Tryz.func49 (by kernel_rfl) rfl #[.slice A0 l0.length c0,.int .i64 a1] rfl (by first|rfl|simp only [z3_,z4_,z5_];try rfl) ?_;(with_reducible refine (spec_weAsked.calls k _ _ l0 a1 false _ ?side1 ?side2 A5.out).mono ?_);(case side1=>repeat (first|exact (zG HR0.out HB.out)|(with_reducible refine zh ?_ _)|(with_reducible refine zi ?_ _)|(with_reducible refine zj ?_)));(case side2=>exact HC0.out);rintro e w' ⟨rfl,⟨nd,rfl⟩⟩;refine ⟨_,rfl,?_⟩)));(go_meet);case rel=>exact ⟨_,(true),(by first|rfl|(simp;done)|(simp [*];done)),H',⟨by first|omega|exact Nat.le_refl _⟩,⟨by repeat (first|(with_reducible first|exact HB.out|apply zc|apply zd|apply zb)|exact HB.out)⟩⟩
 case rest =>
  clear HC4;(try clear c2);(try clear p2);(try clear c4);(try clear c6);obtain ⟨kq,x16_3,rfl,HA,HJ3,HB⟩:=hcut
  cases kq with
 |zero=>exact absurd HA.out (by simp [spec_WeightAt.j0])
 |succ kj3 =>
   have H:=HA.out;clear HA;simp only [spec_WeightAt.j0] at H;by_cases c8:x16_3=true
   · subst c8;(have H1:(some (0,false))=some (r1,r2):=by rw [if_pos rfl] at H;exact H);clear H;have H:=H1;clear H1;simp only [Option.some.injEq,Prod.mk.injEq] at H;obtain ⟨rfl,rfl⟩:=H;(go_wp2);(go_ret2);exact ⟨by first|rfl|simp [*,errW_none,errW_some] <;> rfl,by repeat (first|(with_reducible first|exact HB.out|apply zc|apply zd|apply zb)|exact HB.out)⟩
   ·
    replace c8:=Bool.eq_false_iff.mpr c8;subst c8;(have H1:((spec_weAll.f kj3 l0).bind fun t103=>(if 0≤a1 then (if a1 < (t103.length:Int) then ((spec_weAt.f kj3 (rd_L2 t103 a1) a2).bind fun t107=>(some (t107,true))) else (none)) else (none)))=some (r1,r2):=by rw [if_neg (show ¬ (false=true) by decide)] at H;exact H);clear H;have H:=H1;clear H1;obtain ⟨t103,A9,H⟩:=bindAside H;(try dsimp only at H);by_cases c10:0≤a1
    ·
     rw [if_pos c10] at H;have c10b0:decide (0≤a1)=true:=decide_eq_true c10;clear c10;by_cases c11:a1 < (t103.length:Int)
     · rw [if_pos c11] at H;have c11b0:decide (a1 < (t103.length:Int))=true:=decide_eq_true c11;clear c11;obtain ⟨t107,A12,H⟩:=bindAside H;(try dsimp only at H);simp only [Option.some.injEq,Prod.mk.injEq] at H;obtain ⟨rfl,rfl⟩:=H;(go_wp2_with (first|((with_reducible refine zo (f:=46) rfl ?_);refine zp (some 18) rfl rfl Tryz.func46 (by kernel_rfl) rfl #[.slice A0 l0.length c0] rfl (by first|rfl|simp only [z3_,z4_,z5_];try rfl) ?_;(with_reducible refine (spec_weAll.calls kj3 _ _ l0 t103 _ ?side1 ?side2 A9.out).mono ?_);(case side1=>repeat (first|exact (zG HR0.out HB.out)|(with_reducible refine zh ?_ _)|(with_reducible refine zi ?_ _)|(with_reducible refine zj ?_)));(case side2=>exact HC0.out);rintro e w13 ⟨v104,rfl,ho0,hb⟩;refine ⟨_,rfl,?_⟩;have HO105:=za (Kd.S_lower ho0 (zq (by repeat (first|(with_reducible first|exact HB.out|apply zc|apply zd|apply zb)|exact HB.out))));replace HB:=za (zm (by repeat (first|(with_reducible first|exact HB.out|apply zc|apply zd|apply zb)|exact HB.out)) hb);obtain ⟨Ao14,co14,eo14⟩:=Kd.S_slice HO105.out;subst eo14;have p106:0≤(a1:Int):=of_decide_eq_true ‹_›;have q106:a1 < (t103.length:Int):=of_decide_eq_true ‹_›;obtain ⟨ad106,A106_0,c106_0,e106,hx106_0,hl106_0,hi106_0⟩:=at_L2 (Kd.S_reads' HO105.out).2.2 a1 p106 q106;cases e106;obtain ⟨ce106,hce106,hMe106,hcc106⟩:=Kd.S_get HO105.out [] a1 p106 (by first|exact q106|exact of_decide_eq_true ‹_›|(have e_:=(Kd.S_reads' HO105.out).1;omega));obtain ⟨ve106_0,rfl,ge106_0⟩:=hMe106;have hv106_0:=hcc106 0 _ rfl;rw [Nat.add_zero,show ((Kd.slice 3 (Kd.int .i64))).sz=1 from rfl,Nat.mul_one] at hv106_0;replace hv106_0:=Option.some.inj (hv106_0.symm.trans hx106_0);rw [hv106_0] at ge106_0;have HL106_0:=za (show Kd.R (Kd.int .i64) 3 _ _ _ _ (rd_L2 t103 a1) from ge106_0);clear hv106_0 ge106_0;clear hcc106 hce106;have HR106_0:=za hi106_0;have HC106_0:=za hl106_0;clear hi106_0 hl106_0;replace p106:=eq_true p106;replace q106:=eq_true q106)|((with_reducible refine zo (f:=56) rfl ?_);refine zp (some 23) rfl rfl Tryz.func56 (by kernel_rfl) rfl #[.slice A106_0 (rd_L2 t103 a1).length c106_0,.int .i64 a2] rfl (by first|rfl|simp only [z3_,z4_,z5_];try rfl) ?_;(with_reducible refine (spec_weAt.calls kj3 _ _ (rd_L2 t103 a1) a2 t107 _ ?side1 ?side2 A12.out).mono ?_);(case side1=>repeat (first|exact (by repeat (first|(with_reducible exact HR106_0.out)|(with_reducible refine zh ?_ _)|(with_reducible refine zi ?_ _)|(with_reducible refine zj ?_)|exact HR106_0.out))|(with_reducible refine zh ?_ _)|(with_reducible refine zi ?_ _)|(with_reducible refine zj ?_)));(case side2=>exact HC106_0.out);rintro e w' ⟨rfl,⟨nd,rfl⟩⟩;refine ⟨_,rfl,?_⟩)));(go_ret2);exact ⟨by first|rfl|simp [*,errW_none,errW_some] <;> rfl,by repeat (first|(with_reducible first|exact HB.out|apply zc|apply zd|apply zb)|exact HB.out)⟩
     · rw [if_neg c11] at H;exact absurd H (by simp)
    · rw [if_neg c10] at H;exact absurd H (by simp)
end Go.Proofs.YtihnjbfjdkdhaaaGreat.Q
end
section
namespace Go.Proofs.YtihnjbfjdkdhaaaGreat.Q
open Go.RowKit Go.Proofs.YtihnjbfjdkdhaaaGreatW.PrintWords Go.Proofs.YtihnjbfjdkdhaaaGreatW.PrintLast Go.Proofs.YtihnjbfjdkdhaaaGreatW.PrintMore
attribute [local go_sem] max2_int min2_int max_two min_two max_three min_three max_four min_four   -- for this text's walks alone
set_option linter.unusedVariables false
set_option linter.unusedSimpArgs false
def spec_DrawBracketOf.f (l0:List Int):Option (Int × Int):=(spec_l1Cur_pick.f l0 0 0 24).bind fun bt102=>((spec_l1Cur_base.f l0 bt102.2.1 bt102.2.2).bind fun bt105=>(some (wrap64 (bt102.1 - 1),bt105.1)))
set_option maxHeartbeats 8000000 in
set_option maxRecDepth 100000 in
theorem spec_DrawBracketOf.calls (A0:Option Addr) (c0:Nat) (l0:List Int) (r1:Int) (r2:Int) (w:World) (hr0:Kd.C (Kd.int .u8) w A0 l0.length l0) (hc0:l0.length≤c0) (h:spec_DrawBracketOf.f l0=some (r1,r2)) :
  Calls Tryz.prog 23 #[.slice A0 l0.length c0] w fun e w'=>e=.returned (.tuple #[.int .i64 r1,.int .i64 r2])∧Below w.heap.size w w':=by
 have hu55:=Tryz.underlying55;have HR0:=za hr0;have HC0:=za hc0;clear hr0 hc0;have HB:=za (Below.refl w.heap.size w);have H:((spec_l1Cur_pick.f l0 0 0 24).bind fun bt102=>((spec_l1Cur_base.f l0 bt102.2.1 bt102.2.2).bind fun bt105=>(some (wrap64 (bt102.1 - 1),bt105.1))))=some (r1,r2):=h;clear h;obtain ⟨⟨t102,t103,t104⟩,A2,H⟩:=bindAside H;(try dsimp only at H);obtain ⟨⟨t105,t106,t107⟩,A3,H⟩:=bindAside H;(try dsimp only at H);simp only [Option.some.injEq,Prod.mk.injEq] at H;obtain ⟨rfl,rfl⟩:=H;(go_enter Tryz.func23,Tryz.ntmps23);(go_wp2_with (first|((with_reducible refine gate_dst (N:=7) rfl ?_);refine box_event ?hg (N:=7) ?hd (cs:=#[.slice A0 l0.length c0,.int .i64 0,.int .u64 0]) (t:=55) ?hr ?_;(case hd=>rfl);(case hg=>rfl);(case hr=>first|(go_simp;done)|(go_simp;rfl));intro gb101 hg w4 hbox hb;have BK101:=za (hbox);have GW101:=za ((by rw [hg];exact (zq (by repeat (first|(with_reducible first|exact HB.out|apply zc|apply zd|apply zb)|exact HB.out))):w.heap.size≤gb101));have GE101:=za ((by rw [hg];exact (zq (by repeat (first|(with_reducible first|exact HB.out|apply zc|apply zd|apply zb)|exact HB.out))):w.heap.size≤gb101));replace HB:=za (zm (by repeat (first|(with_reducible first|exact HB.out|apply zc|apply zd|apply zb)|exact HB.out)) hb);clear hb hbox hg;have HI101:=za (show IsS55 w _ gb101 l0 0 0 from ⟨_,_,BK101.out,GE101.out,HR0.out⟩))|((with_reducible refine zo (f:=31) rfl ?_);refine zp (some 9) rfl rfl Tryz.func31 (by kernel_rfl) rfl #[.pointer (some ⟨gb101,0,none⟩),.int .i64 24] rfl (by first|rfl|simp only [z3_,z4_,z5_];try rfl) ?_;(with_reducible refine (spec_l1Cur_pick.calls gb101 l0 0 0 24 t102 t103 t104 w _ ?side1 ?side2 A2.out).mono ?_);(case side1=>repeat (first|(with_reducible first|exact HI101.out|apply IsS55.alloc|apply IsS55.drewN|apply IsS55.drew|apply IsS55.set_1|apply IsS55.set_2)|exact HI101.out));(case side2=>repeat (first|(with_reducible first|exact HB.out|apply zc|apply zd|apply zb|refine zl ?_ (IsS55.ge HI101.out))|exact HB.out));rintro e w5 ⟨rfl,hi,hb,hk⟩;refine ⟨_,rfl,?_⟩;replace HB:=za (hb);replace HI101:=za (hi))|((with_reducible refine zo (f:=52) rfl ?_);refine zp (some 12) rfl rfl Tryz.func52 (by kernel_rfl) rfl #[.pointer (some ⟨gb101,0,none⟩)] rfl (by first|rfl|simp only [z3_,z4_,z5_];try rfl) ?_;(with_reducible refine (spec_l1Cur_base.calls gb101 l0 t103 t104 t105 t106 t107 w _ ?side1 ?side2 A3.out).mono ?_);(case side1=>repeat (first|(with_reducible first|exact HI101.out|apply IsS55.alloc|apply IsS55.drewN|apply IsS55.drew|apply IsS55.set_1|apply IsS55.set_2)|exact HI101.out));(case side2=>repeat (first|(with_reducible first|exact HB.out|apply zc|apply zd|apply zb|refine zl ?_ (IsS55.ge HI101.out))|exact HB.out));rintro e w6 ⟨rfl,hi,hb,hk⟩;refine ⟨_,rfl,?_⟩;replace HB:=za (hb);replace HI101:=za (hi))));(go_ret2);exact ⟨by first|rfl|simp [*,errW_none,errW_some] <;> rfl,by repeat (first|(with_reducible first|exact HB.out|apply zc|apply zd|apply zb|refine zl ?_ (IsS55.ge HI101.out))|exact HB.out)⟩
end Go.Proofs.YtihnjbfjdkdhaaaGreat.Q
end
section
namespace Go.Proofs.YtihnjbfjdkdhaaaGreat.Q
open Go.RowKit Go.Proofs.YtihnjbfjdkdhaaaGreatW.PrintWords Go.Proofs.YtihnjbfjdkdhaaaGreatW.PrintLast Go.Proofs.YtihnjbfjdkdhaaaGreatW.PrintMore
attribute [local go_sem] max2_int min2_int max_two min_two max_three min_three max_four min_four   -- for this text's walks alone
set_option linter.unusedVariables false
set_option linter.unusedSimpArgs false
def impl_bracket.f (k:Nat) (a0:Int) (a1:Int):Option (Int):=(impl_power.f k a1 a0).bind fun t101=>(if (wrap64 (a1 - 1))=0 then (none) else (some (wrap64 (Int.tdiv (wrap64 (t101 - 1)) (wrap64 (a1 - 1))))))
theorem impl_bracket.mono:∀ a0 a1 k,LeO (impl_bracket.f k a0 a1) (impl_bracket.f (k + 1) a0 a1):=by
 intro a0 a1 k;unfold impl_bracket.f
 repeat' first
  |(with_reducible exact impl_power.mono _ _ _)
  |(with_reducible exact LeO.refl _)
  |(with_reducible exact LeO.none _)
  |(with_reducible refine LeO.ite ?_ ?_)
  |(with_reducible refine LeO.bind ?_ (fun _=>?_))
  |exact impl_power.mono _ _ _
  |exact LeO.none _
  |refine LeO.ite ?_ ?_
  |refine LeO.bind ?_ (fun _=>?_)
set_option maxHeartbeats 8000000 in
set_option maxRecDepth 100000 in
theorem impl_bracket.calls (k:Nat) (a0:Int) (a1:Int) (r:Int) (w:World) (h:impl_bracket.f k a0 a1=some r) :
  Calls Tryz.prog 57 #[.int .i64 a0,.int .i64 a1] w fun e w'=>e=.returned (.int .i64 r)∧Drawn0 w w':=by
 have H:((impl_power.f k a1 a0).bind fun t101=>(if (wrap64 (a1 - 1))=0 then (none) else (some (wrap64 (Int.tdiv (wrap64 (t101 - 1)) (wrap64 (a1 - 1)))))))=some r:=h;clear h;obtain ⟨t101,A3,H⟩:=bindAside H;(try dsimp only at H);by_cases c4:(wrap64 (a1 - 1))=0
 · rw [if_pos c4] at H;exact absurd H (by simp)
 · rw [if_neg c4] at H;have c4b0:((wrap64 (a1 - 1)) == 0)=false:=beq_eq_false_iff_ne.mpr c4;have c4b1:((wrap64 (a1 - 1)) != 0)=true:=bne_iff_ne.mpr c4;obtain rfl:=Option.some.inj H;(go_enter Tryz.func57,Tryz.ntmps57);(go_wp2_with (first|((with_reducible refine zo (f:=87) rfl ?_);refine zp (some 7) rfl rfl Tryz.func87 (by kernel_rfl) rfl #[.int .i64 a1,.int .i64 a0] rfl (by first|rfl|simp only [z3_,z4_,z5_];try rfl) ?_;(with_reducible refine (impl_power.calls k a1 a0 t101 _ A3.out).mono ?_);rintro e w' ⟨rfl,⟨nd,rfl⟩⟩;refine ⟨_,rfl,?_⟩)));(go_ret);exact ⟨by first|rfl|(simp;done)|(simp [*];done),by repeat (first|exact Drawn0.refl _|apply Drawn0.step)⟩
end Go.Proofs.YtihnjbfjdkdhaaaGreat.Q
end
section
namespace Go.Proofs.YtihnjbfjdkdhaaaGreat.Q
open Go.RowKit Go.Proofs.YtihnjbfjdkdhaaaGreatW.PrintWords Go.Proofs.YtihnjbfjdkdhaaaGreatW.PrintLast Go.Proofs.YtihnjbfjdkdhaaaGreatW.PrintMore
attribute [local go_sem] max2_int min2_int max_two min_two max_three min_three max_four min_four   -- for this text's walks alone
set_option linter.unusedVariables false
set_option linter.unusedSimpArgs false
def impl_BracketOf.f (k:Nat) (a0:Int) (a1:Int):Option (Int × Bool):=(impl_within.f a0 0 20).bind fun t101=>(if t101=true then ((impl_isQ.f a1).bind fun t102=>(if t102=true then ((impl_bracket.f k a0 a1).bind fun t103=>(some (t103,true))) else (some (0,false)))) else (some (0,false)))
theorem impl_BracketOf.mono:∀ a0 a1 k,LeO (impl_BracketOf.f k a0 a1) (impl_BracketOf.f (k + 1) a0 a1):=by
 intro a0 a1 k;unfold impl_BracketOf.f
 repeat' first
  |(with_reducible exact impl_bracket.mono _ _ _)
  |(with_reducible exact LeO.refl _)
  |(with_reducible exact LeO.none _)
  |(with_reducible refine LeO.ite ?_ ?_)
  |(with_reducible refine LeO.bind ?_ (fun _=>?_))
  |exact impl_bracket.mono _ _ _
  |exact LeO.none _
  |refine LeO.ite ?_ ?_
  |refine LeO.bind ?_ (fun _=>?_)
set_option maxHeartbeats 8000000 in
set_option maxRecDepth 100000 in
theorem impl_BracketOf.calls (k:Nat) (a0:Int) (a1:Int) (r1:Int) (r2:Bool) (w:World) (h:impl_BracketOf.f k a0 a1=some (r1,r2)) :
  Calls Tryz.prog 24 #[.int .i64 a0,.int .i64 a1] w fun e w'=>e=.returned (.tuple #[.int .i64 r1,.bool r2])∧Drawn0 w w':=by
 have H:((impl_within.f a0 0 20).bind fun t101=>(if t101=true then ((impl_isQ.f a1).bind fun t102=>(if t102=true then ((impl_bracket.f k a0 a1).bind fun t103=>(some (t103,true))) else (some (0,false)))) else (some (0,false))))=some (r1,r2):=h;clear h;obtain ⟨t101,A3,H⟩:=bindAside H;(try dsimp only at H);by_cases c4:t101=true
 ·
  subst c4;(have H1:((impl_isQ.f a1).bind fun t102=>(if t102=true then ((impl_bracket.f k a0 a1).bind fun t103=>(some (t103,true))) else (some (0,false))))=some (r1,r2):=by rw [if_pos rfl] at H;exact H);clear H;have H:=H1;clear H1;obtain ⟨t102,A5,H⟩:=bindAside H;(try dsimp only at H);by_cases c6:t102=true
  · subst c6;(have H1:((impl_bracket.f k a0 a1).bind fun t103=>(some (t103,true)))=some (r1,r2):=by rw [if_pos rfl] at H;exact H);clear H;have H:=H1;clear H1;obtain ⟨t103,A7,H⟩:=bindAside H;(try dsimp only at H);simp only [Option.some.injEq,Prod.mk.injEq] at H;obtain ⟨rfl,rfl⟩:=H;(go_enter Tryz.func24,Tryz.ntmps24);(go_wp2_with (first|((with_reducible refine zo (f:=48) rfl ?_);refine zp (some 7) rfl rfl Tryz.func48 (by kernel_rfl) rfl #[.int .i64 a0,.int .i64 0,.int .i64 20] rfl (by first|rfl|simp only [z3_,z4_,z5_];try rfl) ?_;(with_reducible refine (impl_within.calls a0 0 20 true _ A3.out).mono ?_);rintro e w' ⟨rfl,⟨nd,rfl⟩⟩;refine ⟨_,rfl,?_⟩)|(go_at_call 53;(with_reducible refine (impl_isQ.calls a1 true _ A5.out).mono ?_);rintro e w' ⟨rfl,⟨nd,rfl⟩⟩)|((with_reducible refine zo (f:=57) rfl ?_);refine zp (some 16) rfl rfl Tryz.func57 (by kernel_rfl) rfl #[.int .i64 a0,.int .i64 a1] rfl (by first|rfl|simp only [z3_,z4_,z5_];try rfl) ?_;(with_reducible refine (impl_bracket.calls k a0 a1 t103 _ A7.out).mono ?_);rintro e w' ⟨rfl,⟨nd,rfl⟩⟩;refine ⟨_,rfl,?_⟩)));(go_ret2);exact ⟨by first|rfl|(simp;done)|(simp [*];done),by repeat (first|exact Drawn0.refl _|apply Drawn0.step)⟩
  · replace c6:=Bool.eq_false_iff.mpr c6;subst c6;(have H1:(some (0,false))=some (r1,r2):=by rw [if_neg (show ¬ (false=true) by decide)] at H;exact H);clear H;have H:=H1;clear H1;simp only [Option.some.injEq,Prod.mk.injEq] at H;obtain ⟨rfl,rfl⟩:=H;(go_enter Tryz.func24,Tryz.ntmps24);(go_wp2_with (first|((with_reducible refine zo (f:=48) rfl ?_);refine zp (some 7) rfl rfl Tryz.func48 (by kernel_rfl) rfl #[.int .i64 a0,.int .i64 0,.int .i64 20] rfl (by first|rfl|simp only [z3_,z4_,z5_];try rfl) ?_;(with_reducible refine (impl_within.calls a0 0 20 true _ A3.out).mono ?_);rintro e w' ⟨rfl,⟨nd,rfl⟩⟩;refine ⟨_,rfl,?_⟩)|(go_at_call 53;(with_reducible refine (impl_isQ.calls a1 false _ A5.out).mono ?_);rintro e w' ⟨rfl,⟨nd,rfl⟩⟩)));(go_ret2);exact ⟨by first|rfl|(simp;done)|(simp [*];done),by repeat (first|exact Drawn0.refl _|apply Drawn0.step)⟩
 · replace c4:=Bool.eq_false_iff.mpr c4;subst c4;(have H1:(some (0,false))=some (r1,r2):=by rw [if_neg (show ¬ (false=true) by decide)] at H;exact H);clear H;have H:=H1;clear H1;simp only [Option.some.injEq,Prod.mk.injEq] at H;obtain ⟨rfl,rfl⟩:=H;(go_enter Tryz.func24,Tryz.ntmps24);(go_wp2_with (first|((with_reducible refine zo (f:=48) rfl ?_);refine zp (some 7) rfl rfl Tryz.func48 (by kernel_rfl) rfl #[.int .i64 a0,.int .i64 0,.int .i64 20] rfl (by first|rfl|simp only [z3_,z4_,z5_];try rfl) ?_;(with_reducible refine (impl_within.calls a0 0 20 false _ A3.out).mono ?_);rintro e w' ⟨rfl,⟨nd,rfl⟩⟩;refine ⟨_,rfl,?_⟩)));(go_ret2);exact ⟨by first|rfl|(simp;done)|(simp [*];done),by repeat (first|exact Drawn0.refl _|apply Drawn0.step)⟩
end Go.Proofs.YtihnjbfjdkdhaaaGreat.Q
end
section
namespace Go.Proofs.YtihnjbfjdkdhaaaGreat.Q
open Go.RowKit Go.Proofs.YtihnjbfjdkdhaaaGreatW.PrintWords Go.Proofs.YtihnjbfjdkdhaaaGreatW.PrintLast Go.Proofs.YtihnjbfjdkdhaaaGreatW.PrintMore
attribute [local go_sem] max2_int min2_int max_two min_two max_three min_three max_four min_four   -- for this text's walks alone
set_option linter.unusedVariables false
set_option linter.unusedSimpArgs false
def spec_weBracket.l0:Nat→Int→Int→Int→Option (Int)
|0,_,_,_=>none
|k + 1,x0,x1,x5=>if x0 > 0 then (spec_weBracket.l0 k (wrap64 (x0 - 1)) x1 (wrap64 ((wrap64 (x5 * x1)) + 1))) else (some x5)
def spec_weBracket.f (k:Nat) (a0:Int) (a1:Int):Option (Int):=spec_weBracket.l0 k a0 a1 0
theorem spec_weBracket.mono_l:∀ k,(∀ y0 y1 y2,LeO (spec_weBracket.l0 k y0 y1 y2) (spec_weBracket.l0 (k + 1) y0 y1 y2))
|0=>fun _ _ _ r h=>by simp [spec_weBracket.l0] at h
|k + 1=>by
  have ih0:=spec_weBracket.mono_l k
  ·
   intro y0 y1 y2
   unfold spec_weBracket.l0
   repeat' first
  |(with_reducible exact ih0 _ _ _)
  |(with_reducible exact LeO.refl _)
  |(with_reducible exact LeO.none _)
  |(with_reducible refine LeO.ite ?_ ?_)
  |(with_reducible refine LeO.bind ?_ (fun _=>?_))
  |exact ih0 _ _ _
  |exact LeO.none _
  |refine LeO.ite ?_ ?_
  |refine LeO.bind ?_ (fun _=>?_)
theorem spec_weBracket.mono:∀ a0 a1 k,LeO (spec_weBracket.f k a0 a1) (spec_weBracket.f (k + 1) a0 a1):=by
 intro a0 a1 k;have ih0:=spec_weBracket.mono_l k;unfold spec_weBracket.f
 repeat' first
  |(with_reducible exact ih0 _ _ _)
  |(with_reducible exact LeO.refl _)
  |(with_reducible exact LeO.none _)
  |(with_reducible refine LeO.ite ?_ ?_)
  |(with_reducible refine LeO.bind ?_ (fun _=>?_))
  |exact ih0 _ _ _
  |exact LeO.none _
  |refine LeO.ite ?_ ?_
  |refine LeO.bind ?_ (fun _=>?_)
set_option maxHeartbeats 8000000 in
set_option maxRecDepth 100000 in
theorem spec_weBracket.calls (k:Nat) (a0:Int) (a1:Int) (r:Int) (w:World) (h:spec_weBracket.f k a0 a1=some r) :
  Calls Tryz.prog 59 #[.int .i64 a0,.int .i64 a1] w fun e w'=>e=.returned (.int .i64 r)∧Drawn0 w w':=by
 have H:(spec_weBracket.l0 k a0 a1 0)=some r:=h;clear h;have H':=za H;clear H;(go_enter Tryz.func59,Tryz.ntmps59);(go_wp2);(go_loopg [0,5] k (fun kq v0 v5 w'=>∃ (x0_1:Int) (x5_1:Int),v0=.int .i64 x0_1∧v5=.int .i64 x5_1∧Aside0 (spec_weBracket.l0 kq x0_1 a1 x5_1=some r)∧Aside0 (kq≤k)∧Drawn0 w w'));case atStart=>exact ⟨(a0),(0),(by first|rfl|(simp;done)|(simp [*];done)),(by first|rfl|(simp;done)|(simp [*];done)),H',⟨Nat.le_refl _⟩,by repeat (first|exact Drawn0.refl _|apply Drawn0.step)⟩
 case round =>
  clear H';(try clear p2);obtain ⟨x0_1,x5_1,rfl,rfl,HA,HK1,⟨m1,rfl⟩⟩:=hrel
  cases gk with
 |zero=>exact absurd HA.out (by simp [spec_weBracket.l0])
 |succ k1 =>
   have H:=HA.out;clear HA;simp only [spec_weBracket.l0] at H;by_cases c3:x0_1 > 0
   · rw [if_pos c3] at H;have c3b0:decide (0 < x0_1)=true:=decide_eq_true c3;clear c3;have H':=za H;clear H;(go_wp2);(go_roundg k1);(case measure=>have:=HK1.out;omega);case rel=>exact ⟨(wrap64 (x0_1 - 1)),(wrap64 ((wrap64 (x5_1 * a1)) + 1)),(by first|rfl|(simp;done)|(simp [*];done)),(by first|rfl|(simp;done)|(simp [*];done)),H',⟨by have:=HK1.out;omega⟩,by repeat (first|exact Drawn0.refl _|apply Drawn0.step)⟩
   · rw [if_neg c3] at H;have c3b0:decide (0 < x0_1)=false:=decide_eq_false c3;clear c3;obtain rfl:=Option.some.inj H;(go_wp2);(go_ret);exact ⟨by first|rfl|(simp;done)|(simp [*];done),by repeat (first|exact Drawn0.refl _|apply Drawn0.step)⟩
end Go.Proofs.YtihnjbfjdkdhaaaGreat.Q
end
section
namespace Go.Proofs.YtihnjbfjdkdhaaaGreat.Q
open Go.RowKit Go.Proofs.YtihnjbfjdkdhaaaGreatW.PrintWords Go.Proofs.YtihnjbfjdkdhaaaGreatW.PrintLast Go.Proofs.YtihnjbfjdkdhaaaGreatW.PrintMore
attribute [local go_sem] max2_int min2_int max_two min_two max_three min_three max_four min_four   -- for this text's walks alone
set_option linter.unusedVariables false
set_option linter.unusedSimpArgs false
def spec_BracketOf.f (k:Nat) (a0:Int) (a1:Int):Option (Int × Bool):=(spec_l1In.f a0 0 20).bind fun t101=>(if t101=true then ((spec_weBase.f a1).bind fun t102=>(if t102=true then ((spec_weBracket.f k a0 a1).bind fun t103=>(some (t103,true))) else (some (0,false)))) else (some (0,false)))
theorem spec_BracketOf.mono:∀ a0 a1 k,LeO (spec_BracketOf.f k a0 a1) (spec_BracketOf.f (k + 1) a0 a1):=by
 intro a0 a1 k;unfold spec_BracketOf.f
 repeat' first
  |(with_reducible exact spec_weBracket.mono _ _ _)
  |(with_reducible exact LeO.refl _)
  |(with_reducible exact LeO.none _)
  |(with_reducible refine LeO.ite ?_ ?_)
  |(with_reducible refine LeO.bind ?_ (fun _=>?_))
  |exact spec_weBracket.mono _ _ _
  |exact LeO.none _
  |refine LeO.ite ?_ ?_
  |refine LeO.bind ?_ (fun _=>?_)
set_option maxHeartbeats 8000000 in
set_option maxRecDepth 100000 in
theorem spec_BracketOf.calls (k:Nat) (a0:Int) (a1:Int) (r1:Int) (r2:Bool) (w:World) (h:spec_BracketOf.f k a0 a1=some (r1,r2)) :
  Calls Tryz.prog 25 #[.int .i64 a0,.int .i64 a1] w fun e w'=>e=.returned (.tuple #[.int .i64 r1,.bool r2])∧Drawn0 w w':=by
 have H:((spec_l1In.f a0 0 20).bind fun t101=>(if t101=true then ((spec_weBase.f a1).bind fun t102=>(if t102=true then ((spec_weBracket.f k a0 a1).bind fun t103=>(some (t103,true))) else (some (0,false)))) else (some (0,false))))=some (r1,r2):=h;clear h;obtain ⟨t101,A3,H⟩:=bindAside H;(try dsimp only at H);by_cases c4:t101=true
 ·
  subst c4;(have H1:((spec_weBase.f a1).bind fun t102=>(if t102=true then ((spec_weBracket.f k a0 a1).bind fun t103=>(some (t103,true))) else (some (0,false))))=some (r1,r2):=by rw [if_pos rfl] at H;exact H);clear H;have H:=H1;clear H1;obtain ⟨t102,A5,H⟩:=bindAside H;(try dsimp only at H);by_cases c6:t102=true
  · subst c6;(have H1:((spec_weBracket.f k a0 a1).bind fun t103=>(some (t103,true)))=some (r1,r2):=by rw [if_pos rfl] at H;exact H);clear H;have H:=H1;clear H1;obtain ⟨t103,A7,H⟩:=bindAside H;(try dsimp only at H);simp only [Option.some.injEq,Prod.mk.injEq] at H;obtain ⟨rfl,rfl⟩:=H;(go_enter Tryz.func25,Tryz.ntmps25);(go_wp2_with (first|((with_reducible refine zo (f:=58) rfl ?_);refine zp (some 7) rfl rfl Tryz.func58 (by kernel_rfl) rfl #[.int .i64 a0,.int .i64 0,.int .i64 20] rfl (by first|rfl|simp only [z3_,z4_,z5_];try rfl) ?_;(with_reducible refine (spec_l1In.calls a0 0 20 true _ A3.out).mono ?_);rintro e w' ⟨rfl,⟨nd,rfl⟩⟩;refine ⟨_,rfl,?_⟩)|(go_at_call 55;(with_reducible refine (spec_weBase.calls a1 true _ A5.out).mono ?_);rintro e w' ⟨rfl,⟨nd,rfl⟩⟩)|((with_reducible refine zo (f:=59) rfl ?_);refine zp (some 16) rfl rfl Tryz.func59 (by kernel_rfl) rfl #[.int .i64 a0,.int .i64 a1] rfl (by first|rfl|simp only [z3_,z4_,z5_];try rfl) ?_;(with_reducible refine (spec_weBracket.calls k a0 a1 t103 _ A7.out).mono ?_);rintro e w' ⟨rfl,⟨nd,rfl⟩⟩;refine ⟨_,rfl,?_⟩)));(go_ret2);exact ⟨by first|rfl|(simp;done)|(simp [*];done),by repeat (first|exact Drawn0.refl _|apply Drawn0.step)⟩
  · replace c6:=Bool.eq_false_iff.mpr c6;subst c6;(have H1:(some (0,false))=some (r1,r2):=by rw [if_neg (show ¬ (false=true) by decide)] at H;exact H);clear H;have H:=H1;clear H1;simp only [Option.some.injEq,Prod.mk.injEq] at H;obtain ⟨rfl,rfl⟩:=H;(go_enter Tryz.func25,Tryz.ntmps25);(go_wp2_with (first|((with_reducible refine zo (f:=58) rfl ?_);refine zp (some 7) rfl rfl Tryz.func58 (by kernel_rfl) rfl #[.int .i64 a0,.int .i64 0,.int .i64 20] rfl (by first|rfl|simp only [z3_,z4_,z5_];try rfl) ?_;(with_reducible refine (spec_l1In.calls a0 0 20 true _ A3.out).mono ?_);rintro e w' ⟨rfl,⟨nd,rfl⟩⟩;refine ⟨_,rfl,?_⟩)|(go_at_call 55;(with_reducible refine (spec_weBase.calls a1 false _ A5.out).mono ?_);rintro e w' ⟨rfl,⟨nd,rfl⟩⟩)));(go_ret2);exact ⟨by first|rfl|(simp;done)|(simp [*];done),by repeat (first|exact Drawn0.refl _|apply Drawn0.step)⟩
 · replace c4:=Bool.eq_false_iff.mpr c4;subst c4;(have H1:(some (0,false))=some (r1,r2):=by rw [if_neg (show ¬ (false=true) by decide)] at H;exact H);clear H;have H:=H1;clear H1;simp only [Option.some.injEq,Prod.mk.injEq] at H;obtain ⟨rfl,rfl⟩:=H;(go_enter Tryz.func25,Tryz.ntmps25);(go_wp2_with (first|((with_reducible refine zo (f:=58) rfl ?_);refine zp (some 7) rfl rfl Tryz.func58 (by kernel_rfl) rfl #[.int .i64 a0,.int .i64 0,.int .i64 20] rfl (by first|rfl|simp only [z3_,z4_,z5_];try rfl) ?_;(with_reducible refine (spec_l1In.calls a0 0 20 false _ A3.out).mono ?_);rintro e w' ⟨rfl,⟨nd,rfl⟩⟩;refine ⟨_,rfl,?_⟩)));(go_ret2);exact ⟨by first|rfl|(simp;done)|(simp [*];done),by repeat (first|exact Drawn0.refl _|apply Drawn0.step)⟩
end Go.Proofs.YtihnjbfjdkdhaaaGreat.Q
end
section
namespace Go.Proofs.YtihnjbfjdkdhaaaGreat.Q
open Go.RowKit Go.Proofs.YtihnjbfjdkdhaaaGreatW.PrintWords Go.Proofs.YtihnjbfjdkdhaaaGreatW.PrintLast Go.Proofs.YtihnjbfjdkdhaaaGreatW.PrintMore
attribute [local go_sem] max2_int min2_int max_two min_two max_three min_three max_four min_four   -- for this text's walks alone
set_option linter.unusedVariables false
set_option linter.unusedSimpArgs false
def spec_l1Cur_shorter.l0:Nat→Int→List Int→Int→List Int→Int→Int→Option (List Int × Int × Int)
|0,_,_,_,_,_,_=>none
|k + 1,x3,x4,x5,x1000,x1001,x1002=>if x5 < x3 then ((spec_l1Least.f x3 3).bind fun t104=>((spec_l1Cur_pick.f x1000 x1001 x1002 (wrap64 (t104 + 1))).bind fun bt105=>(if x4.length < 17592186044416 then (spec_l1Cur_shorter.l0 k x3 (x4 ++ [bt105.1]) (wrap64 (x5 + 1)) x1000 bt105.2.1 bt105.2.2) else (none)))) else ((spec_l1Cur_one.f x1000 x1001 x1002 8).bind fun bt111=>(if bt111.1=true then ((spec_l1Cur_lengths.f k x1000 bt111.2.1 bt111.2.2).bind fun bt114=>(some (bt114.1,bt114.2.1,bt114.2.2))) else ((spec_feSorted.f k x4).bind fun t119=>(some (t119,bt111.2.1,bt111.2.2)))))
def spec_l1Cur_shorter.f (k:Nat) (s0_0:List Int) (s0_1:Int) (s0_2:Int):Option (List Int × Int × Int):=(spec_l1Cur_pick.f s0_0 s0_1 s0_2 4).bind fun bt101=>(spec_l1Cur_shorter.l0 k (wrap64 (1 + bt101.1)) ([]:List Int) 0 s0_0 bt101.2.1 bt101.2.2)
set_option maxHeartbeats 8000000 in
set_option maxRecDepth 100000 in
theorem spec_l1Cur_shorter.calls (k:Nat) (g:Nat) (s0_0:List Int) (s0_1:Int) (s0_2:Int) (r1:List Int) (r2:Int) (r3:Int) (w0 w:World) (hI:IsS55 w0 w g s0_0 s0_1 s0_2) (hB:Below w0.heap.size w0 w) (h:spec_l1Cur_shorter.f k s0_0 s0_1 s0_2=some (r1,r2,r3)) :
  Calls Tryz.prog 60 #[.pointer (some ⟨g,0,none⟩)] w fun e w'=>∃ v0_:Value,e=.returned (v0_)∧Kd.R (Kd.int .i64) 3 w' w.heap.size (fun _=>True) v0_ r1∧IsS55 w0 w' g s0_0 r2 r3∧Below w0.heap.size w0 w'∧KeepBut w w' g none:=by
 have HI0:=za hI;have HK:=za (KeepBut.refl w g none);have HL:=za hB.size;clear hI;have HW0:=za hB.size;have HB:=za hB;clear hB;have H:((spec_l1Cur_pick.f s0_0 s0_1 s0_2 4).bind fun bt101=>(spec_l1Cur_shorter.l0 k (wrap64 (1 + bt101.1)) ([]:List Int) 0 s0_0 bt101.2.1 bt101.2.2))=some (r1,r2,r3):=h;clear h;obtain ⟨⟨t101,t102,t103⟩,A2,H⟩:=bindAside H;(try dsimp only at H);have H':=za H;clear H;(go_enter Tryz.func60,Tryz.ntmps60);(go_wp2_with (first|((with_reducible refine zo (f:=31) rfl ?_);refine zp (some 7) rfl rfl Tryz.func31 (by kernel_rfl) rfl #[.pointer (some ⟨g,0,none⟩),.int .i64 4] rfl (by first|rfl|simp only [z3_,z4_,z5_];try rfl) ?_;(with_reducible refine (spec_l1Cur_pick.calls g s0_0 s0_1 s0_2 4 t101 t102 t103 w0 _ ?side1 ?side2 A2.out).mono ?_);(case side1=>repeat (first|(with_reducible first|exact HI0.out|apply IsS55.alloc|apply IsS55.drewN|apply IsS55.drew|apply IsS55.set_1|apply IsS55.set_2)|exact HI0.out));(case side2=>repeat (first|(with_reducible first|exact HB.out|apply zc|apply zd|apply zb|refine zl ?_ (IsS55.ge HI0.out))|exact HB.out));rintro e w3 ⟨rfl,hi,hb,hk⟩;refine ⟨_,rfl,?_⟩;replace HK:=za (KeepBut.trans (by repeat (first|(with_reducible first|exact HK.out|apply zC|apply zD|apply zE|apply zF)|exact HK.out)) hk (.inl rfl));replace HB:=za (hb);replace HI0:=za (hi))));(go_loopg [4,5] k (fun kq v4 v5 w'=>∃ (x4_1:List Int) (x5_1:Int) (x1001_1:Int) (x1002_1:Int),v5=.int .i64 x5_1∧Aside0 (spec_l1Cur_shorter.l0 kq (wrap64 (1 + t101)) x4_1 x5_1 s0_0 x1001_1 x1002_1=some (r1,r2,r3))∧Aside0 (kq≤k)∧Aside0 (Kd.R (Kd.int .i64) 3 w' w.heap.size (fun _=>True) v4 x4_1)∧Aside0 (IsS55 w0 w' g s0_0 x1001_1 x1002_1)∧Aside0 (KeepBut w w' g none)∧Aside0 (Below w0.heap.size w0 w')));case atStart=>exact ⟨(([]:List Int)),(0),(t102),(t103),(by first|rfl|(simp;done)|(simp [*];done)),H',⟨Nat.le_refl _⟩,⟨by first|exact Kd.R_nil _ _ _ _ _|exact Kd.N_nil _ _ _ _ _|exact Kd.V_nil _ _ _ _ _|exact Kd.Q_nil _ _ _ _ _|exact Kd.S_nil _ _ _ _ _⟩,⟨by repeat (first|(with_reducible first|exact HI0.out|apply IsS55.alloc|apply IsS55.drewN|apply IsS55.drew|apply IsS55.set_1|apply IsS55.set_2)|exact HI0.out)⟩,⟨by repeat (first|(with_reducible first|exact HK.out|apply zC|apply zD|apply zE|apply zF)|exact HK.out)⟩,⟨by repeat (first|(with_reducible first|exact HB.out|apply zc|apply zd|apply zb|refine zl ?_ (IsS55.ge HI0.out))|exact HB.out)⟩⟩
 case round =>
  clear H';(try clear p2);(try clear c3);obtain ⟨x4_1,x5_1,x1001_1,x1002_1,rfl,HA,HK1,HO_4,HI0,HK,HB⟩:=hrel
  cases gk with
 |zero=>exact absurd HA.out (by simp [spec_l1Cur_shorter.l0])
 |succ k1 =>
   have H:=HA.out;clear HA;simp only [spec_l1Cur_shorter.l0] at H;by_cases c4:x5_1 < (wrap64 (1 + t101))
   ·
    rw [if_pos c4] at H;have c4b0:decide (x5_1 < (wrap64 (1 + t101)))=true:=decide_eq_true c4;clear c4;obtain ⟨t104,A5,H⟩:=bindAside H;(try dsimp only at H);obtain ⟨⟨t105,t106,t107⟩,A6,H⟩:=bindAside H;(try dsimp only at H);by_cases c7:x4_1.length < 17592186044416
    · rw [if_pos c7] at H;have LMc7:=za c7;clear c7;obtain ⟨y108,hy108⟩:∃ y_:List Int,y_=(x4_1 ++ [t105]):=⟨_,rfl⟩;(replace H:(spec_l1Cur_shorter.l0 k1 (wrap64 (1 + t101)) y108 (wrap64 (x5_1 + 1)) s0_0 t106 t107)=some (r1,r2,r3):=by first|(rw [hy108];with_reducible exact H)|(have H2_:=(Option.bind_some _ _).symm.trans H;rw [hy108];with_reducible exact H2_)|(have H2_:=(Option.bind_some _ _).symm.trans H;with_reducible exact H2_)|with_reducible exact H|(rw [hy108];exact H)|exact H);have Ny108:=za hy108;clear hy108;have H':=za H;clear H;(go_wp2_with (first|((with_reducible refine zo (f:=33) rfl ?_);refine zp (some 17) rfl rfl Tryz.func33 (by kernel_rfl) rfl #[.int .i64 (wrap64 (1 + t101)),.int .i64 3] rfl (by first|rfl|simp only [z3_,z4_,z5_];try rfl) ?_;(with_reducible refine (spec_l1Least.calls (wrap64 (1 + t101)) 3 t104 _ A5.out).mono ?_);rintro e w' ⟨rfl,⟨nd,rfl⟩⟩;refine ⟨_,rfl,?_⟩)|((with_reducible refine zo (f:=31) rfl ?_);refine zp (some 19) rfl rfl Tryz.func31 (by kernel_rfl) rfl #[.pointer (some ⟨g,0,none⟩),.int .i64 (wrap64 (t104 + 1))] rfl (by first|rfl|simp only [z3_,z4_,z5_];try rfl) ?_;(with_reducible refine (spec_l1Cur_pick.calls g s0_0 x1001_1 x1002_1 (wrap64 (t104 + 1)) t105 t106 t107 w0 _ ?side1 ?side2 A6.out).mono ?_);(case side1=>repeat (first|(with_reducible first|exact HI0.out|apply IsS55.alloc|apply IsS55.drewN|apply IsS55.drew|apply IsS55.set_1|apply IsS55.set_2)|exact HI0.out));(case side2=>repeat (first|(with_reducible first|exact HB.out|apply zc|apply zd|apply zb|refine zl ?_ (IsS55.ge HI0.out))|exact HB.out));rintro e w8 ⟨rfl,hi,hb,hk⟩;refine ⟨_,rfl,?_⟩;replace HO_4:=za (zs (Kd.R_keep (IsS55.apart (show IsS55 w0 _ g s0_0 x1001_1 x1002_1 from by repeat (first|(with_reducible first|exact HI0.out|apply IsS55.alloc|apply IsS55.drewN|apply IsS55.drew|apply IsS55.set_1|apply IsS55.set_2)|exact HI0.out)) (by (with_reducible repeat (first|apply zf|apply zg|apply ze));exact HO_4.out) (by decide)) hk (fun _ h=>h.2)) (fun _ h=>h.1));replace HK:=za (KeepBut.trans (by repeat (first|(with_reducible first|exact HK.out|apply zC|apply zD|apply zE|apply zF)|exact HK.out)) hk (.inl rfl));replace HB:=za (hb);replace HI0:=za (hi))|((with_reducible refine gate_builtin (b:=.append) (xs:=#[.tmp 14,.tmp 20]) rfl ?_);at_builtin;refine Kd.R_append (Kd.int .i64) w.heap.size rfl (.tmp 14) (.tmp 20) 24 3 (.int .i64 0) 8 rfl Tryz.underlying24 info3 rfl (by decide) (by omega) u4 x4_1 t105 [.int .i64 t105] (fun _=>True) (fun _=>False) rfl rfl ?aP (fun _ hk=>hk.elim) ?aF ?aO (Below.refl _ _) ?aS ?aL ?_;(case aP=>exact rfl);(case aF=>exact (fun _ _=>trivial));(case aO=>exact (by (with_reducible repeat (first|apply zf|apply zg|apply ze));exact HO_4.out));(case aS=>exact (keep_size (w:=w) (g:=g) (row:=none) (by repeat (first|(with_reducible first|exact HK.out|apply zC|apply zD|apply zE|apply zF)|exact HK.out))));(case aL=>have:=LMc7.out;omega);intro v109 w9 ho hb hg hat;rw [← Ny108.out] at ho;replace HB:=za (below_weaken (by repeat (first|(with_reducible first|exact HB.out|apply zc|apply zd|apply zb|refine zl ?_ (IsS55.ge HI0.out))|exact HB.out)) HL.out hb);replace HI0:=za (IsS55.grown (by repeat (first|(with_reducible first|exact HI0.out|apply IsS55.alloc|apply IsS55.drewN|apply IsS55.drew|apply IsS55.set_1|apply IsS55.set_2)|exact HI0.out)) hg (IsS55.own_ne HI0.out HO_4.out (by decide)));replace HK:=za (KeepBut.trans (by repeat (first|(with_reducible first|exact HK.out|apply zC|apply zD|apply zE|apply zF)|exact HK.out)) (KeepBut.of_grown hg g) (Kd.R_base2 HO_4.out));have HO110:=za (ho);clear HO_4;clear ho hb hg hat)));(go_roundg k1);(case measure=>have:=HK1.out;omega);case rel=>exact ⟨(y108),(wrap64 (x5_1 + 1)),(t106),(t107),(by first|rfl|(simp;done)|(simp [*];done)),H',⟨by have:=HK1.out;omega⟩,⟨by (with_reducible repeat (first|apply zf|apply zg|apply ze));exact HO110.out⟩,⟨by repeat (first|(with_reducible first|exact HI0.out|apply IsS55.alloc|apply IsS55.drewN|apply IsS55.drew|apply IsS55.set_1|apply IsS55.set_2)|exact HI0.out)⟩,⟨by repeat (first|(with_reducible first|exact HK.out|apply zC|apply zD|apply zE|apply zF)|exact HK.out)⟩,⟨by repeat (first|(with_reducible first|exact HB.out|apply zc|apply zd|apply zb|refine zl ?_ (IsS55.ge HI0.out))|exact HB.out)⟩⟩
    · rw [if_neg c7] at H;exact absurd H (by simp)
   ·
    rw [if_neg c4] at H;have c4b0:decide (x5_1 < (wrap64 (1 + t101)))=false:=decide_eq_false c4;clear c4;obtain ⟨⟨t111,t112,t113⟩,A10,H⟩:=bindAside H;(try dsimp only at H);by_cases c11:t111=true
    · subst c11;(have H1:((spec_l1Cur_lengths.f k1 s0_0 t112 t113).bind fun bt114=>(some (bt114.1,bt114.2.1,bt114.2.2)))=some (r1,r2,r3):=by rw [if_pos rfl] at H;exact H);clear H;have H:=H1;clear H1;obtain ⟨⟨t114,t117,t118⟩,A12,H⟩:=bindAside H;(try dsimp only at H);simp only [Option.some.injEq,Prod.mk.injEq] at H;obtain ⟨rfl,rfl,rfl⟩:=H;(go_wp2_with (first|((with_reducible refine zo (f:=35) rfl ?_);refine zp (some 23) rfl rfl Tryz.func35 (by kernel_rfl) rfl #[.pointer (some ⟨g,0,none⟩),.int .i64 8] rfl (by first|rfl|simp only [z3_,z4_,z5_];try rfl) ?_;(with_reducible refine (spec_l1Cur_one.calls g s0_0 x1001_1 x1002_1 8 true t112 t113 w0 _ ?side1 ?side2 A10.out).mono ?_);(case side1=>repeat (first|(with_reducible first|exact HI0.out|apply IsS55.alloc|apply IsS55.drewN|apply IsS55.drew|apply IsS55.set_1|apply IsS55.set_2)|exact HI0.out));(case side2=>repeat (first|(with_reducible first|exact HB.out|apply zc|apply zd|apply zb|refine zl ?_ (IsS55.ge HI0.out))|exact HB.out));rintro e w13 ⟨rfl,hi,hb,hk⟩;refine ⟨_,rfl,?_⟩;replace HO_4:=za (zs (Kd.R_keep (IsS55.apart (show IsS55 w0 _ g s0_0 x1001_1 x1002_1 from by repeat (first|(with_reducible first|exact HI0.out|apply IsS55.alloc|apply IsS55.drewN|apply IsS55.drew|apply IsS55.set_1|apply IsS55.set_2)|exact HI0.out)) (by (with_reducible repeat (first|apply zf|apply zg|apply ze));exact HO_4.out) (by decide)) hk (fun _ h=>h.2)) (fun _ h=>h.1));replace HK:=za (KeepBut.trans (by repeat (first|(with_reducible first|exact HK.out|apply zC|apply zD|apply zE|apply zF)|exact HK.out)) hk (.inl rfl));replace HB:=za (hb);replace HI0:=za (hi))|((with_reducible refine zo (f:=30) rfl ?_);refine zp (some 25) rfl rfl Tryz.func30 (by kernel_rfl) rfl #[.pointer (some ⟨g,0,none⟩)] rfl (by first|rfl|simp only [z3_,z4_,z5_];try rfl) ?_;(with_reducible refine (spec_l1Cur_lengths.calls k1 g s0_0 t112 t113 t114 t117 t118 w0 _ ?side1 ?side2 A12.out).mono ?_);(case side1=>repeat (first|(with_reducible first|exact HI0.out|apply IsS55.alloc|apply IsS55.drewN|apply IsS55.drew|apply IsS55.set_1|apply IsS55.set_2)|exact HI0.out));(case side2=>repeat (first|(with_reducible first|exact HB.out|apply zc|apply zd|apply zb|refine zl ?_ (IsS55.ge HI0.out))|exact HB.out));rintro e w14 ⟨v115,rfl,ho0,hi,hb,hk⟩;refine ⟨_,rfl,?_⟩;have HO116:=za (zA (Kd.R_new' ho0 (Kd.R_lt (by (with_reducible repeat (first|apply zf|apply zg|apply ze));exact HO_4.out))) (keep_size (w:=w) (g:=g) (row:=none) (by repeat (first|(with_reducible first|exact HK.out|apply zC|apply zD|apply zE|apply zF)|exact HK.out))));replace HO_4:=za (zs (Kd.R_told (Kd.R_oldK (IsS55.apart (show IsS55 w0 _ g s0_0 t112 t113 from by repeat (first|(with_reducible first|exact HI0.out|apply IsS55.alloc|apply IsS55.drewN|apply IsS55.drew|apply IsS55.set_1|apply IsS55.set_2)|exact HI0.out)) (by (with_reducible repeat (first|apply zf|apply zg|apply ze));exact HO_4.out) (by decide)) hk) (Kd.R_base ho0)) (fun _ h_=>h_.1));replace HK:=za (KeepBut.trans (by repeat (first|(with_reducible first|exact HK.out|apply zC|apply zD|apply zE|apply zF)|exact HK.out)) hk (.inl rfl));replace HB:=za (hb);replace HI0:=za (hi))));(go_ret);exact ⟨_,by first|rfl|simp [*,errW_none,errW_some] <;> rfl,by (with_reducible repeat (first|apply zf|apply zg|apply ze));exact zs HO116.out (fun _ hk=>trivial),by repeat (first|(with_reducible first|exact HI0.out|apply IsS55.alloc|apply IsS55.drewN|apply IsS55.drew|apply IsS55.set_1|apply IsS55.set_2)|exact HI0.out),by repeat (first|(with_reducible first|exact HB.out|apply zc|apply zd|apply zb|refine zl ?_ (IsS55.ge HI0.out))|exact HB.out),by repeat (first|(with_reducible first|exact HK.out|apply zC|apply zD|apply zE|apply zF)|exact HK.out)⟩
    · replace c11:=Bool.eq_false_iff.mpr c11;subst c11;(have H1:((spec_feSorted.f k1 x4_1).bind fun t119=>(some (t119,t112,t113)))=some (r1,r2,r3):=by rw [if_neg (show ¬ (false=true) by decide)] at H;exact H);clear H;have H:=H1;clear H1;obtain ⟨t119,A15,H⟩:=bindAside H;(try dsimp only at H);simp only [Option.some.injEq,Prod.mk.injEq] at H;obtain ⟨rfl,rfl,rfl⟩:=H;(go_wp2_with (first|((with_reducible refine zo (f:=35) rfl ?_);refine zp (some 23) rfl rfl Tryz.func35 (by kernel_rfl) rfl #[.pointer (some ⟨g,0,none⟩),.int .i64 8] rfl (by first|rfl|simp only [z3_,z4_,z5_];try rfl) ?_;(with_reducible refine (spec_l1Cur_one.calls g s0_0 x1001_1 x1002_1 8 false t112 t113 w0 _ ?side1 ?side2 A10.out).mono ?_);(case side1=>repeat (first|(with_reducible first|exact HI0.out|apply IsS55.alloc|apply IsS55.drewN|apply IsS55.drew|apply IsS55.set_1|apply IsS55.set_2)|exact HI0.out));(case side2=>repeat (first|(with_reducible first|exact HB.out|apply zc|apply zd|apply zb|refine zl ?_ (IsS55.ge HI0.out))|exact HB.out));rintro e w16 ⟨rfl,hi,hb,hk⟩;refine ⟨_,rfl,?_⟩;replace HO_4:=za (zs (Kd.R_keep (IsS55.apart (show IsS55 w0 _ g s0_0 x1001_1 x1002_1 from by repeat (first|(with_reducible first|exact HI0.out|apply IsS55.alloc|apply IsS55.drewN|apply IsS55.drew|apply IsS55.set_1|apply IsS55.set_2)|exact HI0.out)) (by (with_reducible repeat (first|apply zf|apply zg|apply ze));exact HO_4.out) (by decide)) hk (fun _ h=>h.2)) (fun _ h=>h.1));replace HK:=za (KeepBut.trans (by repeat (first|(with_reducible first|exact HK.out|apply zC|apply zD|apply zE|apply zF)|exact HK.out)) hk (.inl rfl));replace HB:=za (hb);replace HI0:=za (hi);obtain ⟨Ao17,co17,eo17⟩:=zy HO_4.out;subst eo17)|((with_reducible refine zo (f:=65) rfl ?_);refine zp (some 27) rfl rfl Tryz.func65 (by kernel_rfl) rfl #[.slice Ao17 x4_1.length co17] rfl (by first|rfl|simp only [z3_,z4_,z5_];try rfl) ?_;(with_reducible refine (spec_feSorted.calls k1 _ _ x4_1 t119 _ ?side1 ?side2 A15.out).mono ?_);(case side1=>repeat (first|exact (zk HO_4.out).2.2|(with_reducible refine zh ?_ _)|(with_reducible refine zi ?_ _)|(with_reducible refine zj ?_)));(case side2=>exact (zk HO_4.out).2.1);rintro e w18 ⟨v120,rfl,ho0,hb⟩;refine ⟨_,rfl,?_⟩;have HO121:=za (zA (Kd.R_new' ho0 (Kd.R_lt (by (with_reducible repeat (first|apply zf|apply zg|apply ze));exact HO_4.out))) (keep_size (w:=w) (g:=g) (row:=none) (by repeat (first|(with_reducible first|exact HK.out|apply zC|apply zD|apply zE|apply zF)|exact HK.out))));replace HO_4:=za (Kd.R_elder' (by (with_reducible repeat (first|apply zf|apply zg|apply ze));exact HO_4.out) (Kd.R_base ho0) hb);replace HK:=za (KeepBut.trans (by repeat (first|(with_reducible first|exact HK.out|apply zC|apply zD|apply zE|apply zF)|exact HK.out)) (KeepBut.of_below hb g none) (.inl rfl));replace HB:=za (zm (by repeat (first|(with_reducible first|exact HB.out|apply zc|apply zd|apply zb|refine zl ?_ (IsS55.ge HI0.out))|exact HB.out)) hb);replace HI0:=za (IsS55.below (by repeat (first|(with_reducible first|exact HI0.out|apply IsS55.alloc|apply IsS55.drewN|apply IsS55.drew|apply IsS55.set_1|apply IsS55.set_2)|exact HI0.out)) hb))));(go_ret);exact ⟨_,by first|rfl|simp [*,errW_none,errW_some] <;> rfl,by (with_reducible repeat (first|apply zf|apply zg|apply ze));exact zs HO121.out (fun _ hk=>trivial),by repeat (first|(with_reducible first|exact HI0.out|apply IsS55.alloc|apply IsS55.drewN|apply IsS55.drew|apply IsS55.set_1|apply IsS55.set_2)|exact HI0.out),by repeat (first|(with_reducible first|exact HB.out|apply zc|apply zd|apply zb|refine zl ?_ (IsS55.ge HI0.out))|exact HB.out),by repeat (first|(with_reducible first|exact HK.out|apply zC|apply zD|apply zE|apply zF)|exact HK.out)⟩
end Go.Proofs.YtihnjbfjdkdhaaaGreat.Q
end
section
namespace Go.Proofs.YtihnjbfjdkdhaaaGreat.Q
open Go.RowKit Go.Proofs.YtihnjbfjdkdhaaaGreatW.PrintWords Go.Proofs.YtihnjbfjdkdhaaaGreatW.PrintLast Go.Proofs.YtihnjbfjdkdhaaaGreatW.PrintMore
attribute [local go_sem] max2_int min2_int max_two min_two max_three min_three max_four min_four   -- for this text's walks alone
set_option linter.unusedVariables false
set_option linter.unusedSimpArgs false
def spec_DrawWeightedSumAt.f (k:Nat) (l0:List Int):Option (List Int × Int × Int):=(spec_l1Cur_shorter.f k l0 0 0).bind fun bt102=>((spec_l1Cur_base.f l0 bt102.2.1 bt102.2.2).bind fun bt107=>((spec_l1Cur_pick.f l0 bt107.2.1 bt107.2.2 4).bind fun bt110=>((spec_l1Cur_pick.f l0 bt110.2.1 bt110.2.2 9).bind fun bt113=>(some (bt102.1,bt107.1,wrap64 ((wrap64 ((bt102.1.length:Int) + bt110.1)) - (wrap64 (Int.tdiv bt113.1 8))))))))
set_option maxHeartbeats 8000000 in
set_option maxRecDepth 100000 in
theorem spec_DrawWeightedSumAt.calls (k:Nat) (A0:Option Addr) (c0:Nat) (l0:List Int) (r1:List Int) (r2:Int) (r3:Int) (w:World) (hr0:Kd.C (Kd.int .u8) w A0 l0.length l0) (hc0:l0.length≤c0) (h:spec_DrawWeightedSumAt.f k l0=some (r1,r2,r3)) :
  Calls Tryz.prog 26 #[.slice A0 l0.length c0] w fun e w'=>∃ v0_:Value,e=.returned (.tuple #[v0_,.int .i64 r2,.int .i64 r3])∧Kd.R (Kd.int .i64) 3 w' w.heap.size (fun _=>True) v0_ r1∧Below w.heap.size w w':=by
 have hu55:=Tryz.underlying55;have HR0:=za hr0;have HC0:=za hc0;clear hr0 hc0;have HB:=za (Below.refl w.heap.size w);have H:((spec_l1Cur_shorter.f k l0 0 0).bind fun bt102=>((spec_l1Cur_base.f l0 bt102.2.1 bt102.2.2).bind fun bt107=>((spec_l1Cur_pick.f l0 bt107.2.1 bt107.2.2 4).bind fun bt110=>((spec_l1Cur_pick.f l0 bt110.2.1 bt110.2.2 9).bind fun bt113=>(some (bt102.1,bt107.1,wrap64 ((wrap64 ((bt102.1.length:Int) + bt110.1)) - (wrap64 (Int.tdiv bt113.1 8)))))))))=some (r1,r2,r3):=h;clear h;obtain ⟨⟨t102,t105,t106⟩,A2,H⟩:=bindAside H;(try dsimp only at H);obtain ⟨⟨t107,t108,t109⟩,A3,H⟩:=bindAside H;(try dsimp only at H);obtain ⟨⟨t110,t111,t112⟩,A4,H⟩:=bindAside H;(try dsimp only at H);obtain ⟨⟨t113,t114,t115⟩,A5,H⟩:=bindAside H;(try dsimp only at H);simp only [Option.some.injEq,Prod.mk.injEq] at H;obtain ⟨rfl,rfl,rfl⟩:=H;(go_enter Tryz.func26,Tryz.ntmps26);(go_wp2_with (first|((with_reducible refine gate_dst (N:=9) rfl ?_);refine box_event ?hg (N:=9) ?hd (cs:=#[.slice A0 l0.length c0,.int .i64 0,.int .u64 0]) (t:=55) ?hr ?_;(case hd=>rfl);(case hg=>rfl);(case hr=>first|(go_simp;done)|(go_simp;rfl));intro gb101 hg w6 hbox hb;have BK101:=za (hbox);have GW101:=za ((by rw [hg];exact (zq (by repeat (first|(with_reducible first|exact HB.out|apply zc|apply zd|apply zb)|exact HB.out))):w.heap.size≤gb101));have GE101:=za ((by rw [hg];exact (zq (by repeat (first|(with_reducible first|exact HB.out|apply zc|apply zd|apply zb)|exact HB.out))):w.heap.size≤gb101));replace HB:=za (zm (by repeat (first|(with_reducible first|exact HB.out|apply zc|apply zd|apply zb)|exact HB.out)) hb);clear hb hbox hg;have HI101:=za (show IsS55 w _ gb101 l0 0 0 from ⟨_,_,BK101.out,GE101.out,HR0.out⟩))|((with_reducible refine zo (f:=60) rfl ?_);refine zp (some 11) rfl rfl Tryz.func60 (by kernel_rfl) rfl #[.pointer (some ⟨gb101,0,none⟩)] rfl (by first|rfl|simp only [z3_,z4_,z5_];try rfl) ?_;(with_reducible refine (spec_l1Cur_shorter.calls k gb101 l0 0 0 t102 t105 t106 w _ ?side1 ?side2 A2.out).mono ?_);(case side1=>repeat (first|(with_reducible first|exact HI101.out|apply IsS55.alloc|apply IsS55.drewN|apply IsS55.drew|apply IsS55.set_1|apply IsS55.set_2)|exact HI101.out));(case side2=>repeat (first|(with_reducible first|exact HB.out|apply zc|apply zd|apply zb|refine zl ?_ (IsS55.ge HI101.out))|exact HB.out));rintro e w7 ⟨v103,rfl,ho0,hi,hb,hk⟩;refine ⟨_,rfl,?_⟩;have HO104:=za (zA ho0 (zq (by repeat (first|(with_reducible first|exact HB.out|apply zc|apply zd|apply zb|refine zl ?_ (IsS55.ge HI101.out))|exact HB.out))));replace HB:=za (hb);replace HI101:=za (hi))|((with_reducible refine zo (f:=52) rfl ?_);refine zp (some 14) rfl rfl Tryz.func52 (by kernel_rfl) rfl #[.pointer (some ⟨gb101,0,none⟩)] rfl (by first|rfl|simp only [z3_,z4_,z5_];try rfl) ?_;(with_reducible refine (spec_l1Cur_base.calls gb101 l0 t105 t106 t107 t108 t109 w _ ?side1 ?side2 A3.out).mono ?_);(case side1=>repeat (first|(with_reducible first|exact HI101.out|apply IsS55.alloc|apply IsS55.drewN|apply IsS55.drew|apply IsS55.set_1|apply IsS55.set_2)|exact HI101.out));(case side2=>repeat (first|(with_reducible first|exact HB.out|apply zc|apply zd|apply zb|refine zl ?_ (IsS55.ge HI101.out))|exact HB.out));rintro e w8 ⟨rfl,hi,hb,hk⟩;refine ⟨_,rfl,?_⟩;replace HO104:=za (zs (Kd.R_keep (IsS55.apart (show IsS55 w _ gb101 l0 t105 t106 from by repeat (first|(with_reducible first|exact HI101.out|apply IsS55.alloc|apply IsS55.drewN|apply IsS55.drew|apply IsS55.set_1|apply IsS55.set_2)|exact HI101.out)) (by (with_reducible repeat (first|apply zf|apply zg|apply ze));exact HO104.out) (by decide)) hk (fun _ h=>h.2)) (fun _ h=>h.1));replace HB:=za (hb);replace HI101:=za (hi);obtain ⟨Ao9,co9,eo9⟩:=zy HO104.out;subst eo9)|((with_reducible refine zo (f:=31) rfl ?_);refine zp (some 18) rfl rfl Tryz.func31 (by kernel_rfl) rfl #[.pointer (some ⟨gb101,0,none⟩),.int .i64 4] rfl (by first|rfl|simp only [z3_,z4_,z5_];try rfl) ?_;(with_reducible refine (spec_l1Cur_pick.calls gb101 l0 t108 t109 4 t110 t111 t112 w _ ?side1 ?side2 A4.out).mono ?_);(case side1=>repeat (first|(with_reducible first|exact HI101.out|apply IsS55.alloc|apply IsS55.drewN|apply IsS55.drew|apply IsS55.set_1|apply IsS55.set_2)|exact HI101.out));(case side2=>repeat (first|(with_reducible first|exact HB.out|apply zc|apply zd|apply zb|refine zl ?_ (IsS55.ge HI101.out))|exact HB.out));rintro e w10 ⟨rfl,hi,hb,hk⟩;refine ⟨_,rfl,?_⟩;replace HO104:=za (zs (Kd.R_keep (IsS55.apart (show IsS55 w _ gb101 l0 t108 t109 from by repeat (first|(with_reducible first|exact HI101.out|apply IsS55.alloc|apply IsS55.drewN|apply IsS55.drew|apply IsS55.set_1|apply IsS55.set_2)|exact HI101.out)) (by (with_reducible repeat (first|apply zf|apply zg|apply ze));exact HO104.out) (by decide)) hk (fun _ h=>h.2)) (fun _ h=>h.1));replace HB:=za (hb);replace HI101:=za (hi))|((with_reducible refine zo (f:=31) rfl ?_);refine zp (some 21) rfl rfl Tryz.func31 (by kernel_rfl) rfl #[.pointer (some ⟨gb101,0,none⟩),.int .i64 9] rfl (by first|rfl|simp only [z3_,z4_,z5_];try rfl) ?_;(with_reducible refine (spec_l1Cur_pick.calls gb101 l0 t111 t112 9 t113 t114 t115 w _ ?side1 ?side2 A5.out).mono ?_);(case side1=>repeat (first|(with_reducible first|exact HI101.out|apply IsS55.alloc|apply IsS55.drewN|apply IsS55.drew|apply IsS55.set_1|apply IsS55.set_2)|exact HI101.out));(case side2=>repeat (first|(with_reducible first|exact HB.out|apply zc|apply zd|apply zb|refine zl ?_ (IsS55.ge HI101.out))|exact HB.out));rintro e w11 ⟨rfl,hi,hb,hk⟩;refine ⟨_,rfl,?_⟩;replace HO104:=za (zs (Kd.R_keep (IsS55.apart (show IsS55 w _ gb101 l0 t111 t112 from by repeat (first|(with_reducible first|exact HI101.out|apply IsS55.alloc|apply IsS55.drewN|apply IsS55.drew|apply IsS55.set_1|apply IsS55.set_2)|exact HI101.out)) (by (with_reducible repeat (first|apply zf|apply zg|apply ze));exact HO104.out) (by decide)) hk (fun _ h=>h.2)) (fun _ h=>h.1));replace HB:=za (hb);replace HI101:=za (hi))));(go_ret3);exact ⟨_,by first|rfl|simp [*,errW_none,errW_some] <;> rfl,by (with_reducible repeat (first|apply zf|apply zg|apply ze));exact HO104.out,by repeat (first|(with_reducible first|exact HB.out|apply zc|apply zd|apply zb|refine zl ?_ (IsS55.ge HI101.out))|exact HB.out)⟩
end Go.Proofs.YtihnjbfjdkdhaaaGreat.Q
end
section
namespace Go.Proofs.YtihnjbfjdkdhaaaGreat.Q
open Go.RowKit Go.Proofs.YtihnjbfjdkdhaaaGreatW.PrintWords Go.Proofs.YtihnjbfjdkdhaaaGreatW.PrintLast Go.Proofs.YtihnjbfjdkdhaaaGreatW.PrintMore
attribute [local go_sem] max2_int min2_int max_two min_two max_three min_three max_four min_four   -- for this text's walks alone
set_option linter.unusedVariables false
set_option linter.unusedSimpArgs false
def impl_isWeighted.f (k:Nat) (l0:List Int) (a1:Int) (a2:Int):Option (Bool):=(impl_AreLengths.f k l0).bind fun t101=>(if t101=true then (if (l0.length:Int)≤4 then ((impl_isQ.f a1).bind fun t102=>(if t102=true then ((impl_within.f a2 (l0.length:Int) 8).bind fun t103=>(some t103)) else (some false))) else (some false)) else (some false))
theorem impl_isWeighted.mono:∀ a0 a1 a2 k,LeO (impl_isWeighted.f k a0 a1 a2) (impl_isWeighted.f (k + 1) a0 a1 a2):=by
 intro a0 a1 a2 k;unfold impl_isWeighted.f
 repeat' first
  |(with_reducible exact impl_AreLengths.mono _ _)
  |(with_reducible exact LeO.refl _)
  |(with_reducible exact LeO.none _)
  |(with_reducible refine LeO.ite ?_ ?_)
  |(with_reducible refine LeO.bind ?_ (fun _=>?_))
  |exact impl_AreLengths.mono _ _
  |exact LeO.none _
  |refine LeO.ite ?_ ?_
  |refine LeO.bind ?_ (fun _=>?_)
set_option maxHeartbeats 8000000 in
set_option maxRecDepth 100000 in
theorem impl_isWeighted.calls (k:Nat) (A0:Option Addr) (c0:Nat) (l0:List Int) (a1:Int) (a2:Int) (r:Bool) (w:World) (hr0:Kd.C (Kd.int .i64) w A0 l0.length l0) (hc0:l0.length≤c0) (h:impl_isWeighted.f k l0 a1 a2=some r) :
  Calls Tryz.prog 61 #[.slice A0 l0.length c0,.int .i64 a1,.int .i64 a2] w fun e w'=>e=.returned (.bool r)∧Drawn0 w w':=by
 have HR0:=za hr0;have HC0:=za hc0;clear hr0 hc0;have H:((impl_AreLengths.f k l0).bind fun t101=>(if t101=true then (if (l0.length:Int)≤4 then ((impl_isQ.f a1).bind fun t102=>(if t102=true then ((impl_within.f a2 (l0.length:Int) 8).bind fun t103=>(some t103)) else (some false))) else (some false)) else (some false)))=some r:=h;clear h;obtain ⟨t101,A4,H⟩:=bindAside H;(try dsimp only at H);by_cases c5:t101=true
 ·
  subst c5;(have H1:(if (l0.length:Int)≤4 then ((impl_isQ.f a1).bind fun t102=>(if t102=true then ((impl_within.f a2 (l0.length:Int) 8).bind fun t103=>(some t103)) else (some false))) else (some false))=some r:=by rw [if_pos rfl] at H;exact H);clear H;have H:=H1;clear H1;by_cases c6:(l0.length:Int)≤4
  ·
   rw [if_pos c6] at H;have c6b0:decide ((l0.length:Int)≤4)=true:=decide_eq_true c6;have c6b1:decide (l0.length≤4)=true:=decide_eq_true (by omega);clear c6;obtain ⟨t102,A7,H⟩:=bindAside H;(try dsimp only at H);by_cases c8:t102=true
   · subst c8;(have H1:((impl_within.f a2 (l0.length:Int) 8).bind fun t103=>(some t103))=some r:=by rw [if_pos rfl] at H;exact H);clear H;have H:=H1;clear H1;obtain ⟨t103,A9,H⟩:=bindAside H;(try dsimp only at H);obtain rfl:=Option.some.inj H;(go_enter Tryz.func61,Tryz.ntmps61);(go_wp2_with (first|((with_reducible refine zo (f:=36) rfl ?_);refine zp (some 8) rfl rfl Tryz.func36 (by kernel_rfl) rfl #[.slice A0 l0.length c0] rfl (by first|rfl|simp only [z3_,z4_,z5_];try rfl) ?_;(with_reducible refine (impl_AreLengths.calls k _ _ l0 true _ ?side1 ?side2 A4.out).mono ?_);(case side1=>repeat (first|exact HR0.out|(with_reducible refine zh ?_ _)|(with_reducible refine zi ?_ _)|(with_reducible refine zj ?_)));(case side2=>exact HC0.out);rintro e w' ⟨rfl,⟨nd,rfl⟩⟩;refine ⟨_,rfl,?_⟩)|(go_at_call 53;(with_reducible refine (impl_isQ.calls a1 true _ A7.out).mono ?_);rintro e w' ⟨rfl,⟨nd,rfl⟩⟩)|(go_at_call 48;(with_reducible refine (impl_within.calls a2 (l0.length:Int) 8 t103 _ A9.out).mono ?_);rintro e w' ⟨rfl,⟨nd,rfl⟩⟩)));(go_ret);exact ⟨by first|rfl|(simp;done)|(simp [*];done),by repeat (first|exact Drawn0.refl _|apply Drawn0.step)⟩
   · replace c8:=Bool.eq_false_iff.mpr c8;subst c8;(have H1:(some false)=some r:=by rw [if_neg (show ¬ (false=true) by decide)] at H;exact H);clear H;have H:=H1;clear H1;obtain rfl:=Option.some.inj H;(go_enter Tryz.func61,Tryz.ntmps61);(go_wp2_with (first|((with_reducible refine zo (f:=36) rfl ?_);refine zp (some 8) rfl rfl Tryz.func36 (by kernel_rfl) rfl #[.slice A0 l0.length c0] rfl (by first|rfl|simp only [z3_,z4_,z5_];try rfl) ?_;(with_reducible refine (impl_AreLengths.calls k _ _ l0 true _ ?side1 ?side2 A4.out).mono ?_);(case side1=>repeat (first|exact HR0.out|(with_reducible refine zh ?_ _)|(with_reducible refine zi ?_ _)|(with_reducible refine zj ?_)));(case side2=>exact HC0.out);rintro e w' ⟨rfl,⟨nd,rfl⟩⟩;refine ⟨_,rfl,?_⟩)|(go_at_call 53;(with_reducible refine (impl_isQ.calls a1 false _ A7.out).mono ?_);rintro e w' ⟨rfl,⟨nd,rfl⟩⟩)));(go_ret);exact ⟨by first|rfl|(simp;done)|(simp [*];done),by repeat (first|exact Drawn0.refl _|apply Drawn0.step)⟩
  · rw [if_neg c6] at H;have c6b0:decide ((l0.length:Int)≤4)=false:=decide_eq_false c6;have c6b1:decide (l0.length≤4)=false:=decide_eq_false (by omega);clear c6;obtain rfl:=Option.some.inj H;(go_enter Tryz.func61,Tryz.ntmps61);(go_wp2_with (first|((with_reducible refine zo (f:=36) rfl ?_);refine zp (some 8) rfl rfl Tryz.func36 (by kernel_rfl) rfl #[.slice A0 l0.length c0] rfl (by first|rfl|simp only [z3_,z4_,z5_];try rfl) ?_;(with_reducible refine (impl_AreLengths.calls k _ _ l0 true _ ?side1 ?side2 A4.out).mono ?_);(case side1=>repeat (first|exact HR0.out|(with_reducible refine zh ?_ _)|(with_reducible refine zi ?_ _)|(with_reducible refine zj ?_)));(case side2=>exact HC0.out);rintro e w' ⟨rfl,⟨nd,rfl⟩⟩;refine ⟨_,rfl,?_⟩)));(go_ret);exact ⟨by first|rfl|(simp;done)|(simp [*];done),by repeat (first|exact Drawn0.refl _|apply Drawn0.step)⟩
 · replace c5:=Bool.eq_false_iff.mpr c5;subst c5;(have H1:(some false)=some r:=by rw [if_neg (show ¬ (false=true) by decide)] at H;exact H);clear H;have H:=H1;clear H1;obtain rfl:=Option.some.inj H;(go_enter Tryz.func61,Tryz.ntmps61);(go_wp2_with (first|((with_reducible refine zo (f:=36) rfl ?_);refine zp (some 8) rfl rfl Tryz.func36 (by kernel_rfl) rfl #[.slice A0 l0.length c0] rfl (by first|rfl|simp only [z3_,z4_,z5_];try rfl) ?_;(with_reducible refine (impl_AreLengths.calls k _ _ l0 false _ ?side1 ?side2 A4.out).mono ?_);(case side1=>repeat (first|exact HR0.out|(with_reducible refine zh ?_ _)|(with_reducible refine zi ?_ _)|(with_reducible refine zj ?_)));(case side2=>exact HC0.out);rintro e w' ⟨rfl,⟨nd,rfl⟩⟩;refine ⟨_,rfl,?_⟩)));(go_ret);exact ⟨by first|rfl|(simp;done)|(simp [*];done),by repeat (first|exact Drawn0.refl _|apply Drawn0.step)⟩
end Go.Proofs.YtihnjbfjdkdhaaaGreat.Q
end
