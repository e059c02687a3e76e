/- Texts of this claim put together (5): words, what the functions compute, and plain facts. No conditions. -/
import Derived.Test.YtadkkcdhgepbkaaSFnMatricesOfRanks4
import Derived.Test.YtadkkcdhgepbkaaSFnMatricesOfRanks3
import Derived.Laws.BitsLemmas
import Derived.Outline
import Derived.Lib.Hide
import Derived.Laws.Cover3
import Derived.Test.YtadkkcdhgepbkaaSFnMatricesOfRanks0
section
namespace Go.Proofs.Ytadkkcdhgepbkaa.Q
open Go.RowKit Go.Proofs.YtadkkcdhgepbkaaW.PrintWords Go.Proofs.YtadkkcdhgepbkaaW.PrintLast Go.Proofs.YtadkkcdhgepbkaaW.PrintMore
attribute [local go_sem] max2_int min2_int max_two min_two max_three min_three max_four min_four   -- for this text's walks alone
set_option linter.unusedVariables false
set_option linter.unusedSimpArgs false
def spec_l1Cur_lengths.l0:Nat→Int→List Int→Int→List Int→Int→Int→Option (List Int × Int × Int)
|0,_,_,_,_,_,_=>none
|k + 1,x3,x4,x5,x1000,x1001,x1002=>if x5 < x3 then ((spec_l1Cur_pick.f x1000 x1001 x1002 (wrap64 (x3 + 1))).bind fun bt104=>(if x4.length < 17592186044416 then (spec_l1Cur_lengths.l0 k x3 (x4 ++ [bt104.1]) (wrap64 (x5 + 1)) x1000 bt104.2.1 bt104.2.2) else (none))) else ((spec_feSorted.f k x4).bind fun t110=>((spec_l1Cur_pick.f x1000 x1001 x1002 14).bind fun bt113=>(if bt113.1=0 then ((spec_l1Cur_pick.f x1000 bt113.2.1 bt113.2.2 x3).bind fun bt116=>((spec_l1Cur_pick.f x1000 bt116.2.1 bt116.2.2 (wrap64 (x3 + 3))).bind fun bt119=>(if 0≤bt116.1 then (if bt116.1 < (t110.length:Int) then (some ((t110.set (bt116.1:Int).toNat (wrap64 (bt119.1 - 1))),bt119.2.1,bt119.2.2)) else (none)) else (none)))) else (if bt113.1=1 then (if t110.length < 17592186044416 then (some ((t110 ++ [x3]),bt113.2.1,bt113.2.2)) else (none)) else (if bt113.1=2 then ((spec_l1Cur_pick.f x1000 bt113.2.1 bt113.2.2 2).bind fun bt126=>(if 0≤(wrap64 (6 + bt126.1)) then (if (wrap64 (6 + bt126.1):Int).toNat≤35184372088832 then (some ((List.replicate (wrap64 (6 + bt126.1):Int).toNat 0),bt126.2.1,bt126.2.2)) else (none)) else (none))) else (some (t110,bt113.2.1,bt113.2.2)))))))
def spec_l1Cur_lengths.f (k:Nat) (s0_0:List Int) (s0_1:Int) (s0_2:Int):Option (List Int × Int × Int):=(spec_l1Cur_sides.f s0_0 s0_1 s0_2).bind fun bt101=>(spec_l1Cur_lengths.l0 k bt101.1 ([]:List Int) 0 s0_0 bt101.2.1 bt101.2.2)
set_option maxHeartbeats 8000000 in
set_option maxRecDepth 100000 in
theorem spec_l1Cur_lengths.calls (k:Nat) (g:Nat) (s0_0:List Int) (s0_1:Int) (s0_2:Int) (r1:List Int) (r2:Int) (r3:Int) (w0 w:World) (hI:IsS53 w0 w g s0_0 s0_1 s0_2) (hB:Below w0.heap.size w0 w) (h:spec_l1Cur_lengths.f k s0_0 s0_1 s0_2=some (r1,r2,r3)) :
  Calls Try.prog 72 #[.pointer (some ⟨g,0,none⟩)] w fun e w'=>∃ v0_:Value,e=.returned (v0_)∧Kd.R (Kd.int .i64) 3 w' w.heap.size (fun _=>True) v0_ r1∧IsS53 w0 w' g s0_0 r2 r3∧Below w0.heap.size w0 w'∧KeepBut w w' g none:=by
 have HI0:=za hI;have HK:=za (KeepBut.refl w g none);have HL:=za hB.size;clear hI;have HW0:=za hB.size;have HB:=za hB;clear hB;have H:((spec_l1Cur_sides.f s0_0 s0_1 s0_2).bind fun bt101=>(spec_l1Cur_lengths.l0 k bt101.1 ([]:List Int) 0 s0_0 bt101.2.1 bt101.2.2))=some (r1,r2,r3):=h;clear h;obtain ⟨⟨t101,t102,t103⟩,A2,H⟩:=bindAside H;(try dsimp only at H);have H':=za H;clear H;(go_enter Try.func72,Try.ntmps72);(go_wp2_with (first|((with_reducible refine zh (f:=80) rfl ?_);refine goesL_ (some 7) rfl rfl Try.func80 (by kernel_rfl) rfl #[.pointer (some ⟨g,0,none⟩)] rfl (by first|rfl|simp only [z3_,z4_,z5_];try rfl) ?_;(with_reducible refine (spec_l1Cur_sides.calls g s0_0 s0_1 s0_2 t101 t102 t103 w0 _ ?side1 ?side2 A2.out).mono ?_);(case side1=>repeat (first|(with_reducible first|exact HI0.out|apply IsS53.alloc|apply IsS53.drewN|apply IsS53.drew|apply IsS53.set_1|apply IsS53.set_2)|exact HI0.out));(case side2=>repeat (first|(with_reducible first|exact HB.out|apply zc|apply zd|apply zb|refine zm ?_ (IsS53.ge HI0.out))|exact HB.out));rintro e w3 ⟨rfl,hi,hb,hk⟩;refine ⟨_,rfl,?_⟩;replace HK:=za (KeepBut.trans (by repeat (first|(with_reducible first|exact HK.out|apply zn|apply zo|apply zp|apply zq)|exact HK.out)) hk (.inl rfl));replace HB:=za (hb);replace HI0:=za (hi))));(go_loopg [4,5] k (fun kq v4 v5 w'=>∃ (x4_1:List Int) (x5_1:Int) (x1001_1:Int) (x1002_1:Int),v5=.int .i64 x5_1∧Aside0 (spec_l1Cur_lengths.l0 kq t101 x4_1 x5_1 s0_0 x1001_1 x1002_1=some (r1,r2,r3))∧Aside0 (kq≤k)∧Aside0 (Kd.R (Kd.int .i64) 3 w' w.heap.size (fun _=>True) v4 x4_1)∧Aside0 (IsS53 w0 w' g s0_0 x1001_1 x1002_1)∧Aside0 (KeepBut w w' g none)∧Aside0 (Below w0.heap.size w0 w')));case atStart=>exact ⟨(([]:List Int)),(0),(t102),(t103),(by first|rfl|(simp;done)|(simp [*];done)),H',⟨Nat.le_refl _⟩,⟨by first|exact Kd.R_nil _ _ _ _ _|exact Kd.N_nil _ _ _ _ _|exact Kd.V_nil _ _ _ _ _|exact Kd.Q_nil _ _ _ _ _|exact Kd.S_nil _ _ _ _ _⟩,⟨by repeat (first|(with_reducible first|exact HI0.out|apply IsS53.alloc|apply IsS53.drewN|apply IsS53.drew|apply IsS53.set_1|apply IsS53.set_2)|exact HI0.out)⟩,⟨by repeat (first|(with_reducible first|exact HK.out|apply zn|apply zo|apply zp|apply zq)|exact HK.out)⟩,⟨by repeat (first|(with_reducible first|exact HB.out|apply zc|apply zd|apply zb|refine zm ?_ (IsS53.ge HI0.out))|exact HB.out)⟩⟩
 case round =>
  clear H';(try clear p2);obtain ⟨x4_1,x5_1,x1001_1,x1002_1,rfl,HA,HK1,HO_4,HI0,HK,HB⟩:=hrel
  cases gk with
 |zero=>exact absurd HA.out (by simp [spec_l1Cur_lengths.l0])
 |succ k1 =>
   have H:=HA.out;clear HA;simp only [spec_l1Cur_lengths.l0] at H;by_cases c4:x5_1 < t101
   ·
    rw [if_pos c4] at H;have c4b0:decide (x5_1 < t101)=true:=decide_eq_true c4;clear c4;obtain ⟨⟨t104,t105,t106⟩,A5,H⟩:=bindAside H;(try dsimp only at H);by_cases c6:x4_1.length < 17592186044416
    · rw [if_pos c6] at H;have LMc6:=za c6;clear c6;obtain ⟨y107,hy107⟩:∃ y_:List Int,y_=(x4_1 ++ [t104]):=⟨_,rfl⟩;(replace H:(spec_l1Cur_lengths.l0 k1 t101 y107 (wrap64 (x5_1 + 1)) s0_0 t105 t106)=some (r1,r2,r3):=by first|(rw [hy107];with_reducible exact H)|(have H2_:=(Option.bind_some _ _).symm.trans H;rw [hy107];with_reducible exact H2_)|(have H2_:=(Option.bind_some _ _).symm.trans H;with_reducible exact H2_)|with_reducible exact H|(rw [hy107];exact H)|exact H);have Ny107:=za hy107;clear hy107;have H':=za H;clear H;(go_wp2_with (first|((with_reducible refine zh (f:=40) rfl ?_);refine goesL_ (some 17) rfl rfl Try.func40 (by kernel_rfl) rfl #[.pointer (some ⟨g,0,none⟩),.int .i64 (wrap64 (t101 + 1))] rfl (by first|rfl|simp only [z3_,z4_,z5_];try rfl) ?_;(with_reducible refine (spec_l1Cur_pick.calls g s0_0 x1001_1 x1002_1 (wrap64 (t101 + 1)) t104 t105 t106 w0 _ ?side1 ?side2 A5.out).mono ?_);(case side1=>repeat (first|(with_reducible first|exact HI0.out|apply IsS53.alloc|apply IsS53.drewN|apply IsS53.drew|apply IsS53.set_1|apply IsS53.set_2)|exact HI0.out));(case side2=>repeat (first|(with_reducible first|exact HB.out|apply zc|apply zd|apply zb|refine zm ?_ (IsS53.ge HI0.out))|exact HB.out));rintro e w7 ⟨rfl,hi,hb,hk⟩;refine ⟨_,rfl,?_⟩;replace HO_4:=za (Kd.R_mono (Kd.R_keep (IsS53.apart (show IsS53 w0 _ g s0_0 x1001_1 x1002_1 from by repeat (first|(with_reducible first|exact HI0.out|apply IsS53.alloc|apply IsS53.drewN|apply IsS53.drew|apply IsS53.set_1|apply IsS53.set_2)|exact HI0.out)) (by (with_reducible repeat (first|apply zf|apply zg|apply ze));exact HO_4.out) (by decide)) hk (fun _ h=>h.2)) (fun _ h=>h.1));replace HK:=za (KeepBut.trans (by repeat (first|(with_reducible first|exact HK.out|apply zn|apply zo|apply zp|apply zq)|exact HK.out)) hk (.inl rfl));replace HB:=za (hb);replace HI0:=za (hi))|((with_reducible refine gate_builtin (b:=.append) (xs:=#[.tmp 13,.tmp 18]) rfl ?_);at_builtin;refine Kd.R_append (Kd.int .i64) w.heap.size rfl (.tmp 13) (.tmp 18) 29 3 (.int .i64 0) 8 rfl Try.underlying29 info3 rfl (by decide) (by omega) u4 x4_1 t104 [.int .i64 t104] (fun _=>True) (fun _=>False) rfl rfl ?aP (fun _ hk=>hk.elim) ?aF ?aO (Below.refl _ _) ?aS ?aL ?_;(case aP=>exact rfl);(case aF=>exact (fun _ _=>trivial));(case aO=>exact (by (with_reducible repeat (first|apply zf|apply zg|apply ze));exact HO_4.out));(case aS=>exact (keep_size (w:=w) (g:=g) (row:=none) (by repeat (first|(with_reducible first|exact HK.out|apply zn|apply zo|apply zp|apply zq)|exact HK.out))));(case aL=>have:=LMc6.out;omega);intro v108 w8 ho hb hg hat;rw [← Ny107.out] at ho;replace HB:=za (below_weaken (by repeat (first|(with_reducible first|exact HB.out|apply zc|apply zd|apply zb|refine zm ?_ (IsS53.ge HI0.out))|exact HB.out)) HL.out hb);replace HI0:=za (IsS53.grown (by repeat (first|(with_reducible first|exact HI0.out|apply IsS53.alloc|apply IsS53.drewN|apply IsS53.drew|apply IsS53.set_1|apply IsS53.set_2)|exact HI0.out)) hg (IsS53.own_ne HI0.out HO_4.out (by decide)));replace HK:=za (KeepBut.trans (by repeat (first|(with_reducible first|exact HK.out|apply zn|apply zo|apply zp|apply zq)|exact HK.out)) (KeepBut.of_grown hg g) (Kd.R_base2 HO_4.out));have HO109:=za (ho);clear HO_4;clear ho hb hg hat)));(go_roundg k1);(case measure=>have:=HK1.out;omega);case rel=>exact ⟨(y107),(wrap64 (x5_1 + 1)),(t105),(t106),(by first|rfl|(simp;done)|(simp [*];done)),H',⟨by have:=HK1.out;omega⟩,⟨by (with_reducible repeat (first|apply zf|apply zg|apply ze));exact HO109.out⟩,⟨by repeat (first|(with_reducible first|exact HI0.out|apply IsS53.alloc|apply IsS53.drewN|apply IsS53.drew|apply IsS53.set_1|apply IsS53.set_2)|exact HI0.out)⟩,⟨by repeat (first|(with_reducible first|exact HK.out|apply zn|apply zo|apply zp|apply zq)|exact HK.out)⟩,⟨by repeat (first|(with_reducible first|exact HB.out|apply zc|apply zd|apply zb|refine zm ?_ (IsS53.ge HI0.out))|exact HB.out)⟩⟩
    · rw [if_neg c6] at H;exact absurd H (by simp)
   ·
    rw [if_neg c4] at H;have c4b0:decide (x5_1 < t101)=false:=decide_eq_false c4;clear c4;obtain ⟨t110,A9,H⟩:=bindAside H;(try dsimp only at H);obtain ⟨⟨t113,t114,t115⟩,A10,H⟩:=bindAside H;(try dsimp only at H);by_cases c11:t113=0
    ·
     rw [if_pos c11] at H;have c11b0:(t113 == 0)=true:=beq_iff_eq.mpr c11;have c11b1:(t113 != 0)=false:=bne_eq_false_iff_eq.mpr c11;clear c11;obtain ⟨⟨t116,t117,t118⟩,A12,H⟩:=bindAside H;(try dsimp only at H);obtain ⟨⟨t119,t120,t121⟩,A13,H⟩:=bindAside H;(try dsimp only at H);by_cases c14:0≤t116
     ·
      rw [if_pos c14] at H;have c14b0:decide (0≤t116)=true:=decide_eq_true c14;clear c14;by_cases c15:t116 < (t110.length:Int)
      · rw [if_pos c15] at H;have c15b0:decide (t116 < (t110.length:Int))=true:=decide_eq_true c15;clear c15;obtain ⟨y122,hy122⟩:∃ y_:List Int,y_=(t110.set (t116:Int).toNat (wrap64 (t119 - 1))):=⟨_,rfl⟩;(replace H:(some (y122,t120,t121))=some (r1,r2,r3):=by first|(rw [hy122];with_reducible exact H)|(have H2_:=(Option.bind_some _ _).symm.trans H;rw [hy122];with_reducible exact H2_)|(have H2_:=(Option.bind_some _ _).symm.trans H;with_reducible exact H2_)|with_reducible exact H|(rw [hy122];exact H)|exact H);have Ny122:=za hy122;clear hy122;simp only [Option.some.injEq,Prod.mk.injEq] at H;obtain ⟨rfl,rfl,rfl⟩:=H;obtain ⟨Ao17,co17,eo17⟩:=Kd.R_slice HO_4.out;subst eo17;(go_wp2_with (first|((with_reducible refine zh (f:=73) rfl ?_);refine goesL_ (some 21) rfl rfl Try.func73 (by kernel_rfl) rfl #[.slice Ao17 x4_1.length co17] rfl (by first|rfl|simp only [z3_,z4_,z5_];try rfl) ?_;(with_reducible refine (spec_feSorted.calls k1 _ _ x4_1 t110 _ ?side1 ?side2 A9.out).mono ?_);(case side1=>repeat (first|exact (zl HO_4.out).2.2|(with_reducible refine zi ?_ _)|(with_reducible refine zj ?_ _)|(with_reducible refine zk ?_)));(case side2=>exact (zl HO_4.out).2.1);rintro e w18 ⟨v111,rfl,ho0,hb⟩;refine ⟨_,rfl,?_⟩;have HO112:=za (Kd.R_lower (Kd.R_new' ho0 (Kd.R_lt (by (with_reducible repeat (first|apply zf|apply zg|apply ze));exact HO_4.out))) (keep_size (w:=w) (g:=g) (row:=none) (by repeat (first|(with_reducible first|exact HK.out|apply zn|apply zo|apply zp|apply zq)|exact HK.out))));replace HO_4:=za (Kd.R_elder' (by (with_reducible repeat (first|apply zf|apply zg|apply ze));exact HO_4.out) (Kd.R_base ho0) hb);replace HK:=za (KeepBut.trans (by repeat (first|(with_reducible first|exact HK.out|apply zn|apply zo|apply zp|apply zq)|exact HK.out)) (KeepBut.of_below hb g none) (.inl rfl));replace HB:=za (below_step (by repeat (first|(with_reducible first|exact HB.out|apply zc|apply zd|apply zb|refine zm ?_ (IsS53.ge HI0.out))|exact HB.out)) hb);replace HI0:=za (IsS53.below (by repeat (first|(with_reducible first|exact HI0.out|apply IsS53.alloc|apply IsS53.drewN|apply IsS53.drew|apply IsS53.set_1|apply IsS53.set_2)|exact HI0.out)) hb))|((with_reducible refine zh (f:=40) rfl ?_);refine goesL_ (some 23) rfl rfl Try.func40 (by kernel_rfl) rfl #[.pointer (some ⟨g,0,none⟩),.int .i64 14] rfl (by first|rfl|simp only [z3_,z4_,z5_];try rfl) ?_;(with_reducible refine (spec_l1Cur_pick.calls g s0_0 x1001_1 x1002_1 14 t113 t114 t115 w0 _ ?side1 ?side2 A10.out).mono ?_);(case side1=>repeat (first|(with_reducible first|exact HI0.out|apply IsS53.alloc|apply IsS53.drewN|apply IsS53.drew|apply IsS53.set_1|apply IsS53.set_2)|exact HI0.out));(case side2=>repeat (first|(with_reducible first|exact HB.out|apply zc|apply zd|apply zb|refine zm ?_ (IsS53.ge HI0.out))|exact HB.out));rintro e w19 ⟨rfl,hi,hb,hk⟩;refine ⟨_,rfl,?_⟩;replace HO_4:=za (Kd.R_mono (Kd.R_keep (IsS53.apart (show IsS53 w0 _ g s0_0 x1001_1 x1002_1 from by repeat (first|(with_reducible first|exact HI0.out|apply IsS53.alloc|apply IsS53.drewN|apply IsS53.drew|apply IsS53.set_1|apply IsS53.set_2)|exact HI0.out)) (by (with_reducible repeat (first|apply zf|apply zg|apply ze));exact HO_4.out) (by decide)) hk (fun _ h=>h.2)) (fun _ h=>h.1));replace HO112:=za (Kd.R_mono (Kd.R_keep (IsS53.apart (show IsS53 w0 _ g s0_0 x1001_1 x1002_1 from by repeat (first|(with_reducible first|exact HI0.out|apply IsS53.alloc|apply IsS53.drewN|apply IsS53.drew|apply IsS53.set_1|apply IsS53.set_2)|exact HI0.out)) (by (with_reducible repeat (first|apply zf|apply zg|apply ze));exact HO112.out) (by decide)) hk (fun _ h=>h.2)) (fun _ h=>h.1));replace HK:=za (KeepBut.trans (by repeat (first|(with_reducible first|exact HK.out|apply zn|apply zo|apply zp|apply zq)|exact HK.out)) hk (.inl rfl));replace HB:=za (hb);replace HI0:=za (hi))|((with_reducible refine zh (f:=40) rfl ?_);refine goesL_ (some 29) rfl rfl Try.func40 (by kernel_rfl) rfl #[.pointer (some ⟨g,0,none⟩),.int .i64 t101] rfl (by first|rfl|simp only [z3_,z4_,z5_];try rfl) ?_;(with_reducible refine (spec_l1Cur_pick.calls g s0_0 t114 t115 t101 t116 t117 t118 w0 _ ?side1 ?side2 A12.out).mono ?_);(case side1=>repeat (first|(with_reducible first|exact HI0.out|apply IsS53.alloc|apply IsS53.drewN|apply IsS53.drew|apply IsS53.set_1|apply IsS53.set_2)|exact HI0.out));(case side2=>repeat (first|(with_reducible first|exact HB.out|apply zc|apply zd|apply zb|refine zm ?_ (IsS53.ge HI0.out))|exact HB.out));rintro e w20 ⟨rfl,hi,hb,hk⟩;refine ⟨_,rfl,?_⟩;replace HO_4:=za (Kd.R_mono (Kd.R_keep (IsS53.apart (show IsS53 w0 _ g s0_0 t114 t115 from by repeat (first|(with_reducible first|exact HI0.out|apply IsS53.alloc|apply IsS53.drewN|apply IsS53.drew|apply IsS53.set_1|apply IsS53.set_2)|exact HI0.out)) (by (with_reducible repeat (first|apply zf|apply zg|apply ze));exact HO_4.out) (by decide)) hk (fun _ h=>h.2)) (fun _ h=>h.1));replace HO112:=za (Kd.R_mono (Kd.R_keep (IsS53.apart (show IsS53 w0 _ g s0_0 t114 t115 from by repeat (first|(with_reducible first|exact HI0.out|apply IsS53.alloc|apply IsS53.drewN|apply IsS53.drew|apply IsS53.set_1|apply IsS53.set_2)|exact HI0.out)) (by (with_reducible repeat (first|apply zf|apply zg|apply ze));exact HO112.out) (by decide)) hk (fun _ h=>h.2)) (fun _ h=>h.1));replace HK:=za (KeepBut.trans (by repeat (first|(with_reducible first|exact HK.out|apply zn|apply zo|apply zp|apply zq)|exact HK.out)) hk (.inl rfl));replace HB:=za (hb);replace HI0:=za (hi))|((with_reducible refine zh (f:=40) rfl ?_);refine goesL_ (some 33) rfl rfl Try.func40 (by kernel_rfl) rfl #[.pointer (some ⟨g,0,none⟩),.int .i64 (wrap64 (t101 + 3))] rfl (by first|rfl|simp only [z3_,z4_,z5_];try rfl) ?_;(with_reducible refine (spec_l1Cur_pick.calls g s0_0 t117 t118 (wrap64 (t101 + 3)) t119 t120 t121 w0 _ ?side1 ?side2 A13.out).mono ?_);(case side1=>repeat (first|(with_reducible first|exact HI0.out|apply IsS53.alloc|apply IsS53.drewN|apply IsS53.drew|apply IsS53.set_1|apply IsS53.set_2)|exact HI0.out));(case side2=>repeat (first|(with_reducible first|exact HB.out|apply zc|apply zd|apply zb|refine zm ?_ (IsS53.ge HI0.out))|exact HB.out));rintro e w21 ⟨rfl,hi,hb,hk⟩;refine ⟨_,rfl,?_⟩;replace HO_4:=za (Kd.R_mono (Kd.R_keep (IsS53.apart (show IsS53 w0 _ g s0_0 t117 t118 from by repeat (first|(with_reducible first|exact HI0.out|apply IsS53.alloc|apply IsS53.drewN|apply IsS53.drew|apply IsS53.set_1|apply IsS53.set_2)|exact HI0.out)) (by (with_reducible repeat (first|apply zf|apply zg|apply ze));exact HO_4.out) (by decide)) hk (fun _ h=>h.2)) (fun _ h=>h.1));replace HO112:=za (Kd.R_mono (Kd.R_keep (IsS53.apart (show IsS53 w0 _ g s0_0 t117 t118 from by repeat (first|(with_reducible first|exact HI0.out|apply IsS53.alloc|apply IsS53.drewN|apply IsS53.drew|apply IsS53.set_1|apply IsS53.set_2)|exact HI0.out)) (by (with_reducible repeat (first|apply zf|apply zg|apply ze));exact HO112.out) (by decide)) hk (fun _ h=>h.2)) (fun _ h=>h.1));replace HK:=za (KeepBut.trans (by repeat (first|(with_reducible first|exact HK.out|apply zn|apply zo|apply zp|apply zq)|exact HK.out)) hk (.inl rfl));replace HB:=za (hb);replace HI0:=za (hi);have p16:0≤(t116:Int):=of_decide_eq_true ‹_›;have q16:(t116:Int) < ((t110.length:Int):Int):=of_decide_eq_true ‹_›;obtain ⟨go16,co16,eo16,gb16,gl16,cl16,HG16⟩:=Kd.R_form HO112.out (by omega);(first|cases eo16|(injection eo16 with ea_ en_ ec_;(first|subst ea_|(injection ea_ with ea_;subst ea_));subst ec_;clear en_));have GB16:=za gb16;have GG16:=za HG16;clear gb16 gl16 HG16;obtain ⟨hx16_0,hf16_0⟩:=Kd.R_celln 0 HO112.out (t116:Int) p16 q16;replace p16:=eq_true p16;replace q16:=eq_true q16;have n_:=za (Kd.R_mono (ok':=(fun k_=>some k_ ≠ (.slice Ao17 x4_1.length co17:Value).ownBlock)) HO112.out (fun k_ hk=>hk.2));clear HO112;have HO112:=n_;clear n_;obtain ⟨hy22_,hz22_⟩:=Kd.R_celln 0 HO112.out (t116:Int) (of_decide_eq_true ‹_›) (of_decide_eq_true ‹_›);have HP22:=Kd.R_putg HO112.out (t116:Int) (wrap64 (t119 - 1)))|((with_reducible refine gate_store (t:=3) (p:=35) rfl ?_);refine store_event (t:=3) (p:=35) (v:=?vo_w23) (w1:=(w21.setCell ⟨go16,(t116:Int).toNat,none⟩ (.int .i64 (wrap64 (t119 - 1))))) ?hg ?ho ?hn ?hr ?_;(case ho=>rfl);(case hg=>rfl);(case hn=>rfl);(case hr=>first|(go_simp;done)|(go_simp;rfl));intro w23 hw;have hg:w21.grownBy w23 (some go16):=(by rw [hw];exact HP22.2);have hp_:Kd.R (Kd.int .i64) 3 w23 w.heap.size (fun k_=>some k_ ≠ (.slice Ao17 x4_1.length co17:Value).ownBlock) (.slice (some ⟨go16,0,none⟩) t110.length co16) y122:=(by rw [hw,Ny122.out];exact HP22.1);clear HP22;replace HO_4:=za (Kd.R_after (v:=(.slice (some ⟨go16,0,none⟩) t110.length co16)) (v1:=(.slice (some ⟨go16,0,none⟩) t110.length co16)) (ok:=(fun _=>True)) (by (with_reducible repeat (first|apply zf|apply zg|apply ze));exact HO_4.out) hg (.inl rfl));replace HI0:=za (IsS53.grown (by repeat (first|(with_reducible first|exact HI0.out|apply IsS53.alloc|apply IsS53.drewN|apply IsS53.drew|apply IsS53.set_1|apply IsS53.set_2)|exact HI0.out)) hg (IsS53.own_ne HI0.out HO112.out (by decide)));replace HB:=za ((by rw [hw];exact zm (HB.out) (Nat.le_trans HL.out GB16.out):Below w0.heap.size w0 w23));replace HK:=za (KeepBut.trans (by repeat (first|(with_reducible first|exact HK.out|apply zn|apply zo|apply zp|apply zq)|exact HK.out)) (KeepBut.of_grown hg g) (Kd.R_base2 HO112.out));replace HO112:=za (hp_);clear hg hw hp_)));(go_ret);exact ⟨_,by first|rfl|simp [*,errW_none,errW_some] <;> rfl,by (with_reducible repeat (first|apply zf|apply zg|apply ze));exact Kd.R_mono HO112.out (fun _ hk=>trivial),by repeat (first|(with_reducible first|exact HI0.out|apply IsS53.alloc|apply IsS53.drewN|apply IsS53.drew|apply IsS53.set_1|apply IsS53.set_2)|exact HI0.out),by repeat (first|(with_reducible first|exact HB.out|apply zc|apply zd|apply zb|refine zm ?_ (IsS53.ge HI0.out))|exact HB.out),by repeat (first|(with_reducible first|exact HK.out|apply zn|apply zo|apply zp|apply zq)|exact HK.out)⟩
      · rw [if_neg c15] at H;exact absurd H (by simp)
     · rw [if_neg c14] at H;exact absurd H (by simp)
    ·
     rw [if_neg c11] at H;have c11b0:(t113 == 0)=false:=beq_eq_false_iff_ne.mpr c11;have c11b1:(t113 != 0)=true:=bne_iff_ne.mpr c11;by_cases c24:t113=1
     ·
      rw [if_pos c24] at H;have c24b0:(t113 == 1)=true:=beq_iff_eq.mpr c24;have c24b1:(t113 != 1)=false:=bne_eq_false_iff_eq.mpr c24;clear c24;by_cases c25:t110.length < 17592186044416
      · rw [if_pos c25] at H;have LMc25:=za c25;clear c25;obtain ⟨y123,hy123⟩:∃ y_:List Int,y_=(t110 ++ [t101]):=⟨_,rfl⟩;(replace H:(some (y123,t114,t115))=some (r1,r2,r3):=by first|(rw [hy123];with_reducible exact H)|(have H2_:=(Option.bind_some _ _).symm.trans H;rw [hy123];with_reducible exact H2_)|(have H2_:=(Option.bind_some _ _).symm.trans H;with_reducible exact H2_)|with_reducible exact H|(rw [hy123];exact H)|exact H);have Ny123:=za hy123;clear hy123;simp only [Option.some.injEq,Prod.mk.injEq] at H;obtain ⟨rfl,rfl,rfl⟩:=H;obtain ⟨Ao26,co26,eo26⟩:=Kd.R_slice HO_4.out;subst eo26;(go_wp2_with (first|((with_reducible refine zh (f:=73) rfl ?_);refine goesL_ (some 21) rfl rfl Try.func73 (by kernel_rfl) rfl #[.slice Ao26 x4_1.length co26] rfl (by first|rfl|simp only [z3_,z4_,z5_];try rfl) ?_;(with_reducible refine (spec_feSorted.calls k1 _ _ x4_1 t110 _ ?side1 ?side2 A9.out).mono ?_);(case side1=>repeat (first|exact (zl HO_4.out).2.2|(with_reducible refine zi ?_ _)|(with_reducible refine zj ?_ _)|(with_reducible refine zk ?_)));(case side2=>exact (zl HO_4.out).2.1);rintro e w27 ⟨v111,rfl,ho0,hb⟩;refine ⟨_,rfl,?_⟩;have HO112:=za (Kd.R_lower (Kd.R_new' ho0 (Kd.R_lt (by (with_reducible repeat (first|apply zf|apply zg|apply ze));exact HO_4.out))) (keep_size (w:=w) (g:=g) (row:=none) (by repeat (first|(with_reducible first|exact HK.out|apply zn|apply zo|apply zp|apply zq)|exact HK.out))));replace HO_4:=za (Kd.R_elder' (by (with_reducible repeat (first|apply zf|apply zg|apply ze));exact HO_4.out) (Kd.R_base ho0) hb);replace HK:=za (KeepBut.trans (by repeat (first|(with_reducible first|exact HK.out|apply zn|apply zo|apply zp|apply zq)|exact HK.out)) (KeepBut.of_below hb g none) (.inl rfl));replace HB:=za (below_step (by repeat (first|(with_reducible first|exact HB.out|apply zc|apply zd|apply zb|refine zm ?_ (IsS53.ge HI0.out))|exact HB.out)) hb);replace HI0:=za (IsS53.below (by repeat (first|(with_reducible first|exact HI0.out|apply IsS53.alloc|apply IsS53.drewN|apply IsS53.drew|apply IsS53.set_1|apply IsS53.set_2)|exact HI0.out)) hb))|((with_reducible refine zh (f:=40) rfl ?_);refine goesL_ (some 23) rfl rfl Try.func40 (by kernel_rfl) rfl #[.pointer (some ⟨g,0,none⟩),.int .i64 14] rfl (by first|rfl|simp only [z3_,z4_,z5_];try rfl) ?_;(with_reducible refine (spec_l1Cur_pick.calls g s0_0 x1001_1 x1002_1 14 t113 t114 t115 w0 _ ?side1 ?side2 A10.out).mono ?_);(case side1=>repeat (first|(with_reducible first|exact HI0.out|apply IsS53.alloc|apply IsS53.drewN|apply IsS53.drew|apply IsS53.set_1|apply IsS53.set_2)|exact HI0.out));(case side2=>repeat (first|(with_reducible first|exact HB.out|apply zc|apply zd|apply zb|refine zm ?_ (IsS53.ge HI0.out))|exact HB.out));rintro e w28 ⟨rfl,hi,hb,hk⟩;refine ⟨_,rfl,?_⟩;replace HO_4:=za (Kd.R_mono (Kd.R_keep (IsS53.apart (show IsS53 w0 _ g s0_0 x1001_1 x1002_1 from by repeat (first|(with_reducible first|exact HI0.out|apply IsS53.alloc|apply IsS53.drewN|apply IsS53.drew|apply IsS53.set_1|apply IsS53.set_2)|exact HI0.out)) (by (with_reducible repeat (first|apply zf|apply zg|apply ze));exact HO_4.out) (by decide)) hk (fun _ h=>h.2)) (fun _ h=>h.1));replace HO112:=za (Kd.R_mono (Kd.R_keep (IsS53.apart (show IsS53 w0 _ g s0_0 x1001_1 x1002_1 from by repeat (first|(with_reducible first|exact HI0.out|apply IsS53.alloc|apply IsS53.drewN|apply IsS53.drew|apply IsS53.set_1|apply IsS53.set_2)|exact HI0.out)) (by (with_reducible repeat (first|apply zf|apply zg|apply ze));exact HO112.out) (by decide)) hk (fun _ h=>h.2)) (fun _ h=>h.1));replace HK:=za (KeepBut.trans (by repeat (first|(with_reducible first|exact HK.out|apply zn|apply zo|apply zp|apply zq)|exact HK.out)) hk (.inl rfl));replace HB:=za (hb);replace HI0:=za (hi))|((with_reducible refine gate_builtin (b:=.append) (xs:=#[.tmp 38,.tmp 40]) rfl ?_);at_builtin;refine Kd.R_append (Kd.int .i64) w.heap.size rfl (.tmp 38) (.tmp 40) 29 3 (.int .i64 0) 8 rfl Try.underlying29 info3 rfl (by decide) (by omega) v111 t110 t101 [.int .i64 t101] (fun k_=>some k_ ≠ (.slice Ao26 x4_1.length co26:Value).ownBlock) (fun _=>False) rfl rfl ?aP (fun _ hk=>hk.elim) ?aF ?aO (Below.refl _ _) ?aS ?aL ?_;(case aP=>exact rfl);(case aF=>exact (fun k_ hk=>Kd.fresh' (Kd.R_lt (by (with_reducible repeat (first|apply zf|apply zg|apply ze));exact HO_4.out)) k_ hk));(case aO=>exact (by (with_reducible repeat (first|apply zf|apply zg|apply ze));exact Kd.R_mono HO112.out (fun _ hk=>hk.2)));(case aS=>exact (keep_size (w:=w) (g:=g) (row:=none) (by repeat (first|(with_reducible first|exact HK.out|apply zn|apply zo|apply zp|apply zq)|exact HK.out))));(case aL=>have:=LMc25.out;omega);intro v124 w29 ho hb hg hat;rw [← Ny123.out] at ho;replace HO_4:=za (Kd.R_after (ok:=(fun _=>True)) (by (with_reducible repeat (first|apply zf|apply zg|apply ze));exact HO_4.out) hg hat);replace HB:=za (below_weaken (by repeat (first|(with_reducible first|exact HB.out|apply zc|apply zd|apply zb|refine zm ?_ (IsS53.ge HI0.out))|exact HB.out)) HL.out hb);replace HI0:=za (IsS53.grown (by repeat (first|(with_reducible first|exact HI0.out|apply IsS53.alloc|apply IsS53.drewN|apply IsS53.drew|apply IsS53.set_1|apply IsS53.set_2)|exact HI0.out)) hg (IsS53.own_ne HI0.out HO112.out (by decide)));replace HK:=za (KeepBut.trans (by repeat (first|(with_reducible first|exact HK.out|apply zn|apply zo|apply zp|apply zq)|exact HK.out)) (KeepBut.of_grown hg g) (Kd.R_base2 HO112.out));have HO125:=za (ho);clear HO112;clear ho hb hg hat)));(go_ret);exact ⟨_,by first|rfl|simp [*,errW_none,errW_some] <;> rfl,by (with_reducible repeat (first|apply zf|apply zg|apply ze));exact Kd.R_mono HO125.out (fun _ hk=>trivial),by repeat (first|(with_reducible first|exact HI0.out|apply IsS53.alloc|apply IsS53.drewN|apply IsS53.drew|apply IsS53.set_1|apply IsS53.set_2)|exact HI0.out),by repeat (first|(with_reducible first|exact HB.out|apply zc|apply zd|apply zb|refine zm ?_ (IsS53.ge HI0.out))|exact HB.out),by repeat (first|(with_reducible first|exact HK.out|apply zn|apply zo|apply zp|apply zq)|exact HK.out)⟩
      · rw [if_neg c25] at H;exact absurd H (by simp)
     ·
      rw [if_neg c24] at H;have c24b0:(t113 == 1)=false:=beq_eq_false_iff_ne.mpr c24;have c24b1:(t113 != 1)=true:=bne_iff_ne.mpr c24;by_cases c30:t113=2
      ·
       rw [if_pos c30] at H;have c30b0:(t113 == 2)=true:=beq_iff_eq.mpr c30;have c30b1:(t113 != 2)=false:=bne_eq_false_iff_eq.mpr c30;clear c30;obtain ⟨⟨t126,t127,t128⟩,A31,H⟩:=bindAside H;(try dsimp only at H);obtain ⟨ji32,hji32⟩:∃ j_:Int,(wrap64 (6 + t126))=j_:=⟨_,rfl⟩;(replace H:(if 0≤(ji32) then (if (ji32:Int).toNat≤35184372088832 then (some ((List.replicate (ji32:Int).toNat 0),t127,t128)) else (none)) else (none))=some (r1,r2,r3):=by first|(rw [hji32] at H;exact H)|(simp only [hji32] at H ⊢;exact H));(try rw [hji32] at A9);(try rw [hji32] at A10);(try rw [hji32] at A31);have hji32w:(IntKind.i64.wrap (6 + t126))=ji32:=(i64_w _).trans hji32;by_cases c33:0≤(ji32)
       ·
        rw [if_pos c33] at H;have c33b0:=eq_true c33;have c33b1:decide (0≤(ji32))=true:=decide_eq_true c33;clear c33;by_cases c34:(ji32:Int).toNat≤35184372088832
        · rw [if_pos c34] at H;have c34b0:=eq_true c34;have c34b1:decide ((ji32:Int).toNat≤35184372088832)=true:=decide_eq_true c34;clear c34;obtain ⟨y129,hy129⟩:∃ y_:List Int,y_=(List.replicate (ji32:Int).toNat 0):=⟨_,rfl⟩;(replace H:(some (y129,t127,t128))=some (r1,r2,r3):=by first|(rw [hy129];with_reducible exact H)|(have H2_:=(Option.bind_some _ _).symm.trans H;rw [hy129];with_reducible exact H2_)|(have H2_:=(Option.bind_some _ _).symm.trans H;with_reducible exact H2_)|with_reducible exact H|(rw [hy129];exact H)|exact H);have Ny129:=za hy129;clear hy129;simp only [Option.some.injEq,Prod.mk.injEq] at H;obtain ⟨rfl,rfl,rfl⟩:=H;obtain ⟨Ao35,co35,eo35⟩:=Kd.R_slice HO_4.out;subst eo35;(go_wp2_with (first|((with_reducible refine zh (f:=73) rfl ?_);refine goesL_ (some 21) rfl rfl Try.func73 (by kernel_rfl) rfl #[.slice Ao35 x4_1.length co35] rfl (by first|rfl|simp only [z3_,z4_,z5_];try rfl) ?_;(with_reducible refine (spec_feSorted.calls k1 _ _ x4_1 t110 _ ?side1 ?side2 A9.out).mono ?_);(case side1=>repeat (first|exact (zl HO_4.out).2.2|(with_reducible refine zi ?_ _)|(with_reducible refine zj ?_ _)|(with_reducible refine zk ?_)));(case side2=>exact (zl HO_4.out).2.1);rintro e w36 ⟨v111,rfl,ho0,hb⟩;refine ⟨_,rfl,?_⟩;have HO112:=za (Kd.R_lower (Kd.R_new' ho0 (Kd.R_lt (by (with_reducible repeat (first|apply zf|apply zg|apply ze));exact HO_4.out))) (keep_size (w:=w) (g:=g) (row:=none) (by repeat (first|(with_reducible first|exact HK.out|apply zn|apply zo|apply zp|apply zq)|exact HK.out))));replace HO_4:=za (Kd.R_elder' (by (with_reducible repeat (first|apply zf|apply zg|apply ze));exact HO_4.out) (Kd.R_base ho0) hb);replace HK:=za (KeepBut.trans (by repeat (first|(with_reducible first|exact HK.out|apply zn|apply zo|apply zp|apply zq)|exact HK.out)) (KeepBut.of_below hb g none) (.inl rfl));replace HB:=za (below_step (by repeat (first|(with_reducible first|exact HB.out|apply zc|apply zd|apply zb|refine zm ?_ (IsS53.ge HI0.out))|exact HB.out)) hb);replace HI0:=za (IsS53.below (by repeat (first|(with_reducible first|exact HI0.out|apply IsS53.alloc|apply IsS53.drewN|apply IsS53.drew|apply IsS53.set_1|apply IsS53.set_2)|exact HI0.out)) hb))|((with_reducible refine zh (f:=40) rfl ?_);refine goesL_ (some 23) rfl rfl Try.func40 (by kernel_rfl) rfl #[.pointer (some ⟨g,0,none⟩),.int .i64 14] rfl (by first|rfl|simp only [z3_,z4_,z5_];try rfl) ?_;(with_reducible refine (spec_l1Cur_pick.calls g s0_0 x1001_1 x1002_1 14 t113 t114 t115 w0 _ ?side1 ?side2 A10.out).mono ?_);(case side1=>repeat (first|(with_reducible first|exact HI0.out|apply IsS53.alloc|apply IsS53.drewN|apply IsS53.drew|apply IsS53.set_1|apply IsS53.set_2)|exact HI0.out));(case side2=>repeat (first|(with_reducible first|exact HB.out|apply zc|apply zd|apply zb|refine zm ?_ (IsS53.ge HI0.out))|exact HB.out));rintro e w37 ⟨rfl,hi,hb,hk⟩;refine ⟨_,rfl,?_⟩;replace HO_4:=za (Kd.R_mono (Kd.R_keep (IsS53.apart (show IsS53 w0 _ g s0_0 x1001_1 x1002_1 from by repeat (first|(with_reducible first|exact HI0.out|apply IsS53.alloc|apply IsS53.drewN|apply IsS53.drew|apply IsS53.set_1|apply IsS53.set_2)|exact HI0.out)) (by (with_reducible repeat (first|apply zf|apply zg|apply ze));exact HO_4.out) (by decide)) hk (fun _ h=>h.2)) (fun _ h=>h.1));replace HO112:=za (Kd.R_mono (Kd.R_keep (IsS53.apart (show IsS53 w0 _ g s0_0 x1001_1 x1002_1 from by repeat (first|(with_reducible first|exact HI0.out|apply IsS53.alloc|apply IsS53.drewN|apply IsS53.drew|apply IsS53.set_1|apply IsS53.set_2)|exact HI0.out)) (by (with_reducible repeat (first|apply zf|apply zg|apply ze));exact HO112.out) (by decide)) hk (fun _ h=>h.2)) (fun _ h=>h.1));replace HK:=za (KeepBut.trans (by repeat (first|(with_reducible first|exact HK.out|apply zn|apply zo|apply zp|apply zq)|exact HK.out)) hk (.inl rfl));replace HB:=za (hb);replace HI0:=za (hi))|((with_reducible refine zh (f:=40) rfl ?_);refine goesL_ (some 45) rfl rfl Try.func40 (by kernel_rfl) rfl #[.pointer (some ⟨g,0,none⟩),.int .i64 2] rfl (by first|rfl|simp only [z3_,z4_,z5_];try rfl) ?_;(with_reducible refine (spec_l1Cur_pick.calls g s0_0 t114 t115 2 t126 t127 t128 w0 _ ?side1 ?side2 A31.out).mono ?_);(case side1=>repeat (first|(with_reducible first|exact HI0.out|apply IsS53.alloc|apply IsS53.drewN|apply IsS53.drew|apply IsS53.set_1|apply IsS53.set_2)|exact HI0.out));(case side2=>repeat (first|(with_reducible first|exact HB.out|apply zc|apply zd|apply zb|refine zm ?_ (IsS53.ge HI0.out))|exact HB.out));rintro e w38 ⟨rfl,hi,hb,hk⟩;refine ⟨_,rfl,?_⟩;replace HO_4:=za (Kd.R_mono (Kd.R_keep (IsS53.apart (show IsS53 w0 _ g s0_0 t114 t115 from by repeat (first|(with_reducible first|exact HI0.out|apply IsS53.alloc|apply IsS53.drewN|apply IsS53.drew|apply IsS53.set_1|apply IsS53.set_2)|exact HI0.out)) (by (with_reducible repeat (first|apply zf|apply zg|apply ze));exact HO_4.out) (by decide)) hk (fun _ h=>h.2)) (fun _ h=>h.1));replace HO112:=za (Kd.R_mono (Kd.R_keep (IsS53.apart (show IsS53 w0 _ g s0_0 t114 t115 from by repeat (first|(with_reducible first|exact HI0.out|apply IsS53.alloc|apply IsS53.drewN|apply IsS53.drew|apply IsS53.set_1|apply IsS53.set_2)|exact HI0.out)) (by (with_reducible repeat (first|apply zf|apply zg|apply ze));exact HO112.out) (by decide)) hk (fun _ h=>h.2)) (fun _ h=>h.1));replace HK:=za (KeepBut.trans (by repeat (first|(with_reducible first|exact HK.out|apply zn|apply zo|apply zp|apply zq)|exact HK.out)) hk (.inl rfl));replace HB:=za (hb);replace HI0:=za (hi))|((with_reducible refine gate_dst (N:=47) rfl ?_);refine Kd.R_make (Kd.int .i64) _ 3 rfl (N:=47) rfl 29 _ _ rfl ji32 rfl rfl Try.underlying29 (.int .i64 0) 8 info3 rfl (by decide) (by omega) 0 (ok:=fun _=>True) (okp:=fun _=>True) rfl (fun _ hk=>hk) trivial (of_decide_eq_true ‹_›) (Nat.le_trans (Nat.mul_le_mul_right _ (of_decide_eq_true ‹_›:ji32.toNat≤35184372088832)) (by omega)) (Below.refl _ _) (Nat.le_refl _) ?_;intro v130 w39 ho40 hb hg_ hnew_;clear hg_ hnew_;(first|rw [← Ny129.out] at ho40|(simp only [Int.reduceToNat] at ho40;rw [← Ny129.out] at ho40));have HO131:=za (Kd.R_lower (Kd.R_new' (Kd.R_new' ho40 (Kd.R_lt (by (with_reducible repeat (first|apply zf|apply zg|apply ze));exact HO_4.out))) (Kd.R_lt (by (with_reducible repeat (first|apply zf|apply zg|apply ze));exact HO112.out))) (keep_size (w:=w) (g:=g) (row:=none) (by repeat (first|(with_reducible first|exact HK.out|apply zn|apply zo|apply zp|apply zq)|exact HK.out))));replace HO_4:=za (Kd.R_elder' (by (with_reducible repeat (first|apply zf|apply zg|apply ze));exact HO_4.out) (Kd.R_base ho40) hb);replace HO112:=za (Kd.R_elder' (by (with_reducible repeat (first|apply zf|apply zg|apply ze));exact HO112.out) (Kd.R_base ho40) hb);replace HK:=za (KeepBut.trans (by repeat (first|(with_reducible first|exact HK.out|apply zn|apply zo|apply zp|apply zq)|exact HK.out)) (KeepBut.of_below hb g none) (.inl rfl));replace HB:=za (below_step (by repeat (first|(with_reducible first|exact HB.out|apply zc|apply zd|apply zb|refine zm ?_ (IsS53.ge HI0.out))|exact HB.out)) hb);replace HI0:=za (IsS53.below (by repeat (first|(with_reducible first|exact HI0.out|apply IsS53.alloc|apply IsS53.drewN|apply IsS53.drew|apply IsS53.set_1|apply IsS53.set_2)|exact HI0.out)) hb);clear hb ho40)));(go_ret);exact ⟨_,by first|rfl|(simp [errW_none,errW_some] <;> rfl)|(simp only [← hji32];first|rfl|(simp [errW_none,errW_some] <;> rfl))|(simp [*,errW_none,errW_some] <;> rfl),by (with_reducible repeat (first|apply zf|apply zg|apply ze));exact Kd.R_mono HO131.out (fun _ hk=>trivial),by repeat (first|(with_reducible first|exact HI0.out|apply IsS53.alloc|apply IsS53.drewN|apply IsS53.drew|apply IsS53.set_1|apply IsS53.set_2)|exact HI0.out),by repeat (first|(with_reducible first|exact HB.out|apply zc|apply zd|apply zb|refine zm ?_ (IsS53.ge HI0.out))|exact HB.out),by repeat (first|(with_reducible first|exact HK.out|apply zn|apply zo|apply zp|apply zq)|exact HK.out)⟩
        · rw [if_neg c34] at H;exact absurd H (by simp)
       · rw [if_neg c33] at H;exact absurd H (by simp)
      · rw [if_neg c30] at H;have c30b0:(t113 == 2)=false:=beq_eq_false_iff_ne.mpr c30;have c30b1:(t113 != 2)=true:=bne_iff_ne.mpr c30;simp only [Option.some.injEq,Prod.mk.injEq] at H;obtain ⟨rfl,rfl,rfl⟩:=H;obtain ⟨Ao41,co41,eo41⟩:=Kd.R_slice HO_4.out;subst eo41;(go_wp2_with (first|((with_reducible refine zh (f:=73) rfl ?_);refine goesL_ (some 21) rfl rfl Try.func73 (by kernel_rfl) rfl #[.slice Ao41 x4_1.length co41] rfl (by first|rfl|simp only [z3_,z4_,z5_];try rfl) ?_;(with_reducible refine (spec_feSorted.calls k1 _ _ x4_1 t110 _ ?side1 ?side2 A9.out).mono ?_);(case side1=>repeat (first|exact (zl HO_4.out).2.2|(with_reducible refine zi ?_ _)|(with_reducible refine zj ?_ _)|(with_reducible refine zk ?_)));(case side2=>exact (zl HO_4.out).2.1);rintro e w42 ⟨v111,rfl,ho0,hb⟩;refine ⟨_,rfl,?_⟩;have HO112:=za (Kd.R_lower (Kd.R_new' ho0 (Kd.R_lt (by (with_reducible repeat (first|apply zf|apply zg|apply ze));exact HO_4.out))) (keep_size (w:=w) (g:=g) (row:=none) (by repeat (first|(with_reducible first|exact HK.out|apply zn|apply zo|apply zp|apply zq)|exact HK.out))));replace HO_4:=za (Kd.R_elder' (by (with_reducible repeat (first|apply zf|apply zg|apply ze));exact HO_4.out) (Kd.R_base ho0) hb);replace HK:=za (KeepBut.trans (by repeat (first|(with_reducible first|exact HK.out|apply zn|apply zo|apply zp|apply zq)|exact HK.out)) (KeepBut.of_below hb g none) (.inl rfl));replace HB:=za (below_step (by repeat (first|(with_reducible first|exact HB.out|apply zc|apply zd|apply zb|refine zm ?_ (IsS53.ge HI0.out))|exact HB.out)) hb);replace HI0:=za (IsS53.below (by repeat (first|(with_reducible first|exact HI0.out|apply IsS53.alloc|apply IsS53.drewN|apply IsS53.drew|apply IsS53.set_1|apply IsS53.set_2)|exact HI0.out)) hb))|((with_reducible refine zh (f:=40) rfl ?_);refine goesL_ (some 23) rfl rfl Try.func40 (by kernel_rfl) rfl #[.pointer (some ⟨g,0,none⟩),.int .i64 14] rfl (by first|rfl|simp only [z3_,z4_,z5_];try rfl) ?_;(with_reducible refine (spec_l1Cur_pick.calls g s0_0 x1001_1 x1002_1 14 t113 t114 t115 w0 _ ?side1 ?side2 A10.out).mono ?_);(case side1=>repeat (first|(with_reducible first|exact HI0.out|apply IsS53.alloc|apply IsS53.drewN|apply IsS53.drew|apply IsS53.set_1|apply IsS53.set_2)|exact HI0.out));(case side2=>repeat (first|(with_reducible first|exact HB.out|apply zc|apply zd|apply zb|refine zm ?_ (IsS53.ge HI0.out))|exact HB.out));rintro e w43 ⟨rfl,hi,hb,hk⟩;refine ⟨_,rfl,?_⟩;replace HO_4:=za (Kd.R_mono (Kd.R_keep (IsS53.apart (show IsS53 w0 _ g s0_0 x1001_1 x1002_1 from by repeat (first|(with_reducible first|exact HI0.out|apply IsS53.alloc|apply IsS53.drewN|apply IsS53.drew|apply IsS53.set_1|apply IsS53.set_2)|exact HI0.out)) (by (with_reducible repeat (first|apply zf|apply zg|apply ze));exact HO_4.out) (by decide)) hk (fun _ h=>h.2)) (fun _ h=>h.1));replace HO112:=za (Kd.R_mono (Kd.R_keep (IsS53.apart (show IsS53 w0 _ g s0_0 x1001_1 x1002_1 from by repeat (first|(with_reducible first|exact HI0.out|apply IsS53.alloc|apply IsS53.drewN|apply IsS53.drew|apply IsS53.set_1|apply IsS53.set_2)|exact HI0.out)) (by (with_reducible repeat (first|apply zf|apply zg|apply ze));exact HO112.out) (by decide)) hk (fun _ h=>h.2)) (fun _ h=>h.1));replace HK:=za (KeepBut.trans (by repeat (first|(with_reducible first|exact HK.out|apply zn|apply zo|apply zp|apply zq)|exact HK.out)) hk (.inl rfl));replace HB:=za (hb);replace HI0:=za (hi))));(go_ret);exact ⟨_,by first|rfl|simp [*,errW_none,errW_some] <;> rfl,by (with_reducible repeat (first|apply zf|apply zg|apply ze));exact Kd.R_mono HO112.out (fun _ hk=>trivial),by repeat (first|(with_reducible first|exact HI0.out|apply IsS53.alloc|apply IsS53.drewN|apply IsS53.drew|apply IsS53.set_1|apply IsS53.set_2)|exact HI0.out),by repeat (first|(with_reducible first|exact HB.out|apply zc|apply zd|apply zb|refine zm ?_ (IsS53.ge HI0.out))|exact HB.out),by repeat (first|(with_reducible first|exact HK.out|apply zn|apply zo|apply zp|apply zq)|exact HK.out)⟩
end Go.Proofs.Ytadkkcdhgepbkaa.Q
end
section
namespace Go.Proofs.Ytadkkcdhgepbkaa.Q
open Go.RowKit Go.Proofs.YtadkkcdhgepbkaaW.PrintWords Go.Proofs.YtadkkcdhgepbkaaW.PrintLast Go.Proofs.YtadkkcdhgepbkaaW.PrintMore
attribute [local go_sem] max2_int min2_int max_two min_two max_three min_three max_four min_four   -- for this text's walks alone
set_option linter.unusedVariables false
set_option linter.unusedSimpArgs false
def spec_l1Cur_shorter.l0:Nat→Int→List Int→Int→List Int→Int→Int→Option (List Int × Int × Int)
|0,_,_,_,_,_,_=>none
|k + 1,x3,x4,x5,x1000,x1001,x1002=>if x5 < x3 then ((spec_l1Least.f x3 3).bind fun t104=>((spec_l1Cur_pick.f x1000 x1001 x1002 (wrap64 (t104 + 1))).bind fun bt105=>(if x4.length < 17592186044416 then (spec_l1Cur_shorter.l0 k x3 (x4 ++ [bt105.1]) (wrap64 (x5 + 1)) x1000 bt105.2.1 bt105.2.2) else (none)))) else ((spec_l1Cur_one.f x1000 x1001 x1002 8).bind fun bt111=>(if bt111.1=true then ((spec_l1Cur_lengths.f k x1000 bt111.2.1 bt111.2.2).bind fun bt114=>(some (bt114.1,bt114.2.1,bt114.2.2))) else ((spec_feSorted.f k x4).bind fun t119=>(some (t119,bt111.2.1,bt111.2.2)))))
def spec_l1Cur_shorter.f (k:Nat) (s0_0:List Int) (s0_1:Int) (s0_2:Int):Option (List Int × Int × Int):=(spec_l1Cur_pick.f s0_0 s0_1 s0_2 4).bind fun bt101=>(spec_l1Cur_shorter.l0 k (wrap64 (1 + bt101.1)) ([]:List Int) 0 s0_0 bt101.2.1 bt101.2.2)
set_option maxHeartbeats 8000000 in
set_option maxRecDepth 100000 in
theorem spec_l1Cur_shorter.calls (k:Nat) (g:Nat) (s0_0:List Int) (s0_1:Int) (s0_2:Int) (r1:List Int) (r2:Int) (r3:Int) (w0 w:World) (hI:IsS53 w0 w g s0_0 s0_1 s0_2) (hB:Below w0.heap.size w0 w) (h:spec_l1Cur_shorter.f k s0_0 s0_1 s0_2=some (r1,r2,r3)) :
  Calls Try.prog 54 #[.pointer (some ⟨g,0,none⟩)] w fun e w'=>∃ v0_:Value,e=.returned (v0_)∧Kd.R (Kd.int .i64) 3 w' w.heap.size (fun _=>True) v0_ r1∧IsS53 w0 w' g s0_0 r2 r3∧Below w0.heap.size w0 w'∧KeepBut w w' g none:=by
 have HI0:=za hI;have HK:=za (KeepBut.refl w g none);have HL:=za hB.size;clear hI;have HW0:=za hB.size;have HB:=za hB;clear hB;have H:((spec_l1Cur_pick.f s0_0 s0_1 s0_2 4).bind fun bt101=>(spec_l1Cur_shorter.l0 k (wrap64 (1 + bt101.1)) ([]:List Int) 0 s0_0 bt101.2.1 bt101.2.2))=some (r1,r2,r3):=h;clear h;obtain ⟨⟨t101,t102,t103⟩,A2,H⟩:=bindAside H;(try dsimp only at H);have H':=za H;clear H;(go_enter Try.func54,Try.ntmps54);(go_wp2_with (first|((with_reducible refine zh (f:=40) rfl ?_);refine goesL_ (some 7) rfl rfl Try.func40 (by kernel_rfl) rfl #[.pointer (some ⟨g,0,none⟩),.int .i64 4] rfl (by first|rfl|simp only [z3_,z4_,z5_];try rfl) ?_;(with_reducible refine (spec_l1Cur_pick.calls g s0_0 s0_1 s0_2 4 t101 t102 t103 w0 _ ?side1 ?side2 A2.out).mono ?_);(case side1=>repeat (first|(with_reducible first|exact HI0.out|apply IsS53.alloc|apply IsS53.drewN|apply IsS53.drew|apply IsS53.set_1|apply IsS53.set_2)|exact HI0.out));(case side2=>repeat (first|(with_reducible first|exact HB.out|apply zc|apply zd|apply zb|refine zm ?_ (IsS53.ge HI0.out))|exact HB.out));rintro e w3 ⟨rfl,hi,hb,hk⟩;refine ⟨_,rfl,?_⟩;replace HK:=za (KeepBut.trans (by repeat (first|(with_reducible first|exact HK.out|apply zn|apply zo|apply zp|apply zq)|exact HK.out)) hk (.inl rfl));replace HB:=za (hb);replace HI0:=za (hi))));(go_loopg [4,5] k (fun kq v4 v5 w'=>∃ (x4_1:List Int) (x5_1:Int) (x1001_1:Int) (x1002_1:Int),v5=.int .i64 x5_1∧Aside0 (spec_l1Cur_shorter.l0 kq (wrap64 (1 + t101)) x4_1 x5_1 s0_0 x1001_1 x1002_1=some (r1,r2,r3))∧Aside0 (kq≤k)∧Aside0 (Kd.R (Kd.int .i64) 3 w' w.heap.size (fun _=>True) v4 x4_1)∧Aside0 (IsS53 w0 w' g s0_0 x1001_1 x1002_1)∧Aside0 (KeepBut w w' g none)∧Aside0 (Below w0.heap.size w0 w')));case atStart=>exact ⟨(([]:List Int)),(0),(t102),(t103),(by first|rfl|(simp;done)|(simp [*];done)),H',⟨Nat.le_refl _⟩,⟨by first|exact Kd.R_nil _ _ _ _ _|exact Kd.N_nil _ _ _ _ _|exact Kd.V_nil _ _ _ _ _|exact Kd.Q_nil _ _ _ _ _|exact Kd.S_nil _ _ _ _ _⟩,⟨by repeat (first|(with_reducible first|exact HI0.out|apply IsS53.alloc|apply IsS53.drewN|apply IsS53.drew|apply IsS53.set_1|apply IsS53.set_2)|exact HI0.out)⟩,⟨by repeat (first|(with_reducible first|exact HK.out|apply zn|apply zo|apply zp|apply zq)|exact HK.out)⟩,⟨by repeat (first|(with_reducible first|exact HB.out|apply zc|apply zd|apply zb|refine zm ?_ (IsS53.ge HI0.out))|exact HB.out)⟩⟩
 case round =>
  clear H';(try clear p2);obtain ⟨x4_1,x5_1,x1001_1,x1002_1,rfl,HA,HK1,HO_4,HI0,HK,HB⟩:=hrel
  cases gk with
 |zero=>exact absurd HA.out (by simp [spec_l1Cur_shorter.l0])
 |succ k1 =>
   have H:=HA.out;clear HA;simp only [spec_l1Cur_shorter.l0] at H;by_cases c4:x5_1 < (wrap64 (1 + t101))
   ·
    rw [if_pos c4] at H;have c4b0:decide (x5_1 < (wrap64 (1 + t101)))=true:=decide_eq_true c4;clear c4;obtain ⟨t104,A5,H⟩:=bindAside H;(try dsimp only at H);obtain ⟨⟨t105,t106,t107⟩,A6,H⟩:=bindAside H;(try dsimp only at H);by_cases c7:x4_1.length < 17592186044416
    · rw [if_pos c7] at H;have LMc7:=za c7;clear c7;obtain ⟨y108,hy108⟩:∃ y_:List Int,y_=(x4_1 ++ [t105]):=⟨_,rfl⟩;(replace H:(spec_l1Cur_shorter.l0 k1 (wrap64 (1 + t101)) y108 (wrap64 (x5_1 + 1)) s0_0 t106 t107)=some (r1,r2,r3):=by first|(rw [hy108];with_reducible exact H)|(have H2_:=(Option.bind_some _ _).symm.trans H;rw [hy108];with_reducible exact H2_)|(have H2_:=(Option.bind_some _ _).symm.trans H;with_reducible exact H2_)|with_reducible exact H|(rw [hy108];exact H)|exact H);have Ny108:=za hy108;clear hy108;have H':=za H;clear H;(go_wp2_with (first|((with_reducible refine zh (f:=55) rfl ?_);refine goesL_ (some 17) rfl rfl Try.func55 (by kernel_rfl) rfl #[.int .i64 (wrap64 (1 + t101)),.int .i64 3] rfl (by first|rfl|simp only [z3_,z4_,z5_];try rfl) ?_;(with_reducible refine (spec_l1Least.calls (wrap64 (1 + t101)) 3 t104 _ A5.out).mono ?_);rintro e w' ⟨rfl,⟨nd,rfl⟩⟩;refine ⟨_,rfl,?_⟩)|((with_reducible refine zh (f:=40) rfl ?_);refine goesL_ (some 19) rfl rfl Try.func40 (by kernel_rfl) rfl #[.pointer (some ⟨g,0,none⟩),.int .i64 (wrap64 (t104 + 1))] rfl (by first|rfl|simp only [z3_,z4_,z5_];try rfl) ?_;(with_reducible refine (spec_l1Cur_pick.calls g s0_0 x1001_1 x1002_1 (wrap64 (t104 + 1)) t105 t106 t107 w0 _ ?side1 ?side2 A6.out).mono ?_);(case side1=>repeat (first|(with_reducible first|exact HI0.out|apply IsS53.alloc|apply IsS53.drewN|apply IsS53.drew|apply IsS53.set_1|apply IsS53.set_2)|exact HI0.out));(case side2=>repeat (first|(with_reducible first|exact HB.out|apply zc|apply zd|apply zb|refine zm ?_ (IsS53.ge HI0.out))|exact HB.out));rintro e w8 ⟨rfl,hi,hb,hk⟩;refine ⟨_,rfl,?_⟩;replace HO_4:=za (Kd.R_mono (Kd.R_keep (IsS53.apart (show IsS53 w0 _ g s0_0 x1001_1 x1002_1 from by repeat (first|(with_reducible first|exact HI0.out|apply IsS53.alloc|apply IsS53.drewN|apply IsS53.drew|apply IsS53.set_1|apply IsS53.set_2)|exact HI0.out)) (by (with_reducible repeat (first|apply zf|apply zg|apply ze));exact HO_4.out) (by decide)) hk (fun _ h=>h.2)) (fun _ h=>h.1));replace HK:=za (KeepBut.trans (by repeat (first|(with_reducible first|exact HK.out|apply zn|apply zo|apply zp|apply zq)|exact HK.out)) hk (.inl rfl));replace HB:=za (hb);replace HI0:=za (hi))|((with_reducible refine gate_builtin (b:=.append) (xs:=#[.tmp 14,.tmp 20]) rfl ?_);at_builtin;refine Kd.R_append (Kd.int .i64) w.heap.size rfl (.tmp 14) (.tmp 20) 29 3 (.int .i64 0) 8 rfl Try.underlying29 info3 rfl (by decide) (by omega) u4 x4_1 t105 [.int .i64 t105] (fun _=>True) (fun _=>False) rfl rfl ?aP (fun _ hk=>hk.elim) ?aF ?aO (Below.refl _ _) ?aS ?aL ?_;(case aP=>exact rfl);(case aF=>exact (fun _ _=>trivial));(case aO=>exact (by (with_reducible repeat (first|apply zf|apply zg|apply ze));exact HO_4.out));(case aS=>exact (keep_size (w:=w) (g:=g) (row:=none) (by repeat (first|(with_reducible first|exact HK.out|apply zn|apply zo|apply zp|apply zq)|exact HK.out))));(case aL=>have:=LMc7.out;omega);intro v109 w9 ho hb hg hat;rw [← Ny108.out] at ho;replace HB:=za (below_weaken (by repeat (first|(with_reducible first|exact HB.out|apply zc|apply zd|apply zb|refine zm ?_ (IsS53.ge HI0.out))|exact HB.out)) HL.out hb);replace HI0:=za (IsS53.grown (by repeat (first|(with_reducible first|exact HI0.out|apply IsS53.alloc|apply IsS53.drewN|apply IsS53.drew|apply IsS53.set_1|apply IsS53.set_2)|exact HI0.out)) hg (IsS53.own_ne HI0.out HO_4.out (by decide)));replace HK:=za (KeepBut.trans (by repeat (first|(with_reducible first|exact HK.out|apply zn|apply zo|apply zp|apply zq)|exact HK.out)) (KeepBut.of_grown hg g) (Kd.R_base2 HO_4.out));have HO110:=za (ho);clear HO_4;clear ho hb hg hat)));(go_roundg k1);(case measure=>have:=HK1.out;omega);case rel=>exact ⟨(y108),(wrap64 (x5_1 + 1)),(t106),(t107),(by first|rfl|(simp;done)|(simp [*];done)),H',⟨by have:=HK1.out;omega⟩,⟨by (with_reducible repeat (first|apply zf|apply zg|apply ze));exact HO110.out⟩,⟨by repeat (first|(with_reducible first|exact HI0.out|apply IsS53.alloc|apply IsS53.drewN|apply IsS53.drew|apply IsS53.set_1|apply IsS53.set_2)|exact HI0.out)⟩,⟨by repeat (first|(with_reducible first|exact HK.out|apply zn|apply zo|apply zp|apply zq)|exact HK.out)⟩,⟨by repeat (first|(with_reducible first|exact HB.out|apply zc|apply zd|apply zb|refine zm ?_ (IsS53.ge HI0.out))|exact HB.out)⟩⟩
    · rw [if_neg c7] at H;exact absurd H (by simp)
   ·
    rw [if_neg c4] at H;have c4b0:decide (x5_1 < (wrap64 (1 + t101)))=false:=decide_eq_false c4;clear c4;obtain ⟨⟨t111,t112,t113⟩,A10,H⟩:=bindAside H;(try dsimp only at H);by_cases c11:t111=true
    · subst c11;(have H1:((spec_l1Cur_lengths.f k1 s0_0 t112 t113).bind fun bt114=>(some (bt114.1,bt114.2.1,bt114.2.2)))=some (r1,r2,r3):=by rw [if_pos rfl] at H;exact H);clear H;have H:=H1;clear H1;obtain ⟨⟨t114,t117,t118⟩,A12,H⟩:=bindAside H;(try dsimp only at H);simp only [Option.some.injEq,Prod.mk.injEq] at H;obtain ⟨rfl,rfl,rfl⟩:=H;(go_wp2_with (first|((with_reducible refine zh (f:=43) rfl ?_);refine goesL_ (some 23) rfl rfl Try.func43 (by kernel_rfl) rfl #[.pointer (some ⟨g,0,none⟩),.int .i64 8] rfl (by first|rfl|simp only [z3_,z4_,z5_];try rfl) ?_;(with_reducible refine (spec_l1Cur_one.calls g s0_0 x1001_1 x1002_1 8 true t112 t113 w0 _ ?side1 ?side2 A10.out).mono ?_);(case side1=>repeat (first|(with_reducible first|exact HI0.out|apply IsS53.alloc|apply IsS53.drewN|apply IsS53.drew|apply IsS53.set_1|apply IsS53.set_2)|exact HI0.out));(case side2=>repeat (first|(with_reducible first|exact HB.out|apply zc|apply zd|apply zb|refine zm ?_ (IsS53.ge HI0.out))|exact HB.out));rintro e w13 ⟨rfl,hi,hb,hk⟩;refine ⟨_,rfl,?_⟩;replace HO_4:=za (Kd.R_mono (Kd.R_keep (IsS53.apart (show IsS53 w0 _ g s0_0 x1001_1 x1002_1 from by repeat (first|(with_reducible first|exact HI0.out|apply IsS53.alloc|apply IsS53.drewN|apply IsS53.drew|apply IsS53.set_1|apply IsS53.set_2)|exact HI0.out)) (by (with_reducible repeat (first|apply zf|apply zg|apply ze));exact HO_4.out) (by decide)) hk (fun _ h=>h.2)) (fun _ h=>h.1));replace HK:=za (KeepBut.trans (by repeat (first|(with_reducible first|exact HK.out|apply zn|apply zo|apply zp|apply zq)|exact HK.out)) hk (.inl rfl));replace HB:=za (hb);replace HI0:=za (hi))|((with_reducible refine zh (f:=72) rfl ?_);refine goesL_ (some 25) rfl rfl Try.func72 (by kernel_rfl) rfl #[.pointer (some ⟨g,0,none⟩)] rfl (by first|rfl|simp only [z3_,z4_,z5_];try rfl) ?_;(with_reducible refine (spec_l1Cur_lengths.calls k1 g s0_0 t112 t113 t114 t117 t118 w0 _ ?side1 ?side2 A12.out).mono ?_);(case side1=>repeat (first|(with_reducible first|exact HI0.out|apply IsS53.alloc|apply IsS53.drewN|apply IsS53.drew|apply IsS53.set_1|apply IsS53.set_2)|exact HI0.out));(case side2=>repeat (first|(with_reducible first|exact HB.out|apply zc|apply zd|apply zb|refine zm ?_ (IsS53.ge HI0.out))|exact HB.out));rintro e w14 ⟨v115,rfl,ho0,hi,hb,hk⟩;refine ⟨_,rfl,?_⟩;have HO116:=za (Kd.R_lower (Kd.R_new' ho0 (Kd.R_lt (by (with_reducible repeat (first|apply zf|apply zg|apply ze));exact HO_4.out))) (keep_size (w:=w) (g:=g) (row:=none) (by repeat (first|(with_reducible first|exact HK.out|apply zn|apply zo|apply zp|apply zq)|exact HK.out))));replace HO_4:=za (Kd.R_mono (Kd.R_told (Kd.R_oldK (IsS53.apart (show IsS53 w0 _ g s0_0 t112 t113 from by repeat (first|(with_reducible first|exact HI0.out|apply IsS53.alloc|apply IsS53.drewN|apply IsS53.drew|apply IsS53.set_1|apply IsS53.set_2)|exact HI0.out)) (by (with_reducible repeat (first|apply zf|apply zg|apply ze));exact HO_4.out) (by decide)) hk) (Kd.R_base ho0)) (fun _ h_=>h_.1));replace HK:=za (KeepBut.trans (by repeat (first|(with_reducible first|exact HK.out|apply zn|apply zo|apply zp|apply zq)|exact HK.out)) hk (.inl rfl));replace HB:=za (hb);replace HI0:=za (hi))));(go_ret);exact ⟨_,by first|rfl|simp [*,errW_none,errW_some] <;> rfl,by (with_reducible repeat (first|apply zf|apply zg|apply ze));exact Kd.R_mono HO116.out (fun _ hk=>trivial),by repeat (first|(with_reducible first|exact HI0.out|apply IsS53.alloc|apply IsS53.drewN|apply IsS53.drew|apply IsS53.set_1|apply IsS53.set_2)|exact HI0.out),by repeat (first|(with_reducible first|exact HB.out|apply zc|apply zd|apply zb|refine zm ?_ (IsS53.ge HI0.out))|exact HB.out),by repeat (first|(with_reducible first|exact HK.out|apply zn|apply zo|apply zp|apply zq)|exact HK.out)⟩
    · replace c11:=Bool.eq_false_iff.mpr c11;subst c11;(have H1:((spec_feSorted.f k1 x4_1).bind fun t119=>(some (t119,t112,t113)))=some (r1,r2,r3):=by rw [if_neg (show ¬ (false=true) by decide)] at H;exact H);clear H;have H:=H1;clear H1;obtain ⟨t119,A15,H⟩:=bindAside H;(try dsimp only at H);simp only [Option.some.injEq,Prod.mk.injEq] at H;obtain ⟨rfl,rfl,rfl⟩:=H;(go_wp2_with (first|((with_reducible refine zh (f:=43) rfl ?_);refine goesL_ (some 23) rfl rfl Try.func43 (by kernel_rfl) rfl #[.pointer (some ⟨g,0,none⟩),.int .i64 8] rfl (by first|rfl|simp only [z3_,z4_,z5_];try rfl) ?_;(with_reducible refine (spec_l1Cur_one.calls g s0_0 x1001_1 x1002_1 8 false t112 t113 w0 _ ?side1 ?side2 A10.out).mono ?_);(case side1=>repeat (first|(with_reducible first|exact HI0.out|apply IsS53.alloc|apply IsS53.drewN|apply IsS53.drew|apply IsS53.set_1|apply IsS53.set_2)|exact HI0.out));(case side2=>repeat (first|(with_reducible first|exact HB.out|apply zc|apply zd|apply zb|refine zm ?_ (IsS53.ge HI0.out))|exact HB.out));rintro e w16 ⟨rfl,hi,hb,hk⟩;refine ⟨_,rfl,?_⟩;replace HO_4:=za (Kd.R_mono (Kd.R_keep (IsS53.apart (show IsS53 w0 _ g s0_0 x1001_1 x1002_1 from by repeat (first|(with_reducible first|exact HI0.out|apply IsS53.alloc|apply IsS53.drewN|apply IsS53.drew|apply IsS53.set_1|apply IsS53.set_2)|exact HI0.out)) (by (with_reducible repeat (first|apply zf|apply zg|apply ze));exact HO_4.out) (by decide)) hk (fun _ h=>h.2)) (fun _ h=>h.1));replace HK:=za (KeepBut.trans (by repeat (first|(with_reducible first|exact HK.out|apply zn|apply zo|apply zp|apply zq)|exact HK.out)) hk (.inl rfl));replace HB:=za (hb);replace HI0:=za (hi);obtain ⟨Ao17,co17,eo17⟩:=Kd.R_slice HO_4.out;subst eo17)|((with_reducible refine zh (f:=73) rfl ?_);refine goesL_ (some 27) rfl rfl Try.func73 (by kernel_rfl) rfl #[.slice Ao17 x4_1.length co17] rfl (by first|rfl|simp only [z3_,z4_,z5_];try rfl) ?_;(with_reducible refine (spec_feSorted.calls k1 _ _ x4_1 t119 _ ?side1 ?side2 A15.out).mono ?_);(case side1=>repeat (first|exact (zl HO_4.out).2.2|(with_reducible refine zi ?_ _)|(with_reducible refine zj ?_ _)|(with_reducible refine zk ?_)));(case side2=>exact (zl HO_4.out).2.1);rintro e w18 ⟨v120,rfl,ho0,hb⟩;refine ⟨_,rfl,?_⟩;have HO121:=za (Kd.R_lower (Kd.R_new' ho0 (Kd.R_lt (by (with_reducible repeat (first|apply zf|apply zg|apply ze));exact HO_4.out))) (keep_size (w:=w) (g:=g) (row:=none) (by repeat (first|(with_reducible first|exact HK.out|apply zn|apply zo|apply zp|apply zq)|exact HK.out))));replace HO_4:=za (Kd.R_elder' (by (with_reducible repeat (first|apply zf|apply zg|apply ze));exact HO_4.out) (Kd.R_base ho0) hb);replace HK:=za (KeepBut.trans (by repeat (first|(with_reducible first|exact HK.out|apply zn|apply zo|apply zp|apply zq)|exact HK.out)) (KeepBut.of_below hb g none) (.inl rfl));replace HB:=za (below_step (by repeat (first|(with_reducible first|exact HB.out|apply zc|apply zd|apply zb|refine zm ?_ (IsS53.ge HI0.out))|exact HB.out)) hb);replace HI0:=za (IsS53.below (by repeat (first|(with_reducible first|exact HI0.out|apply IsS53.alloc|apply IsS53.drewN|apply IsS53.drew|apply IsS53.set_1|apply IsS53.set_2)|exact HI0.out)) hb))));(go_ret);exact ⟨_,by first|rfl|simp [*,errW_none,errW_some] <;> rfl,by (with_reducible repeat (first|apply zf|apply zg|apply ze));exact Kd.R_mono HO121.out (fun _ hk=>trivial),by repeat (first|(with_reducible first|exact HI0.out|apply IsS53.alloc|apply IsS53.drewN|apply IsS53.drew|apply IsS53.set_1|apply IsS53.set_2)|exact HI0.out),by repeat (first|(with_reducible first|exact HB.out|apply zc|apply zd|apply zb|refine zm ?_ (IsS53.ge HI0.out))|exact HB.out),by repeat (first|(with_reducible first|exact HK.out|apply zn|apply zo|apply zp|apply zq)|exact HK.out)⟩
end Go.Proofs.Ytadkkcdhgepbkaa.Q
end
section
namespace Go.Proofs.Ytadkkcdhgepbkaa.Q
open Go.RowKit Go.Proofs.YtadkkcdhgepbkaaW.PrintWords Go.Proofs.YtadkkcdhgepbkaaW.PrintLast Go.Proofs.YtadkkcdhgepbkaaW.PrintMore
attribute [local go_sem] max2_int min2_int max_two min_two max_three min_three max_four min_four   -- for this text's walks alone
set_option linter.unusedVariables false
set_option linter.unusedSimpArgs false
mutual
def spec_DrawRankCountsPlain.l0:Nat→List Int→List Int→Int→Int→Option (List Int × Int)
|0,_,_,_,_=>none
|k + 1,x5,x102000,x102001,x102002=>(spec_feGood.f k x5).bind fun t107=>(if t107=true then ((spec_weCells.f k x5).bind fun t108=>(spec_DrawRankCountsPlain.j1 k x5 (decide (t108 > 8)) x102000 x102001 x102002)) else (spec_DrawRankCountsPlain.j1 k x5 false x102000 x102001 x102002))
def spec_DrawRankCountsPlain.j1:Nat→List Int→Bool→List Int→Int→Int→Option (List Int × Int)
|0,_,_,_,_,_=>none
|k + 1,x5,x18,x102000,x102001,x102002=>if x18=true then (if 0≤(wrap64 ((x5.length:Int) - 1)) then (if (wrap64 ((x5.length:Int) - 1))≤(x5.length:Int) then ((some (x5.take ((wrap64 ((x5.length:Int) - 1)):Int).toNat:List Int)).bind fun y112=>(spec_DrawRankCountsPlain.l1 k y112 (y112.length:Int) 0 x102000 x102001 x102002)) else (none)) else (none)) else ((spec_l1Cur_base.f x102000 x102001 x102002).bind fun bt109=>(some (x5,bt109.1)))
def spec_DrawRankCountsPlain.l1:Nat→List Int→Int→Int→List Int→Int→Int→Option (List Int × Int)
|0,_,_,_,_,_,_=>none
|k + 1,x5,x25,x26,x102000,x102001,x102002=>if x26 < x25 then (if 0≤x26 then (if x26 < (x5.length:Int) then ((spec_l1Least.f (rd x5 x26) (x5.length:Int)).bind fun t116=>(spec_DrawRankCountsPlain.l1 k (x5.set (x26:Int).toNat t116) x25 (wrap64 (x26 + 1)) x102000 x102001 x102002)) else (none)) else (none)) else (spec_DrawRankCountsPlain.l0 k x5 x102000 x102001 x102002)
end
def spec_DrawRankCountsPlain.f (k:Nat) (l0:List Int):Option (List Int × Int):=(spec_l1Cur_shorter.f k l0 0 0).bind fun bt102=>(spec_DrawRankCountsPlain.l0 k bt102.1 l0 bt102.2.1 bt102.2.2)
set_option maxHeartbeats 8000000 in
set_option maxRecDepth 100000 in
theorem spec_DrawRankCountsPlain.calls (k:Nat) (A0:Option Addr) (c0:Nat) (l0:List Int) (r1:List Int) (r2:Int) (w:World) (hr0:Kd.C (Kd.int .u8) w A0 l0.length l0) (hc0:l0.length≤c0) (h:spec_DrawRankCountsPlain.f k l0=some (r1,r2)) :
  Calls Try.prog 20 #[.slice A0 l0.length c0] w fun e w'=>∃ v0_:Value,e=.returned (.tuple #[v0_,.int .i64 r2])∧Kd.R (Kd.int .i64) 3 w' w.heap.size (fun _=>True) v0_ r1∧Below w.heap.size w w':=by
 have hu53:=Try.underlying53;have HR0:=za hr0;have HC0:=za hc0;clear hr0 hc0;have HB:=za (Below.refl w.heap.size w);have H:((spec_l1Cur_shorter.f k l0 0 0).bind fun bt102=>(spec_DrawRankCountsPlain.l0 k bt102.1 l0 bt102.2.1 bt102.2.2))=some (r1,r2):=h;clear h;obtain ⟨⟨t102,t105,t106⟩,A2,H⟩:=bindAside H;(try dsimp only at H);have H':=za H;clear H;(go_enter Try.func20,Try.ntmps20);(go_wp2_with (first|((with_reducible refine gate_dst (N:=9) rfl ?_);refine box_event ?hg (N:=9) ?hd (cs:=#[.slice A0 l0.length c0,.int .i64 0,.int .u64 0]) (t:=53) ?hr ?_;(case hd=>rfl);(case hg=>rfl);(case hr=>first|(go_simp;done)|(go_simp;rfl));intro gb101 hg w3 hbox hb;have BK101:=za (hbox);have GW101:=za ((by rw [hg];exact (zr (by repeat (first|(with_reducible first|exact HB.out|apply zc|apply zd|apply zb)|exact HB.out))):w.heap.size≤gb101));have GE101:=za ((by rw [hg];exact (zr (by repeat (first|(with_reducible first|exact HB.out|apply zc|apply zd|apply zb)|exact HB.out))):w.heap.size≤gb101));replace HB:=za (below_step (by repeat (first|(with_reducible first|exact HB.out|apply zc|apply zd|apply zb)|exact HB.out)) hb);clear hb hbox hg;have HI101:=za (show IsS53 w _ gb101 l0 0 0 from ⟨_,_,BK101.out,GE101.out,HR0.out⟩))|((with_reducible refine zh (f:=54) rfl ?_);refine goesL_ (some 11) rfl rfl Try.func54 (by kernel_rfl) rfl #[.pointer (some ⟨gb101,0,none⟩)] rfl (by first|rfl|simp only [z3_,z4_,z5_];try rfl) ?_;(with_reducible refine (spec_l1Cur_shorter.calls k gb101 l0 0 0 t102 t105 t106 w _ ?side1 ?side2 A2.out).mono ?_);(case side1=>repeat (first|(with_reducible first|exact HI101.out|apply IsS53.alloc|apply IsS53.drewN|apply IsS53.drew|apply IsS53.set_1|apply IsS53.set_2)|exact HI101.out));(case side2=>repeat (first|(with_reducible first|exact HB.out|apply zc|apply zd|apply zb|refine zm ?_ (IsS53.ge HI101.out))|exact HB.out));rintro e w4 ⟨v103,rfl,ho0,hi,hb,hk⟩;refine ⟨_,rfl,?_⟩;have HO104:=za (Kd.R_lower ho0 (zr (by repeat (first|(with_reducible first|exact HB.out|apply zc|apply zd|apply zb|refine zm ?_ (IsS53.ge HI101.out))|exact HB.out))));replace HB:=za (hb);replace HI101:=za (hi))));(go_loopg [5] k (fun kq v5 w'=>∃ (x5_1:List Int),Aside0 (spec_DrawRankCountsPlain.l0 kq x5_1 l0 t105 t106=some (r1,r2))∧Aside0 (kq≤k)∧Aside0 (Kd.R (Kd.int .i64) 3 w' w.heap.size (fun _=>True) v5 x5_1)∧Aside0 (IsS53 w w' gb101 l0 t105 t106)∧Aside0 (Below w.heap.size w w')));case atStart=>exact ⟨(t102),H',⟨Nat.le_refl _⟩,⟨by (with_reducible repeat (first|apply zf|apply zg|apply ze));exact HO104.out⟩,⟨by repeat (first|(with_reducible first|exact HI101.out|apply IsS53.alloc|apply IsS53.drewN|apply IsS53.drew|apply IsS53.set_1|apply IsS53.set_2)|exact HI101.out)⟩,⟨by repeat (first|(with_reducible first|exact HB.out|apply zc|apply zd|apply zb|refine zm ?_ (IsS53.ge HI101.out))|exact HB.out)⟩⟩
 case round =>
  clear H';(try clear c2);(try clear p2);obtain ⟨x5_1,HA,HK1,HO_5,HI101,HB⟩:=hrel
  cases gk with
 |zero=>exact absurd HA.out (by simp [spec_DrawRankCountsPlain.l0])
 |succ k1 =>
   have H:=HA.out;clear HA;simp only [spec_DrawRankCountsPlain.l0] at H;have HC5:=za H;clear H;(go_upto_region 3 with (fail));go_cut [18] (fun v18 wc=>∃ (kq:Nat) (x18_4:Bool),v18=.bool x18_4∧Aside0 (spec_DrawRankCountsPlain.j1 kq x5_1 x18_4 l0 t105 t106=some (r1,r2))∧Aside0 (kq≤k1)∧Aside0 (Kd.R (Kd.int .i64) 3 wc w.heap.size (fun _=>True) u5 x5_1)∧Aside0 (IsS53 w wc gb101 l0 t105 t106)∧Aside0 (Below w.heap.size w wc))
   case first =>
    have H:=HC5.out;clear HC5;obtain ⟨t107,A6,H⟩:=bindAside H;(try dsimp only at H);by_cases c7:t107=true
    · subst c7;(have H1:((spec_weCells.f k1 x5_1).bind fun t108=>(spec_DrawRankCountsPlain.j1 k1 x5_1 (decide (t108 > 8)) l0 t105 t106))=some (r1,r2):=by rw [if_pos rfl] at H;exact H);clear H;have H:=H1;clear H1;obtain ⟨t108,A8,H⟩:=bindAside H;(try dsimp only at H);have H':=za H;clear H;obtain ⟨Ao9,co9,eo9⟩:=Kd.R_slice HO_5.out;subst eo9;(go_wp2_with (first|((with_reducible refine zh (f:=52) rfl ?_);refine goesL_ (some 13) rfl rfl Try.func52 (by kernel_rfl) rfl #[.slice Ao9 x5_1.length co9] rfl (by first|rfl|simp only [z3_,z4_,z5_];try rfl) ?_;(with_reducible refine (spec_feGood.calls k1 _ _ x5_1 true _ ?side1 ?side2 A6.out).mono ?_);(case side1=>repeat (first|exact (zl HO_5.out).2.2|(with_reducible refine zi ?_ _)|(with_reducible refine zj ?_ _)|(with_reducible refine zk ?_)));(case side2=>exact (zl HO_5.out).2.1);rintro e w' ⟨rfl,⟨nd,rfl⟩⟩;refine ⟨_,rfl,?_⟩)|(go_at_call 42;(with_reducible refine (spec_weCells.calls k1 _ _ x5_1 t108 _ ?side1 ?side2 A8.out).mono ?_);(case side1=>repeat (first|exact (zl HO_5.out).2.2|(with_reducible refine zi ?_ _)|(with_reducible refine zj ?_ _)|(with_reducible refine zk ?_)));(case side2=>exact (zl HO_5.out).2.1);rintro e w' ⟨rfl,⟨nd,rfl⟩⟩)));(go_meet);case rel=>exact ⟨_,(decide (t108 > 8)),(by first|rfl|(simp;done)|(simp [*];done)),H',⟨by have:=HK1.out;first|omega|exact Nat.le_refl _⟩,⟨by (with_reducible repeat (first|apply zf|apply zg|apply ze));exact HO_5.out⟩,⟨by repeat (first|(with_reducible first|exact HI101.out|apply IsS53.alloc|apply IsS53.drewN|apply IsS53.drew|apply IsS53.set_1|apply IsS53.set_2)|exact HI101.out)⟩,⟨by repeat (first|(with_reducible first|exact HB.out|apply zc|apply zd|apply zb|refine zm ?_ (IsS53.ge HI101.out))|exact HB.out)⟩⟩
    · replace c7:=Bool.eq_false_iff.mpr c7;subst c7;(have H1:(spec_DrawRankCountsPlain.j1 k1 x5_1 false l0 t105 t106)=some (r1,r2):=by rw [if_neg (show ¬ (false=true) by decide)] at H;exact H);clear H;have H:=H1;clear H1;have H':=za H;clear H;obtain ⟨Ao10,co10,eo10⟩:=Kd.R_slice HO_5.out;subst eo10;(go_wp2_with (first|((with_reducible refine zh (f:=52) rfl ?_);refine goesL_ (some 13) rfl rfl Try.func52 (by kernel_rfl) rfl #[.slice Ao10 x5_1.length co10] rfl (by first|rfl|simp only [z3_,z4_,z5_];try rfl) ?_;(with_reducible refine (spec_feGood.calls k1 _ _ x5_1 false _ ?side1 ?side2 A6.out).mono ?_);(case side1=>repeat (first|exact (zl HO_5.out).2.2|(with_reducible refine zi ?_ _)|(with_reducible refine zj ?_ _)|(with_reducible refine zk ?_)));(case side2=>exact (zl HO_5.out).2.1);rintro e w' ⟨rfl,⟨nd,rfl⟩⟩;refine ⟨_,rfl,?_⟩)));(go_meet);case rel=>exact ⟨_,(false),(by first|rfl|(simp;done)|(simp [*];done)),H',⟨by have:=HK1.out;first|omega|exact Nat.le_refl _⟩,⟨by (with_reducible repeat (first|apply zf|apply zg|apply ze));exact HO_5.out⟩,⟨by repeat (first|(with_reducible first|exact HI101.out|apply IsS53.alloc|apply IsS53.drewN|apply IsS53.drew|apply IsS53.set_1|apply IsS53.set_2)|exact HI101.out)⟩,⟨by repeat (first|(with_reducible first|exact HB.out|apply zc|apply zd|apply zb|refine zm ?_ (IsS53.ge HI101.out))|exact HB.out)⟩⟩
   case rest =>
    clear HC5;(try clear c2);(try clear p2);(try clear c5);(try clear c7);(try clear p2);obtain ⟨kq,x18_4,rfl,HA,HJ4,HO_5,HI101,HB⟩:=hcut
    cases kq with
   |zero=>exact absurd HA.out (by simp [spec_DrawRankCountsPlain.j1])
   |succ kj4 =>
     have H:=HA.out;clear HA;simp only [spec_DrawRankCountsPlain.j1] at H;by_cases c11:x18_4=true
     ·
      subst c11;(have H1:(if 0≤(wrap64 ((x5_1.length:Int) - 1)) then (if (wrap64 ((x5_1.length:Int) - 1))≤(x5_1.length:Int) then ((some (x5_1.take ((wrap64 ((x5_1.length:Int) - 1)):Int).toNat:List Int)).bind fun y112=>(spec_DrawRankCountsPlain.l1 kj4 y112 (y112.length:Int) 0 l0 t105 t106)) else (none)) else (none))=some (r1,r2):=by rw [if_pos rfl] at H;exact H);clear H;have H:=H1;clear H1;obtain ⟨ji12,hji12⟩:∃ j_:Int,(wrap64 ((x5_1.length:Int) - 1))=j_:=⟨_,rfl⟩;(replace H:(if 0≤(ji12) then (if (ji12)≤(x5_1.length:Int) then ((some (x5_1.take ((ji12):Int).toNat:List Int)).bind fun y112=>(spec_DrawRankCountsPlain.l1 kj4 y112 (y112.length:Int) 0 l0 t105 t106)) else (none)) else (none))=some (r1,r2):=by first|(rw [hji12] at H;exact H)|(simp only [hji12] at H ⊢;exact H));have hji12w:(IntKind.i64.wrap ((x5_1.length:Int) - 1))=ji12:=(i64_w _).trans hji12;by_cases c13:0≤(ji12)
      ·
       rw [if_pos c13] at H;have c13b0:=eq_true c13;have c13b1:decide (0≤(ji12))=true:=decide_eq_true c13;clear c13;by_cases c14:(ji12)≤(x5_1.length:Int)
       ·
        rw [if_pos c14] at H;have c14b0:=eq_true c14;have c14b1:decide ((ji12)≤(x5_1.length:Int))=true:=decide_eq_true c14;clear c14;obtain ⟨y112,hy112⟩:∃ y_:List Int,y_=(x5_1.take ((ji12):Int).toNat):=⟨_,rfl⟩;(replace H:(spec_DrawRankCountsPlain.l1 kj4 y112 (y112.length:Int) 0 l0 t105 t106)=some (r1,r2):=by first|(rw [hy112];with_reducible exact H)|(have H2_:=(Option.bind_some _ _).symm.trans H;rw [hy112];with_reducible exact H2_)|(have H2_:=(Option.bind_some _ _).symm.trans H;with_reducible exact H2_)|with_reducible exact H|(rw [hy112];exact H)|exact H);have Ny112:=za hy112;clear hy112;have H':=za H;clear H;obtain ⟨Ao15,co15,eo15⟩:=Kd.R_slice HO_5.out;subst eo15;have q16:((ji12):Int)≤((x5_1.length:Int):Int):=of_decide_eq_true ‹_›;obtain ⟨i016,hi016,_,hsz16,_⟩:=info_parts info3;have hcut16:=cut_to (P:=Try.prog) 29 3 .i64 Try.underlying29 hi016 Ao15 x5_1.length co15 (ji12) (of_decide_eq_true ‹_›) q16 (zl HO_5.out).2.1;have hr16:=Kd.R_take (m:=((ji12):Int).toNat) HO_5.out (by omega);have hy16:y112.length=((ji12):Int).toNat:=(by rw [Ny112.out,List.length_take];omega);rw [← Ny112.out] at hr16;rw [← hy16] at hr16 hcut16;clear hy16 hi016 hsz16 HO_5;have HO114:=za hr16;clear hr16;replace q16:=eq_true q16;(go_wp2);(go_loopg [26] kj4 (fun kq v26 w'=>∃ (x5_3:List Int) (x26_3:Int),v26=.int .i64 x26_3∧Aside0 (spec_DrawRankCountsPlain.l1 kq x5_3 (y112.length:Int) x26_3 l0 t105 t106=some (r1,r2))∧Aside0 (kq≤kj4)∧Aside0 (Kd.R (Kd.int .i64) 3 w' w.heap.size (fun _=>True) (.slice Ao15 y112.length co15) x5_3)∧Aside0 (IsS53 w w' gb101 l0 t105 t106)∧Aside0 (Below w.heap.size w w')));case atStart=>exact ⟨(y112),(0),(by first|rfl|(simp;done)|(simp [*];done)),H',⟨Nat.le_refl _⟩,⟨by (with_reducible repeat (first|apply zf|apply zg|apply ze));exact HO114.out⟩,⟨by repeat (first|(with_reducible first|exact HI101.out|apply IsS53.alloc|apply IsS53.drewN|apply IsS53.drew|apply IsS53.set_1|apply IsS53.set_2)|exact HI101.out)⟩,⟨by repeat (first|(with_reducible first|exact HB.out|apply zc|apply zd|apply zb|refine zm ?_ (IsS53.ge HI101.out))|exact HB.out)⟩⟩
        case round =>
         clear H';(try clear c1);(try clear q1);(try clear c2);(try clear p2);(try clear c5);(try clear p6);(try clear c7);(try clear c11);(try clear c13);(try clear c13b0);(try clear c13b1);(try clear c14);(try clear c14b0);(try clear c14b1);(try clear q16);(try clear p2);(try clear q16);obtain ⟨x5_3,x26_3,rfl,HA,HK3,HO_5,HI101,HB⟩:=hrel;have hl5_3:=(zl HO_5.out).1;rw [hl5_3] at HO_5;(try simp only [hl5_3])
         cases gk with
        |zero=>exact absurd HA.out (by simp [spec_DrawRankCountsPlain.l1])
        |succ k3 =>
          have H:=HA.out;clear HA;simp only [spec_DrawRankCountsPlain.l1] at H;by_cases c17:x26_3 < (y112.length:Int)
          ·
           rw [if_pos c17] at H;have c17b0:decide (x26_3 < (y112.length:Int))=true:=decide_eq_true c17;clear c17;by_cases c18:0≤x26_3
           ·
            rw [if_pos c18] at H;have c18b0:decide (0≤x26_3)=true:=decide_eq_true c18;clear c18;by_cases c19:x26_3 < (x5_3.length:Int)
            · rw [if_pos c19] at H;have c19b0:decide (x26_3 < (x5_3.length:Int))=true:=decide_eq_true c19;clear c19;obtain ⟨t116,A20,H⟩:=bindAside H;(try dsimp only at H);obtain ⟨y117,hy117⟩:∃ y_:List Int,y_=(x5_3.set (x26_3:Int).toNat t116):=⟨_,rfl⟩;(replace H:(spec_DrawRankCountsPlain.l1 k3 y117 (y112.length:Int) (wrap64 (x26_3 + 1)) l0 t105 t106)=some (r1,r2):=by first|(rw [hy117];with_reducible exact H)|(have H2_:=(Option.bind_some _ _).symm.trans H;rw [hy117];with_reducible exact H2_)|(have H2_:=(Option.bind_some _ _).symm.trans H;with_reducible exact H2_)|with_reducible exact H|(rw [hy117];exact H)|exact H);have Ny117:=za hy117;clear hy117;have H':=za H;clear H;have p115:0≤(x26_3:Int):=of_decide_eq_true ‹_›;have q115:x26_3 < (x5_3.length:Int):=of_decide_eq_true ‹_›;obtain ⟨ad115,e115,hx115_0⟩:=Kd.at_int (zl HO_5.out).2.2 x26_3 p115 q115;cases e115;replace p115:=eq_true p115;replace q115:=eq_true q115;(go_wp2_with (first|((with_reducible refine zh (f:=55) rfl ?_);refine goesL_ (some 37) rfl rfl Try.func55 (by kernel_rfl) rfl #[.int .i64 (rd x5_3 x26_3),.int .i64 (x5_3.length:Int)] rfl (by first|rfl|simp only [z3_,z4_,z5_];try rfl) ?_;(with_reducible refine (spec_l1Least.calls (rd x5_3 x26_3) (x5_3.length:Int) t116 _ A20.out).mono ?_);rintro e w' ⟨rfl,⟨nd,rfl⟩⟩;refine ⟨_,rfl,?_⟩;(try (rw [drewN_self wr];generalize hq_:World.drewN wr _=wr;have n0_:Aside0 (Kd.R (Kd.int .i64) 3 wr w.heap.size (fun _=>True) (.slice (some ad115) x5_3.length co15) x5_3):=⟨by rw [← hq_];exact (by (with_reducible repeat (first|apply zf|apply zg|apply ze));exact HO_5.out)⟩;have n1_:Aside0 (IsS53 w wr gb101 l0 t105 t106):=⟨by rw [← hq_];exact (by repeat (first|(with_reducible first|exact HI101.out|apply IsS53.alloc|apply IsS53.drewN|apply IsS53.drew|apply IsS53.set_1|apply IsS53.set_2)|exact HI101.out))⟩;have n2_:Aside0 (Below w.heap.size w wr):=⟨by rw [← hq_];exact (by repeat (first|(with_reducible first|exact HB.out|apply zc|apply zd|apply zb|refine zm ?_ (IsS53.ge HI101.out))|exact HB.out))⟩;clear HO_5 HI101 HB hq_;have HO_5:=n0_;have HI101:=n1_;have HB:=n2_;clear n0_ n1_ n2_));have p21:0≤(x26_3:Int):=of_decide_eq_true ‹_›;have q21:(x26_3:Int) < ((x5_3.length:Int):Int):=of_decide_eq_true ‹_›;obtain ⟨go21,co21,eo21,gb21,gl21,cl21,HG21⟩:=Kd.R_form HO_5.out (by omega);(first|cases eo21|(injection eo21 with ea_ en_ ec_;(first|subst ea_|(injection ea_ with ea_;subst ea_));subst ec_;clear en_));have GB21:=za gb21;have GG21:=za HG21;clear gb21 gl21 HG21;(first|simp only [add_plain] at hx115_0|skip);obtain ⟨hx21_0,hf21_0⟩:=Kd.R_celln 0 HO_5.out (x26_3:Int) p21 q21;replace p21:=eq_true p21;replace q21:=eq_true q21;obtain ⟨hy22_,hz22_⟩:=Kd.R_celln 0 HO_5.out (x26_3:Int) (of_decide_eq_true ‹_›) (of_decide_eq_true ‹_›);have HP22:=Kd.R_putg HO_5.out (x26_3:Int) t116)|((with_reducible refine gate_store (t:=3) (p:=38) rfl ?_);refine store_event (t:=3) (p:=38) (v:=?vo_w23) (w1:=(wr.setCell ⟨go21,(x26_3:Int).toNat,none⟩ (.int .i64 t116))) ?hg ?ho ?hn ?hr ?_;(case ho=>rfl);(case hg=>rfl);(case hn=>rfl);(case hr=>first|(go_simp;done)|(go_simp;rfl));intro w23 hw;have hg:wr.grownBy w23 (some go21):=(by rw [hw];exact HP22.2);have hp_:Kd.R (Kd.int .i64) 3 w23 w.heap.size (fun _=>True) (.slice (some ⟨go21,0,none⟩) x5_3.length co15) y117:=(by rw [hw,Ny117.out];exact HP22.1);clear HP22;replace HI101:=za (IsS53.grown (by repeat (first|(with_reducible first|exact HI101.out|apply IsS53.alloc|apply IsS53.drewN|apply IsS53.drew|apply IsS53.set_1|apply IsS53.set_2)|exact HI101.out)) hg (IsS53.own_ne HI101.out HO_5.out (by decide)));replace HO_5:=za (hp_);replace HB:=za ((by rw [hw];exact zm (HB.out) GB21.out:Below w.heap.size w w23));clear hg hw hp_)));(try simp only [← hl5_3]);(go_roundg k3);(case measure=>have:=HK1.out;have:=HJ4.out;have:=HK3.out;omega);case rel=>exact ⟨(y117),(wrap64 (x26_3 + 1)),(by first|rfl|(simp;done)|(simp [*];done)),H',⟨by have:=HK1.out;have:=HJ4.out;have:=HK3.out;omega⟩,⟨by (try simp only [hl5_3]);(with_reducible repeat (first|apply zf|apply zg|apply ze));exact HO_5.out⟩,⟨by repeat (first|(with_reducible first|exact HI101.out|apply IsS53.alloc|apply IsS53.drewN|apply IsS53.drew|apply IsS53.set_1|apply IsS53.set_2)|exact HI101.out)⟩,⟨by repeat (first|(with_reducible first|exact HB.out|apply zc|apply zd|apply zb|refine zm ?_ (IsS53.ge HI101.out))|exact HB.out)⟩⟩
            · rw [if_neg c19] at H;exact absurd H (by simp)
           · rw [if_neg c18] at H;exact absurd H (by simp)
          · rw [if_neg c17] at H;have c17b0:decide (x26_3 < (y112.length:Int))=false:=decide_eq_false c17;have c17b1x:=c17b0;(try simp only [hl5_3] at c17b1x);clear c17;have H':=za H;clear H;(go_wp2);(try simp only [← hl5_3]);(go_roundg k3);(case measure=>have:=HK1.out;have:=HJ4.out;have:=HK3.out;omega);case rel=>exact ⟨(x5_3),H',⟨by have:=HK1.out;have:=HJ4.out;have:=HK3.out;omega⟩,⟨by (try simp only [hl5_3]);(with_reducible repeat (first|apply zf|apply zg|apply ze));exact HO_5.out⟩,⟨by repeat (first|(with_reducible first|exact HI101.out|apply IsS53.alloc|apply IsS53.drewN|apply IsS53.drew|apply IsS53.set_1|apply IsS53.set_2)|exact HI101.out)⟩,⟨by repeat (first|(with_reducible first|exact HB.out|apply zc|apply zd|apply zb|refine zm ?_ (IsS53.ge HI101.out))|exact HB.out)⟩⟩
       · rw [if_neg c14] at H;exact absurd H (by simp)
      · rw [if_neg c13] at H;exact absurd H (by simp)
     · replace c11:=Bool.eq_false_iff.mpr c11;subst c11;(have H1:((spec_l1Cur_base.f l0 t105 t106).bind fun bt109=>(some (x5_1,bt109.1)))=some (r1,r2):=by rw [if_neg (show ¬ (false=true) by decide)] at H;exact H);clear H;have H:=H1;clear H1;obtain ⟨⟨t109,t110,t111⟩,A24,H⟩:=bindAside H;(try dsimp only at H);simp only [Option.some.injEq,Prod.mk.injEq] at H;obtain ⟨rfl,rfl⟩:=H;(go_wp2_with (first|((with_reducible refine zh (f:=30) rfl ?_);refine goesL_ (some 42) rfl rfl Try.func30 (by kernel_rfl) rfl #[.pointer (some ⟨gb101,0,none⟩)] rfl (by first|rfl|simp only [z3_,z4_,z5_];try rfl) ?_;(with_reducible refine (spec_l1Cur_base.calls gb101 l0 t105 t106 t109 t110 t111 w _ ?side1 ?side2 A24.out).mono ?_);(case side1=>repeat (first|(with_reducible first|exact HI101.out|apply IsS53.alloc|apply IsS53.drewN|apply IsS53.drew|apply IsS53.set_1|apply IsS53.set_2)|exact HI101.out));(case side2=>repeat (first|(with_reducible first|exact HB.out|apply zc|apply zd|apply zb|refine zm ?_ (IsS53.ge HI101.out))|exact HB.out));rintro e w25 ⟨rfl,hi,hb,hk⟩;refine ⟨_,rfl,?_⟩;replace HO_5:=za (Kd.R_mono (Kd.R_keep (IsS53.apart (show IsS53 w _ gb101 l0 t105 t106 from by repeat (first|(with_reducible first|exact HI101.out|apply IsS53.alloc|apply IsS53.drewN|apply IsS53.drew|apply IsS53.set_1|apply IsS53.set_2)|exact HI101.out)) (by (with_reducible repeat (first|apply zf|apply zg|apply ze));exact HO_5.out) (by decide)) hk (fun _ h=>h.2)) (fun _ h=>h.1));replace HB:=za (hb);replace HI101:=za (hi))));(go_ret2);exact ⟨_,by first|rfl|simp [*,errW_none,errW_some] <;> rfl,by (with_reducible repeat (first|apply zf|apply zg|apply ze));exact HO_5.out,by repeat (first|(with_reducible first|exact HB.out|apply zc|apply zd|apply zb|refine zm ?_ (IsS53.ge HI101.out))|exact HB.out)⟩
end Go.Proofs.Ytadkkcdhgepbkaa.Q
end
section
namespace Go.Proofs.Ytadkkcdhgepbkaa.Q
open Go.RowKit Go.Proofs.YtadkkcdhgepbkaaW.PrintWords Go.Proofs.YtadkkcdhgepbkaaW.PrintLast Go.Proofs.YtadkkcdhgepbkaaW.PrintMore
attribute [local go_sem] max2_int min2_int max_two min_two max_three min_three max_four min_four   -- for this text's walks alone
set_option linter.unusedVariables false
set_option linter.unusedSimpArgs false
def impl_rooks.l0:Nat→Int→List Int→Int→Int→Option (Int)
|0,_,_,_,_=>none
|k + 1,x3,x6,x7,x8=>if x8 < x7 then (if 0≤x8 then (if x8 < (x6.length:Int) then (if (rd x6 x8)=(-1) then (impl_rooks.l0 k x3 x6 x7 (wrap64 (x8 + 1))) else (impl_rooks.l0 k (wrap64 (x3 + 1)) x6 x7 (wrap64 (x8 + 1)))) else (none)) else (none)) else (some x3)
def impl_rooks.f (k:Nat) (l0:List Int):Option (Int):=impl_rooks.l0 k 0 l0 (l0.length:Int) 0
set_option maxHeartbeats 8000000 in
set_option maxRecDepth 100000 in
theorem impl_rooks.calls (k:Nat) (A0:Option Addr) (c0:Nat) (l0:List Int) (r:Int) (w:World) (hr0:Kd.C (Kd.int .i64) w A0 l0.length l0) (hc0:l0.length≤c0) (h:impl_rooks.f k l0=some r) :
  Calls Try.prog 64 #[.slice A0 l0.length c0] w fun e w'=>e=.returned (.int .i64 r)∧Drawn0 w w':=by
 have HR0:=za hr0;have HC0:=za hc0;clear hr0 hc0;have H:(impl_rooks.l0 k 0 l0 (l0.length:Int) 0)=some r:=h;clear h;have H':=za H;clear H;(go_enter Try.func64,Try.ntmps64);(go_wp2);(go_loopg [3,8] k (fun kq v3 v8 w'=>∃ (x3_1:Int) (x8_1:Int),v3=.int .i64 x3_1∧v8=.int .i64 x8_1∧Aside0 (impl_rooks.l0 kq x3_1 l0 (l0.length:Int) x8_1=some r)∧Aside0 (kq≤k)∧Drawn0 w w'));case atStart=>exact ⟨(0),(0),(by first|rfl|(simp;done)|(simp [*];done)),(by first|rfl|(simp;done)|(simp [*];done)),H',⟨Nat.le_refl _⟩,by repeat (first|exact Drawn0.refl _|apply Drawn0.step)⟩
 case round =>
  clear H';obtain ⟨x3_1,x8_1,rfl,rfl,HA,HK1,⟨m1,rfl⟩⟩:=hrel
  cases gk with
 |zero=>exact absurd HA.out (by simp [impl_rooks.l0])
 |succ k1 =>
   have H:=HA.out;clear HA;simp only [impl_rooks.l0] at H;by_cases c2:x8_1 < (l0.length:Int)
   ·
    rw [if_pos c2] at H;have c2b0:decide (x8_1 < (l0.length:Int))=true:=decide_eq_true c2;clear c2;by_cases c3:0≤x8_1
    ·
     rw [if_pos c3] at H;have c3b0:decide (0≤x8_1)=true:=decide_eq_true c3;clear c3;by_cases c4:x8_1 < (l0.length:Int)
     ·
      rw [if_pos c4] at H;have c4b0:decide (x8_1 < (l0.length:Int))=true:=decide_eq_true c4;clear c4;by_cases c5:(rd l0 x8_1)=(-1)
      · rw [if_pos c5] at H;have c5b0:((rd l0 x8_1) == (-1))=true:=beq_iff_eq.mpr c5;have c5b1:((rd l0 x8_1) != (-1))=false:=bne_eq_false_iff_eq.mpr c5;clear c5;have H':=za H;clear H;have p101:0≤(x8_1:Int):=of_decide_eq_true ‹_›;have q101:x8_1 < (l0.length:Int):=of_decide_eq_true ‹_›;obtain ⟨ad101,e101,hx101_0⟩:=Kd.at_int HR0.out x8_1 p101 q101;cases e101;replace p101:=eq_true p101;replace q101:=eq_true q101;(go_wp2);(go_roundg k1);(case measure=>have:=HK1.out;omega);case rel=>exact ⟨(x3_1),(wrap64 (x8_1 + 1)),(by first|rfl|(simp;done)|(simp [*];done)),(by first|rfl|(simp;done)|(simp [*];done)),H',⟨by have:=HK1.out;omega⟩,by repeat (first|exact Drawn0.refl _|apply Drawn0.step)⟩
      · rw [if_neg c5] at H;have c5b0:((rd l0 x8_1) == (-1))=false:=beq_eq_false_iff_ne.mpr c5;have c5b1:((rd l0 x8_1) != (-1))=true:=bne_iff_ne.mpr c5;have H':=za H;clear H;have p101:0≤(x8_1:Int):=of_decide_eq_true ‹_›;have q101:x8_1 < (l0.length:Int):=of_decide_eq_true ‹_›;obtain ⟨ad101,e101,hx101_0⟩:=Kd.at_int HR0.out x8_1 p101 q101;cases e101;replace p101:=eq_true p101;replace q101:=eq_true q101;(go_wp2);(go_roundg k1);(case measure=>have:=HK1.out;omega);case rel=>exact ⟨(wrap64 (x3_1 + 1)),(wrap64 (x8_1 + 1)),(by first|rfl|(simp;done)|(simp [*];done)),(by first|rfl|(simp;done)|(simp [*];done)),H',⟨by have:=HK1.out;omega⟩,by repeat (first|exact Drawn0.refl _|apply Drawn0.step)⟩
     · rw [if_neg c4] at H;exact absurd H (by simp)
    · rw [if_neg c3] at H;exact absurd H (by simp)
   · rw [if_neg c2] at H;have c2b0:decide (x8_1 < (l0.length:Int))=false:=decide_eq_false c2;clear c2;obtain rfl:=Option.some.inj H;(go_wp2);(go_ret);exact ⟨by first|rfl|(simp;done)|(simp [*];done),by repeat (first|exact Drawn0.refl _|apply Drawn0.step)⟩
end Go.Proofs.Ytadkkcdhgepbkaa.Q
end
section
namespace Go.Proofs.YtadkkcdhgepbkaaL
set_option linter.unusedVariables false
open Go.RowKit Go.Proofs.YtadkkcdhgepbkaaW.PrintWords Go.Proofs.YtadkkcdhgepbkaaW.PrintLast Go.Proofs.YtadkkcdhgepbkaaW.PrintMore
theorem w64 {n : Int} (h1 : -9223372036854775808 ≤ n) (h2 : n ≤ 9223372036854775807) : wrap64 n = n := by
  unfold wrap64; omega
theorem wrap_i64' (n : Int) : IntKind.i64.wrap n = wrap64 n := by rw [IntKind.wrap_i64]; unfold wrap64; rfl
theorem wraps_i64 (n : Int) (h₀ : 0 ≤ n) (h₁ : n < 2 ^ 63) : IntKind.i64.wrap n = n := by rw [IntKind.wrap_i64]; omega
theorem and_nat (a b : Nat) (ha : a < 2 ^ 63) (hb : b < 2 ^ 63) : Go.bits .and .i64 (a : Int) (b : Int) = ((a &&& b : Nat) : Int) :=
  (bits_nat .i64 63 (by decide) wraps_i64 a b ha hb).1
theorem or_nat (a b : Nat) (ha : a < 2 ^ 63) (hb : b < 2 ^ 63) : Go.bits .or .i64 (a : Int) (b : Int) = ((a ||| b : Nat) : Int) :=
  (bits_nat .i64 63 (by decide) wraps_i64 a b ha hb).2
theorem shl_one (n : Nat) (h : n ≤ 62) : shl .i64 1 (n : Int) = ((2 ^ n : Nat) : Int) := by
  unfold shl
  have h1 : min (n : Int).toNat (IntKind.i64.bits) = n := by
    have : IntKind.i64.bits = 64 := rfl
    rw [this, Int.toNat_natCast]; omega
  rw [h1, Int.one_mul]
  have h2 : (2 : Nat) ^ n ≤ 2 ^ 62 := Nat.pow_le_pow_right (by decide) h
  have h3 : ((2 : Int) ^ n) = ((2 ^ n : Nat) : Int) := by simp
  rw [h3]
  refine wraps_i64 _ (Int.natCast_nonneg _) ?_
  have : (2 : Nat) ^ n < 2 ^ 63 := Nat.lt_of_le_of_lt h2 (by decide)
  exact_mod_cast this
theorem shr_nat (x n : Nat) (h : n ≤ 64) : shr .i64 (x : Int) (n : Int) = ((x >>> n : Nat) : Int) := by
  unfold shr
  have h1 : min (n : Int).toNat (IntKind.i64.bits) = n := by
    have : IntKind.i64.bits = 64 := rfl
    rw [this, Int.toNat_natCast]; omega
  rw [h1, Nat.shiftRight_eq_div_pow]
  have h3 : ((2 : Int) ^ n) = ((2 ^ n : Nat) : Int) := by simp
  rw [h3]; rfl
theorem bit_and (x n : Nat) (hx : x < 2 ^ 63) (h : n ≤ 64) : Go.bits .and .i64 (shr .i64 (x : Int) (n : Int)) 1 = if x.testBit n then 1 else 0 := by
  rw [shr_nat x n h]
  have hs : x >>> n < 2 ^ 63 := Nat.lt_of_le_of_lt (by rw [Nat.shiftRight_eq_div_pow]; exact Nat.div_le_self _ _) hx
  have := and_nat (x >>> n) 1 hs (by decide)
  rw [show ((1 : Nat) : Int) = 1 from rfl] at this
  rw [this, Nat.and_one_is_mod]
  rw [Nat.testBit, Nat.one_and_eq_mod_two]
  rcases Nat.mod_two_eq_zero_or_one (x >>> n) with h | h <;> simp [h]
theorem gD_lt {α : Type} (xs : List α) (d : α) {i : Nat} (h : i < xs.length) : xs.getD i d = xs[i] := by simp [List.getD, h]
theorem gD_ge {α : Type} (xs : List α) (d : α) {i : Nat} (h : xs.length ≤ i) : xs.getD i d = d := by simp [List.getD, h]
theorem rd_nat (xs : List Int) (i : Nat) : rd xs (i : Int) = xs.getD i 0 := by unfold rd; rw [Int.toNat_natCast]
theorem rd_lt (xs : List Int) (i : Nat) (h : i < xs.length) : rd xs (i : Int) = xs[i] := by
  rw [rd_nat]; simp [List.getD, h]
end Go.Proofs.YtadkkcdhgepbkaaL
end
section
namespace Go.Proofs.Ytadkkcdhgepbkaa.LeadsK
set_option linter.unusedVariables false
set_option linter.unusedSectionVars false
open Go.RowKit Go.Proofs.YtadkkcdhgepbkaaW.PrintWords Go.Proofs.YtadkkcdhgepbkaaW.PrintLast Go.Proofs.YtadkkcdhgepbkaaW.PrintMore
open Go.Proofs.YtadkkcdhgepbkaaL
def elimS (q by_ : Int) (other : List Int) : Nat → Nat → List Int → List Int
  | 0, _, x => x
  | d + 1, c, x => elimS q by_ other d (c + 1) (x.set c (Int.tmod (x.getD c 0 + (q - by_) * other.getD c 0) q))
def red (q : Int) (n : Nat) : List (List Int) → List Int → List Int → List Int
  | o :: ds, e :: es, x => red q n ds es (if e = -1 then x else elimS q (Int.tmod (x.getD e.toNat 0 * o.getD e.toNat 0) q) o n 0 x)
  | _, _, x => x
def leadOf : List Int → Int → Int
  | [], _ => -1
  | x :: t, i => if x = 0 then leadOf t (i + 1) else i
def leadsF (q : Int) (n : Nat) : List (List Int) → List (List Int) → List Int → List Int
  | [], _, out => out
  | row :: t, done, out => leadsF q n t (done ++ [red q n done out row]) (out ++ [leadOf (red q n done out row) 0])
structure Dig (q : Int) (n : Nat) (x : List Int) : Prop where
  len : x.length = n
  dig : ∀ i, 0 ≤ x.getD i 0 ∧ x.getD i 0 < q
theorem set_getD (l : List Int) (p i : Nat) (x : Int) (hp : p < l.length) : (l.set p x).getD i 0 = if i = p then x else l.getD i 0 := by
  rw [List.getD_eq_getElem?_getD, List.getElem?_set, List.getD_eq_getElem?_getD]
  by_cases h : p = i
  · subst h; simp [hp]
  · rw [if_neg h, if_neg (fun e => h e.symm)]
section
variable {q : Int} (hq : 2 ≤ q ∧ q ≤ 3) {n : Nat}
include hq
theorem mod_in {a : Int} (h : 0 ≤ a) : 0 ≤ Int.tmod a q ∧ Int.tmod a q < q := by
  rw [Int.tmod_eq_emod_of_nonneg h]
  exact ⟨Int.emod_nonneg _ (by omega), Int.emod_lt_of_pos _ (by omega)⟩
theorem mul_in {a b : Int} (ha : 0 ≤ a ∧ a ≤ 3) (hb : 0 ≤ b ∧ b ≤ 3) : 0 ≤ a * b ∧ a * b ≤ 9 := by
  obtain rfl | rfl | rfl | rfl : a = 0 ∨ a = 1 ∨ a = 2 ∨ a = 3 := by omega
  all_goals omega
theorem Dig.step {by_ : Int} (hb : 0 ≤ by_ ∧ by_ < q) {o x : List Int} (ho : Dig q n o) (hx : Dig q n x) {c : Nat} (hc : c < n) : Dig q n (x.set c (Int.tmod (x.getD c 0 + (q - by_) * o.getD c 0) q)) := by
  refine ⟨by rw [List.length_set]; exact hx.len, fun i => ?_⟩
  rw [set_getD _ _ _ _ (by rw [hx.len]; exact hc)]
  by_cases e : i = c
  · rw [if_pos e]
    have h1 := hx.dig c
    have h2 := ho.dig c
    have h3 := mul_in hq (a := q - by_) (b := o.getD c 0) (by omega) (by omega)
    exact mod_in hq (by omega)
  · rw [if_neg e]; exact hx.dig i
theorem Dig.elim {by_ : Int} (hb : 0 ≤ by_ ∧ by_ < q) {o : List Int} (ho : Dig q n o) : ∀ (d c : Nat) (x : List Int), c + d ≤ n → Dig q n x → Dig q n (elimS q by_ o d c x)
  | 0, c, x, _, hx => hx
  | d + 1, c, x, hc, hx => by rw [elimS]; exact Dig.elim hb ho d (c + 1) _ (by omega) (Dig.step hq hb ho hx (by omega))
theorem by_in {o x : List Int} (ho : Dig q n o) (hx : Dig q n x) (e : Nat) : 0 ≤ Int.tmod (x.getD e 0 * o.getD e 0) q ∧ Int.tmod (x.getD e 0 * o.getD e 0) q < q := by
  have h1 := hx.dig e
  have h2 := ho.dig e
  exact mod_in hq (mul_in hq (by omega) (by omega)).1
theorem Dig.red : ∀ (ds : List (List Int)) (es : List Int) (x : List Int), (∀ o ∈ ds, Dig q n o) → Dig q n x → Dig q n (LeadsK.red q n ds es x)
  | [], es, x, _, hx => by unfold LeadsK.red; exact hx
  | o :: ds, [], x, _, hx => by unfold LeadsK.red; exact hx
  | o :: ds, e :: es, x, hd, hx => by
    rw [LeadsK.red]
    refine Dig.red ds es _ (fun o' h => hd o' (List.mem_cons_of_mem _ h)) ?_
    have ho := hd o List.mem_cons_self
    split
    · exact hx
    · exact Dig.elim hq (by_in hq ho hx _) ho n 0 x (by omega) hx
theorem elim_zero {o : List Int} (ho : Dig q n o) : ∀ (d c : Nat) (x : List Int), c + d ≤ n → Dig q n x → elimS q 0 o d c x = x
  | 0, c, x, _, hx => rfl
  | d + 1, c, x, hc, hx => by
    have h1 := hx.dig c
    have h2 := ho.dig c
    have e : Int.tmod (x.getD c 0 + (q - 0) * o.getD c 0) q = x.getD c 0 := by
      have h3 := mul_in hq (a := q) (b := o.getD c 0) (by omega) (by omega)
      rw [Int.sub_zero, Int.tmod_eq_emod_of_nonneg (by omega), Int.add_mul_emod_self_left, Int.emod_eq_of_lt h1.1 h1.2]
    rw [elimS, e]
    have e2 : x.set c (x.getD c 0) = x := by
      have hc2 : c < x.length := by rw [hx.len]; omega
      rw [gD_lt _ _ hc2, List.set_getElem_self]
    rw [e2]
    exact elim_zero ho d (c + 1) x (by omega) hx
theorem red_skip {o x : List Int} (ho : Dig q n o) (hx : Dig q n x) {e : Int} (h : x.getD e.toNat 0 = 0) : elimS q (Int.tmod (x.getD e.toNat 0 * o.getD e.toNat 0) q) o n 0 x = x := by
  rw [h, Int.zero_mul, Int.zero_tmod]
  exact elim_zero hq ho n 0 x (by omega) hx
end
theorem leadOf_in : ∀ (x : List Int) (i : Int), 0 ≤ i → leadOf x i = -1 ∨ (0 ≤ leadOf x i ∧ leadOf x i < i + x.length)
  | [], i, _ => .inl rfl
  | a :: t, i, h => by
    rw [leadOf, List.length_cons]
    split
    · rcases leadOf_in t (i + 1) (by omega) with h1 | h1
      · exact .inl h1
      · exact .inr ⟨h1.1, by omega⟩
    · exact .inr ⟨h, by omega⟩
structure WFs (q : Int) (n : Nat) (done : List (List Int)) (out : List Int) : Prop where
  len : out.length = done.length
  dig : ∀ o ∈ done, Dig q n o
  lead : ∀ e ∈ out, e = -1 ∨ (0 ≤ e ∧ e < n)
theorem WFs.snoc {q : Int} {n : Nat} {done : List (List Int)} {out x : List Int} (h : WFs q n done out) (hx : Dig q n x) : WFs q n (done ++ [x]) (out ++ [leadOf x 0]) := by
  refine ⟨by rw [List.length_append, List.length_append, h.len]; rfl, fun o ho => ?_, fun e he => ?_⟩
  · rcases List.mem_append.1 ho with ho | ho
    · exact h.dig o ho
    · rw [List.mem_singleton.1 ho]; exact hx
  · rcases List.mem_append.1 he with he | he
    · exact h.lead e he
    · rw [List.mem_singleton.1 he]
      have := leadOf_in x 0 (Int.le_refl _)
      rw [hx.len] at this
      omega
structure L0St (w0 : World) (vd vo : Value) (done : List (List Int)) (out : List Int) (w : World) : Prop where
  d : Kd.S (Kd.slice 3 (Kd.int .i64)) 29 w w0.heap.size (fun k => some k ≠ vo.ownBlock) vd done
  o : Kd.R (Kd.int .i64) 3 w w0.heap.size (fun _ => True) vo out
  B : Below w0.heap.size w0 w
structure LSt (w0 : World) (vd vo vn : Value) (done : List (List Int)) (out x : List Int) (w : World) : Prop where
  d : Kd.S (Kd.slice 3 (Kd.int .i64)) 29 w w0.heap.size (fun k => some k ≠ vo.ownBlock ∧ some k ≠ vn.ownBlock) vd done
  o : Kd.R (Kd.int .i64) 3 w w0.heap.size (fun k => some k ≠ vn.ownBlock) vo out
  n : Kd.R (Kd.int .i64) 3 w w0.heap.size (fun _ => True) vn x
  B : Below w0.heap.size w0 w
section
variable {w0 w w1 : World} {vd vo vn v1 : Value} {done : List (List Int)} {out x : List Int}
theorem L0St.drewN (h : L0St w0 vd vo done out w) (m : Nat) : L0St w0 vd vo done out (w.drewN m) := ⟨Kd.S_drewN h.d m, Kd.R_drewN h.o m, pw_below_drewN h.B m⟩
theorem LSt.drewN (h : LSt w0 vd vo vn done out x w) (m : Nat) : LSt w0 vd vo vn done out x (w.drewN m) := ⟨Kd.S_drewN h.d m, Kd.R_drewN h.o m, Kd.R_drewN h.n m, pw_below_drewN h.B m⟩
theorem LSt.drew (h : LSt w0 vd vo vn done out x w) : LSt w0 vd vo vn done out x w.drew := ⟨Kd.S_drew h.d, Kd.R_drew h.o, Kd.R_drew h.n, below_drew1 h.B⟩
theorem L0St.below (h : L0St w0 vd vo done out w) (hb : Below w.heap.size w w1) : L0St w0 vd vo done out w1 := ⟨Kd.S_below h.d hb, Kd.R_below h.o hb, h.B.trans (hb.mono h.B.size)⟩
theorem LSt.below (h : LSt w0 vd vo vn done out x w) (hb : Below w.heap.size w w1) : LSt w0 vd vo vn done out x w1 := ⟨Kd.S_below h.d hb, Kd.R_below h.o hb, Kd.R_below h.n hb, h.B.trans (hb.mono h.B.size)⟩
theorem L0St.fresh (h : L0St w0 vd vo done out w) (hr : Kd.R (Kd.int .i64) 3 w1 w.heap.size (fun _ => True) vn x) (hb : Below w.heap.size w w1) : LSt w0 vd vo vn done out x w1 := by
  have hn : ∀ k, k < w.heap.size → some k ≠ vn.ownBlock := fun k hk e => by have := Kd.R_base hr k e.symm; omega
  refine ⟨Kd.S_below (Kd.S_mono (Kd.S_bound h.d) (fun k hk => ⟨hk.1, hn k hk.2.2.1⟩)) hb, Kd.R_below (Kd.R_mono (Kd.R_bound h.o) (fun k hk => hn k hk.2.2.1)) hb, Kd.R_lower hr h.B.size, h.B.trans (hb.mono h.B.size)⟩
theorem LSt.put {g n c : Nat} (h : LSt w0 vd vo (.slice (some ⟨g, 0, none⟩) n c) done out x w) (j : Nat) (y : Int) : LSt w0 vd vo (.slice (some ⟨g, 0, none⟩) n c) done out (x.set j y) (w.setCell ⟨g, j, none⟩ (.int .i64 y)) := by
  refine ⟨Kd.S_far (p := ⟨g, j, none⟩) h.d (fun k hk e => hk.2 (by rw [e]; rfl)) _, Kd.R_far (p := ⟨g, j, none⟩) h.o (fun k hk e => hk (by rw [e]; rfl)) _, ?_, h.B.setCell (by have := Kd.R_base h.n g rfl; exact this) _⟩
  have := Kd.R_putn h.n (j : Int) y
  rw [Int.toNat_natCast] at this
  exact this
theorem LSt.append (h : LSt w0 vd vo vn done out x w) (hs : Kd.S (Kd.slice 3 (Kd.int .i64)) 29 w1 w0.heap.size (fun k => some k ≠ vo.ownBlock) v1 (done ++ [x])) (hb : Below w0.heap.size w0 w1) (hg : w.grownBy w1 vd.ownBlock) : L0St w0 v1 vo (done ++ [x]) out w1 :=
  ⟨hs, Kd.R_mono (Kd.R_grown2 h.o rfl hg (fun k hk => ((Kd.S_R h.d).1 k hk).1)) (fun _ _ => trivial), hb⟩
theorem LSt.okp (h : LSt w0 vd vo vn done out x w) : ∀ k, some k = vn.ownBlock → some k ≠ vo.ownBlock ∧ some k ≠ vd.ownBlock := fun k hk => ⟨fun e => h.o.1 k e.symm hk, fun e => ((Kd.S_R h.d).1 k e.symm).2 hk⟩
theorem LSt.frsh (h : LSt w0 vd vo vn done out x w) : ∀ k, w.heap.size ≤ k → some k ≠ vo.ownBlock := fun k hk e => by have := Kd.R_lt h.o k e.symm; omega
theorem L0St.lead {e : Int} (h : L0St w0 vd vo done out w) (hr : Kd.R (Kd.int .i64) 3 w1 w0.heap.size (fun _ => True) v1 (out ++ [e])) (hb : Below w0.heap.size w0 w1) (hg : w.grownBy w1 vo.ownBlock) (hat : v1.ownBlock = vo.ownBlock ∨ ∃ b, v1.ownBlock = some b ∧ w.heap.size ≤ b) : L0St w0 vd v1 done (out ++ [e]) w1 := by
  refine ⟨Kd.S_mono (Kd.S_grown (Kd.S_bound h.d) hg (fun k hk => hk.1)) (fun k hk => ?_), hr, hb⟩
  rcases hat with e1 | ⟨b, e1, e2⟩
  · rw [e1]; exact hk.1
  · rw [e1]; intro e3; injection e3 with e3; have := hk.2.2.1; omega
end
end Go.Proofs.Ytadkkcdhgepbkaa.LeadsK
end
section
namespace Go.Proofs.Ytadkkcdhgepbkaa.LawK
set_option linter.unusedVariables false
open Go.RowKit Go.Proofs.Ytadkkcdhgepbkaa.Q Go.Proofs.YtadkkcdhgepbkaaW.PrintWords Go.Proofs.YtadkkcdhgepbkaaW.PrintLast Go.Proofs.YtadkkcdhgepbkaaW.PrintMore
open Go.Proofs.YtadkkcdhgepbkaaL
def iota : Int → Nat → List Int
  | _, 0 => []
  | m, n + 1 => m :: iota (m + 1) n
theorem iota_snoc : ∀ (n : Nat) (m : Int), iota m (n + 1) = iota m n ++ [m + n]
  | 0, m => by simp [iota]
  | n + 1, m => by
    rw [iota, iota_snoc n (m + 1), iota, List.cons_append]
    congr 2
    simp; omega
theorem ends {g : Nat → Option Bool} (h : Ev g true) : ∃ k, g k = some true := h.rounds
end Go.Proofs.Ytadkkcdhgepbkaa.LawK
end
section
namespace Go.Proofs.Ytadkkcdhgepbkaa.Q
open Go.RowKit Go.Proofs.YtadkkcdhgepbkaaW.PrintWords Go.Proofs.YtadkkcdhgepbkaaW.PrintLast Go.Proofs.YtadkkcdhgepbkaaW.PrintMore
attribute [local go_sem] max2_int min2_int max_two min_two max_three min_three max_four min_four   -- for this text's walks alone
set_option linter.unusedVariables false
set_option linter.unusedSimpArgs false
def impl_within.f (a0:Int) (a1:Int) (a2:Int):Option (Bool):=if a1≤a0 then (some (decide (a0≤a2))) else (some false)
set_option maxHeartbeats 8000000 in
set_option maxRecDepth 100000 in
theorem impl_within.calls (a0:Int) (a1:Int) (a2:Int) (r:Bool) (w:World) (h:impl_within.f a0 a1 a2=some r) :
  Calls Try.prog 48 #[.int .i64 a0,.int .i64 a1,.int .i64 a2] w fun e w'=>e=.returned (.bool r)∧Drawn0 w w':=by
 have H:(if a1≤a0 then (some (decide (a0≤a2))) else (some false))=some r:=h;clear h;by_cases c4:a1≤a0
 · rw [if_pos c4] at H;have c4b0:decide (a1≤a0)=true:=decide_eq_true c4;clear c4;obtain rfl:=Option.some.inj H;(go_enter Try.func48,Try.ntmps48);(go_wp2);(go_ret);exact ⟨by first|rfl|(simp;done)|(simp [*];done),by repeat (first|exact Drawn0.refl _|apply Drawn0.step)⟩
 · rw [if_neg c4] at H;have c4b0:decide (a1≤a0)=false:=decide_eq_false c4;clear c4;obtain rfl:=Option.some.inj H;(go_enter Try.func48,Try.ntmps48);(go_wp2);(go_ret);exact ⟨by first|rfl|(simp;done)|(simp [*];done),by repeat (first|exact Drawn0.refl _|apply Drawn0.step)⟩
end Go.Proofs.Ytadkkcdhgepbkaa.Q
end
section
namespace Go.Proofs.Ytadkkcdhgepbkaa.Q
open Go.RowKit Go.Proofs.YtadkkcdhgepbkaaW.PrintWords Go.Proofs.YtadkkcdhgepbkaaW.PrintLast Go.Proofs.YtadkkcdhgepbkaaW.PrintMore
attribute [local go_sem] max2_int min2_int max_two min_two max_three min_three max_four min_four   -- for this text's walks alone
set_option linter.unusedVariables false
set_option linter.unusedSimpArgs false
def impl_Board_has.f (a0_0:Int) (a0_1:Int) (l0_2:List Int) (a1:Int) (a2:Int):Option (Bool):=if 0≤a1 then (if a1 < (l0_2.length:Int) then (if 0≤a2 then (some ((Go.bits .and .i64 (shr .i64 (rd l0_2 a1) a2) 1) == 1)) else (none)) else (none)) else (none)
set_option maxHeartbeats 8000000 in
set_option maxRecDepth 100000 in
theorem impl_Board_has.calls (a0_0:Int) (a0_1:Int) (A0_2:Option Addr) (c0_2:Nat) (l0_2:List Int) (a1:Int) (a2:Int) (r:Bool) (w:World) (hr0_2:Kd.C (Kd.int .i64) w A0_2 l0_2.length l0_2) (hc0_2:l0_2.length≤c0_2) (h:impl_Board_has.f a0_0 a0_1 l0_2 a1 a2=some r) :
  Calls Try.prog 83 #[.agg #[.int .i64 a0_0,.int .i64 a0_1,.slice A0_2 l0_2.length c0_2],.int .i64 a1,.int .i64 a2] w fun e w'=>e=.returned (.bool r)∧Below w.heap.size w w':=by
 have hu73:=Try.underlying73;have HR0_2:=za hr0_2;have HC0_2:=za hc0_2;clear hr0_2 hc0_2;have HB:=za (Below.refl w.heap.size w);have H:(if 0≤a1 then (if a1 < (l0_2.length:Int) then (if 0≤a2 then (some ((Go.bits .and .i64 (shr .i64 (rd l0_2 a1) a2) 1) == 1)) else (none)) else (none)) else (none))=some r:=h;clear h;by_cases c4:0≤a1
 ·
  rw [if_pos c4] at H;have c4b0:decide (0≤a1)=true:=decide_eq_true c4;clear c4;by_cases c5:a1 < (l0_2.length:Int)
  ·
   rw [if_pos c5] at H;have c5b0:decide (a1 < (l0_2.length:Int))=true:=decide_eq_true c5;clear c5;by_cases c6:0≤a2
   · rw [if_pos c6] at H;have c6b0:=eq_true c6;have c6b1:decide (0≤a2)=true:=decide_eq_true c6;clear c6;obtain ⟨ji7,hji7⟩:∃ j_:Int,(shr .i64 (rd l0_2 a1) a2)=j_:=⟨_,rfl⟩;(replace H:(some ((Go.bits .and .i64 (ji7) 1) == 1))=some r:=by first|(rw [hji7] at H;exact H)|(simp only [hji7] at H ⊢;exact H));have hji7_:((rd l0_2 a1) / 2 ^ min a2.toNat 64)=ji7:=hji7;have hji7z:a2≤64→((rd l0_2 a1) / 2 ^ a2.toNat)=ji7:=shr_small hji7;obtain rfl:=Option.some.inj H;(go_enter Try.func83,Try.ntmps83);(go_wp2_with (first|((with_reducible refine gate_dst (N:=3) rfl ?_);refine box_event ?hg (N:=3) ?hd (cs:=#[.int .i64 a0_0,.int .i64 a0_1,.slice A0_2 l0_2.length c0_2]) (t:=73) ?hr ?_;(case hd=>rfl);(case hg=>rfl);(case hr=>first|(go_simp;done)|(go_simp;rfl));intro gb101 hg w8 hbox hb;have BK101:=za (hbox);have GW101:=za ((by rw [hg];exact (zr (by repeat (first|(with_reducible first|exact HB.out|apply zc|apply zd|apply zb)|exact HB.out))):w.heap.size≤gb101));have GE101:=za ((by rw [hg];exact (zr (by repeat (first|(with_reducible first|exact HB.out|apply zc|apply zd|apply zb)|exact HB.out))):w.heap.size≤gb101));replace HB:=za (below_step (by repeat (first|(with_reducible first|exact HB.out|apply zc|apply zd|apply zb)|exact HB.out)) hb);clear hb hbox hg;have hcz9_0:w8.cell? ⟨gb101,0,none⟩=some (.int .i64 a0_0):=(blk_cell BK101.out 0).trans rfl;have hcz9_1:w8.cell? ⟨gb101,1,none⟩=some (.int .i64 a0_1):=(blk_cell BK101.out 1).trans rfl;have hcz9_2:w8.cell? ⟨gb101,2,none⟩=some (.slice A0_2 l0_2.length c0_2):=(blk_cell BK101.out 2).trans rfl;have hfz9_0:=blk_frozen BK101.out 0;have hfz9_1:=blk_frozen BK101.out 1;have hfz9_2:=blk_frozen BK101.out 2;have p102:0≤(a1:Int):=of_decide_eq_true ‹_›;have q102:a1 < (l0_2.length:Int):=of_decide_eq_true ‹_›;obtain ⟨ad102,e102,hx102_0⟩:=Kd.at_int HR0_2.out a1 p102 q102;cases e102;replace hx102_0:=(HB.out.cell (World.block_lt_of_cell? w _ hx102_0)).trans hx102_0;replace p102:=eq_true p102;replace q102:=eq_true q102)));(go_ret);exact ⟨by first|rfl|(simp [errW_none,errW_some] <;> rfl)|(simp only [← hji7];first|rfl|(simp [errW_none,errW_some] <;> rfl))|(simp [*,errW_none,errW_some] <;> rfl),by repeat (first|(with_reducible first|exact HB.out|apply zc|apply zd|apply zb|refine zm ?_ GE101.out)|exact HB.out)⟩
   · rw [if_neg c6] at H;exact absurd H (by simp)
  · rw [if_neg c5] at H;exact absurd H (by simp)
 · rw [if_neg c4] at H;exact absurd H (by simp)
end Go.Proofs.Ytadkkcdhgepbkaa.Q
end
section
namespace Go.Proofs.Ytadkkcdhgepbkaa.Q
open Go.RowKit Go.Proofs.YtadkkcdhgepbkaaW.PrintWords Go.Proofs.YtadkkcdhgepbkaaW.PrintLast Go.Proofs.YtadkkcdhgepbkaaW.PrintMore
attribute [local go_sem] max2_int min2_int max_two min_two max_three min_three max_four min_four   -- for this text's walks alone
set_option linter.unusedVariables false
set_option linter.unusedSimpArgs false
def impl_isSide.f (a0:Int):Option (Bool):=(impl_within.f a0 1 6).bind fun t101=>(some t101)
set_option maxHeartbeats 8000000 in
set_option maxRecDepth 100000 in
theorem impl_isSide.calls (a0:Int) (r:Bool) (w:World) (h:impl_isSide.f a0=some r) :
  Calls Try.prog 61 #[.int .i64 a0] w fun e w'=>e=.returned (.bool r)∧Drawn0 w w':=by
 have H:((impl_within.f a0 1 6).bind fun t101=>(some t101))=some r:=h;clear h;obtain ⟨t101,A2,H⟩:=bindAside H;(try dsimp only at H);obtain rfl:=Option.some.inj H;(go_enter Try.func61,Try.ntmps61);(go_wp2_with (first|((with_reducible refine zh (f:=48) rfl ?_);refine goesL_ (some 4) rfl rfl Try.func48 (by kernel_rfl) rfl #[.int .i64 a0,.int .i64 1,.int .i64 6] rfl (by first|rfl|simp only [z3_,z4_,z5_];try rfl) ?_;(with_reducible refine (impl_within.calls a0 1 6 t101 _ A2.out).mono ?_);rintro e w' ⟨rfl,⟨nd,rfl⟩⟩;refine ⟨_,rfl,?_⟩)));(go_ret);exact ⟨by first|rfl|(simp;done)|(simp [*];done),by repeat (first|exact Drawn0.refl _|apply Drawn0.step)⟩
end Go.Proofs.Ytadkkcdhgepbkaa.Q
end
section
namespace Go.Proofs.Ytadkkcdhgepbkaa.Q
open Go.RowKit Go.Proofs.YtadkkcdhgepbkaaW.PrintWords Go.Proofs.YtadkkcdhgepbkaaW.PrintLast Go.Proofs.YtadkkcdhgepbkaaW.PrintMore
theorem within_f (a b c : Int) : impl_within.f a b c = some (decide (b ≤ a ∧ a ≤ c)) := by
  unfold impl_within.f
  by_cases h : b ≤ a
  · rw [if_pos h]; simp [h]
  · rw [if_neg h]; simp [h]
theorem isSide_f (a : Int) : impl_isSide.f a = some (decide (1 ≤ a ∧ a ≤ 6)) := by
  unfold impl_isSide.f; rw [within_f]; rfl
end Go.Proofs.Ytadkkcdhgepbkaa.Q
namespace Go.Proofs.Ytadkkcdhgepbkaa.BoardK
set_option linter.unusedVariables false
open Go.RowKit Go.Proofs.Ytadkkcdhgepbkaa.Q Go.Proofs.YtadkkcdhgepbkaaW.PrintWords Go.Proofs.YtadkkcdhgepbkaaW.PrintLast Go.Proofs.YtadkkcdhgepbkaaW.PrintMore
open Go.Proofs.YtadkkcdhgepbkaaL Go.Proofs.Ytadkkcdhgepbkaa.LawK
def inR (lo hi x : Int) : Bool := decide (lo ≤ x ∧ x ≤ hi)
theorem l1In_f (a b c : Int) : spec_l1In.f a b c = some (inR b c a) := by
  unfold spec_l1In.f inR
  by_cases h : a ≥ b
  · rw [if_pos h]; simp [h]
  · rw [if_neg h]; congr 1; exact (decide_eq_false (by omega)).symm
theorem l1All_l0 {l : List Int} (lo hi : Int) (hl : l.length ≤ 4611686018427387904) : ∀ (d i : Nat), i + d = l.length → Ev (fun k => spec_l1All.l0 k lo hi l (l.length : Int) i) ((l.drop i).all (inR lo hi))
  | 0, i, hi' => by
    refine Ev.step (f := fun _ => some ((l.drop i).all (inR lo hi))) (fun k => ?_) (Ev.now _)
    rw [spec_l1All.l0, if_neg (by omega), List.drop_eq_nil_of_le (by omega)]; rfl
  | d + 1, i, hi' => by
    have h1 : wrap64 ((i : Int) + 1) = ((i + 1 : Nat) : Int) := by rw [w64 (by omega) (by omega)]; rfl
    have hi2 : i < l.length := by omega
    rw [List.drop_eq_getElem_cons hi2, List.all_cons]
    by_cases e : inR lo hi l[i] = true
    · rw [e, Bool.true_and]
      refine Ev.step (fun k => ?_) (l1All_l0 lo hi hl d (i + 1) (by omega))
      rw [spec_l1All.l0, if_pos (by omega), if_pos (by omega), if_pos (by omega), l1In_f, Option.bind_some, rd_lt _ _ hi2, if_pos e, h1]
    · have e' : inR lo hi l[i] = false := by simpa using e
      rw [e', Bool.false_and]
      refine Ev.step (f := fun _ => some false) (fun k => ?_) (Ev.now _)
      rw [spec_l1All.l0, if_pos (by omega), if_pos (by omega), if_pos (by omega), l1In_f, Option.bind_some, rd_lt _ _ hi2, if_neg e]
theorem l1All {l : List Int} (lo hi : Int) (hl : l.length ≤ 4611686018427387904) : Ev (fun k => spec_l1All.f k l lo hi) (l.all (inR lo hi)) := by
  refine Ev.congr (fun k => ?_) (l1All_l0 lo hi hl l.length 0 (by omega))
  unfold spec_l1All.f; rfl
theorem boSide_f (a : Int) : spec_boSide.f a = some (inR 1 6 a) := by unfold spec_boSide.f; rw [l1In_f]; rfl
def cell (l : List Int) (r c : Nat) : Bool := (l.getD r 0).toNat.testBit c
theorem two_pow_six {C : Nat} (h : C ≤ 6) : (2 : Int) ^ C ≤ 64 := by
  have : 2 ^ C ≤ 2 ^ 6 := Nat.pow_le_pow_right (by decide) h
  exact_mod_cast this
theorem has_f {l : List Int} (r c : Int) {i j : Nat} (hi : i < l.length) (h0 : 0 ≤ l[i]) (h1 : l[i] < 64) (hj : j ≤ 64) : impl_Board_has.f r c l i j = some (cell l i j) := by
  unfold impl_Board_has.f
  rw [if_pos (by omega), if_pos (by omega), if_pos (by omega), rd_lt _ _ hi]
  obtain ⟨m, hm⟩ : ∃ m : Nat, l[i] = m := ⟨l[i].toNat, by omega⟩
  rw [hm, bit_and m j (by omega) hj]
  unfold cell
  rw [gD_lt _ _ hi, hm, Int.toNat_natCast]
  by_cases hb : m.testBit j = true <;> simp [hb]
end Go.Proofs.Ytadkkcdhgepbkaa.BoardK
end
section
namespace Go.Proofs.Ytadkkcdhgepbkaa.Q
open Go.RowKit Go.Proofs.YtadkkcdhgepbkaaW.PrintWords Go.Proofs.YtadkkcdhgepbkaaW.PrintLast Go.Proofs.YtadkkcdhgepbkaaW.PrintMore
attribute [local go_sem] max2_int min2_int max_two min_two max_three min_three max_four min_four   -- for this text's walks alone
set_option linter.unusedVariables false
set_option linter.unusedSimpArgs false
def impl_isQ.f (a0:Int):Option (Bool):=(impl_within.f a0 2 3).bind fun t101=>(some t101)
set_option maxHeartbeats 8000000 in
set_option maxRecDepth 100000 in
theorem impl_isQ.calls (a0:Int) (r:Bool) (w:World) (h:impl_isQ.f a0=some r) :
  Calls Try.prog 46 #[.int .i64 a0] w fun e w'=>e=.returned (.bool r)∧Drawn0 w w':=by
 have H:((impl_within.f a0 2 3).bind fun t101=>(some t101))=some r:=h;clear h;obtain ⟨t101,A2,H⟩:=bindAside H;(try dsimp only at H);obtain rfl:=Option.some.inj H;(go_enter Try.func46,Try.ntmps46);(go_wp2_with (first|((with_reducible refine zh (f:=48) rfl ?_);refine goesL_ (some 4) rfl rfl Try.func48 (by kernel_rfl) rfl #[.int .i64 a0,.int .i64 2,.int .i64 3] rfl (by first|rfl|simp only [z3_,z4_,z5_];try rfl) ?_;(with_reducible refine (impl_within.calls a0 2 3 t101 _ A2.out).mono ?_);rintro e w' ⟨rfl,⟨nd,rfl⟩⟩;refine ⟨_,rfl,?_⟩)));(go_ret);exact ⟨by first|rfl|(simp;done)|(simp [*];done),by repeat (first|exact Drawn0.refl _|apply Drawn0.step)⟩
end Go.Proofs.Ytadkkcdhgepbkaa.Q
end
section
namespace Go.Proofs.Ytadkkcdhgepbkaa.Q
open Go.RowKit Go.Proofs.YtadkkcdhgepbkaaW.PrintWords Go.Proofs.YtadkkcdhgepbkaaW.PrintLast Go.Proofs.YtadkkcdhgepbkaaW.PrintMore
open Go.Proofs.YtadkkcdhgepbkaaL Go.Proofs.Ytadkkcdhgepbkaa.BoardK
set_option linter.unusedVariables false
def digIn (q : Int) (n : Int) : Bool := decide (0 ≤ n ∧ n ≤ q - 1)
def rowOk (q : Int) (n : Nat) (row : List Int) : Bool := decide (1 ≤ (row.length : Int) ∧ (row.length : Int) ≤ 6) && (decide ((row.length : Int) = (n : Int)) && row.all (digIn q))
def areRowsB (rows : List (List Int)) (q : Int) : Bool := decide (2 ≤ q ∧ q ≤ 3) && (decide (1 ≤ (rows.length : Int) ∧ (rows.length : Int) ≤ 6) && rows.all (rowOk q (rows.getD 0 []).length))
end Go.Proofs.Ytadkkcdhgepbkaa.Q
end
section
namespace Go.Proofs.Ytadkkcdhgepbkaa.Q
set_option linter.unusedVariables false
open Go.RowKit Go.Proofs.YtadkkcdhgepbkaaW.PrintWords Go.Proofs.YtadkkcdhgepbkaaW.PrintLast Go.Proofs.YtadkkcdhgepbkaaW.PrintMore
open Go.Proofs.YtadkkcdhgepbkaaL Go.Proofs.Ytadkkcdhgepbkaa.BoardK Go.Proofs.Ytadkkcdhgepbkaa.LeadsK
theorem areRows_out {rows : List (List Int)} {q : Int} (h : areRowsB rows q = true) : (2 ≤ q ∧ q ≤ 3) ∧ rows.length ≤ 6 ∧ 1 ≤ (rows.getD 0 []).length ∧ (rows.getD 0 []).length ≤ 6 ∧ ∀ row ∈ rows, Dig q (rows.getD 0 []).length row := by
  unfold areRowsB at h
  rw [Bool.and_eq_true, Bool.and_eq_true, decide_eq_true_eq, decide_eq_true_eq, List.all_eq_true] at h
  obtain ⟨h1, h2, h3⟩ := h
  have key : ∀ row ∈ rows, (1 ≤ row.length ∧ row.length ≤ 6) ∧ row.length = (rows.getD 0 []).length ∧ ∀ x ∈ row, 0 ≤ x ∧ x ≤ q - 1 := by
    intro row hr
    have := h3 row hr
    unfold rowOk at this
    rw [Bool.and_eq_true, Bool.and_eq_true, decide_eq_true_eq, decide_eq_true_eq, List.all_eq_true] at this
    exact ⟨by omega, by omega, fun x hx => of_decide_eq_true (this.2.2 x hx)⟩
  have h0 : rows.getD 0 [] ∈ rows := by rw [gD_lt _ _ (by omega)]; exact List.getElem_mem _
  refine ⟨h1, by omega, (key _ h0).1.1, (key _ h0).1.2, fun row hr => ⟨(key row hr).2.1, fun i => ?_⟩⟩
  by_cases hi : i < row.length
  · rw [gD_lt _ _ hi]; have := (key row hr).2.2 _ (List.getElem_mem hi); omega
  · rw [gD_ge _ _ (by omega)]; omega
end Go.Proofs.Ytadkkcdhgepbkaa.Q
end
section
namespace Go.Proofs.Ytadkkcdhgepbkaa.Q
open Go.RowKit Go.Proofs.YtadkkcdhgepbkaaW.PrintWords Go.Proofs.YtadkkcdhgepbkaaW.PrintLast Go.Proofs.YtadkkcdhgepbkaaW.PrintMore
open Go.Proofs.YtadkkcdhgepbkaaL
set_option linter.unusedVariables false
theorem run_eql_slice_nil_ {w : World} (a : Option Addr) (l c : Nat) : (binOp .eql 29 (.slice a l c) (.slice none 0 0)).run Try.prog w = .ok (.bool a.isNone) w := by
  simp only [binOp]
  simp [run_equal_slice_nil _ _ _ _ _ _ Try.underlying29]
attribute [local go_sem] run_eql_slice_nil_
def slices_Clone_int_int.f (l0 : List Int) : Option (List Int) := if l0.length < 17592186044416 then some l0 else none
set_option maxHeartbeats 8000000 in
set_option maxRecDepth 100000 in
theorem slices_Clone_int_int.calls (A0 : Option Addr) (c0 : Nat) (l0 : List Int) (r : List Int) (w : World) (hr0 : Kd.C (Kd.int .i64) w A0 l0.length l0) (hc0 : l0.length ≤ c0) (h : slices_Clone_int_int.f l0 = some r) :
    Calls Try.prog 66 #[.slice A0 l0.length c0] w fun e w' => ∃ v0_ : Value, e = .returned (v0_) ∧ Kd.R (Kd.int .i64) 3 w' w.heap.size (fun _ => True) v0_ r ∧ Below w.heap.size w w' := by
  rw [slices_Clone_int_int.f] at h
  by_cases c2 : l0.length < 17592186044416
  rotate_left
  · rw [if_neg c2] at h; cases h
  rw [if_pos c2] at h
  obtain rfl := Option.some.inj h
  clear h
  cases A0 with
  | none =>
    have hl : l0 = [] := by
      cases l0 with
      | nil => rfl
      | cons a t =>
        obtain ⟨ad, e, _⟩ := Kd.at_int hr0 0 (by omega) (by simp)
        cases e
    subst hl
    have hu22 := Try.underlying29
    clear hr0 c2
    go_enter Try.func66, Try.ntmps66
    go_wp2
    go_ret
    exact ⟨_, rfl, Kd.R_nil _ _ _ _ _, by repeat (first | exact Below.refl _ _ | apply below_alloc | apply pw_below_drewN | apply below_drew1)⟩
  | some ad =>
    have HR0 := Aside0.mk hr0
    have HC0 := Aside0.mk hc0
    have HB := Aside0.mk (Below.refl w.heap.size w)
    have LMc2 := Aside0.mk c2
    obtain ⟨y101, hy101⟩ : ∃ y_ : List Int, y_ = (([] : List Int)) := ⟨_, rfl⟩
    have Ny101 := Aside0.mk hy101
    obtain ⟨y104, hy104⟩ : ∃ y_ : List Int, y_ = (y101 ++ l0) := ⟨_, rfl⟩
    have Ny104 := Aside0.mk hy104
    have LL := Aside0.mk (show y101.length = 0 by rw [hy101]; rfl)
    have E104 := Aside0.mk (show y104 = l0 by rw [hy104, hy101]; rfl)
    have hu22 := Try.underlying29
    clear hy101 hy104 hr0 hc0 c2
    go_enter Try.func66, Try.ntmps66
    go_wp2_with (first | ((with_reducible refine gate_dst (N := 5) rfl ?_); refine Kd.R_lit (Kd.int .i64) _ 3 ?hg (N := 5) ?hd (xs := ([] : List Int)) (inner := []) (ok := fun _ => True) (okp := fun _ => True) ?hr ?hp (fun _ hk => hk) trivial (Below.refl _ _) (Nat.le_refl _) (by simp) ?_; (case hd => rfl); (case hg => rfl); (case hr => first | (go_simp; done) | (go_simp; rfl)); (case hp => exact (Reps.none _ _)); intro v102 w3 ho4 hb hg_ hnew_; clear hg_ hnew_; (first | rw [← Ny101.out] at ho4 | (simp only [Int.reduceToNat] at ho4; rw [← Ny101.out] at ho4)); have n0_ := Aside0.mk (Kd.R_lower ho4 (below_size (by repeat (first | (with_reducible first | exact HB.out | apply below_alloc | apply pw_below_drewN | apply below_drew1) | exact HB.out)))); have n1_ := Aside0.mk (below_step (by repeat (first | (with_reducible first | exact HB.out | apply below_alloc | apply pw_below_drewN | apply below_drew1) | exact HB.out)) hb); clear HB; have HO103 := n0_; have HB := n1_; clear n0_ n1_; clear hb ho4) | ((with_reducible refine gate_builtin (b := .append) (xs := #[.tmp 5, .tmp 6]) rfl ?_); at_builtin; refine Kd.R_append_rows (Kd.int .i64) (w0 := w) w.heap.size rfl (.tmp 5) (.tmp 6) 29 3 (.int .i64 0) 8 rfl Try.underlying29 info3 rfl (by decide) (by omega) v102 y101 l0 _ _ _ (fun _ => True) (fun _ => False) rfl rfl ?aO ?aR (fun _ _ h => h) (fun _ h => h.elim) ?aF ?aB ?aS ?aL ?_; (case aR => repeat (first | exact (Kd.C_below HR0.out HB.out) | (with_reducible refine Kd.C_alloc ?_ _) | (with_reducible refine Kd.C_drewN ?_ _) | (with_reducible refine Kd.C_drew ?_))); (case aB => exact (by repeat (first | (with_reducible first | exact HB.out | apply below_alloc | apply pw_below_drewN | apply below_drew1) | exact HB.out))); (case aF => exact (fun _ _ => trivial)); (case aO => exact (by (with_reducible repeat (first | apply Kd.R_alloc | apply Kd.R_drewN | apply Kd.R_drew)); exact HO103.out)); (case aS => exact (below_size (by repeat (first | (with_reducible first | exact HB.out | apply below_alloc | apply pw_below_drewN | apply below_drew1) | exact HB.out)))); (case aL => have := LMc2.out; have := LL.out; omega); intro v105 w5 ho hb hg hat; rw [← Ny104.out] at ho; have n0_ := Aside0.mk (hb); have n1_ := Aside0.mk (ho); clear HB; clear HO103; have HB := n0_; have HO106 := n1_; clear n0_ n1_; clear ho hb hg hat))
    go_ret
    exact ⟨_, by first | rfl | (simp [errW_none, errW_some] <;> rfl) | (simp [*, errW_none, errW_some] <;> rfl), by rw [← E104.out]; (with_reducible repeat (first | apply Kd.R_alloc | apply Kd.R_drewN | apply Kd.R_drew)); exact HO106.out, by repeat (first | (with_reducible first | exact HB.out | apply below_alloc | apply pw_below_drewN | apply below_drew1) | exact HB.out)⟩
end Go.Proofs.Ytadkkcdhgepbkaa.Q
end
section
namespace Go.Proofs.Ytadkkcdhgepbkaa.Q
open Go.RowKit Go.Proofs.YtadkkcdhgepbkaaW.PrintWords Go.Proofs.YtadkkcdhgepbkaaW.PrintLast Go.Proofs.YtadkkcdhgepbkaaW.PrintMore
attribute [local go_sem] max2_int min2_int max_two min_two max_three min_three max_four min_four   -- for this text's walks alone
set_option linter.unusedVariables false
set_option linter.unusedSimpArgs false
def impl_leads_1.f (a0:Int):Option (Bool):=some (a0 != 0)
set_option maxHeartbeats 8000000 in
set_option maxRecDepth 100000 in
theorem impl_leads_1.calls (a0:Int) (r:Bool) (w:World) (h:impl_leads_1.f a0=some r) :
  Calls Try.prog 68 #[.int .i64 a0] w fun e w'=>e=.returned (.bool r)∧Drawn0 w w':=by
 have H:(some (a0 != 0))=some r:=h;clear h;obtain rfl:=Option.some.inj H;(go_enter Try.func68,Try.ntmps68);(go_wp2);(go_ret);exact ⟨by first|rfl|(simp;done)|(simp [*];done),by repeat (first|exact Drawn0.refl _|apply Drawn0.step)⟩
end Go.Proofs.Ytadkkcdhgepbkaa.Q
end
section
namespace Go.Proofs.Ytadkkcdhgepbkaa.Q
open Go.RowKit Go.Proofs.YtadkkcdhgepbkaaW.PrintWords Go.Proofs.YtadkkcdhgepbkaaW.PrintLast Go.Proofs.YtadkkcdhgepbkaaW.PrintMore
attribute [local go_sem] max2_int min2_int max_two min_two max_three min_three max_four min_four   -- for this text's walks alone
set_option linter.unusedVariables false
set_option linter.unusedSimpArgs false
def slices_IndexFunc_int_int__at_impl_leads_1.l0:Nat→List Int→Int→Int→Option (Int)
|0,_,_,_=>none
|k + 1,x0,x7,x8=>if x8 < x7 then (if 0≤x8 then (if x8 < (x0.length:Int) then ((impl_leads_1.f (rd x0 x8)).bind fun t102=>(if t102=true then (some x8) else (slices_IndexFunc_int_int__at_impl_leads_1.l0 k x0 x7 (wrap64 (x8 + 1))))) else (none)) else (none)) else (some (-1))
def slices_IndexFunc_int_int__at_impl_leads_1.f (k:Nat) (l0:List Int) :Option (Int):=slices_IndexFunc_int_int__at_impl_leads_1.l0 k l0 (l0.length:Int) 0
set_option maxHeartbeats 8000000 in
set_option maxRecDepth 100000 in
theorem slices_IndexFunc_int_int__at_impl_leads_1.calls (k:Nat) (A0:Option Addr) (c0:Nat) (l0:List Int)  (r:Int) (w:World) (hr0:Kd.C (Kd.int .i64) w A0 l0.length l0) (hc0:l0.length≤c0) (h:slices_IndexFunc_int_int__at_impl_leads_1.f k l0=some r) :
  Calls Try.prog 67 #[.slice A0 l0.length c0,.func (.func 68) #[] #[]] w fun e w'=>e=.returned (.int .i64 r)∧Drawn0 w w':=by
 have HR0:=za hr0;have HC0:=za hc0;clear hr0 hc0;have H:(slices_IndexFunc_int_int__at_impl_leads_1.l0 k l0 (l0.length:Int) 0)=some r:=h;clear h;have H':=za H;clear H;(go_enter Try.func67,Try.ntmps67);(go_wp2);(go_loopg [8] k (fun kq v8 w'=>∃ (x8_1:Int),v8=.int .i64 x8_1∧Aside0 (slices_IndexFunc_int_int__at_impl_leads_1.l0 kq l0 (l0.length:Int) x8_1=some r)∧Aside0 (kq≤k)∧Drawn0 w w'));case atStart=>exact ⟨(0),(by first|rfl|(simp;done)|(simp [*];done)),H',⟨Nat.le_refl _⟩,by repeat (first|exact Drawn0.refl _|apply Drawn0.step)⟩
 case round =>
  clear H';(try clear p2);obtain ⟨x8_1,rfl,HA,HK1,⟨m1,rfl⟩⟩:=hrel
  cases gk with
 |zero=>exact absurd HA.out (by simp [slices_IndexFunc_int_int__at_impl_leads_1.l0])
 |succ k1 =>
   have H:=HA.out;clear HA;simp only [slices_IndexFunc_int_int__at_impl_leads_1.l0] at H;by_cases c3:x8_1 < (l0.length:Int)
   ·
    rw [if_pos c3] at H;have c3b0:decide (x8_1 < (l0.length:Int))=true:=decide_eq_true c3;clear c3;by_cases c4:0≤x8_1
    ·
     rw [if_pos c4] at H;have c4b0:decide (0≤x8_1)=true:=decide_eq_true c4;clear c4;by_cases c5:x8_1 < (l0.length:Int)
     ·
      rw [if_pos c5] at H;have c5b0:decide (x8_1 < (l0.length:Int))=true:=decide_eq_true c5;clear c5;obtain ⟨t102,A6,H⟩:=bindAside H;(try dsimp only at H);by_cases c7:t102=true
      · subst c7;(have H1:(some x8_1)=some r:=by rw [if_pos rfl] at H;exact H);clear H;have H:=H1;clear H1;obtain rfl:=Option.some.inj H;have p101:0≤(x8_1:Int):=of_decide_eq_true ‹_›;have q101:x8_1 < (l0.length:Int):=of_decide_eq_true ‹_›;obtain ⟨ad101,e101,hx101_0⟩:=Kd.at_int HR0.out x8_1 p101 q101;cases e101;replace p101:=eq_true p101;replace q101:=eq_true q101;(go_wp2_with (first|(go_at_call 68;(with_reducible refine (impl_leads_1.calls (rd l0 x8_1) true _ A6.out).mono ?_);rintro e w' ⟨rfl,⟨nd,rfl⟩⟩)));(go_ret);exact ⟨by first|rfl|(simp;done)|(simp [*];done),by repeat (first|exact Drawn0.refl _|apply Drawn0.step)⟩
      · replace c7:=Bool.eq_false_iff.mpr c7;subst c7;(have H1:(slices_IndexFunc_int_int__at_impl_leads_1.l0 k1 l0 (l0.length:Int) (wrap64 (x8_1 + 1)))=some r:=by rw [if_neg (show ¬ (false=true) by decide)] at H;exact H);clear H;have H:=H1;clear H1;have H':=za H;clear H;have p101:0≤(x8_1:Int):=of_decide_eq_true ‹_›;have q101:x8_1 < (l0.length:Int):=of_decide_eq_true ‹_›;obtain ⟨ad101,e101,hx101_0⟩:=Kd.at_int HR0.out x8_1 p101 q101;cases e101;replace p101:=eq_true p101;replace q101:=eq_true q101;(go_wp2_with (first|(go_at_call 68;(with_reducible refine (impl_leads_1.calls (rd l0 x8_1) false _ A6.out).mono ?_);rintro e w' ⟨rfl,⟨nd,rfl⟩⟩)));(go_roundg k1);(case measure=>have:=HK1.out;omega);case rel=>exact ⟨(wrap64 (x8_1 + 1)),(by first|rfl|(simp;done)|(simp [*];done)),H',⟨by have:=HK1.out;omega⟩,by repeat (first|exact Drawn0.refl _|apply Drawn0.step)⟩
     · rw [if_neg c5] at H;exact absurd H (by simp)
    · rw [if_neg c4] at H;exact absurd H (by simp)
   · rw [if_neg c3] at H;have c3b0:decide (x8_1 < (l0.length:Int))=false:=decide_eq_false c3;clear c3;obtain rfl:=Option.some.inj H;(go_wp2);(go_ret);exact ⟨by first|rfl|(simp;done)|(simp [*];done),by repeat (first|exact Drawn0.refl _|apply Drawn0.step)⟩
end Go.Proofs.Ytadkkcdhgepbkaa.Q
end
