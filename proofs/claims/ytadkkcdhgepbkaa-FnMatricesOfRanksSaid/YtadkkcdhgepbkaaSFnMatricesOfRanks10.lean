/- Texts of this claim put together (10): words, what the functions compute, and plain facts. No conditions. -/
import Derived.Test.YtadkkcdhgepbkaaSFnMatricesOfRanks4
import Derived.Test.YtadkkcdhgepbkaaSFnMatricesOfRanks5
import Derived.Test.YtadkkcdhgepbkaaSFnMatricesOfRanks6
import Derived.Test.YtadkkcdhgepbkaaSFnMatricesOfRanks7
import Derived.Test.YtadkkcdhgepbkaaSFnMatricesOfRanks8
import Derived.Test.YtadkkcdhgepbkaaSFnMatricesOfRanks9
import Derived.Test.YtadkkcdhgepbkaaSFnMatricesOfRanks0
section
namespace Go.Proofs.Ytadkkcdhgepbkaa.Q
open Go.RowKit Go.Proofs.YtadkkcdhgepbkaaW.PrintWords Go.Proofs.YtadkkcdhgepbkaaW.PrintLast Go.Proofs.YtadkkcdhgepbkaaW.PrintMore
attribute [local go_sem] max2_int min2_int max_two min_two max_three min_three max_four min_four   -- for this text's walks alone
set_option linter.unusedVariables false
set_option linter.unusedSimpArgs false
mutual
def laws_FnMatricesOfRanks.j0:Nat→List Int→Bool→Option (Bool)
|0,_,_=>none
|k + 1,x1,x78=>if x78=true then (some false) else ((spec_DrawRankCounts.f k x1).bind fun bt120=>((impl_RankCounts.f k bt120.1 bt120.2).bind fun bt124=>((spec_RankCounts.f k bt120.1 bt120.2).bind fun bt128=>(if (bt124.2 != bt128.2)=true then (laws_FnMatricesOfRanks.j1 k x1 bt120.1 bt120.2 bt124.1 bt124.2 true) else ((laws_rSame.f k bt124.1 bt128.1).bind fun t132=>(laws_FnMatricesOfRanks.j1 k x1 bt120.1 bt120.2 bt124.1 bt124.2 (!t132)))))))
def laws_FnMatricesOfRanks.j1:Nat→List Int→List Int→Int→List Int→Bool→Bool→Option (Bool)
|0,_,_,_,_,_,_=>none
|k + 1,x1,x13,x14,x15,x16,x104=>if x104=true then (some false) else (if x16=true then (laws_FnMatricesOfRanks.l0 k x1 x13 x14 x15 1 0) else (laws_FnMatricesOfRanks.j3 k x1))
def laws_FnMatricesOfRanks.j3:Nat→List Int→Option (Bool)
|0,_=>none
|k + 1,x1=>(spec_DrawInvertibleCount.f x1).bind fun bt136=>((impl_InvertibleCount.f k bt136.1 bt136.2).bind fun bt138=>((spec_InvertibleCount.f k bt136.1 bt136.2).bind fun bt140=>(if (bt138.2 != bt140.2)=true then (laws_FnMatricesOfRanks.j4 k bt136.1 bt136.2 bt138.1 bt138.2 true) else (laws_FnMatricesOfRanks.j4 k bt136.1 bt136.2 bt138.1 bt138.2 (bt138.1 != bt140.1)))))
def laws_FnMatricesOfRanks.j4:Nat→Int→Int→Int→Bool→Bool→Option (Bool)
|0,_,_,_,_,_=>none
|k + 1,x21,x22,x23,x24,x149=>if x149=true then (some false) else (if x24=true then (laws_FnMatricesOfRanks.j5 k x21 x22 x23 (decide (x21 > 4))) else (laws_FnMatricesOfRanks.j5 k x21 x22 x23 true))
def laws_FnMatricesOfRanks.j5:Nat→Int→Int→Int→Bool→Option (Bool)
|0,_,_,_,_=>none
|k + 1,x21,x22,x23,x155=>if x155=true then (some true) else (if 0≤x21 then (if (x21:Int).toNat≤35184372088832 then ((some (List.replicate (x21:Int).toNat 0:List Int)).bind fun y142=>(laws_FnMatricesOfRanks.l1 k x21 x22 x23 y142 (y142.length:Int) 0)) else (none)) else (none))
def laws_FnMatricesOfRanks.l1:Nat→Int→Int→Int→List Int→Int→Int→Option (Bool)
|0,_,_,_,_,_,_=>none
|k + 1,x21,x22,x23,x27,x159,x160=>if x160 < x159 then (if 0≤x160 then (if x160 < (x27.length:Int) then (laws_FnMatricesOfRanks.l1 k x21 x22 x23 (x27.set (x160:Int).toNat x21) x159 (wrap64 (x160 + 1))) else (none)) else (none)) else ((impl_RankCounts.f k x27 x22).bind fun bt146=>(if bt146.2=true then (if 0≤x21 then (if x21 < (bt146.1.length:Int) then (some ((rd bt146.1 x21) == x23)) else (none)) else (none)) else (some false)))
def laws_FnMatricesOfRanks.l0:Nat→List Int→List Int→Int→List Int→Int→Int→Option (Bool)
|0,_,_,_,_,_,_=>none
|k + 1,x1,x13,x14,x15,x19,x20=>(laws_rSum.f k x13).bind fun t133=>(if x20 < t133 then (laws_FnMatricesOfRanks.l0 k x1 x13 x14 x15 (wrap64 (x19 * x14)) (wrap64 (x20 + 1))) else ((laws_rSum.f k x15).bind fun t134=>(if t134=x19 then (if 0 < (x15.length:Int) then (if (rd x15 0)=1 then (laws_FnMatricesOfRanks.j3 k x1) else (some false)) else (none)) else (some false))))
end
def laws_FnMatricesOfRanks.f (k:Nat) (l0:List Int) (l1:List Int):Option (Bool):=(laws_big.f l0 l1).bind fun t101=>(if t101=true then (some true) else ((spec_DrawRankCountsPlain.f k l0).bind fun bt102=>((impl_RankCountsPlain.f k bt102.1 bt102.2).bind fun bt106=>((spec_RankCountsPlain.f k bt102.1 bt102.2).bind fun bt110=>((impl_RankCounts.f k bt102.1 bt102.2).bind fun bt114=>(if (bt106.2 != bt110.2)=true then (laws_FnMatricesOfRanks.j0 k l1 true) else ((laws_rSame.f k bt106.1 bt110.1).bind fun t118=>(if t118=true then (if bt106.2=true then (if bt114.2=true then ((laws_rSame.f k bt114.1 bt106.1).bind fun t119=>(laws_FnMatricesOfRanks.j0 k l1 (!t119))) else (laws_FnMatricesOfRanks.j0 k l1 true)) else (laws_FnMatricesOfRanks.j0 k l1 false)) else (laws_FnMatricesOfRanks.j0 k l1 true)))))))))
set_option maxHeartbeats 8000000 in
set_option maxRecDepth 100000 in
theorem laws_FnMatricesOfRanks.calls (k:Nat) (A0:Option Addr) (c0:Nat) (l0:List Int) (A1:Option Addr) (c1:Nat) (l1:List Int) (r:Bool) (w:World) (hr0:Kd.C (Kd.int .u8) w A0 l0.length l0) (hc0:l0.length≤c0) (hr1:Kd.C (Kd.int .u8) w A1 l1.length l1) (hc1:l1.length≤c1) (h:laws_FnMatricesOfRanks.f k l0 l1=some r) :
  Calls Try.prog 4 #[.slice A0 l0.length c0,.slice A1 l1.length c1] w fun e w'=>e=.returned (.bool r)∧Below w.heap.size w w':=by
 have HR0:=za hr0;have HC0:=za hc0;clear hr0 hc0;have HR1:=za hr1;have HC1:=za hc1;clear hr1 hc1;have HB:=za (Below.refl w.heap.size w);have H:((laws_big.f l0 l1).bind fun t101=>(if t101=true then (some true) else ((spec_DrawRankCountsPlain.f k l0).bind fun bt102=>((impl_RankCountsPlain.f k bt102.1 bt102.2).bind fun bt106=>((spec_RankCountsPlain.f k bt102.1 bt102.2).bind fun bt110=>((impl_RankCounts.f k bt102.1 bt102.2).bind fun bt114=>(if (bt106.2 != bt110.2)=true then (laws_FnMatricesOfRanks.j0 k l1 true) else ((laws_rSame.f k bt106.1 bt110.1).bind fun t118=>(if t118=true then (if bt106.2=true then (if bt114.2=true then ((laws_rSame.f k bt114.1 bt106.1).bind fun t119=>(laws_FnMatricesOfRanks.j0 k l1 (!t119))) else (laws_FnMatricesOfRanks.j0 k l1 true)) else (laws_FnMatricesOfRanks.j0 k l1 false)) else (laws_FnMatricesOfRanks.j0 k l1 true))))))))))=some r:=h;clear h;obtain ⟨t101,A3,H⟩:=bindAside H;(try dsimp only at H);by_cases c4:t101=true
 · subst c4;(have H1:(some true)=some r:=by rw [if_pos rfl] at H;exact H);clear H;have H:=H1;clear H1;obtain rfl:=Option.some.inj H;(go_enter Try.func4,Try.ntmps4);(go_wp2_with (first|((with_reducible refine zh (f:=5) rfl ?_);refine goesL_ (some 33) rfl rfl Try.func5 (by kernel_rfl) rfl #[.slice A0 l0.length c0,.slice A1 l1.length c1] rfl (by first|rfl|simp only [z3_,z4_,z5_];try rfl) ?_;(with_reducible refine (laws_big.calls _ _ l0 _ _ l1 true _ ?side1 ?side2 ?side3 ?side4 A3.out).mono ?_);(case side1=>repeat (first|exact HR0.out|(with_reducible refine zi ?_ _)|(with_reducible refine zj ?_ _)|(with_reducible refine zk ?_)));(case side2=>exact HC0.out);(case side3=>repeat (first|exact HR1.out|(with_reducible refine zi ?_ _)|(with_reducible refine zj ?_ _)|(with_reducible refine zk ?_)));(case side4=>exact HC1.out);rintro e w' ⟨rfl,⟨nd,rfl⟩⟩;refine ⟨_,rfl,?_⟩)));(go_ret);exact ⟨by first|rfl|simp [*,errW_none,errW_some] <;> rfl,by repeat (first|(with_reducible first|exact HB.out|apply zc|apply zd|apply zb)|exact HB.out)⟩
 ·
  replace c4:=Bool.eq_false_iff.mpr c4;subst c4;(have H1:((spec_DrawRankCountsPlain.f k l0).bind fun bt102=>((impl_RankCountsPlain.f k bt102.1 bt102.2).bind fun bt106=>((spec_RankCountsPlain.f k bt102.1 bt102.2).bind fun bt110=>((impl_RankCounts.f k bt102.1 bt102.2).bind fun bt114=>(if (bt106.2 != bt110.2)=true then (laws_FnMatricesOfRanks.j0 k l1 true) else ((laws_rSame.f k bt106.1 bt110.1).bind fun t118=>(if t118=true then (if bt106.2=true then (if bt114.2=true then ((laws_rSame.f k bt114.1 bt106.1).bind fun t119=>(laws_FnMatricesOfRanks.j0 k l1 (!t119))) else (laws_FnMatricesOfRanks.j0 k l1 true)) else (laws_FnMatricesOfRanks.j0 k l1 false)) else (laws_FnMatricesOfRanks.j0 k l1 true))))))))=some r:=by rw [if_neg (show ¬ (false=true) by decide)] at H;exact H);clear H;have H:=H1;clear H1;obtain ⟨⟨t102,t103⟩,A5,H⟩:=bindAside H;(try dsimp only at H);obtain ⟨⟨t106,t107⟩,A6,H⟩:=bindAside H;(try dsimp only at H);obtain ⟨⟨t110,t111⟩,A7,H⟩:=bindAside H;(try dsimp only at H);obtain ⟨⟨t114,t115⟩,A8,H⟩:=bindAside H;(try dsimp only at H);have HC9:=za H;clear H;(go_enter Try.func4,Try.ntmps4);(go_upto_region 7 with (first|((with_reducible refine zh (f:=5) rfl ?_);refine goesL_ (some 33) rfl rfl Try.func5 (by kernel_rfl) rfl #[.slice A0 l0.length c0,.slice A1 l1.length c1] rfl (by first|rfl|simp only [z3_,z4_,z5_];try rfl) ?_;(with_reducible refine (laws_big.calls _ _ l0 _ _ l1 false _ ?side1 ?side2 ?side3 ?side4 A3.out).mono ?_);(case side1=>repeat (first|exact HR0.out|(with_reducible refine zi ?_ _)|(with_reducible refine zj ?_ _)|(with_reducible refine zk ?_)));(case side2=>exact HC0.out);(case side3=>repeat (first|exact HR1.out|(with_reducible refine zi ?_ _)|(with_reducible refine zj ?_ _)|(with_reducible refine zk ?_)));(case side4=>exact HC1.out);rintro e w' ⟨rfl,⟨nd,rfl⟩⟩;refine ⟨_,rfl,?_⟩)|((with_reducible refine zh (f:=20) rfl ?_);refine goesL_ (some 36) rfl rfl Try.func20 (by kernel_rfl) rfl #[.slice A0 l0.length c0] rfl (by first|rfl|simp only [z3_,z4_,z5_];try rfl) ?_;(with_reducible refine (spec_DrawRankCountsPlain.calls k _ _ l0 t102 t103 _ ?side1 ?side2 A5.out).mono ?_);(case side1=>repeat (first|exact HR0.out|(with_reducible refine zi ?_ _)|(with_reducible refine zj ?_ _)|(with_reducible refine zk ?_)));(case side2=>exact HC0.out);rintro e w10 ⟨v104,rfl,ho0,hb⟩;refine ⟨_,rfl,?_⟩;have HO105:=za (Kd.R_lower ho0 (zr (by repeat (first|(with_reducible first|exact HB.out|apply zc|apply zd|apply zb)|exact HB.out))));replace HB:=za (below_step (by repeat (first|(with_reducible first|exact HB.out|apply zc|apply zd|apply zb)|exact HB.out)) hb);obtain ⟨Ao11,co11,eo11⟩:=Kd.R_slice HO105.out;subst eo11)|((with_reducible refine zh (f:=21) rfl ?_);refine goesL_ (some 42) rfl rfl Try.func21 (by kernel_rfl) rfl #[.slice Ao11 t102.length co11,.int .i64 t103] rfl (by first|rfl|simp only [z3_,z4_,z5_];try rfl) ?_;(with_reducible refine (impl_RankCountsPlain.calls k _ _ t102 t103 t106 t107 _ ?side1 ?side2 A6.out).mono ?_);(case side1=>repeat (first|exact (zl HO105.out).2.2|(with_reducible refine zi ?_ _)|(with_reducible refine zj ?_ _)|(with_reducible refine zk ?_)));(case side2=>exact (zl HO105.out).2.1);rintro e w12 ⟨v108,rfl,ho0,hb⟩;refine ⟨_,rfl,?_⟩;have HO109:=za (Kd.R_lower (Kd.R_new' ho0 (Kd.R_lt (by (with_reducible repeat (first|apply zf|apply zg|apply ze));exact HO105.out))) (zr (by repeat (first|(with_reducible first|exact HB.out|apply zc|apply zd|apply zb)|exact HB.out))));replace HO105:=za (Kd.R_elder' (by (with_reducible repeat (first|apply zf|apply zg|apply ze));exact HO105.out) (Kd.R_base ho0) hb);replace HB:=za (below_step (by repeat (first|(with_reducible first|exact HB.out|apply zc|apply zd|apply zb)|exact HB.out)) hb))|((with_reducible refine zh (f:=22) rfl ?_);refine goesL_ (some 48) rfl rfl Try.func22 (by kernel_rfl) rfl #[.slice Ao11 t102.length co11,.int .i64 t103] rfl (by first|rfl|simp only [z3_,z4_,z5_];try rfl) ?_;(with_reducible refine (spec_RankCountsPlain.calls k _ _ t102 t103 t110 t111 _ ?side1 ?side2 A7.out).mono ?_);(case side1=>repeat (first|exact (zl HO105.out).2.2|(with_reducible refine zi ?_ _)|(with_reducible refine zj ?_ _)|(with_reducible refine zk ?_)));(case side2=>exact (zl HO105.out).2.1);rintro e w13 ⟨v112,rfl,ho0,hb⟩;refine ⟨_,rfl,?_⟩;have HO113:=za (Kd.R_lower (Kd.R_new' (Kd.R_new' ho0 (Kd.R_lt (by (with_reducible repeat (first|apply zf|apply zg|apply ze));exact HO105.out))) (Kd.R_lt (by (with_reducible repeat (first|apply zf|apply zg|apply ze));exact HO109.out))) (zr (by repeat (first|(with_reducible first|exact HB.out|apply zc|apply zd|apply zb)|exact HB.out))));replace HO105:=za (Kd.R_elder' (by (with_reducible repeat (first|apply zf|apply zg|apply ze));exact HO105.out) (Kd.R_base ho0) hb);replace HO109:=za (Kd.R_elder' (by (with_reducible repeat (first|apply zf|apply zg|apply ze));exact HO109.out) (Kd.R_base ho0) hb);replace HB:=za (below_step (by repeat (first|(with_reducible first|exact HB.out|apply zc|apply zd|apply zb)|exact HB.out)) hb))|((with_reducible refine zh (f:=23) rfl ?_);refine goesL_ (some 54) rfl rfl Try.func23 (by kernel_rfl) rfl #[.slice Ao11 t102.length co11,.int .i64 t103] rfl (by first|rfl|simp only [z3_,z4_,z5_];try rfl) ?_;(with_reducible refine (impl_RankCounts.calls k _ _ t102 t103 t114 t115 _ ?side1 ?side2 A8.out).mono ?_);(case side1=>repeat (first|exact (zl HO105.out).2.2|(with_reducible refine zi ?_ _)|(with_reducible refine zj ?_ _)|(with_reducible refine zk ?_)));(case side2=>exact (zl HO105.out).2.1);rintro e w14 ⟨v116,rfl,ho0,hb⟩;refine ⟨_,rfl,?_⟩;have HO117:=za (Kd.R_lower (Kd.R_new' (Kd.R_new' (Kd.R_new' ho0 (Kd.R_lt (by (with_reducible repeat (first|apply zf|apply zg|apply ze));exact HO105.out))) (Kd.R_lt (by (with_reducible repeat (first|apply zf|apply zg|apply ze));exact HO109.out))) (Kd.R_lt (by (with_reducible repeat (first|apply zf|apply zg|apply ze));exact HO113.out))) (zr (by repeat (first|(with_reducible first|exact HB.out|apply zc|apply zd|apply zb)|exact HB.out))));replace HO105:=za (Kd.R_elder' (by (with_reducible repeat (first|apply zf|apply zg|apply ze));exact HO105.out) (Kd.R_base ho0) hb);replace HO109:=za (Kd.R_elder' (by (with_reducible repeat (first|apply zf|apply zg|apply ze));exact HO109.out) (Kd.R_base ho0) hb);replace HO113:=za (Kd.R_elder' (by (with_reducible repeat (first|apply zf|apply zg|apply ze));exact HO113.out) (Kd.R_base ho0) hb);replace HB:=za (below_step (by repeat (first|(with_reducible first|exact HB.out|apply zc|apply zd|apply zb)|exact HB.out)) hb))));(try simp only [Act.put,z0_,z1_,z2_]);go_cut [78] (fun v78 wc=>∃ (kq:Nat) (x78_8:Bool),v78=.bool x78_8∧Aside0 (laws_FnMatricesOfRanks.j0 kq l1 x78_8=some r)∧Aside0 (kq≤k)∧Aside0 (Below w.heap.size w wc))
  case first =>
   have H:=HC9.out;clear HC9;by_cases c15:(t107 != t111)=true
   · rw [if_pos c15] at H;have c15b0:(t107 != t111)=true:=c15;(try (have c15b1:decide (t107=t111)=false:=by simpa using c15));(try (have c15b2:(t107 == t111)=false:=by simpa using c15));(try (have c15b3:¬ (t107=t111):=by simpa using c15));clear c15;(first|rw [c15b0]|(simp only [i64_w,i32_w];rw [c15b0])|skip);have H':=za H;clear H;(go_wp2);(go_meet);case rel=>exact ⟨_,(true),(by first|rfl|(simp;done)|(simp [*];done)),H',⟨by first|omega|exact Nat.le_refl _⟩,⟨by repeat (first|(with_reducible first|exact HB.out|apply zc|apply zd|apply zb)|exact HB.out)⟩⟩
   ·
    rw [if_neg c15] at H;(have c15b0:(t107 != t111)=false:=by simpa using c15);(try (have c15b1:decide (t107=t111)=true:=by simpa using c15));(try (have c15b2:(t107 == t111)=true:=by simpa using c15));clear c15;(first|rw [c15b0]|(simp only [i64_w,i32_w];rw [c15b0])|skip);obtain ⟨t118,A16,H⟩:=bindAside H;(try dsimp only at H);by_cases c17:t118=true
    ·
     subst c17;(have H1:(if t107=true then (if t115=true then ((laws_rSame.f k t114 t106).bind fun t119=>(laws_FnMatricesOfRanks.j0 k l1 (!t119))) else (laws_FnMatricesOfRanks.j0 k l1 true)) else (laws_FnMatricesOfRanks.j0 k l1 false))=some r:=by rw [if_pos rfl] at H;exact H);clear H;have H:=H1;clear H1;by_cases c18:t107=true
     ·
      subst c18;(have H1:(if t115=true then ((laws_rSame.f k t114 t106).bind fun t119=>(laws_FnMatricesOfRanks.j0 k l1 (!t119))) else (laws_FnMatricesOfRanks.j0 k l1 true))=some r:=by rw [if_pos rfl] at H;exact H);clear H;have H:=H1;clear H1;by_cases c19:t115=true
      · subst c19;(have H1:((laws_rSame.f k t114 t106).bind fun t119=>(laws_FnMatricesOfRanks.j0 k l1 (!t119)))=some r:=by rw [if_pos rfl] at H;exact H);clear H;have H:=H1;clear H1;obtain ⟨t119,A20,H⟩:=bindAside H;(try dsimp only at H);have H':=za H;clear H;obtain ⟨Ao21,co21,eo21⟩:=Kd.R_slice HO109.out;subst eo21;obtain ⟨Ao22,co22,eo22⟩:=Kd.R_slice HO113.out;subst eo22;(go_wp2_with (first|(go_at_call 11;(with_reducible refine (laws_rSame.calls k _ _ t106 _ _ t110 true _ ?side1 ?side2 ?side3 ?side4 A16.out).mono ?_);(case side1=>repeat (first|exact (zl HO109.out).2.2|(with_reducible refine zi ?_ _)|(with_reducible refine zj ?_ _)|(with_reducible refine zk ?_)));(case side2=>exact (zl HO109.out).2.1);(case side3=>repeat (first|exact (zl HO113.out).2.2|(with_reducible refine zi ?_ _)|(with_reducible refine zj ?_ _)|(with_reducible refine zk ?_)));(case side4=>exact (zl HO113.out).2.1);rintro e w' ⟨rfl,⟨nd,rfl⟩⟩;obtain ⟨Ao23,co23,eo23⟩:=Kd.R_slice HO117.out;subst eo23)|(go_at_call 11;(with_reducible refine (laws_rSame.calls k _ _ t114 _ _ t106 t119 _ ?side1 ?side2 ?side3 ?side4 A20.out).mono ?_);(case side1=>repeat (first|exact (zl HO117.out).2.2|(with_reducible refine zi ?_ _)|(with_reducible refine zj ?_ _)|(with_reducible refine zk ?_)));(case side2=>exact (zl HO117.out).2.1);(case side3=>repeat (first|exact (zl HO109.out).2.2|(with_reducible refine zi ?_ _)|(with_reducible refine zj ?_ _)|(with_reducible refine zk ?_)));(case side4=>exact (zl HO109.out).2.1);rintro e w' ⟨rfl,⟨nd,rfl⟩⟩)));(go_meet);case rel=>exact ⟨_,(!t119),(by first|rfl|(simp;done)|(simp [*];done)),H',⟨by first|omega|exact Nat.le_refl _⟩,⟨by repeat (first|(with_reducible first|exact HB.out|apply zc|apply zd|apply zb)|exact HB.out)⟩⟩
      · replace c19:=Bool.eq_false_iff.mpr c19;subst c19;(have H1:(laws_FnMatricesOfRanks.j0 k l1 true)=some r:=by rw [if_neg (show ¬ (false=true) by decide)] at H;exact H);clear H;have H:=H1;clear H1;have H':=za H;clear H;obtain ⟨Ao24,co24,eo24⟩:=Kd.R_slice HO109.out;subst eo24;obtain ⟨Ao25,co25,eo25⟩:=Kd.R_slice HO113.out;subst eo25;(go_wp2_with (first|(go_at_call 11;(with_reducible refine (laws_rSame.calls k _ _ t106 _ _ t110 true _ ?side1 ?side2 ?side3 ?side4 A16.out).mono ?_);(case side1=>repeat (first|exact (zl HO109.out).2.2|(with_reducible refine zi ?_ _)|(with_reducible refine zj ?_ _)|(with_reducible refine zk ?_)));(case side2=>exact (zl HO109.out).2.1);(case side3=>repeat (first|exact (zl HO113.out).2.2|(with_reducible refine zi ?_ _)|(with_reducible refine zj ?_ _)|(with_reducible refine zk ?_)));(case side4=>exact (zl HO113.out).2.1);rintro e w' ⟨rfl,⟨nd,rfl⟩⟩)));(go_meet);case rel=>exact ⟨_,(true),(by first|rfl|(simp;done)|(simp [*];done)),H',⟨by first|omega|exact Nat.le_refl _⟩,⟨by repeat (first|(with_reducible first|exact HB.out|apply zc|apply zd|apply zb)|exact HB.out)⟩⟩
     · replace c18:=Bool.eq_false_iff.mpr c18;subst c18;(have H1:(laws_FnMatricesOfRanks.j0 k l1 false)=some r:=by rw [if_neg (show ¬ (false=true) by decide)] at H;exact H);clear H;have H:=H1;clear H1;have H':=za H;clear H;obtain ⟨Ao26,co26,eo26⟩:=Kd.R_slice HO109.out;subst eo26;obtain ⟨Ao27,co27,eo27⟩:=Kd.R_slice HO113.out;subst eo27;(go_wp2_with (first|(go_at_call 11;(with_reducible refine (laws_rSame.calls k _ _ t106 _ _ t110 true _ ?side1 ?side2 ?side3 ?side4 A16.out).mono ?_);(case side1=>repeat (first|exact (zl HO109.out).2.2|(with_reducible refine zi ?_ _)|(with_reducible refine zj ?_ _)|(with_reducible refine zk ?_)));(case side2=>exact (zl HO109.out).2.1);(case side3=>repeat (first|exact (zl HO113.out).2.2|(with_reducible refine zi ?_ _)|(with_reducible refine zj ?_ _)|(with_reducible refine zk ?_)));(case side4=>exact (zl HO113.out).2.1);rintro e w' ⟨rfl,⟨nd,rfl⟩⟩)));(go_meet);case rel=>exact ⟨_,(false),(by first|rfl|(simp;done)|(simp [*];done)),H',⟨by first|omega|exact Nat.le_refl _⟩,⟨by repeat (first|(with_reducible first|exact HB.out|apply zc|apply zd|apply zb)|exact HB.out)⟩⟩
    · replace c17:=Bool.eq_false_iff.mpr c17;subst c17;(have H1:(laws_FnMatricesOfRanks.j0 k l1 true)=some r:=by rw [if_neg (show ¬ (false=true) by decide)] at H;exact H);clear H;have H:=H1;clear H1;have H':=za H;clear H;obtain ⟨Ao28,co28,eo28⟩:=Kd.R_slice HO109.out;subst eo28;obtain ⟨Ao29,co29,eo29⟩:=Kd.R_slice HO113.out;subst eo29;(go_wp2_with (first|(go_at_call 11;(with_reducible refine (laws_rSame.calls k _ _ t106 _ _ t110 false _ ?side1 ?side2 ?side3 ?side4 A16.out).mono ?_);(case side1=>repeat (first|exact (zl HO109.out).2.2|(with_reducible refine zi ?_ _)|(with_reducible refine zj ?_ _)|(with_reducible refine zk ?_)));(case side2=>exact (zl HO109.out).2.1);(case side3=>repeat (first|exact (zl HO113.out).2.2|(with_reducible refine zi ?_ _)|(with_reducible refine zj ?_ _)|(with_reducible refine zk ?_)));(case side4=>exact (zl HO113.out).2.1);rintro e w' ⟨rfl,⟨nd,rfl⟩⟩)));(go_meet);case rel=>exact ⟨_,(true),(by first|rfl|(simp;done)|(simp [*];done)),H',⟨by first|omega|exact Nat.le_refl _⟩,⟨by repeat (first|(with_reducible first|exact HB.out|apply zc|apply zd|apply zb)|exact HB.out)⟩⟩
  case rest =>
   clear HC9;(try clear c1);(try clear c4);obtain ⟨kq,x78_8,rfl,HA,HJ8,HB⟩:=hcut
   cases kq with
  |zero=>exact absurd HA.out (by simp [laws_FnMatricesOfRanks.j0])
  |succ kj8 =>
    have H:=HA.out;clear HA;simp only [laws_FnMatricesOfRanks.j0] at H;by_cases c30:x78_8=true
    · subst c30;(have H1:(some false)=some r:=by rw [if_pos rfl] at H;exact H);clear H;have H:=H1;clear H1;obtain rfl:=Option.some.inj H;(go_wp2);(go_ret);exact ⟨by first|rfl|simp [*,errW_none,errW_some] <;> rfl,by repeat (first|(with_reducible first|exact HB.out|apply zc|apply zd|apply zb)|exact HB.out)⟩
    ·
     replace c30:=Bool.eq_false_iff.mpr c30;subst c30;(have H1:((spec_DrawRankCounts.f kj8 l1).bind fun bt120=>((impl_RankCounts.f kj8 bt120.1 bt120.2).bind fun bt124=>((spec_RankCounts.f kj8 bt120.1 bt120.2).bind fun bt128=>(if (bt124.2 != bt128.2)=true then (laws_FnMatricesOfRanks.j1 kj8 l1 bt120.1 bt120.2 bt124.1 bt124.2 true) else ((laws_rSame.f kj8 bt124.1 bt128.1).bind fun t132=>(laws_FnMatricesOfRanks.j1 kj8 l1 bt120.1 bt120.2 bt124.1 bt124.2 (!t132)))))))=some r:=by rw [if_neg (show ¬ (false=true) by decide)] at H;exact H);clear H;have H:=H1;clear H1;obtain ⟨⟨t120,t121⟩,A31,H⟩:=bindAside H;(try dsimp only at H);obtain ⟨⟨t124,t125⟩,A32,H⟩:=bindAside H;(try dsimp only at H);obtain ⟨⟨t128,t129⟩,A33,H⟩:=bindAside H;(try dsimp only at H);have HC34:=za H;clear H;(go_upto_region 12 with (first|((with_reducible refine zh (f:=24) rfl ?_);refine goesL_ (some 81) rfl rfl Try.func24 (by kernel_rfl) rfl #[.slice A1 l1.length c1] rfl (by first|rfl|simp only [z3_,z4_,z5_];try rfl) ?_;(with_reducible refine (spec_DrawRankCounts.calls kj8 _ _ l1 t120 t121 _ ?side1 ?side2 A31.out).mono ?_);(case side1=>repeat (first|exact (Kd.C_below HR1.out HB.out)|(with_reducible refine zi ?_ _)|(with_reducible refine zj ?_ _)|(with_reducible refine zk ?_)));(case side2=>exact HC1.out);rintro e w35 ⟨v122,rfl,ho0,hb⟩;refine ⟨_,rfl,?_⟩;have HO123:=za (Kd.R_lower ho0 (zr (by repeat (first|(with_reducible first|exact HB.out|apply zc|apply zd|apply zb)|exact HB.out))));replace HB:=za (below_step (by repeat (first|(with_reducible first|exact HB.out|apply zc|apply zd|apply zb)|exact HB.out)) hb);obtain ⟨Ao36,co36,eo36⟩:=Kd.R_slice HO123.out;subst eo36)|((with_reducible refine zh (f:=23) rfl ?_);refine goesL_ (some 87) rfl rfl Try.func23 (by kernel_rfl) rfl #[.slice Ao36 t120.length co36,.int .i64 t121] rfl (by first|rfl|simp only [z3_,z4_,z5_];try rfl) ?_;(with_reducible refine (impl_RankCounts.calls kj8 _ _ t120 t121 t124 t125 _ ?side1 ?side2 A32.out).mono ?_);(case side1=>repeat (first|exact (zl HO123.out).2.2|(with_reducible refine zi ?_ _)|(with_reducible refine zj ?_ _)|(with_reducible refine zk ?_)));(case side2=>exact (zl HO123.out).2.1);rintro e w37 ⟨v126,rfl,ho0,hb⟩;refine ⟨_,rfl,?_⟩;have HO127:=za (Kd.R_lower (Kd.R_new' ho0 (Kd.R_lt (by (with_reducible repeat (first|apply zf|apply zg|apply ze));exact HO123.out))) (zr (by repeat (first|(with_reducible first|exact HB.out|apply zc|apply zd|apply zb)|exact HB.out))));replace HO123:=za (Kd.R_elder' (by (with_reducible repeat (first|apply zf|apply zg|apply ze));exact HO123.out) (Kd.R_base ho0) hb);replace HB:=za (below_step (by repeat (first|(with_reducible first|exact HB.out|apply zc|apply zd|apply zb)|exact HB.out)) hb))|((with_reducible refine zh (f:=25) rfl ?_);refine goesL_ (some 93) rfl rfl Try.func25 (by kernel_rfl) rfl #[.slice Ao36 t120.length co36,.int .i64 t121] rfl (by first|rfl|simp only [z3_,z4_,z5_];try rfl) ?_;(with_reducible refine (spec_RankCounts.calls kj8 _ _ t120 t121 t128 t129 _ ?side1 ?side2 A33.out).mono ?_);(case side1=>repeat (first|exact (zl HO123.out).2.2|(with_reducible refine zi ?_ _)|(with_reducible refine zj ?_ _)|(with_reducible refine zk ?_)));(case side2=>exact (zl HO123.out).2.1);rintro e w38 ⟨v130,rfl,ho0,hb⟩;refine ⟨_,rfl,?_⟩;have HO131:=za (Kd.R_lower (Kd.R_new' (Kd.R_new' ho0 (Kd.R_lt (by (with_reducible repeat (first|apply zf|apply zg|apply ze));exact HO123.out))) (Kd.R_lt (by (with_reducible repeat (first|apply zf|apply zg|apply ze));exact HO127.out))) (zr (by repeat (first|(with_reducible first|exact HB.out|apply zc|apply zd|apply zb)|exact HB.out))));replace HO123:=za (Kd.R_elder' (by (with_reducible repeat (first|apply zf|apply zg|apply ze));exact HO123.out) (Kd.R_base ho0) hb);replace HO127:=za (Kd.R_elder' (by (with_reducible repeat (first|apply zf|apply zg|apply ze));exact HO127.out) (Kd.R_base ho0) hb);replace HB:=za (below_step (by repeat (first|(with_reducible first|exact HB.out|apply zc|apply zd|apply zb)|exact HB.out)) hb))));(try simp only [Act.put,z0_,z1_,z2_]);go_cut [104] (fun v104 wc=>∃ (kq:Nat) (x104_33:Bool),v104=.bool x104_33∧Aside0 (laws_FnMatricesOfRanks.j1 kq l1 t120 t121 t124 t125 x104_33=some r)∧Aside0 (kq≤kj8)∧Aside0 (Kd.R (Kd.int .i64) 3 wc w.heap.size (fun k_=>some k_ ≠ (v126:Value).ownBlock) (.slice Ao36 t120.length co36) t120)∧Aside0 (Kd.R (Kd.int .i64) 3 wc w.heap.size (fun k_=>some k_ ≠ ((.slice Ao36 t120.length co36):Value).ownBlock) v126 t124)∧Aside0 (Below w.heap.size w wc))
     case first =>
      have H:=HC34.out;clear HC34;by_cases c39:(t125 != t129)=true
      · rw [if_pos c39] at H;have c39b0:(t125 != t129)=true:=c39;(try (have c39b1:decide (t125=t129)=false:=by simpa using c39));(try (have c39b2:(t125 == t129)=false:=by simpa using c39));(try (have c39b3:¬ (t125=t129):=by simpa using c39));clear c39;(first|rw [c39b0]|(simp only [i64_w,i32_w];rw [c39b0])|skip);have H':=za H;clear H;(go_wp2);(go_meet);case rel=>exact ⟨_,(true),(by first|rfl|(simp;done)|(simp [*];done)),H',⟨by have:=HJ8.out;first|omega|exact Nat.le_refl _⟩,⟨by (with_reducible repeat (first|apply zf|apply zg|apply ze));exact Kd.R_mono HO123.out (fun _ hk=>hk.1.2)⟩,⟨by (with_reducible repeat (first|apply zf|apply zg|apply ze));exact Kd.R_mono HO127.out (fun _ hk=>hk.1.2)⟩,⟨by repeat (first|(with_reducible first|exact HB.out|apply zc|apply zd|apply zb)|exact HB.out)⟩⟩
      · rw [if_neg c39] at H;(have c39b0:(t125 != t129)=false:=by simpa using c39);(try (have c39b1:decide (t125=t129)=true:=by simpa using c39));(try (have c39b2:(t125 == t129)=true:=by simpa using c39));clear c39;(first|rw [c39b0]|(simp only [i64_w,i32_w];rw [c39b0])|skip);obtain ⟨t132,A40,H⟩:=bindAside H;(try dsimp only at H);have H':=za H;clear H;obtain ⟨Ao41,co41,eo41⟩:=Kd.R_slice HO127.out;subst eo41;obtain ⟨Ao42,co42,eo42⟩:=Kd.R_slice HO131.out;subst eo42;(go_wp2_with (first|(go_at_call 11;(with_reducible refine (laws_rSame.calls kj8 _ _ t124 _ _ t128 t132 _ ?side1 ?side2 ?side3 ?side4 A40.out).mono ?_);(case side1=>repeat (first|exact (zl HO127.out).2.2|(with_reducible refine zi ?_ _)|(with_reducible refine zj ?_ _)|(with_reducible refine zk ?_)));(case side2=>exact (zl HO127.out).2.1);(case side3=>repeat (first|exact (zl HO131.out).2.2|(with_reducible refine zi ?_ _)|(with_reducible refine zj ?_ _)|(with_reducible refine zk ?_)));(case side4=>exact (zl HO131.out).2.1);rintro e w' ⟨rfl,⟨nd,rfl⟩⟩)));(go_meet);case rel=>exact ⟨_,(!t132),(by first|rfl|(simp;done)|(simp [*];done)),H',⟨by have:=HJ8.out;first|omega|exact Nat.le_refl _⟩,⟨by (with_reducible repeat (first|apply zf|apply zg|apply ze));exact Kd.R_mono HO123.out (fun _ hk=>hk.1.2)⟩,⟨by (with_reducible repeat (first|apply zf|apply zg|apply ze));exact Kd.R_mono HO127.out (fun _ hk=>hk.1.2)⟩,⟨by repeat (first|(with_reducible first|exact HB.out|apply zc|apply zd|apply zb)|exact HB.out)⟩⟩
     case rest =>
      clear HC34;(try clear c1);(try clear c4);(try clear c30);obtain ⟨kq,x104_33,rfl,HA,HJ33,HO_13,HO_15,HB⟩:=hcut
      cases kq with
     |zero=>exact absurd HA.out (by simp [laws_FnMatricesOfRanks.j1])
     |succ kj33 =>
       have H:=HA.out;clear HA;simp only [laws_FnMatricesOfRanks.j1] at H;by_cases c43:x104_33=true
       · subst c43;(have H1:(some false)=some r:=by rw [if_pos rfl] at H;exact H);clear H;have H:=H1;clear H1;obtain rfl:=Option.some.inj H;(go_wp2);(go_ret);exact ⟨by first|rfl|simp [*,errW_none,errW_some] <;> rfl,by repeat (first|(with_reducible first|exact HB.out|apply zc|apply zd|apply zb)|exact HB.out)⟩
       ·
        replace c43:=Bool.eq_false_iff.mpr c43;subst c43;(have H1:(if t125=true then (laws_FnMatricesOfRanks.l0 kj33 l1 t120 t121 t124 1 0) else (laws_FnMatricesOfRanks.j3 kj33 l1))=some r:=by rw [if_neg (show ¬ (false=true) by decide)] at H;exact H);clear H;have H:=H1;clear H1;have HC44:=za H;clear H;(go_upto_if 105 with (fail));go_cut [] (fun wc=>∃ (kq:Nat),Aside0 (laws_FnMatricesOfRanks.j3 kq l1=some r)∧Aside0 (kq≤kj33)∧Aside0 (Below w.heap.size w wc))
        case first =>
         have H:=HC44.out;clear HC44;by_cases c45:t125=true
         ·
          subst c45;(have H1:(laws_FnMatricesOfRanks.l0 kj33 l1 t120 t121 t124 1 0)=some r:=by rw [if_pos rfl] at H;exact H);clear H;have H:=H1;clear H1;have H':=za H;clear H;(go_wp2);(go_loopg [19,20] kj33 (fun kq v19 v20 w'=>∃ (x19_3:Int) (x20_3:Int),v19=.int .i64 x19_3∧v20=.int .i64 x20_3∧Aside0 (laws_FnMatricesOfRanks.l0 kq l1 t120 t121 t124 x19_3 x20_3=some r)∧Aside0 (kq≤kj33)∧Aside0 (Kd.R (Kd.int .i64) 3 w' w.heap.size (fun k_=>some k_ ≠ (v126:Value).ownBlock) (.slice Ao36 t120.length co36) t120)∧Aside0 (Kd.R (Kd.int .i64) 3 w' w.heap.size (fun k_=>some k_ ≠ ((.slice Ao36 t120.length co36):Value).ownBlock) v126 t124)∧Aside0 (Below w.heap.size w w')));case atStart=>exact ⟨(1),(0),(by first|rfl|(simp;done)|(simp [*];done)),(by first|rfl|(simp;done)|(simp [*];done)),H',⟨Nat.le_refl _⟩,⟨by (with_reducible repeat (first|apply zf|apply zg|apply ze));exact HO_13.out⟩,⟨by (with_reducible repeat (first|apply zf|apply zg|apply ze));exact HO_15.out⟩,⟨by repeat (first|(with_reducible first|exact HB.out|apply zc|apply zd|apply zb)|exact HB.out)⟩⟩
          case round =>
           clear H';(try clear c1);(try clear c4);(try clear c30);(try clear c43);(try clear c45);obtain ⟨x19_3,x20_3,rfl,rfl,HA,HK3,HO_13,HO_15,HB⟩:=hrel
           cases gk with
          |zero=>exact absurd HA.out (by simp [laws_FnMatricesOfRanks.l0])
          |succ k3 =>
            have H:=HA.out;clear HA;simp only [laws_FnMatricesOfRanks.l0] at H;obtain ⟨t133,A46,H⟩:=bindAside H;(try dsimp only at H);by_cases c47:x20_3 < t133
            · rw [if_pos c47] at H;have c47b0:decide (x20_3 < t133)=true:=decide_eq_true c47;clear c47;(first|rw [c47b0]|(simp only [i64_w,i32_w];rw [c47b0])|skip);have H':=za H;clear H;(go_wp2_with (first|((with_reducible refine zh (f:=26) rfl ?_);refine goesL_ (some 108) rfl rfl Try.func26 (by kernel_rfl) rfl #[.slice Ao36 t120.length co36] rfl (by first|rfl|simp only [z3_,z4_,z5_];try rfl) ?_;(with_reducible refine (laws_rSum.calls k3 _ _ t120 t133 _ ?side1 ?side2 A46.out).mono ?_);(case side1=>repeat (first|exact (zl HO_13.out).2.2|(with_reducible refine zi ?_ _)|(with_reducible refine zj ?_ _)|(with_reducible refine zk ?_)));(case side2=>exact (zl HO_13.out).2.1);rintro e w' ⟨rfl,⟨nd,rfl⟩⟩;refine ⟨_,rfl,?_⟩)));(go_roundg k3);(case measure=>have:=HJ8.out;have:=HJ33.out;have:=HK3.out;omega);case rel=>exact ⟨(wrap64 (x19_3 * t121)),(wrap64 (x20_3 + 1)),(by first|rfl|(simp;done)|(simp [*];done)),(by first|rfl|(simp;done)|(simp [*];done)),H',⟨by have:=HJ8.out;have:=HJ33.out;have:=HK3.out;omega⟩,⟨by (with_reducible repeat (first|apply zf|apply zg|apply ze));exact HO_13.out⟩,⟨by (with_reducible repeat (first|apply zf|apply zg|apply ze));exact HO_15.out⟩,⟨by repeat (first|(with_reducible first|exact HB.out|apply zc|apply zd|apply zb)|exact HB.out)⟩⟩
            ·
             rw [if_neg c47] at H;have c47b0:decide (x20_3 < t133)=false:=decide_eq_false c47;clear c47;(first|rw [c47b0]|(simp only [i64_w,i32_w];rw [c47b0])|skip);obtain ⟨t134,A48,H⟩:=bindAside H;(try dsimp only at H);by_cases c49:t134=x19_3
             ·
              rw [if_pos c49] at H;have c49b0:(t134 == x19_3)=true:=beq_iff_eq.mpr c49;have c49b1:(t134 != x19_3)=false:=bne_eq_false_iff_eq.mpr c49;clear c49;by_cases c50:0 < (t124.length:Int)
              ·
               rw [if_pos c50] at H;have c50b0:decide (0 < (t124.length:Int))=true:=decide_eq_true c50;have c50b1:decide (0 < t124.length)=true:=decide_eq_true (by omega);clear c50;by_cases c51:(rd t124 0)=1
               · rw [if_pos c51] at H;have c51b0:((rd t124 0) == 1)=true:=beq_iff_eq.mpr c51;have c51b1:((rd t124 0) != 1)=false:=bne_eq_false_iff_eq.mpr c51;clear c51;have H':=za H;clear H;(go_wp2_with (first|((with_reducible refine zh (f:=26) rfl ?_);refine goesL_ (some 108) rfl rfl Try.func26 (by kernel_rfl) rfl #[.slice Ao36 t120.length co36] rfl (by first|rfl|simp only [z3_,z4_,z5_];try rfl) ?_;(with_reducible refine (laws_rSum.calls k3 _ _ t120 t133 _ ?side1 ?side2 A46.out).mono ?_);(case side1=>repeat (first|exact (zl HO_13.out).2.2|(with_reducible refine zi ?_ _)|(with_reducible refine zj ?_ _)|(with_reducible refine zk ?_)));(case side2=>exact (zl HO_13.out).2.1);rintro e w' ⟨rfl,⟨nd,rfl⟩⟩;refine ⟨_,rfl,?_⟩;obtain ⟨Ao52,co52,eo52⟩:=Kd.R_slice HO_15.out;subst eo52)|((with_reducible refine zh (f:=26) rfl ?_);refine goesL_ (some 116) rfl rfl Try.func26 (by kernel_rfl) rfl #[.slice Ao52 t124.length co52] rfl (by first|rfl|simp only [z3_,z4_,z5_];try rfl) ?_;(with_reducible refine (laws_rSum.calls k3 _ _ t124 t134 _ ?side1 ?side2 A48.out).mono ?_);(case side1=>repeat (first|exact (zl HO_15.out).2.2|(with_reducible refine zi ?_ _)|(with_reducible refine zj ?_ _)|(with_reducible refine zk ?_)));(case side2=>exact (zl HO_15.out).2.1);rintro e w' ⟨rfl,⟨nd,rfl⟩⟩;refine ⟨_,rfl,?_⟩;have p135:0≤(0:Int):=(by omega);have q135:0 < (t124.length:Int):=of_decide_eq_true ‹_›;obtain ⟨ad135,e135,hx135_0⟩:=Kd.at_int (zl HO_15.out).2.2 0 p135 q135;cases e135;have qi135:(0 < t124.length)=True:=eq_true (by omega);(try rw [show ((0:Int)).toNat=0 from rfl] at hx135_0);(try rw [Addr.add_zero'] at hx135_0);replace p135:=eq_true p135;replace q135:=eq_true q135)));(go_meet);case rel=>exact ⟨_,H',⟨by have:=HJ8.out;have:=HJ33.out;have:=HK3.out;first|omega|exact Nat.le_refl _⟩,⟨by repeat (first|(with_reducible first|exact HB.out|apply zc|apply zd|apply zb)|exact HB.out)⟩⟩
               · rw [if_neg c51] at H;have c51b0:((rd t124 0) == 1)=false:=beq_eq_false_iff_ne.mpr c51;have c51b1:((rd t124 0) != 1)=true:=bne_iff_ne.mpr c51;obtain rfl:=Option.some.inj H;(go_wp2_with (first|((with_reducible refine zh (f:=26) rfl ?_);refine goesL_ (some 108) rfl rfl Try.func26 (by kernel_rfl) rfl #[.slice Ao36 t120.length co36] rfl (by first|rfl|simp only [z3_,z4_,z5_];try rfl) ?_;(with_reducible refine (laws_rSum.calls k3 _ _ t120 t133 _ ?side1 ?side2 A46.out).mono ?_);(case side1=>repeat (first|exact (zl HO_13.out).2.2|(with_reducible refine zi ?_ _)|(with_reducible refine zj ?_ _)|(with_reducible refine zk ?_)));(case side2=>exact (zl HO_13.out).2.1);rintro e w' ⟨rfl,⟨nd,rfl⟩⟩;refine ⟨_,rfl,?_⟩;obtain ⟨Ao53,co53,eo53⟩:=Kd.R_slice HO_15.out;subst eo53)|((with_reducible refine zh (f:=26) rfl ?_);refine goesL_ (some 116) rfl rfl Try.func26 (by kernel_rfl) rfl #[.slice Ao53 t124.length co53] rfl (by first|rfl|simp only [z3_,z4_,z5_];try rfl) ?_;(with_reducible refine (laws_rSum.calls k3 _ _ t124 t134 _ ?side1 ?side2 A48.out).mono ?_);(case side1=>repeat (first|exact (zl HO_15.out).2.2|(with_reducible refine zi ?_ _)|(with_reducible refine zj ?_ _)|(with_reducible refine zk ?_)));(case side2=>exact (zl HO_15.out).2.1);rintro e w' ⟨rfl,⟨nd,rfl⟩⟩;refine ⟨_,rfl,?_⟩;have p135:0≤(0:Int):=(by omega);have q135:0 < (t124.length:Int):=of_decide_eq_true ‹_›;obtain ⟨ad135,e135,hx135_0⟩:=Kd.at_int (zl HO_15.out).2.2 0 p135 q135;cases e135;have qi135:(0 < t124.length)=True:=eq_true (by omega);(try rw [show ((0:Int)).toNat=0 from rfl] at hx135_0);(try rw [Addr.add_zero'] at hx135_0);replace p135:=eq_true p135;replace q135:=eq_true q135)));(go_ret);exact ⟨by first|rfl|simp [*,errW_none,errW_some] <;> rfl,by repeat (first|(with_reducible first|exact HB.out|apply zc|apply zd|apply zb)|exact HB.out)⟩
              · rw [if_neg c50] at H;exact absurd H (by simp)
             · rw [if_neg c49] at H;have c49b0:(t134 == x19_3)=false:=beq_eq_false_iff_ne.mpr c49;have c49b1:(t134 != x19_3)=true:=bne_iff_ne.mpr c49;obtain rfl:=Option.some.inj H;(go_wp2_with (first|((with_reducible refine zh (f:=26) rfl ?_);refine goesL_ (some 108) rfl rfl Try.func26 (by kernel_rfl) rfl #[.slice Ao36 t120.length co36] rfl (by first|rfl|simp only [z3_,z4_,z5_];try rfl) ?_;(with_reducible refine (laws_rSum.calls k3 _ _ t120 t133 _ ?side1 ?side2 A46.out).mono ?_);(case side1=>repeat (first|exact (zl HO_13.out).2.2|(with_reducible refine zi ?_ _)|(with_reducible refine zj ?_ _)|(with_reducible refine zk ?_)));(case side2=>exact (zl HO_13.out).2.1);rintro e w' ⟨rfl,⟨nd,rfl⟩⟩;refine ⟨_,rfl,?_⟩;obtain ⟨Ao54,co54,eo54⟩:=Kd.R_slice HO_15.out;subst eo54)|((with_reducible refine zh (f:=26) rfl ?_);refine goesL_ (some 116) rfl rfl Try.func26 (by kernel_rfl) rfl #[.slice Ao54 t124.length co54] rfl (by first|rfl|simp only [z3_,z4_,z5_];try rfl) ?_;(with_reducible refine (laws_rSum.calls k3 _ _ t124 t134 _ ?side1 ?side2 A48.out).mono ?_);(case side1=>repeat (first|exact (zl HO_15.out).2.2|(with_reducible refine zi ?_ _)|(with_reducible refine zj ?_ _)|(with_reducible refine zk ?_)));(case side2=>exact (zl HO_15.out).2.1);rintro e w' ⟨rfl,⟨nd,rfl⟩⟩;refine ⟨_,rfl,?_⟩)));(go_ret);exact ⟨by first|rfl|simp [*,errW_none,errW_some] <;> rfl,by repeat (first|(with_reducible first|exact HB.out|apply zc|apply zd|apply zb)|exact HB.out)⟩
         · replace c45:=Bool.eq_false_iff.mpr c45;subst c45;(have H1:(laws_FnMatricesOfRanks.j3 kj33 l1)=some r:=by rw [if_neg (show ¬ (false=true) by decide)] at H;exact H);clear H;have H:=H1;clear H1;have H':=za H;clear H;(go_wp2);(go_meet);case rel=>exact ⟨_,H',⟨by have:=HJ8.out;have:=HJ33.out;first|omega|exact Nat.le_refl _⟩,⟨by repeat (first|(with_reducible first|exact HB.out|apply zc|apply zd|apply zb)|exact HB.out)⟩⟩
        case rest =>
         clear HC44;(try clear c1);(try clear c4);(try clear c30);(try clear c43);obtain ⟨kq,HA,HJ43,HB⟩:=hcut
         cases kq with
        |zero=>exact absurd HA.out (by simp [laws_FnMatricesOfRanks.j3])
        |succ kj43 =>
          have H:=HA.out;clear HA;simp only [laws_FnMatricesOfRanks.j3] at H;obtain ⟨⟨t136,t137⟩,A55,H⟩:=bindAside H;(try dsimp only at H);obtain ⟨⟨t138,t139⟩,A56,H⟩:=bindAside H;(try dsimp only at H);obtain ⟨⟨t140,t141⟩,A57,H⟩:=bindAside H;(try dsimp only at H);have HC58:=za H;clear H;(go_upto_region 25 with (first|((with_reducible refine zh (f:=27) rfl ?_);refine goesL_ (some 127) rfl rfl Try.func27 (by kernel_rfl) rfl #[.slice A1 l1.length c1] rfl (by first|rfl|simp only [z3_,z4_,z5_];try rfl) ?_;(with_reducible refine (spec_DrawInvertibleCount.calls _ _ l1 t136 t137 _ ?side1 ?side2 A55.out).mono ?_);(case side1=>repeat (first|exact (Kd.C_below HR1.out HB.out)|(with_reducible refine zi ?_ _)|(with_reducible refine zj ?_ _)|(with_reducible refine zk ?_)));(case side2=>exact HC1.out);rintro e w59 ⟨rfl,hb⟩;refine ⟨_,rfl,?_⟩;replace HB:=za (below_step (by repeat (first|(with_reducible first|exact HB.out|apply zc|apply zd|apply zb)|exact HB.out)) hb))|((with_reducible refine zh (f:=28) rfl ?_);refine goesL_ (some 133) rfl rfl Try.func28 (by kernel_rfl) rfl #[.int .i64 t136,.int .i64 t137] rfl (by first|rfl|simp only [z3_,z4_,z5_];try rfl) ?_;(with_reducible refine (impl_InvertibleCount.calls kj43 t136 t137 t138 t139 _ A56.out).mono ?_);rintro e w' ⟨rfl,⟨nd,rfl⟩⟩;refine ⟨_,rfl,?_⟩)|((with_reducible refine zh (f:=29) rfl ?_);refine goesL_ (some 139) rfl rfl Try.func29 (by kernel_rfl) rfl #[.int .i64 t136,.int .i64 t137] rfl (by first|rfl|simp only [z3_,z4_,z5_];try rfl) ?_;(with_reducible refine (spec_InvertibleCount.calls kj43 t136 t137 t140 t141 _ A57.out).mono ?_);rintro e w' ⟨rfl,⟨nd,rfl⟩⟩;refine ⟨_,rfl,?_⟩)));(try simp only [Act.put,z0_,z1_,z2_]);go_cut [149] (fun v149 wc=>∃ (kq:Nat) (x149_57:Bool),v149=.bool x149_57∧Aside0 (laws_FnMatricesOfRanks.j4 kq t136 t137 t138 t139 x149_57=some r)∧Aside0 (kq≤kj43)∧Aside0 (Below w.heap.size w wc))
          case first =>
           have H:=HC58.out;clear HC58;by_cases c60:(t139 != t141)=true
           · rw [if_pos c60] at H;have c60b0:(t139 != t141)=true:=c60;(try (have c60b1:decide (t139=t141)=false:=by simpa using c60));(try (have c60b2:(t139 == t141)=false:=by simpa using c60));(try (have c60b3:¬ (t139=t141):=by simpa using c60));clear c60;(first|rw [c60b0]|(simp only [i64_w,i32_w];rw [c60b0])|skip);have H':=za H;clear H;(go_wp2);(go_meet);case rel=>exact ⟨_,(true),(by first|rfl|(simp;done)|(simp [*];done)),H',⟨by have:=HJ8.out;have:=HJ33.out;have:=HJ43.out;first|omega|exact Nat.le_refl _⟩,⟨by repeat (first|(with_reducible first|exact HB.out|apply zc|apply zd|apply zb)|exact HB.out)⟩⟩
           · rw [if_neg c60] at H;(have c60b0:(t139 != t141)=false:=by simpa using c60);(try (have c60b1:decide (t139=t141)=true:=by simpa using c60));(try (have c60b2:(t139 == t141)=true:=by simpa using c60));clear c60;(first|rw [c60b0]|(simp only [i64_w,i32_w];rw [c60b0])|skip);have H':=za H;clear H;(go_wp2);(go_meet);case rel=>exact ⟨_,((t138 != t140)),(by first|rfl|(simp;done)|(simp [*];done)),H',⟨by have:=HJ8.out;have:=HJ33.out;have:=HJ43.out;first|omega|exact Nat.le_refl _⟩,⟨by repeat (first|(with_reducible first|exact HB.out|apply zc|apply zd|apply zb)|exact HB.out)⟩⟩
          case rest =>
           clear HC58;(try clear c1);(try clear c4);(try clear c30);(try clear c43);obtain ⟨kq,x149_57,rfl,HA,HJ57,HB⟩:=hcut
           cases kq with
          |zero=>exact absurd HA.out (by simp [laws_FnMatricesOfRanks.j4])
          |succ kj57 =>
            have H:=HA.out;clear HA;simp only [laws_FnMatricesOfRanks.j4] at H;by_cases c61:x149_57=true
            · subst c61;(have H1:(some false)=some r:=by rw [if_pos rfl] at H;exact H);clear H;have H:=H1;clear H1;obtain rfl:=Option.some.inj H;(go_wp2);(go_ret);exact ⟨by first|rfl|simp [*,errW_none,errW_some] <;> rfl,by repeat (first|(with_reducible first|exact HB.out|apply zc|apply zd|apply zb)|exact HB.out)⟩
            ·
             replace c61:=Bool.eq_false_iff.mpr c61;subst c61;(have H1:(if t139=true then (laws_FnMatricesOfRanks.j5 kj57 t136 t137 t138 (decide (t136 > 4))) else (laws_FnMatricesOfRanks.j5 kj57 t136 t137 t138 true))=some r:=by rw [if_neg (show ¬ (false=true) by decide)] at H;exact H);clear H;have H:=H1;clear H1;have HC62:=za H;clear H;(go_upto_region 27 with (fail));go_cut [155] (fun v155 wc=>∃ (kq:Nat) (x155_61:Bool),v155=.bool x155_61∧Aside0 (laws_FnMatricesOfRanks.j5 kq t136 t137 t138 x155_61=some r)∧Aside0 (kq≤kj57)∧Aside0 (Below w.heap.size w wc))
             case first =>
              have H:=HC62.out;clear HC62;by_cases c63:t139=true
              · subst c63;(have H1:(laws_FnMatricesOfRanks.j5 kj57 t136 t137 t138 (decide (t136 > 4)))=some r:=by rw [if_pos rfl] at H;exact H);clear H;have H:=H1;clear H1;have H':=za H;clear H;(go_wp2);(go_meet);case rel=>exact ⟨_,(decide (t136 > 4)),(by first|rfl|(simp;done)|(simp [*];done)),H',⟨by have:=HJ8.out;have:=HJ33.out;have:=HJ43.out;have:=HJ57.out;first|omega|exact Nat.le_refl _⟩,⟨by repeat (first|(with_reducible first|exact HB.out|apply zc|apply zd|apply zb)|exact HB.out)⟩⟩
              · replace c63:=Bool.eq_false_iff.mpr c63;subst c63;(have H1:(laws_FnMatricesOfRanks.j5 kj57 t136 t137 t138 true)=some r:=by rw [if_neg (show ¬ (false=true) by decide)] at H;exact H);clear H;have H:=H1;clear H1;have H':=za H;clear H;(go_wp2);(go_meet);case rel=>exact ⟨_,(true),(by first|rfl|(simp;done)|(simp [*];done)),H',⟨by have:=HJ8.out;have:=HJ33.out;have:=HJ43.out;have:=HJ57.out;first|omega|exact Nat.le_refl _⟩,⟨by repeat (first|(with_reducible first|exact HB.out|apply zc|apply zd|apply zb)|exact HB.out)⟩⟩
             case rest =>
              clear HC62;(try clear c1);(try clear c4);(try clear c30);(try clear c43);(try clear c61);obtain ⟨kq,x155_61,rfl,HA,HJ61,HB⟩:=hcut
              cases kq with
             |zero=>exact absurd HA.out (by simp [laws_FnMatricesOfRanks.j5])
             |succ kj61 =>
               have H:=HA.out;clear HA;simp only [laws_FnMatricesOfRanks.j5] at H;by_cases c64:x155_61=true
               · subst c64;(have H1:(some true)=some r:=by rw [if_pos rfl] at H;exact H);clear H;have H:=H1;clear H1;obtain rfl:=Option.some.inj H;(go_wp2);(go_ret);exact ⟨by first|rfl|simp [*,errW_none,errW_some] <;> rfl,by repeat (first|(with_reducible first|exact HB.out|apply zc|apply zd|apply zb)|exact HB.out)⟩
               ·
                replace c64:=Bool.eq_false_iff.mpr c64;subst c64;(have H1:(if 0≤t136 then (if (t136:Int).toNat≤35184372088832 then ((some (List.replicate (t136:Int).toNat 0:List Int)).bind fun y142=>(laws_FnMatricesOfRanks.l1 kj61 t136 t137 t138 y142 (y142.length:Int) 0)) else (none)) else (none))=some r:=by rw [if_neg (show ¬ (false=true) by decide)] at H;exact H);clear H;have H:=H1;clear H1;by_cases c65:0≤t136
                ·
                 rw [if_pos c65] at H;have c65b0:=eq_true c65;have c65b1:decide (0≤t136)=true:=decide_eq_true c65;clear c65;by_cases c66:(t136:Int).toNat≤35184372088832
                 ·
                  rw [if_pos c66] at H;have c66b0:=eq_true c66;have c66b1:decide ((t136:Int).toNat≤35184372088832)=true:=decide_eq_true c66;clear c66;obtain ⟨y142,hy142⟩:∃ y_:List Int,y_=(List.replicate (t136:Int).toNat 0):=⟨_,rfl⟩;(replace H:(laws_FnMatricesOfRanks.l1 kj61 t136 t137 t138 y142 (y142.length:Int) 0)=some r:=by first|(rw [hy142];with_reducible exact H)|(have H2_:=(Option.bind_some _ _).symm.trans H;rw [hy142];with_reducible exact H2_)|(have H2_:=(Option.bind_some _ _).symm.trans H;with_reducible exact H2_)|with_reducible exact H|(rw [hy142];exact H)|exact H);have Ny142:=za hy142;clear hy142;have H':=za H;clear H;(go_wp2_with (first|((with_reducible refine gate_dst (N:=157) rfl ?_);refine Kd.R_make (Kd.int .i64) _ 3 rfl (N:=157) rfl 29 _ _ rfl t136 rfl rfl Try.underlying29 (.int .i64 0) 8 info3 rfl (by decide) (by omega) 0 (ok:=fun _=>True) (okp:=fun _=>True) rfl (fun _ hk=>hk) trivial (of_decide_eq_true ‹_›) (Nat.le_trans (Nat.mul_le_mul_right _ (of_decide_eq_true ‹_›:t136.toNat≤35184372088832)) (by omega)) (Below.refl _ _) (Nat.le_refl _) ?_;intro v143 w67 ho68 hb hg_ hnew_;clear hg_ hnew_;(first|rw [← Ny142.out] at ho68|(simp only [Int.reduceToNat] at ho68;rw [← Ny142.out] at ho68));have HO144:=za (Kd.R_lower ho68 (zr (by repeat (first|(with_reducible first|exact HB.out|apply zc|apply zd|apply zb)|exact HB.out))));replace HB:=za (below_step (by repeat (first|(with_reducible first|exact HB.out|apply zc|apply zd|apply zb)|exact HB.out)) hb);clear hb ho68;obtain ⟨Ao69,co69,eo69⟩:=Kd.R_slice HO144.out;subst eo69)));(go_loopg [160] kj61 (fun kq v160 w'=>∃ (x27_6:List Int) (x160_6:Int),v160=.int .i64 x160_6∧Aside0 (laws_FnMatricesOfRanks.l1 kq t136 t137 t138 x27_6 (y142.length:Int) x160_6=some r)∧Aside0 (kq≤kj61)∧Aside0 (Kd.R (Kd.int .i64) 3 w' w.heap.size (fun _=>True) (.slice Ao69 y142.length co69) x27_6)∧Aside0 (Below w.heap.size w w')));case atStart=>exact ⟨(y142),(0),(by first|rfl|(simp;done)|(simp [*];done)),H',⟨Nat.le_refl _⟩,⟨by (with_reducible repeat (first|apply zf|apply zg|apply ze));exact HO144.out⟩,⟨by repeat (first|(with_reducible first|exact HB.out|apply zc|apply zd|apply zb)|exact HB.out)⟩⟩
                  case round =>
                   clear H';(try clear c1);(try clear c4);(try clear c30);(try clear c43);(try clear c61);(try clear c64);(try clear c65);(try clear c65b0);(try clear c65b1);(try clear c66);(try clear c66b0);(try clear c66b1);obtain ⟨x27_6,x160_6,rfl,HA,HK6,HO_27,HB⟩:=hrel;have hl27_6:=(zl HO_27.out).1;rw [hl27_6] at HO_27;(try simp only [hl27_6])
                   cases gk with
                  |zero=>exact absurd HA.out (by simp [laws_FnMatricesOfRanks.l1])
                  |succ k6 =>
                    have H:=HA.out;clear HA;simp only [laws_FnMatricesOfRanks.l1] at H;by_cases c70:x160_6 < (y142.length:Int)
                    ·
                     rw [if_pos c70] at H;have c70b0:decide (x160_6 < (y142.length:Int))=true:=decide_eq_true c70;clear c70;by_cases c71:0≤x160_6
                     ·
                      rw [if_pos c71] at H;have c71b0:decide (0≤x160_6)=true:=decide_eq_true c71;clear c71;by_cases c72:x160_6 < (x27_6.length:Int)
                      · rw [if_pos c72] at H;have c72b0:decide (x160_6 < (x27_6.length:Int))=true:=decide_eq_true c72;clear c72;obtain ⟨y145,hy145⟩:∃ y_:List Int,y_=(x27_6.set (x160_6:Int).toNat t136):=⟨_,rfl⟩;(replace H:(laws_FnMatricesOfRanks.l1 k6 t136 t137 t138 y145 (y142.length:Int) (wrap64 (x160_6 + 1)))=some r:=by first|(rw [hy145];with_reducible exact H)|(have H2_:=(Option.bind_some _ _).symm.trans H;rw [hy145];with_reducible exact H2_)|(have H2_:=(Option.bind_some _ _).symm.trans H;with_reducible exact H2_)|with_reducible exact H|(rw [hy145];exact H)|exact H);have Ny145:=za hy145;clear hy145;have H':=za H;clear H;have p73:0≤(x160_6:Int):=of_decide_eq_true ‹_›;have q73:(x160_6:Int) < ((x27_6.length:Int):Int):=of_decide_eq_true ‹_›;obtain ⟨go73,co73,eo73,gb73,gl73,cl73,HG73⟩:=Kd.R_form HO_27.out (by omega);(first|cases eo73|(injection eo73 with ea_ en_ ec_;(first|subst ea_|(injection ea_ with ea_;subst ea_));subst ec_;clear en_));have GB73:=za gb73;have GG73:=za HG73;clear gb73 gl73 HG73;obtain ⟨hx73_0,hf73_0⟩:=Kd.R_celln 0 HO_27.out (x160_6:Int) p73 q73;replace p73:=eq_true p73;replace q73:=eq_true q73;have HP74:=Kd.R_putg HO_27.out (x160_6:Int) t136;(go_wp2_with (first|((with_reducible refine gate_store (t:=3) (p:=166) rfl ?_);refine store_event (t:=3) (p:=166) (v:=?vo_w75) (w1:=(wr.setCell ⟨go73,(x160_6:Int).toNat,none⟩ (.int .i64 t136))) ?hg ?ho ?hn ?hr ?_;(case ho=>rfl);(case hg=>rfl);(case hn=>rfl);(case hr=>first|(go_simp;done)|(go_simp;rfl));intro w75 hw;have hg:wr.grownBy w75 (some go73):=(by rw [hw];exact HP74.2);have hp_:Kd.R (Kd.int .i64) 3 w75 w.heap.size (fun _=>True) (.slice (some ⟨go73,0,none⟩) x27_6.length co69) y145:=(by rw [hw,Ny145.out];exact HP74.1);clear HP74;replace HO_27:=za (hp_);replace HB:=za ((by rw [hw];exact zm (HB.out) GB73.out:Below w.heap.size w w75));clear hg hw hp_)));(try simp only [← hl27_6]);(go_roundg k6);(case measure=>have:=HJ8.out;have:=HJ33.out;have:=HJ43.out;have:=HJ57.out;have:=HJ61.out;have:=HK6.out;omega);case rel=>exact ⟨(y145),(wrap64 (x160_6 + 1)),(by first|rfl|(simp;done)|(simp [*];done)),H',⟨by have:=HJ8.out;have:=HJ33.out;have:=HJ43.out;have:=HJ57.out;have:=HJ61.out;have:=HK6.out;omega⟩,⟨by (try simp only [hl27_6]);(with_reducible repeat (first|apply zf|apply zg|apply ze));exact HO_27.out⟩,⟨by repeat (first|(with_reducible first|exact HB.out|apply zc|apply zd|apply zb)|exact HB.out)⟩⟩
                      · rw [if_neg c72] at H;exact absurd H (by simp)
                     · rw [if_neg c71] at H;exact absurd H (by simp)
                    ·
                     rw [if_neg c70] at H;have c70b0:decide (x160_6 < (y142.length:Int))=false:=decide_eq_false c70;have c70b1x:=c70b0;(try simp only [hl27_6] at c70b1x);clear c70;obtain ⟨⟨t146,t147⟩,A76,H⟩:=bindAside H;(try dsimp only at H);by_cases c77:t147=true
                     ·
                      subst c77;(have H1:(if 0≤t136 then (if t136 < (t146.length:Int) then (some ((rd t146 t136) == t138)) else (none)) else (none))=some r:=by rw [if_pos rfl] at H;exact H);clear H;have H:=H1;clear H1;by_cases c78:0≤t136
                      ·
                       rw [if_pos c78] at H;have c78b0:decide (0≤t136)=true:=decide_eq_true c78;clear c78;by_cases c79:t136 < (t146.length:Int)
                       · rw [if_pos c79] at H;have c79b0:decide (t136 < (t146.length:Int))=true:=decide_eq_true c79;clear c79;obtain rfl:=Option.some.inj H;(go_wp2_with (first|((with_reducible refine zh (f:=23) rfl ?_);refine goesL_ (some 171) rfl rfl Try.func23 (by kernel_rfl) rfl #[.slice Ao69 x27_6.length co69,.int .i64 t137] rfl (by first|rfl|simp only [z3_,z4_,z5_];try rfl) ?_;(with_reducible refine (impl_RankCounts.calls k6 _ _ x27_6 t137 t146 true _ ?side1 ?side2 A76.out).mono ?_);(case side1=>repeat (first|exact (zl HO_27.out).2.2|(with_reducible refine zi ?_ _)|(with_reducible refine zj ?_ _)|(with_reducible refine zk ?_)));(case side2=>exact (zl HO_27.out).2.1);rintro e w80 ⟨v148,rfl,ho0,hb⟩;refine ⟨_,rfl,?_⟩;have HO149:=za (Kd.R_lower (Kd.R_new' ho0 (Kd.R_lt (by (with_reducible repeat (first|apply zf|apply zg|apply ze));exact HO_27.out))) (zr (by repeat (first|(with_reducible first|exact HB.out|apply zc|apply zd|apply zb)|exact HB.out))));replace HO_27:=za (Kd.R_elder' (by (with_reducible repeat (first|apply zf|apply zg|apply ze));exact HO_27.out) (Kd.R_base ho0) hb);replace HB:=za (below_step (by repeat (first|(with_reducible first|exact HB.out|apply zc|apply zd|apply zb)|exact HB.out)) hb);obtain ⟨Ao81,co81,eo81⟩:=Kd.R_slice HO149.out;subst eo81;have p150:0≤(t136:Int):=of_decide_eq_true ‹_›;have q150:t136 < (t146.length:Int):=of_decide_eq_true ‹_›;obtain ⟨ad150,e150,hx150_0⟩:=Kd.at_int (zl HO149.out).2.2 t136 p150 q150;cases e150;replace p150:=eq_true p150;replace q150:=eq_true q150)));(go_ret);exact ⟨by first|rfl|simp [*,errW_none,errW_some] <;> rfl,by repeat (first|(with_reducible first|exact HB.out|apply zc|apply zd|apply zb)|exact HB.out)⟩
                       · rw [if_neg c79] at H;exact absurd H (by simp)
                      · rw [if_neg c78] at H;exact absurd H (by simp)
                     · replace c77:=Bool.eq_false_iff.mpr c77;subst c77;(have H1:(some false)=some r:=by rw [if_neg (show ¬ (false=true) by decide)] at H;exact H);clear H;have H:=H1;clear H1;obtain rfl:=Option.some.inj H;(go_wp2_with (first|((with_reducible refine zh (f:=23) rfl ?_);refine goesL_ (some 171) rfl rfl Try.func23 (by kernel_rfl) rfl #[.slice Ao69 x27_6.length co69,.int .i64 t137] rfl (by first|rfl|simp only [z3_,z4_,z5_];try rfl) ?_;(with_reducible refine (impl_RankCounts.calls k6 _ _ x27_6 t137 t146 false _ ?side1 ?side2 A76.out).mono ?_);(case side1=>repeat (first|exact (zl HO_27.out).2.2|(with_reducible refine zi ?_ _)|(with_reducible refine zj ?_ _)|(with_reducible refine zk ?_)));(case side2=>exact (zl HO_27.out).2.1);rintro e w82 ⟨v148,rfl,ho0,hb⟩;refine ⟨_,rfl,?_⟩;have HO149:=za (Kd.R_lower (Kd.R_new' ho0 (Kd.R_lt (by (with_reducible repeat (first|apply zf|apply zg|apply ze));exact HO_27.out))) (zr (by repeat (first|(with_reducible first|exact HB.out|apply zc|apply zd|apply zb)|exact HB.out))));replace HO_27:=za (Kd.R_elder' (by (with_reducible repeat (first|apply zf|apply zg|apply ze));exact HO_27.out) (Kd.R_base ho0) hb);replace HB:=za (below_step (by repeat (first|(with_reducible first|exact HB.out|apply zc|apply zd|apply zb)|exact HB.out)) hb))));(go_ret);exact ⟨by first|rfl|simp [*,errW_none,errW_some] <;> rfl,by repeat (first|(with_reducible first|exact HB.out|apply zc|apply zd|apply zb)|exact HB.out)⟩
                 · rw [if_neg c66] at H;exact absurd H (by simp)
                · rw [if_neg c65] at H;exact absurd H (by simp)
def laws_FnMatricesOfRanks.Pure:Prop:=∀ (l0:List Int) (l1:List Int),l0.length≤maxLen→l0.length * 1≤140737488351232→(∀ x ∈ l0,(Lit.int .u8 x).wf=true)→l1.length≤maxLen→l1.length * 1≤140737488351232→(∀ x ∈ l1,(Lit.int .u8 x).wf=true)→∃ k,laws_FnMatricesOfRanks.f k l0 l1=some true
theorem laws_FnMatricesOfRanks.walk (P:laws_FnMatricesOfRanks.Pure) (a0:Option Addr) (len0 cap0:Nat) (z0:List Int) (a1:Option Addr) (len1 cap1:Nat) (z1:List Int) (w:World) (w0:(a0=none∧len0=0∧cap0=0∧z0=[]) ∨ ∃ x,a0=some x∧len0≤cap0∧cap0≤maxLen∧z0.length=cap0∧(∀ i,i < z0.length→w.cell? (x.add i)=some (.int .u8 (z0.getD i 0)))∧∀ n ∈ z0,(Lit.int .u8 n).wf=true) (y0:len0 * 1≤140737488351232) (w1:(a1=none∧len1=0∧cap1=0∧z1=[]) ∨ ∃ x,a1=some x∧len1≤cap1∧cap1≤maxLen∧z1.length=cap1∧(∀ i,i < z1.length→w.cell? (x.add i)=some (.int .u8 (z1.getD i 0)))∧∀ n ∈ z1,(Lit.int .u8 n).wf=true) (y1:len1 * 1≤140737488351232) :
  Calls Try.prog 4 #[.slice a0 len0 cap0,.slice a1 len1 cap1] w fun e w'=>e=.returned (.bool true)∧Below w.heap.size w w':=by
 obtain ⟨l0,rfl,hr0,hm0,hw0,hc0⟩:=ReadsInt.ofRowC w0;obtain ⟨l1,rfl,hr1,hm1,hw1,hc1⟩:=ReadsInt.ofRowC w1;obtain ⟨k,h⟩:=P l0 l1 hm0 y0 hw0 hm1 y1 hw1;refine (laws_FnMatricesOfRanks.calls k _ _ l0 _ _ l1 true w (Kd.C_of_reads (d:=(0:Int)) (h1:=fun _=>rfl) hr0) hc0 (Kd.C_of_reads (d:=(0:Int)) (h1:=fun _=>rfl) hr1) hc1 h).mono ?_;rintro e w' ⟨rfl,hd⟩;exact ⟨rfl,hd⟩
end Go.Proofs.Ytadkkcdhgepbkaa.Q
end
section
namespace Go.Proofs.Ytadkkcdhgepbkaa.LinAlg
set_option linter.unusedVariables false
set_option linter.unusedSectionVars false
open Go.RowKit Go.Proofs.YtadkkcdhgepbkaaW.PrintWords Go.Proofs.YtadkkcdhgepbkaaW.PrintLast Go.Proofs.YtadkkcdhgepbkaaW.PrintMore
open Go.Proofs.YtadkkcdhgepbkaaL
def sumI : Nat → (Nat → Int) → Int
  | 0, _ => 0
  | n + 1, f => sumI n f + f n
theorem sumI_congr {f g : Nat → Int} : ∀ {n : Nat}, (∀ i, i < n → f i = g i) → sumI n f = sumI n g
  | 0, _ => rfl
  | n + 1, h => by rw [sumI, sumI, sumI_congr (fun i hi => h i (by omega)), h n (by omega)]
theorem sumI_add (f g : Nat → Int) : ∀ n, sumI n (fun i => f i + g i) = sumI n f + sumI n g
  | 0 => rfl
  | n + 1 => by rw [sumI, sumI, sumI, sumI_add f g n]; omega
theorem sumI_sub (f g : Nat → Int) : ∀ n, sumI n (fun i => f i - g i) = sumI n f - sumI n g
  | 0 => rfl
  | n + 1 => by rw [sumI, sumI, sumI, sumI_sub f g n]; omega
theorem sumI_mul (k : Int) (f : Nat → Int) : ∀ n, sumI n (fun i => k * f i) = k * sumI n f
  | 0 => by rw [sumI, sumI, Int.mul_zero]
  | n + 1 => by rw [sumI, sumI, sumI_mul k f n, Int.mul_add]
theorem sumI_mul' (k : Int) (f : Nat → Int) (n : Nat) : sumI n (fun i => f i * k) = sumI n f * k := by
  rw [Int.mul_comm, ← sumI_mul]
  exact sumI_congr (fun i _ => Int.mul_comm _ _)
theorem sumI_zero : ∀ n, sumI n (fun _ => 0) = 0
  | 0 => rfl
  | n + 1 => by rw [sumI, sumI_zero n, Int.add_zero]
theorem sumI_swap (F : Nat → Nat → Int) (m : Nat) : ∀ n, sumI n (fun i => sumI m (F i)) = sumI m (fun j => sumI n (fun i => F i j))
  | 0 => (sumI_zero m).symm
  | n + 1 => by
    rw [sumI, sumI_swap F m n, ← sumI_add]
    rfl
theorem sumI_one (v : Int) (m : Nat) (f : Nat → Int) : ∀ n, sumI n (fun i => (if i = m then v else 0) * f i) = if m < n then v * f m else 0
  | 0 => by rw [sumI, if_neg (by omega)]
  | n + 1 => by
    rw [sumI, sumI_one v m f n]
    by_cases h : n = m
    · subst h; rw [if_neg (by omega), if_pos rfl, if_pos (by omega), Int.zero_add]
    · rw [if_neg h, Int.zero_mul, Int.add_zero]
      by_cases h2 : m < n
      · rw [if_pos h2, if_pos (by omega)]
      · rw [if_neg h2, if_neg (by omega)]
section
variable {q : Int}
theorem dvd_sum {f : Nat → Int} : ∀ {n : Nat}, (∀ i, i < n → q ∣ f i) → q ∣ sumI n f
  | 0, _ => ⟨0, by rw [sumI]; omega⟩
  | n + 1, h => by
    rw [sumI]
    exact Int.dvd_add (dvd_sum (fun i hi => h i (by omega))) (h n (by omega))
def Span (q : Int) (n k : Nat) (A : Nat → Nat → Int) (v : Nat → Int) : Prop := ∃ c : Nat → Int, ∀ j, j < n → q ∣ v j - sumI k (fun s => c s * A s j)
theorem choose_all {P : Nat → (Nat → Int) → Prop} : ∀ k : Nat, (∀ s, s < k → ∃ c, P s c) → ∃ C : Nat → Nat → Int, ∀ s, s < k → P s (C s)
  | 0, _ => ⟨fun _ _ => 0, fun s hs => by omega⟩
  | k + 1, h => by
    obtain ⟨C, hC⟩ := choose_all k (fun s hs => h s (by omega))
    obtain ⟨c, hc⟩ := h k (by omega)
    refine ⟨fun s => if s = k then c else C s, fun s hs => ?_⟩
    show P s (if s = k then c else C s)
    by_cases e : s = k
    · rw [if_pos e, e]; exact hc
    · rw [if_neg e]; exact hC s (by omega)
theorem double (k l : Nat) (x : Nat → Int) (C : Nat → Nat → Int) (B : Nat → Nat → Int) (j : Nat) : sumI k (fun s => x s * sumI l (fun t => C s t * B t j)) = sumI l (fun t => sumI k (fun s => x s * C s t) * B t j) := by
  have e1 : ∀ s, x s * sumI l (fun t => C s t * B t j) = sumI l (fun t => x s * C s t * B t j) := fun s => by
    rw [← sumI_mul]
    exact sumI_congr (fun t _ => (Int.mul_assoc _ _ _).symm)
  rw [sumI_congr (fun s _ => e1 s), sumI_swap]
  exact sumI_congr (fun t _ => sumI_mul' _ _ _)
theorem Span.trans {n k l : Nat} {A B : Nat → Nat → Int} {v : Nat → Int} (h : Span q n k A v) (hA : ∀ s, s < k → Span q n l B (A s)) : Span q n l B v := by
  obtain ⟨c, hc⟩ := h
  obtain ⟨C, hC⟩ := choose_all (P := fun s d => ∀ j, j < n → q ∣ A s j - sumI l (fun t => d t * B t j)) k hA
  refine ⟨fun t => sumI k (fun s => c s * C s t), fun j hj => ?_⟩
  have h1 := hc j hj
  have h2 : q ∣ sumI k (fun s => c s * A s j - c s * sumI l (fun t => C s t * B t j)) := dvd_sum (fun s hs => by
    rw [← Int.mul_sub]
    exact Int.dvd_trans (hC s hs j hj) (Int.dvd_mul_left _ _))
  rw [sumI_sub, double] at h2
  have := Int.dvd_add h1 h2
  have e : v j - sumI k (fun s => c s * A s j) + (sumI k (fun s => c s * A s j) - sumI l (fun t => sumI k (fun s => c s * C s t) * B t j)) = v j - sumI l (fun t => sumI k (fun s => c s * C s t) * B t j) := by omega
  rw [e] at this
  exact this
end
end Go.Proofs.Ytadkkcdhgepbkaa.LinAlg
end
section
namespace Go.Proofs.Ytadkkcdhgepbkaa.LeadLaw
set_option linter.unusedVariables false
set_option linter.unusedSectionVars false
open Go.RowKit Go.Proofs.YtadkkcdhgepbkaaW.PrintWords Go.Proofs.YtadkkcdhgepbkaaW.PrintLast Go.Proofs.YtadkkcdhgepbkaaW.PrintMore
open Go.Proofs.YtadkkcdhgepbkaaL Go.Proofs.Ytadkkcdhgepbkaa.LeadsK Go.Proofs.Ytadkkcdhgepbkaa.LinAlg
def fam (rows : List (List Int)) : Nat → Nat → Int := fun s j => (rows.getD s []).getD j 0
theorem fam_lt {rows : List (List Int)} {s : Nat} (h : s < rows.length) (j : Nat) : fam rows s j = rows[s].getD j 0 := by
  unfold fam
  rw [gD_lt _ _ h]
theorem fam_app {a b : List (List Int)} {s : Nat} (h : s < a.length) : fam (a ++ b) s = fam a s := by
  have e : (a ++ b).getD s [] = a.getD s [] := by rw [List.getD_eq_getElem?_getD, List.getD_eq_getElem?_getD, List.getElem?_append_left h]
  funext j
  unfold fam
  rw [e]
theorem fam_new (a : List (List Int)) (y : List Int) (j : Nat) : fam (a ++ [y]) a.length j = y.getD j 0 := by
  have e : (a ++ [y]).getD a.length [] = y := by rw [List.getD_eq_getElem?_getD, List.getElem?_append_right (Nat.le_refl _), Nat.sub_self]; rfl
  unfold fam
  rw [e]
theorem leadOf_shift : ∀ (x : List Int) (i : Int), 0 ≤ i → leadOf x i ≠ -1 → i ≤ leadOf x i ∧ x.getD (leadOf x i - i).toNat 0 ≠ 0
  | [], i, _, h => absurd rfl h
  | a :: t, i, hi, h => by
    rw [leadOf] at h ⊢
    by_cases e : a = 0
    · rw [if_pos e] at h ⊢
      have ih := leadOf_shift t (i + 1) (by omega) h
      refine ⟨by omega, ?_⟩
      rw [show (leadOf t (i + 1) - i).toNat = (leadOf t (i + 1) - (i + 1)).toNat + 1 by omega]
      exact ih.2
    · rw [if_neg e, Int.sub_self]
      exact ⟨Int.le_refl _, e⟩
theorem leadOf_ne {x : List Int} (h : leadOf x 0 ≠ -1) : x.getD (leadOf x 0).toNat 0 ≠ 0 := by
  have := (leadOf_shift x 0 (Int.le_refl _) h).2
  rwa [Int.sub_zero] at this
theorem leadOf_none : ∀ (x : List Int) (i : Int), 0 ≤ i → leadOf x i = -1 → ∀ j, x.getD j 0 = 0
  | [], i, _, _, j => rfl
  | a :: t, i, hi, h, j => by
    rw [leadOf] at h
    by_cases e : a = 0
    · rw [if_pos e] at h
      cases j with
      | zero => exact e
      | succ j => exact leadOf_none t (i + 1) (by omega) h j
    · rw [if_neg e] at h; omega
section
variable {q : Int} (hq : 2 ≤ q ∧ q ≤ 3) {n : Nat}
include hq
theorem q1 : ¬ q ∣ 1 := fun ⟨w, hw⟩ => by
  have h1 : q = 2 ∨ q = 3 := by omega
  rcases h1 with rfl | rfl <;> omega
theorem dig_zero {a : Int} (h : 0 ≤ a ∧ a < q) (hd : q ∣ a) : a = 0 := by
  have h1 : q = 2 ∨ q = 3 := by omega
  rcases h1 with rfl | rfl <;> omega
theorem elim_get {by_ : Int} (hb : 0 ≤ by_ ∧ by_ < q) {o : List Int} (ho : Dig q n o) (j : Nat) : ∀ (d c : Nat) (x : List Int), c + d ≤ n → Dig q n x → (elimS q by_ o d c x).getD j 0 = if c ≤ j ∧ j < c + d then Int.tmod (x.getD j 0 + (q - by_) * o.getD j 0) q else x.getD j 0
  | 0, c, x, hc, hx => by rw [elimS, if_neg (by omega)]
  | d + 1, c, x, hc, hx => by
    rw [elimS, elim_get hb ho j d (c + 1) _ (by omega) (Dig.step hq hb ho hx (by omega)), set_getD _ _ _ _ (by rw [hx.len]; omega)]
    by_cases e : j = c
    · subst e
      rw [if_neg (by omega), if_pos rfl, if_pos (by omega)]
    · rw [if_neg e]
      by_cases h : c + 1 ≤ j ∧ j < c + 1 + d
      · rw [if_pos h, if_pos (by omega)]
      · rw [if_neg h, if_neg (by omega)]
theorem elim_mod {by_ : Int} (hb : 0 ≤ by_ ∧ by_ < q) {o x : List Int} (ho : Dig q n o) (hx : Dig q n x) (j : Nat) : q ∣ x.getD j 0 - (elimS q by_ o n 0 x).getD j 0 - by_ * o.getD j 0 := by
  have h1 := hx.dig j
  have h2 := ho.dig j
  rw [elim_get hq hb ho j n 0 x (by omega) hx]
  by_cases hj : j < n
  · have h3 := mul_in hq (a := q - by_) (b := o.getD j 0) (by omega) (by omega)
    rw [if_pos (by omega), Int.tmod_eq_emod_of_nonneg (by omega)]
    have h4 : q ∣ (x.getD j 0 + (q - by_) * o.getD j 0) - (x.getD j 0 + (q - by_) * o.getD j 0) % q := Int.dvd_self_sub_emod
    have h5 : q ∣ q * o.getD j 0 := Int.dvd_mul_right _ _
    have h6 := Int.dvd_sub h4 h5
    have e : x.getD j 0 + (q - by_) * o.getD j 0 - (x.getD j 0 + (q - by_) * o.getD j 0) % q - q * o.getD j 0 = x.getD j 0 - (x.getD j 0 + (q - by_) * o.getD j 0) % q - by_ * o.getD j 0 := by
      rw [Int.sub_mul]; omega
    rw [e] at h6
    exact h6
  · have e : o.getD j 0 = 0 := by rw [List.getD_eq_getElem?_getD, List.getElem?_eq_none (by rw [ho.len]; omega)]; rfl
    rw [if_neg (by omega), e, Int.mul_zero, Int.sub_self]
    exact ⟨0, by omega⟩
structure Steps (q : Int) (n : Nat) (done : List (List Int)) (out : List Int) : Prop where
  len : out.length = done.length
  dig : ∀ s, (h : s < done.length) → Dig q n done[s]
  lead : ∀ s, (h : s < done.length) → out.getD s 0 = leadOf done[s] 0
  zero : ∀ s t, s < t → (h : t < done.length) → out.getD s 0 ≠ -1 → done[t].getD (out.getD s 0).toNat 0 = 0
theorem lead_in {done : List (List Int)} {out : List Int} (h : Steps q n done out) {s : Nat} (hs : s < done.length) : out.getD s 0 = -1 ∨ (0 ≤ out.getD s 0 ∧ out.getD s 0 < n) := by
  rw [h.lead s hs]
  have := leadOf_in done[s] 0 (Int.le_refl _)
  rw [(h.dig s hs).len] at this
  omega
theorem red_at {done : List (List Int)} {out : List Int} (h : Steps q n done out) : ∀ (d i : Nat) (x : List Int), i + d = done.length → Dig q n x → (∀ s, s < i → out.getD s 0 ≠ -1 → x.getD (out.getD s 0).toNat 0 = 0) →
    Dig q n (red q n (done.drop i) (out.drop i) x) ∧ (∀ s, s < done.length → out.getD s 0 ≠ -1 → (red q n (done.drop i) (out.drop i) x).getD (out.getD s 0).toNat 0 = 0) ∧ ∃ c : Nat → Int, ∀ j, q ∣ x.getD j 0 - (red q n (done.drop i) (out.drop i) x).getD j 0 - sumI done.length (fun s => c s * fam done s j)
  | 0, i, x, hi, hx, hz => by
    have e : red q n (done.drop i) (out.drop i) x = x := by
      rw [List.drop_eq_nil_of_le (by omega)]
      unfold red
      rfl
    rw [e]
    refine ⟨hx, fun s hs => hz s (by omega), fun _ => 0, fun j => ?_⟩
    rw [Int.sub_self, sumI_congr (g := fun _ => 0) (fun s _ => Int.zero_mul _), sumI_zero]
    exact ⟨0, by omega⟩
  | d + 1, i, x, hi, hx, hz => by
    have hi2 : i < done.length := by omega
    have hi3 : i < out.length := by rw [h.len]; exact hi2
    have ho := h.dig i hi2
    have hl := h.lead i hi2
    have hge : out.getD i 0 = out[i] := gD_lt _ _ hi3
    rw [List.drop_eq_getElem_cons hi2, List.drop_eq_getElem_cons hi3, red, ← hge]
    by_cases e : out.getD i 0 = -1
    · rw [if_pos e]
      exact red_at h d (i + 1) x (by omega) hx (fun s hs hne => by
        by_cases es : s = i
        · subst es; exact absurd e hne
        · exact hz s (by omega) hne)
    · rw [if_neg e]
      have hb := by_in hq ho hx (out.getD i 0).toNat
      have hm := elim_mod hq hb ho hx
      have hx2 := Dig.elim hq hb ho n 0 x (by omega) hx
      obtain ⟨by_, hby⟩ : ∃ b, b = Int.tmod (x.getD (out.getD i 0).toNat 0 * done[i].getD (out.getD i 0).toNat 0) q := ⟨_, rfl⟩
      rw [← hby] at hb hm hx2 ⊢
      obtain ⟨y, hy⟩ : ∃ y, y = elimS q by_ done[i] n 0 x := ⟨_, rfl⟩
      rw [← hy] at hm hx2 ⊢
      have ih := red_at h d (i + 1) y (by omega) hx2 (fun s hs hne => by
        refine dig_zero hq (hx2.dig _) ?_
        have m := hm (out.getD s 0).toNat
        by_cases es : s = i
        · subst es
          have hd := ho.dig (out.getD s 0).toNat
          have hn : done[s].getD (out.getD s 0).toNat 0 ≠ 0 := by rw [hl]; exact leadOf_ne (by rw [← hl]; exact hne)
          have hxd := hx.dig (out.getD s 0).toNat
          obtain ⟨a, ha⟩ : ∃ a, a = x.getD (out.getD s 0).toNat 0 := ⟨_, rfl⟩
          obtain ⟨b, hbb⟩ : ∃ b, b = done[s].getD (out.getD s 0).toNat 0 := ⟨_, rfl⟩
          rw [← ha, ← hbb] at m hby
          rw [← hbb] at hd hn
          rw [← ha] at hxd
          have hq2 : q = 2 ∨ q = 3 := by omega
          have ha3 : a = 0 ∨ a = 1 ∨ a = 2 := by omega
          have hb3 : b = 1 ∨ b = 2 := by omega
          rcases hq2 with rfl | rfl <;> rcases ha3 with rfl | rfl | rfl <;> rcases hb3 with rfl | rfl <;> first | (exfalso; omega) | (have hbv : by_ = _ := hby; simp at hbv; subst hbv; omega)
        · have z1 := hz s (by omega) hne
          have z2 := h.zero s i (by omega) hi2 hne
          rw [z1, z2, Int.mul_zero, Int.sub_zero, Int.zero_sub] at m
          exact Int.dvd_neg.1 m)
      obtain ⟨g1, g2, c, hc⟩ := ih
      refine ⟨g1, g2, fun s => c s + (if s = i then by_ else 0), fun j => ?_⟩
      have e1 : sumI done.length (fun s => (c s + (if s = i then by_ else 0)) * fam done s j) = sumI done.length (fun s => c s * fam done s j) + by_ * done[i].getD j 0 := by
        rw [sumI_congr (g := fun s => c s * fam done s j + (if s = i then by_ else 0) * fam done s j) (fun s _ => Int.add_mul _ _ _), sumI_add, sumI_one, if_pos hi2, fam_lt hi2]
      have h1 := Int.dvd_add (hc j) (hm j)
      rw [e1]
      have e2 : y.getD j 0 - (red q n (done.drop (i + 1)) (out.drop (i + 1)) y).getD j 0 - sumI done.length (fun s => c s * fam done s j) + (x.getD j 0 - y.getD j 0 - by_ * done[i].getD j 0) = x.getD j 0 - (red q n (done.drop (i + 1)) (out.drop (i + 1)) y).getD j 0 - (sumI done.length (fun s => c s * fam done s j) + by_ * done[i].getD j 0) := by omega
      rw [e2] at h1
      exact h1
end
end Go.Proofs.Ytadkkcdhgepbkaa.LeadLaw
end
section
namespace Go.Proofs.Ytadkkcdhgepbkaa.LeadLaw
set_option linter.unusedVariables false
set_option linter.unusedSectionVars false
open Go.RowKit Go.Proofs.YtadkkcdhgepbkaaW.PrintWords Go.Proofs.YtadkkcdhgepbkaaW.PrintLast Go.Proofs.YtadkkcdhgepbkaaW.PrintMore
open Go.Proofs.YtadkkcdhgepbkaaL Go.Proofs.Ytadkkcdhgepbkaa.LeadsK Go.Proofs.Ytadkkcdhgepbkaa.LinAlg Go.Proofs.Ytadkkcdhgepbkaa.Walk
theorem app_lt {α : Type} {a : List α} {y : α} {s : Nat} (h : s < a.length) (h2 : s < (a ++ [y]).length) : (a ++ [y])[s]'h2 = a[s] := List.getElem_append_left h
theorem app_new {α : Type} {a : List α} {y : α} (h2 : a.length < (a ++ [y]).length) : (a ++ [y])[a.length]'h2 = y := by simp
theorem getD_app {a : List Int} {y : Int} {s : Nat} (h : s < a.length) : (a ++ [y]).getD s 0 = a.getD s 0 := by
  rw [List.getD_eq_getElem?_getD, List.getD_eq_getElem?_getD, List.getElem?_append_left h]
theorem getD_new {a : List Int} {y : Int} : (a ++ [y]).getD a.length 0 = y := by
  rw [List.getD_eq_getElem?_getD, List.getElem?_append_right (Nat.le_refl _), Nat.sub_self]
  rfl
theorem Span.unit {q : Int} {n k : Nat} {A : Nat → Nat → Int} {v : Nat → Int} {t : Nat} (ht : t < k) (h : ∀ j, j < n → v j = A t j) : Span q n k A v := by
  refine ⟨fun s => if s = t then 1 else 0, fun j hj => ?_⟩
  rw [sumI_one, if_pos ht, Int.one_mul, h j hj, Int.sub_self]
  exact ⟨0, by omega⟩
theorem Span.less {q : Int} {n k l : Nat} {A B : Nat → Nat → Int} {v y : Nat → Int} {c : Nat → Int} (hv : Span q n k A v) (hB : ∀ s, s < l → Span q n k A (B s)) (h : ∀ j, j < n → q ∣ v j - y j - sumI l (fun s => c s * B s j)) : Span q n k A y := by
  refine Span.trans (A := fun s => if s < l then B s else v) (k := l + 1) ⟨fun s => if s < l then -c s else 1, fun j hj => ?_⟩ (fun s hs => ?_)
  · have e : sumI (l + 1) (fun s => (if s < l then -c s else 1) * (if s < l then B s else v) j) = v j - sumI l (fun s => c s * B s j) := by
      have e1 : sumI (l + 1) (fun s => (if s < l then -c s else 1) * (if s < l then B s else v) j) = sumI l (fun s => (if s < l then -c s else 1) * (if s < l then B s else v) j) + (if l < l then -c l else 1) * (if l < l then B l else v) j := rfl
      have e2 : sumI l (fun s => (if s < l then -c s else 1) * (if s < l then B s else v) j) = sumI l (fun s => (-1) * (c s * B s j)) := sumI_congr (fun s hs => by
        rw [if_pos hs, if_pos hs, Int.neg_mul]; omega)
      rw [e1, e2, sumI_mul, if_neg (by omega), if_neg (by omega), Int.one_mul]
      omega
    rw [e]
    have h1 := Int.dvd_neg.2 (h j hj)
    have e3 : -(v j - y j - sumI l (fun s => c s * B s j)) = y j - (v j - sumI l (fun s => c s * B s j)) := by omega
    rw [e3] at h1
    exact h1
  · by_cases hl : s < l
    · rw [if_pos hl]; exact hB s hl
    · rw [if_neg hl]; exact hv
section
variable {q : Int} (hq : 2 ≤ q ∧ q ≤ 3) {n : Nat}
include hq
theorem steps_snoc {done : List (List Int)} {out : List Int} (h : Steps q n done out) {x : List Int} (hx : Dig q n x) : Steps q n (done ++ [red q n done out x]) (out ++ [leadOf (red q n done out x) 0]) := by
  obtain ⟨g1, g2, _⟩ := red_at hq h done.length 0 x (by omega) hx (fun s hs => by omega)
  rw [List.drop_zero, List.drop_zero] at g1 g2
  obtain ⟨y, hy⟩ : ∃ y, y = red q n done out x := ⟨_, rfl⟩
  rw [← hy] at g1 g2 ⊢
  have hlen := h.len
  refine ⟨by rw [List.length_append, List.length_append, hlen]; rfl, fun s hs => ?_, fun s hs => ?_, fun s t hst ht hne => ?_⟩
  · by_cases hl : s < done.length
    · rw [app_lt hl]; exact h.dig s hl
    · have e : s = done.length := by rw [List.length_append, List.length_singleton] at hs; omega
      subst e
      rw [app_new]; exact g1
  · by_cases hl : s < done.length
    · rw [app_lt hl, getD_app (by omega)]; exact h.lead s hl
    · have e : s = done.length := by rw [List.length_append, List.length_singleton] at hs; omega
      subst e
      rw [app_new, ← hlen, getD_new]
  · rw [List.length_append, List.length_singleton] at ht
    rw [getD_app (by omega)] at hne ⊢
    by_cases hl : t < done.length
    · rw [app_lt hl]; exact h.zero s t hst hl hne
    · have e : t = done.length := by omega
      subst e
      rw [app_new]; exact g2 s hst hne
theorem run {all : List (List Int)} (hall : ∀ s, (h : s < all.length) → Dig q n all[s]) : ∀ (d i : Nat) (done : List (List Int)) (out : List Int), i + d = all.length → done.length = i → Steps q n done out → (∀ s, s < i → Span q n all.length (fam all) (fam done s)) → (∀ s, s < i → Span q n i (fam done) (fam all s)) →
    ∃ dn, Steps q n dn (leadsF q n (all.drop i) done out) ∧ dn.length = all.length ∧ (∀ s, s < all.length → Span q n all.length (fam all) (fam dn s)) ∧ (∀ s, s < all.length → Span q n all.length (fam dn) (fam all s))
  | 0, i, done, out, hi, hd, hs, h1, h2 => by
    have e : i = all.length := by omega
    subst e
    rw [List.drop_length, leadsF]
    exact ⟨done, hs, hd, h1, h2⟩
  | d + 1, i, done, out, hi, hd, hs, h1, h2 => by
    subst hd
    have hi2 : done.length < all.length := by omega
    obtain ⟨g1, g2, c, hc⟩ := red_at hq hs done.length 0 all[done.length] (by omega) (hall _ hi2) (fun s hs => by omega)
    rw [List.drop_zero, List.drop_zero] at hc
    rw [List.drop_eq_getElem_cons hi2, leadsF]
    have hst := steps_snoc hq hs (hall _ hi2)
    obtain ⟨y, hy⟩ : ∃ y, y = red q n done out all[done.length] := ⟨_, rfl⟩
    rw [← hy] at hst hc ⊢
    refine run hall d (done.length + 1) (done ++ [y]) (out ++ [leadOf y 0]) (by omega) (by rw [List.length_append]; rfl) hst (fun s hs2 => ?_) (fun s hs2 => ?_)
    · by_cases hl : s < done.length
      · rw [fam_app hl]; exact h1 s hl
      · have e : s = done.length := by omega
        subst e
        refine Span.less (v := fam all done.length) (B := fam done) (l := done.length) (c := c) (Span.unit hi2 (fun j _ => rfl)) h1 (fun j hj => ?_)
        rw [fam_new, fam_lt hi2]
        exact hc j
    · by_cases hl : s < done.length
      · obtain ⟨a, ha⟩ := h2 s hl
        refine ⟨fun t => if t < done.length then a t else 0, fun j hj => ?_⟩
        have e : sumI (done.length + 1) (fun t => (if t < done.length then a t else 0) * fam (done ++ [y]) t j) = sumI done.length (fun t => a t * fam done t j) := by
          have e1 : sumI (done.length + 1) (fun t => (if t < done.length then a t else 0) * fam (done ++ [y]) t j) = sumI done.length (fun t => (if t < done.length then a t else 0) * fam (done ++ [y]) t j) + (if done.length < done.length then a done.length else 0) * fam (done ++ [y]) done.length j := rfl
          rw [e1, if_neg (by omega), Int.zero_mul, Int.add_zero]
          exact sumI_congr (fun t ht => by rw [if_pos ht, fam_app ht])
        rw [e]
        exact ha j hj
      · have e : s = done.length := by omega
        subst e
        refine ⟨fun t => if t < done.length then c t else 1, fun j hj => ?_⟩
        have e : sumI (done.length + 1) (fun t => (if t < done.length then c t else 1) * fam (done ++ [y]) t j) = sumI done.length (fun t => c t * fam done t j) + y.getD j 0 := by
          have e1 : sumI (done.length + 1) (fun t => (if t < done.length then c t else 1) * fam (done ++ [y]) t j) = sumI done.length (fun t => (if t < done.length then c t else 1) * fam (done ++ [y]) t j) + (if done.length < done.length then c done.length else 1) * fam (done ++ [y]) done.length j := rfl
          rw [e1, if_neg (by omega), Int.one_mul, fam_new]
          congr 1
          exact sumI_congr (fun t ht => by rw [if_pos ht, fam_app ht])
        have h3 := hc j
        rw [e, fam_lt hi2]
        have e4 : all[done.length].getD j 0 - y.getD j 0 - sumI done.length (fun s => c s * fam done s j) = all[done.length].getD j 0 - (sumI done.length (fun t => c t * fam done t j) + y.getD j 0) := by omega
        rw [e4] at h3
        exact h3
end
section
variable {q : Int} (hq : 2 ≤ q ∧ q ≤ 3) {n : Nat}
include hq
end
end Go.Proofs.Ytadkkcdhgepbkaa.LeadLaw
end
section
namespace Go.Proofs.Ytadkkcdhgepbkaa.Hagl
set_option linter.unusedVariables false
set_option linter.unusedSectionVars false
open Go.RowKit Go.Proofs.YtadkkcdhgepbkaaW.PrintWords Go.Proofs.YtadkkcdhgepbkaaW.PrintLast Go.Proofs.YtadkkcdhgepbkaaW.PrintMore
open Go.Proofs.YtadkkcdhgepbkaaL Go.Proofs.Ytadkkcdhgepbkaa.LeadsK Go.Proofs.Ytadkkcdhgepbkaa.LinAlg Go.Proofs.Ytadkkcdhgepbkaa.LeadLaw Go.Proofs.Ytadkkcdhgepbkaa.Walk
def sumTo : Nat → (Nat → Nat) → Nat
  | 0, _ => 0
  | n + 1, f => sumTo n f + f n
theorem sum_congr {f g : Nat → Nat} : ∀ {n : Nat}, (∀ i, i < n → f i = g i) → sumTo n f = sumTo n g
  | 0, _ => rfl
  | n + 1, h => by rw [sumTo, sumTo, sum_congr (fun i hi => h i (by omega)), h n (by omega)]
theorem sum_const (v : Nat) : ∀ n, sumTo n (fun _ => v) = n * v
  | 0 => by rw [sumTo, Nat.zero_mul]
  | n + 1 => by rw [sumTo, sum_const v n, Nat.succ_mul]
theorem sum_add (f g : Nat → Nat) : ∀ n, sumTo n (fun i => f i + g i) = sumTo n f + sumTo n g
  | 0 => rfl
  | n + 1 => by rw [sumTo, sumTo, sumTo, sum_add f g n]; omega
theorem sum_mul (k : Nat) (f : Nat → Nat) : ∀ n, sumTo n (fun i => k * f i) = k * sumTo n f
  | 0 => rfl
  | n + 1 => by rw [sumTo, sumTo, sum_mul k f n, Nat.mul_add]
theorem sum_zero : ∀ n, sumTo n (fun _ => 0) = 0
  | 0 => rfl
  | n + 1 => by rw [sumTo, sum_zero n]
theorem sum_swap (F : Nat → Nat → Nat) (m : Nat) : ∀ n, sumTo n (fun i => sumTo m (F i)) = sumTo m (fun j => sumTo n (fun i => F i j))
  | 0 => (sum_zero m).symm
  | n + 1 => by
    rw [sumTo, sum_swap F m n, ← sum_add]
    rfl
def sumM (Q : Nat) (E : Nat → Bool) : Nat → List Int → Nat → (List Int → Nat) → Nat
  | 0, row, _, f => f row
  | d + 1, row, c, f => if E c = true then sumM Q E d (row.set c 0) (c + 1) f else sumTo Q (fun a => sumM Q E d (row.set c (a : Int)) (c + 1) f)
section
variable {Q : Nat} {E : Nat → Bool}
theorem sumM_congr {f g : List Int → Nat} (h : ∀ y, f y = g y) : ∀ (d : Nat) (row : List Int) (c : Nat), sumM Q E d row c f = sumM Q E d row c g
  | 0, row, c => h row
  | d + 1, row, c => by
    rw [sumM, sumM]
    split
    · exact sumM_congr h d _ _
    · exact sum_congr (fun a _ => sumM_congr h d _ _)
theorem sumM_over {f : List Int → Nat} : ∀ (d : Nat) (row row2 : List Int) (c : Nat), row.length = row2.length → c + d ≤ row.length → (∀ j, (j < c ∨ c + d ≤ j) → row.getD j 0 = row2.getD j 0) → sumM Q E d row c f = sumM Q E d row2 c f
  | 0, row, row2, c, hl, hc, h => by
    have : row = row2 := List.ext_getElem hl (fun j h1 h2 => by
      have := h j (by omega)
      rwa [gD_lt _ _ h1, gD_lt _ _ h2] at this)
    rw [this]
  | d + 1, row, row2, c, hl, hc, h => by
    have key : ∀ a : Int, sumM Q E d (row.set c a) (c + 1) f = sumM Q E d (row2.set c a) (c + 1) f := fun a =>
      sumM_over d _ _ (c + 1) (by rw [List.length_set, List.length_set, hl]) (by rw [List.length_set]; omega) (fun j hj => by
        rw [set_getD _ _ _ _ (by omega), set_getD _ _ _ _ (by omega)]
        by_cases e : j = c
        · rw [if_pos e, if_pos e]
        · rw [if_neg e, if_neg e]; exact h j (by omega))
    rw [sumM, sumM]
    split
    · exact key 0
    · exact sum_congr (fun a _ => key _)
theorem set_comm (row : List Int) {c e : Nat} (h : c ≠ e) (a b : Int) : (row.set c a).set e b = (row.set e b).set c a := List.set_comm a b h
theorem sumM_set {f : List Int → Nat} {e : Nat} (a b : Int) : ∀ (d : Nat) (row : List Int) (c : Nat), (e < c ∨ c + d ≤ e) → sumM Q E d (row.set e a) c f = sumM Q E d (row.set e b) c (fun y => f (y.set e a))
  | 0, row, c, h => by rw [sumM, sumM, List.set_set]
  | d + 1, row, c, h => by
    have k1 : ∀ v u : Int, (row.set e v).set c u = (row.set c u).set e v := fun v u => List.set_comm v u (by omega)
    rw [sumM, sumM]
    split
    · rw [k1, k1]
      exact sumM_set a b d _ (c + 1) (by omega)
    · refine sum_congr (fun x _ => ?_)
      rw [k1, k1]
      exact sumM_set a b d _ (c + 1) (by omega)
theorem sumM_pull {f : List Int → Nat} {e : Nat} (he : E e = false) : ∀ (d : Nat) (row : List Int) (c : Nat), c ≤ e → e < c + d → sumM Q E d row c f = sumTo Q (fun a => sumM Q (fun x => E x || x == e) d row c (fun y => f (y.set e (a : Int))))
  | 0, row, c, h1, h2 => by omega
  | d + 1, row, c, h1, h2 => by
    by_cases ec : c = e
    · subst ec
      have e1 : ∀ a : Nat, sumM Q (fun x => E x || x == c) (d + 1) row c (fun y => f (y.set c (a : Int))) = sumM Q E d (row.set c (a : Int)) (c + 1) f := by
        intro a
        rw [sumM, if_pos (by rw [beq_self_eq_true, Bool.or_true]), sumM_set (a : Int) 0 d row (c + 1) (.inl (by omega))]
        have : ∀ (d : Nat) (row : List Int) (c2 : Nat) (g : List Int → Nat), c < c2 → sumM Q (fun x => E x || x == c) d row c2 g = sumM Q E d row c2 g := by
          intro d
          induction d with
          | zero => intro row c2 g _; rfl
          | succ d ih =>
            intro row c2 g hc2
            rw [sumM, sumM]
            have e3 : (E c2 || c2 == c) = E c2 := by rw [beq_eq_false_iff_ne.2 (by omega), Bool.or_false]
            rw [e3]
            split
            · exact ih _ _ _ (by omega)
            · exact sum_congr (fun x _ => ih _ _ _ (by omega))
        exact this d _ _ _ (by omega)
      rw [sumM, if_neg (by rw [he]; simp)]
      exact sum_congr (fun a _ => (e1 a).symm)
    · have e3 : (E c || c == e) = E c := by rw [beq_eq_false_iff_ne.2 ec, Bool.or_false]
      rw [sumM]
      by_cases hE : E c = true
      · rw [if_pos hE, sumM_pull he d _ (c + 1) (by omega) (by omega)]
        refine sum_congr (fun a _ => ?_)
        rw [sumM, if_pos (by rw [e3]; exact hE)]
      · rw [if_neg hE, sum_congr (fun x _ => sumM_pull he d (row.set c (x : Int)) (c + 1) (by omega) (by omega)), sum_swap]
        refine sum_congr (fun a _ => ?_)
        rw [sumM, if_neg (by rw [e3]; exact hE)]
end
section
variable {q : Int} (hq : 2 ≤ q ∧ q ≤ 3) {E : Nat → Bool}
include hq
theorem shift (w : Int) (hw : 0 ≤ w ∧ w ≤ 20) (g : Int → Nat) : sumTo q.toNat (fun a => g (Int.tmod ((a : Int) + w) q)) = sumTo q.toNat (fun a => g (a : Int)) := by
  have h1 : ∀ a : Nat, Int.tmod ((a : Int) + w) q = ((a : Int) + w) % q := fun a => Int.tmod_eq_emod_of_nonneg (by omega)
  rw [sum_congr (fun a _ => by rw [h1 a])]
  have hq2 : q = 2 ∨ q = 3 := by omega
  rcases hq2 with rfl | rfl
  · have e : ∀ f : Nat → Nat, sumTo (2 : Int).toNat f = f 0 + f 1 := fun f => by
      show 0 + f 0 + f 1 = _
      omega
    rw [e, e]
    have hw2 : w % 2 = 0 ∨ w % 2 = 1 := by omega
    rcases hw2 with h | h
    · rw [show (((0 : Nat) : Int) + w) % 2 = ((0 : Nat) : Int) by omega, show (((1 : Nat) : Int) + w) % 2 = ((1 : Nat) : Int) by omega]
    · rw [show (((0 : Nat) : Int) + w) % 2 = ((1 : Nat) : Int) by omega, show (((1 : Nat) : Int) + w) % 2 = ((0 : Nat) : Int) by omega, Nat.add_comm]
  · have e : ∀ f : Nat → Nat, sumTo (3 : Int).toNat f = f 0 + f 1 + f 2 := fun f => by
      show 0 + f 0 + f 1 + f 2 = _
      omega
    rw [e, e]
    have hw2 : w % 3 = 0 ∨ w % 3 = 1 ∨ w % 3 = 2 := by omega
    rcases hw2 with h | h | h
    · rw [show (((0 : Nat) : Int) + w) % 3 = ((0 : Nat) : Int) by omega, show (((1 : Nat) : Int) + w) % 3 = ((1 : Nat) : Int) by omega, show (((2 : Nat) : Int) + w) % 3 = ((2 : Nat) : Int) by omega]
    · rw [show (((0 : Nat) : Int) + w) % 3 = ((1 : Nat) : Int) by omega, show (((1 : Nat) : Int) + w) % 3 = ((2 : Nat) : Int) by omega, show (((2 : Nat) : Int) + w) % 3 = ((0 : Nat) : Int) by omega]
      omega
    · rw [show (((0 : Nat) : Int) + w) % 3 = ((2 : Nat) : Int) by omega, show (((1 : Nat) : Int) + w) % 3 = ((0 : Nat) : Int) by omega, show (((2 : Nat) : Int) + w) % 3 = ((1 : Nat) : Int) by omega]
      omega
def addW (q : Int) (w : Nat → Int) (y : List Int) : List Int := (List.range y.length).map (fun j => Int.tmod (y.getD j 0 + w j) q)
theorem addW_len (w : Nat → Int) (y : List Int) : (addW q w y).length = y.length := by unfold addW; rw [List.length_map, List.length_range]
theorem addW_get (w : Nat → Int) (y : List Int) {j : Nat} (hj : j < y.length) : (addW q w y).getD j 0 = Int.tmod (y.getD j 0 + w j) q := by
  rw [gD_lt _ _ (by rw [addW_len hq]; exact hj)]
  unfold addW
  rw [List.getElem_map, List.getElem_range]
theorem addW_set (w : Nat → Int) (y : List Int) {c : Nat} (hc : c < y.length) (a : Int) : addW q w (y.set c a) = (addW q w y).set c (Int.tmod (a + w c) q) := by
  refine List.ext_getElem (by rw [addW_len hq, List.length_set, List.length_set, addW_len hq]) (fun j h1 h2 => ?_)
  have hj : j < y.length := by rw [addW_len hq, List.length_set] at h1; exact h1
  rw [← gD_lt _ 0 h1, ← gD_lt _ 0 h2, addW_get hq _ _ (by rw [List.length_set]; exact hj), set_getD _ _ _ _ hc, set_getD _ _ _ _ (by rw [addW_len hq]; exact hc)]
  by_cases e : j = c
  · subst e; rw [if_pos rfl, if_pos rfl]
  · rw [if_neg e, if_neg e, addW_get hq _ _ hj]
theorem sumM_shift {f : List Int → Nat} {w : Nat → Int} (hw : ∀ j, 0 ≤ w j ∧ w j ≤ 20) (hE : ∀ j, E j = true → Int.tmod (w j) q = 0) : ∀ (d : Nat) (row : List Int) (c : Nat), c + d ≤ row.length → sumM q.toNat E d row c (fun y => f (addW q w y)) = sumM q.toNat E d (addW q w row) c f
  | 0, row, c, hc => rfl
  | d + 1, row, c, hc => by
    rw [sumM, sumM]
    have hlen : ∀ a : Int, c + 1 + d ≤ (row.set c a).length := fun a => by rw [List.length_set]; omega
    by_cases h : E c = true
    · rw [if_pos h, if_pos h, sumM_shift hw hE d _ (c + 1) (hlen _), addW_set hq _ _ (by omega), Int.zero_add, hE c h]
    · rw [if_neg h, if_neg h, sum_congr (fun a _ => by rw [sumM_shift hw hE d _ (c + 1) (hlen _), addW_set hq _ _ (by omega)])]
      exact shift hq (w c) (hw c) (fun v => sumM q.toNat E d ((addW q w row).set c v) (c + 1) f)
end
end Go.Proofs.Ytadkkcdhgepbkaa.Hagl
end
section
namespace Go.Proofs.Ytadkkcdhgepbkaa.Hagl
set_option linter.unusedVariables false
set_option linter.unusedSectionVars false
open Go.RowKit Go.Proofs.YtadkkcdhgepbkaaW.PrintWords Go.Proofs.YtadkkcdhgepbkaaW.PrintLast Go.Proofs.YtadkkcdhgepbkaaW.PrintMore
open Go.Proofs.YtadkkcdhgepbkaaL Go.Proofs.Ytadkkcdhgepbkaa.LeadsK Go.Proofs.Ytadkkcdhgepbkaa.LinAlg Go.Proofs.Ytadkkcdhgepbkaa.LeadLaw Go.Proofs.Ytadkkcdhgepbkaa.Walk
section
variable {Q : Nat} {E : Nat → Bool}
theorem sumM_add (f g : List Int → Nat) : ∀ (d : Nat) (row : List Int) (c : Nat), sumM Q E d row c (fun y => f y + g y) = sumM Q E d row c f + sumM Q E d row c g
  | 0, row, c => rfl
  | d + 1, row, c => by
    rw [sumM, sumM, sumM]
    split
    · exact sumM_add f g d _ _
    · rw [← sum_add]
      exact sum_congr (fun a _ => sumM_add f g d _ _)
theorem sumM_mul (k : Nat) (f : List Int → Nat) : ∀ (d : Nat) (row : List Int) (c : Nat), sumM Q E d row c (fun y => f y * k) = sumM Q E d row c f * k
  | 0, row, c => rfl
  | d + 1, row, c => by
    rw [sumM, sumM]
    split
    · exact sumM_mul k f d _ _
    · rw [Nat.mul_comm, ← sum_mul]
      exact sum_congr (fun a _ => by rw [sumM_mul k f d _ _, Nat.mul_comm])
theorem sumM_all : ∀ (d : Nat) (row : List Int) (c : Nat), sumM Q (fun _ => false) d row c (fun _ => 1) = Q ^ d
  | 0, row, c => rfl
  | d + 1, row, c => by
    rw [sumM, if_neg (by simp), sum_congr (fun a _ => sumM_all d _ _), sum_const, Nat.pow_succ, Nat.mul_comm]
theorem leadOf_all : ∀ (x : List Int) (i : Int), (∀ j, x.getD j 0 = 0) → leadOf x i = -1
  | [], i, _ => rfl
  | a :: t, i, h => by
    have h0 := h 0
    have e : a = 0 := h0
    rw [leadOf, if_pos e]
    exact leadOf_all t (i + 1) (fun j => h (j + 1))
theorem none_zero (hQ : 1 ≤ Q) : ∀ (d : Nat) (row : List Int) (c : Nat), c + d ≤ row.length → ((∀ j, (j < c ∨ c + d ≤ j) → row.getD j 0 = 0) → sumM Q E d row c (fun y => if leadOf y 0 = -1 then 1 else 0) = 1) ∧ ((∃ j, j < c ∧ row.getD j 0 ≠ 0) → sumM Q E d row c (fun y => if leadOf y 0 = -1 then 1 else 0) = 0)
  | 0, row, c, hc => by
    refine ⟨fun h => ?_, fun ⟨j, hj, hn⟩ => ?_⟩
    · rw [sumM, if_pos (leadOf_all row 0 (fun j => h j (by omega)))]
    · rw [sumM, if_neg (fun e => hn (leadOf_none row 0 (Int.le_refl _) e j))]
  | d + 1, row, c, hc => by
    have key : ∀ a : Int, c + 1 + d ≤ (row.set c a).length := fun a => by rw [List.length_set]; omega
    have g : ∀ (a : Int) (j : Nat), (row.set c a).getD j 0 = if j = c then a else row.getD j 0 := fun a j => set_getD _ _ _ _ (by omega)
    refine ⟨fun h => ?_, fun ⟨j, hj, hn⟩ => ?_⟩
    · have z : sumM Q E d (row.set c 0) (c + 1) (fun y => if leadOf y 0 = -1 then 1 else 0) = 1 := (none_zero hQ d _ (c + 1) (key 0)).1 (fun j hj => by
        rw [g]
        split
        · rfl
        · exact h j (by omega))
      rw [sumM]
      split
      · exact z
      · have e : ∀ a, a < Q → sumM Q E d (row.set c (a : Int)) (c + 1) (fun y => if leadOf y 0 = -1 then 1 else 0) = if 0 = a then 1 else 0 := by
          intro a _
          by_cases ha : 0 = a
          · subst ha
            rw [if_pos rfl]
            exact z
          · rw [if_neg ha]
            exact (none_zero hQ d _ (c + 1) (key _)).2 ⟨c, by omega, by rw [g, if_pos rfl]; omega⟩
        rw [sum_congr e]
        have : ∀ n, 1 ≤ n → sumTo n (fun a => if 0 = a then 1 else 0) = 1 := by
          intro n
          induction n with
          | zero => intro h; omega
          | succ n ih =>
            intro _
            rw [sumTo]
            by_cases h0 : n = 0
            · subst h0; rfl
            · rw [ih (by omega), if_neg (by omega)]
        exact this Q hQ
    · have z : ∀ a : Int, sumM Q E d (row.set c a) (c + 1) (fun y => if leadOf y 0 = -1 then 1 else 0) = 0 := fun a =>
        (none_zero hQ d _ (c + 1) (key a)).2 ⟨j, by omega, by rw [g, if_neg (by omega)]; exact hn⟩
      rw [sumM]
      split
      · exact z 0
      · rw [sum_congr (fun a _ => z _), sum_zero]
end
section
variable {q : Int} (hq : 2 ≤ q ∧ q ≤ 3) {n : Nat}
include hq
theorem sumM_on {E : Nat → Bool} {f g : List Int → Nat} {m : Nat} (h : ∀ y, Dig q n y → (∀ j, E j = true → y.getD j 0 = 0) → (∀ j, m ≤ j → y.getD j 0 = 0) → f y = g y) : ∀ (d : Nat) (row : List Int) (c : Nat), row.length = n → c + d = m → m ≤ n → (∀ j, (j < c ∨ c + d ≤ j) → (0 ≤ row.getD j 0 ∧ row.getD j 0 < q) ∧ (E j = true → row.getD j 0 = 0)) → (∀ j, m ≤ j → row.getD j 0 = 0) → sumM q.toNat E d row c f = sumM q.toNat E d row c g
  | 0, row, c, hl, hc, hm, hr, hz => h row ⟨hl, fun j => (hr j (by omega)).1⟩ (fun j => (hr j (by omega)).2) hz
  | d + 1, row, c, hl, hc, hm, hr, hz => by
    have gs : ∀ (a : Int) (j : Nat), (row.set c a).getD j 0 = if j = c then a else row.getD j 0 := fun a j => set_getD _ _ _ _ (by omega)
    have key : ∀ a : Int, 0 ≤ a ∧ a < q → (E c = true → a = 0) → sumM q.toNat E d (row.set c a) (c + 1) f = sumM q.toNat E d (row.set c a) (c + 1) g := fun a ha hE =>
      sumM_on h d _ (c + 1) (by rw [List.length_set, hl]) (by omega) hm (fun j hj => by
        rw [gs]
        by_cases e : j = c
        · rw [if_pos e, e]; exact ⟨ha, hE⟩
        · rw [if_neg e]; exact hr j (by omega)) (fun j hj => by
        rw [gs, if_neg (by omega)]; exact hz j hj)
    rw [sumM, sumM]
    split
    · exact key 0 (by omega) (fun _ => rfl)
    · rename_i hE
      exact sum_congr (fun a ha => key _ (by omega) (fun h => absurd h hE))
theorem start_ok {E : Nat → Bool} {m : Nat} : (∀ j, (j < 0 ∨ 0 + m ≤ j) → (0 ≤ (List.replicate n (0 : Int)).getD j 0 ∧ (List.replicate n (0 : Int)).getD j 0 < q) ∧ (E j = true → (List.replicate n (0 : Int)).getD j 0 = 0)) ∧ ∀ j, (List.replicate n (0 : Int)).getD j 0 = 0 := by
  have z : ∀ j, (List.replicate n (0 : Int)).getD j 0 = 0 := fun j => by
    rw [List.getD_eq_getElem?_getD, List.getElem?_replicate]
    split <;> rfl
  exact ⟨fun j _ => by rw [z]; exact ⟨by omega, fun _ => rfl⟩, z⟩
theorem clear_at {a b : Int} (ha : 0 ≤ a ∧ a < q) (hb : 0 ≤ b ∧ b < q) (hn : b ≠ 0) : Int.tmod (a + (q - Int.tmod (a * b) q) * b) q = 0 := by
  have hq2 : q = 2 ∨ q = 3 := by omega
  have ha3 : a = 0 ∨ a = 1 ∨ a = 2 := by omega
  have hb3 : b = 1 ∨ b = 2 := by omega
  rcases hq2 with rfl | rfl <;> rcases ha3 with rfl | rfl | rfl <;> rcases hb3 with rfl | rfl <;> first | (exfalso; omega) | rfl
theorem project {E : Nat → Bool} {m e : Nat} (hm : m ≤ n) {o : List Int} (ho : Dig q n o) (hE : ∀ j, E j = true → o.getD j 0 = 0) (hem : e < m) (hne : o.getD e 0 ≠ 0) (hz : ∀ j, m ≤ j → o.getD j 0 = 0) (F : List Int → Nat) :
    sumM q.toNat E m (List.replicate n 0) 0 (fun x => F (elimS q (Int.tmod (x.getD e 0 * o.getD e 0) q) o n 0 x)) = q.toNat * sumM q.toNat (fun x => E x || x == e) m (List.replicate n 0) 0 F := by
  have hEe : E e = false := by
    cases h : E e with
    | false => rfl
    | true => exact absurd (hE e h) hne
  rw [sumM_pull hEe m _ 0 (by omega) (by omega), ← sum_const]
  refine sum_congr (fun a ha => ?_)
  have haq : (0 : Int) ≤ (a : Int) ∧ (a : Int) < q := by omega
  have hoe := ho.dig e
  obtain ⟨b, hb⟩ : ∃ b, b = Int.tmod ((a : Int) * o.getD e 0) q := ⟨_, rfl⟩
  have hbr : 0 ≤ b ∧ b < q := by rw [hb]; exact mod_in hq (mul_in hq (by omega) (by omega)).1
  obtain ⟨w, hw⟩ : ∃ w : Nat → Int, w = fun j => if j = e then 0 else (q - b) * o.getD j 0 := ⟨_, rfl⟩
  have hwr : ∀ j, 0 ≤ w j ∧ w j ≤ 20 := fun j => by
    rw [hw]
    show 0 ≤ (if j = e then 0 else (q - b) * o.getD j 0) ∧ (if j = e then 0 else (q - b) * o.getD j 0) ≤ 20
    split
    · omega
    · have h1 := ho.dig j
      have := mul_in hq (a := q - b) (b := o.getD j 0) (by omega) (by omega)
      omega
  have hw0 : ∀ j, o.getD j 0 = 0 → w j = 0 := fun j h => by
    rw [hw]
    show (if j = e then 0 else (q - b) * o.getD j 0) = 0
    rw [h, Int.mul_zero]
    split <;> rfl
  have hwe : w e = 0 := by rw [hw]; exact if_pos rfl
  have h1 : sumM q.toNat (fun x => E x || x == e) m (List.replicate n 0) 0 (fun y => F (elimS q (Int.tmod ((y.set e (a : Int)).getD e 0 * o.getD e 0) q) o n 0 (y.set e (a : Int)))) = sumM q.toNat (fun x => E x || x == e) m (List.replicate n 0) 0 (fun y => F (addW q w y)) := by
    refine sumM_on hq (m := m) (fun y hy hyE hyz => ?_) m _ 0 (List.length_replicate ..) (by omega) hm (start_ok hq).1 (fun j _ => (start_ok hq (E := E) (m := m)).2 j)
    have hye : y.getD e 0 = 0 := hyE e (by simp)
    have hel : e < y.length := by rw [hy.len]; omega
    have ga : (y.set e (a : Int)).getD e 0 = a := by rw [set_getD _ _ _ _ hel, if_pos rfl]
    have hyd : Dig q n (y.set e (a : Int)) := ⟨by rw [List.length_set]; exact hy.len, fun j => by
      rw [set_getD _ _ _ _ hel]
      split
      · exact haq
      · exact hy.dig j⟩
    rw [ga, ← hb]
    congr 1
    have hl1 := (Dig.elim hq hbr ho n 0 _ (by omega) hyd).len
    refine List.ext_getElem (by rw [hl1, addW_len hq, hy.len]) (fun j j1 j2 => ?_)
    have hjn : j < n := by omega
    rw [← gD_lt _ 0 j1, ← gD_lt _ 0 j2, elim_get hq hbr ho j n 0 _ (by omega) hyd, if_pos (by omega), addW_get hq w y (by rw [hy.len]; exact hjn), set_getD _ _ _ _ hel]
    by_cases ej : j = e
    · subst ej
      rw [if_pos rfl, hwe, hye, Int.add_zero, Int.zero_tmod, hb]
      exact clear_at hq haq hoe hne
    · rw [if_neg ej]
      have : w j = (q - b) * o.getD j 0 := by rw [hw]; exact if_neg ej
      rw [this]
  rw [h1, sumM_shift hq hwr (fun j hj => by
    have : w j = 0 := by
      by_cases ej : j = e
      · rw [ej]; exact hwe
      · rw [beq_eq_false_iff_ne.2 ej, Bool.or_false] at hj
        exact hw0 j (hE j hj)
    rw [this, Int.zero_tmod]) m _ 0 (by rw [List.length_replicate]; omega)]
  refine sumM_over m _ _ 0 (by rw [addW_len hq]) (by rw [addW_len hq, List.length_replicate]; omega) (fun j hj => ?_)
  rw [(start_ok hq (E := E) (m := m)).2 j]
  by_cases hjn : j < n
  · rw [addW_get hq w _ (by rw [List.length_replicate]; exact hjn), (start_ok hq (E := E) (m := m)).2 j, hw0 j (hz j (by omega)), Int.add_zero, Int.zero_tmod]
  · rw [List.getD_eq_getElem?_getD, List.getElem?_eq_none (by rw [addW_len hq, List.length_replicate]; omega)]
    rfl
def leadsE (out : List Int) (i : Nat) : Nat → Bool := fun j => decide ((j : Int) ∈ out.take i)
theorem rooksN_cons (e : Int) (t : List Int) : rooksN (e :: t) = rooksN t + if e = -1 then 0 else 1 := by
  unfold rooksN
  rw [List.countP_cons]
  by_cases h : e = -1
  · rw [if_pos h, if_neg (by simp [h])]
  · rw [if_neg h, if_pos (by simpa using h)]
theorem red_count {m : Nat} (hm : m ≤ n) {done : List (List Int)} {out : List Int} (h : LeadLaw.Steps q n done out) (hz : ∀ s, (hs : s < done.length) → ∀ j, m ≤ j → done[s].getD j 0 = 0) (F : List Int → Nat) : ∀ (d i : Nat), i + d = done.length →
    sumM q.toNat (leadsE out i) m (List.replicate n 0) 0 (fun x => F (red q n (done.drop i) (out.drop i) x)) = q.toNat ^ rooksN (out.drop i) * sumM q.toNat (leadsE out done.length) m (List.replicate n 0) 0 F
  | 0, i, hi => by
    have e : i = done.length := by omega
    subst e
    have hl := h.len
    rw [List.drop_of_length_le (show out.length ≤ done.length by omega), List.drop_length]
    have e2 : rooksN ([] : List Int) = 0 := rfl
    rw [e2, Nat.pow_zero, Nat.one_mul]
    exact sumM_congr (fun y => by unfold red; rfl) _ _ _
  | d + 1, i, hi => by
    have hi2 : i < done.length := by omega
    have hi3 : i < out.length := by rw [h.len]; exact hi2
    have ho := h.dig i hi2
    have hl := h.lead i hi2
    have hge : out.getD i 0 = out[i] := gD_lt _ _ hi3
    have ih := red_count hm h hz F d (i + 1) (by omega)
    rw [List.drop_eq_getElem_cons hi2, List.drop_eq_getElem_cons hi3, ← hge, rooksN_cons hq]
    by_cases e : out.getD i 0 = -1
    · have eE : leadsE out (i + 1) = leadsE out i := by
        funext j
        unfold leadsE
        rw [List.take_add_one, List.getElem?_eq_getElem hi3, ← hge, e]
        have : ((j : Int) ∈ out.take i ++ [-1]) ↔ (j : Int) ∈ out.take i := by
          rw [List.mem_append, List.mem_singleton]
          exact ⟨fun h => h.elim id (fun h => by omega), .inl⟩
        exact decide_eq_decide.2 this
      rw [if_pos e]
      refine Eq.trans ?_ ih
      rw [eE]
      refine sumM_congr (fun y => ?_) _ _ _
      rw [red, if_pos e]
    · have hin := lead_in hq h hi2
      obtain ⟨p, hp⟩ : ∃ p : Nat, out.getD i 0 = p := ⟨(out.getD i 0).toNat, by omega⟩
      have hne : done[i].getD p 0 ≠ 0 := by
        have := leadOf_ne (x := done[i]) (by rw [← hl]; exact e)
        rw [← hl, hp, Int.toNat_natCast] at this
        exact this
      have hpm : p < m := Nat.lt_of_not_le (fun hle => hne (hz i hi2 p hle))
      have hEz : ∀ j, leadsE out i j = true → done[i].getD j 0 = 0 := by
        intro j hj
        unfold leadsE at hj
        rw [decide_eq_true_eq] at hj
        obtain ⟨s, hs, es⟩ := List.mem_iff_getElem.1 hj
        rw [List.length_take] at hs
        rw [List.getElem_take] at es
        have hg : out.getD s 0 = (j : Int) := by rw [gD_lt _ _ (by omega)]; exact es
        have := h.zero s i (by omega) hi2 (by rw [hg]; omega)
        rw [hg, Int.toNat_natCast] at this
        exact this
      have eE : leadsE out (i + 1) = fun x => leadsE out i x || x == p := by
        funext j
        unfold leadsE
        rw [List.take_add_one, List.getElem?_eq_getElem hi3, ← hge, hp, Bool.eq_iff_iff, decide_eq_true_eq, Bool.or_eq_true, decide_eq_true_eq, beq_iff_eq]
        rw [List.mem_append]
        have : ((j : Int) ∈ (some (p : Int)).toList) ↔ j = p := by simp; omega
        rw [this]
      rw [if_neg e, Nat.pow_succ, Nat.mul_assoc, Nat.mul_left_comm, ← ih, eE]
      have := project hq hm ho hEz hpm hne (hz i hi2) (fun y => F (red q n (done.drop (i + 1)) (out.drop (i + 1)) y))
      rw [← this]
      refine sumM_congr (fun y => ?_) _ _ _
      rw [red, if_neg e, hp, Int.toNat_natCast]
theorem none_count {m : Nat} (hm : m ≤ n) {done : List (List Int)} {out : List Int} (h : LeadLaw.Steps q n done out) (hz : ∀ s, (hs : s < done.length) → ∀ j, m ≤ j → done[s].getD j 0 = 0) :
    sumM q.toNat (fun _ => false) m (List.replicate n 0) 0 (fun x => if leadOf (red q n done out x) 0 = -1 then 1 else 0) = q.toNat ^ rooksN out := by
  have := red_count hq hm h hz (fun y => if leadOf y 0 = -1 then 1 else 0) done.length 0 (by omega)
  rw [List.drop_zero, List.drop_zero, (none_zero (by omega) m _ 0 (by rw [List.length_replicate]; omega)).1 (fun j _ => (start_ok hq (E := leadsE out 0) (m := m)).2 j), Nat.mul_one] at this
  rw [← this]
  have e : leadsE out 0 = fun _ => false := by
    funext j
    unfold leadsE
    simp
  rw [e]
end
end Go.Proofs.Ytadkkcdhgepbkaa.Hagl
end
section
namespace Go.Proofs.Ytadkkcdhgepbkaa.RowsK
set_option linter.unusedVariables false
open Go.RowKit Go.Proofs.Ytadkkcdhgepbkaa.Q Go.Proofs.YtadkkcdhgepbkaaW.PrintWords Go.Proofs.YtadkkcdhgepbkaaW.PrintLast Go.Proofs.YtadkkcdhgepbkaaW.PrintMore
open Go.Proofs.YtadkkcdhgepbkaaL Go.Proofs.Ytadkkcdhgepbkaa.LawK
theorem evEq {α : Type} {g : Nat → Option α} {a b : α} (h : Ev g a) (e : a = b) : Ev g b := e ▸ h
theorem rdL {xs : List (List Int)} {i : Nat} (h : i < xs.length) : rd_L2 xs (i : Int) = xs[i] := by unfold rd_L2; rw [Int.toNat_natCast]; exact gD_lt _ _ h
end Go.Proofs.Ytadkkcdhgepbkaa.RowsK
end
section
namespace Go.Proofs.Ytadkkcdhgepbkaa.MatK
set_option linter.unusedVariables false
open Go.RowKit Go.Proofs.Ytadkkcdhgepbkaa.Q Go.Proofs.YtadkkcdhgepbkaaW.PrintWords Go.Proofs.YtadkkcdhgepbkaaW.PrintLast Go.Proofs.YtadkkcdhgepbkaaW.PrintMore
open Go.Proofs.YtadkkcdhgepbkaaL Go.Proofs.Ytadkkcdhgepbkaa.LawK Go.Proofs.Ytadkkcdhgepbkaa.BoardK Go.Proofs.Ytadkkcdhgepbkaa.RowsK
theorem evEq {α : Type} {g : Nat → Option α} {a b : α} (h : Ev g a) (e : a = b) : Ev g b := e ▸ h
theorem withinR (a b c : Int) : impl_within.f a b c = some (inR b c a) := by
  unfold impl_within.f inR
  by_cases h : b ≤ a
  · rw [if_pos h]; simp [h]
  · rw [if_neg h]; congr 1; exact (decide_eq_false (by omega)).symm
def sm : List Int → Int
  | [] => 0
  | x :: t => x + sm t
theorem sm_bd : ∀ (l : List Int), (∀ x ∈ l, 0 ≤ x ∧ x ≤ 6) → 0 ≤ sm l ∧ sm l ≤ 6 * l.length
  | [], _ => by simp [sm]
  | x :: t, h => by
    have h1 := sm_bd t (fun y hy => h y (List.mem_cons_of_mem _ hy))
    have h2 := h x List.mem_cons_self
    simp only [sm, List.length_cons]
    omega
theorem sum_l0 {l : List Int} (h6 : l.length ≤ 6) (hx : ∀ x ∈ l, 0 ≤ x ∧ x ≤ 6) : ∀ (d i : Nat) (a : Int), i + d = l.length → 0 ≤ a ∧ a ≤ 6 * i → Ev (fun k => impl_sum.l0 k a l (l.length : Int) i) (a + sm (l.drop i))
  | 0, i, a, hi, ha => by
    rw [List.drop_eq_nil_of_le (by omega), sm, Int.add_zero]
    exact Ev.step (f := fun _ => some a) (fun k => by rw [impl_sum.l0, if_neg (by omega)]) (Ev.now _)
  | d + 1, i, a, hi, ha => by
    have hi2 : i < l.length := by omega
    have hb := hx l[i] (List.getElem_mem hi2)
    have w1 : wrap64 ((i : Int) + 1) = ((i + 1 : Nat) : Int) := by rw [w64 (by omega) (by omega)]; rfl
    have w2 : wrap64 (a + l[i]) = a + l[i] := w64 (by omega) (by omega)
    have ih := sum_l0 h6 hx d (i + 1) (a + l[i]) (by omega) (by omega)
    rw [List.drop_eq_getElem_cons hi2, sm]
    exact Ev.step (fun k => by rw [impl_sum.l0, if_pos (by omega), if_pos (by omega), if_pos (by omega), rd_lt _ _ hi2, w2, w1]) (evEq ih (by omega))
theorem cells_l0 {l : List Int} (h6 : l.length ≤ 6) (hx : ∀ x ∈ l, 0 ≤ x ∧ x ≤ 6) : ∀ (d i : Nat) (a : Int), i + d = l.length → 0 ≤ a ∧ a ≤ 6 * i → Ev (fun k => spec_weCells.l0 k a l (l.length : Int) i) (a + sm (l.drop i))
  | 0, i, a, hi, ha => by
    rw [List.drop_eq_nil_of_le (by omega), sm, Int.add_zero]
    exact Ev.step (f := fun _ => some a) (fun k => by rw [spec_weCells.l0, if_neg (by omega)]) (Ev.now _)
  | d + 1, i, a, hi, ha => by
    have hi2 : i < l.length := by omega
    have hb := hx l[i] (List.getElem_mem hi2)
    have w1 : wrap64 ((i : Int) + 1) = ((i + 1 : Nat) : Int) := by rw [w64 (by omega) (by omega)]; rfl
    have w2 : wrap64 (a + l[i]) = a + l[i] := w64 (by omega) (by omega)
    have ih := cells_l0 h6 hx d (i + 1) (a + l[i]) (by omega) (by omega)
    rw [List.drop_eq_getElem_cons hi2, sm]
    exact Ev.step (fun k => by rw [spec_weCells.l0, if_pos (by omega), if_pos (by omega), if_pos (by omega), rd_lt _ _ hi2, w2, w1]) (evEq ih (by omega))
theorem sum_f {l : List Int} (h6 : l.length ≤ 6) (hx : ∀ x ∈ l, 0 ≤ x ∧ x ≤ 6) : Ev (fun k => impl_sum.f k l) (sm l) := by
  have := sum_l0 h6 hx l.length 0 0 (by omega) (by omega)
  rw [List.drop_zero, Int.zero_add] at this
  exact this
theorem cells_f {l : List Int} (h6 : l.length ≤ 6) (hx : ∀ x ∈ l, 0 ≤ x ∧ x ≤ 6) : Ev (fun k => spec_weCells.f k l) (sm l) := by
  have := cells_l0 h6 hx l.length 0 0 (by omega) (by omega)
  rw [List.drop_zero, Int.zero_add] at this
  exact this
def pw (q : Int) : Nat → Int
  | 0 => 1
  | n + 1 => pw q n * q
theorem pw_bd0 : ∀ n, n < 37 → (1 ≤ pw 2 n ∧ pw 2 n ≤ 1000000000000000000) ∧ (1 ≤ pw 3 n ∧ pw 3 n ≤ 1000000000000000000) := by decide +kernel
theorem pw_bd {q : Int} (hq : 2 ≤ q ∧ q ≤ 3) {n : Nat} (hn : n ≤ 36) : 1 ≤ pw q n ∧ pw q n ≤ 1000000000000000000 := by
  obtain rfl | rfl : q = 2 ∨ q = 3 := by omega
  · exact (pw_bd0 n (by omega)).1
  · exact (pw_bd0 n (by omega)).2
theorem pw_up {q : Int} (hq : 2 ≤ q ∧ q ≤ 3) (n : Nat) : ∀ e, n + e ≤ 36 → pw q n ≤ pw q (n + e)
  | 0, _ => Int.le_refl _
  | e + 1, h => by
    have h1 := pw_up hq n e (by omega)
    have h2 := pw_bd hq (n := n + e) (by omega)
    rw [← Nat.add_assoc, pw]
    obtain rfl | rfl : q = 2 ∨ q = 3 := by omega
    · omega
    · omega
theorem power_l0 {q : Int} (hq : 2 ≤ q ∧ q ≤ 3) : ∀ (d j : Nat), j + d ≤ 36 → Ev (fun k => spec_wePower.l0 k q (d : Int) (pw q j)) (pw q (j + d))
  | 0, j, h => Ev.step (f := fun _ => some (pw q j)) (fun k => by rw [spec_wePower.l0, if_neg (by simp)]) (Ev.now _)
  | d + 1, j, h => by
    have hb := pw_bd hq (n := j + 1) (by omega)
    have w1 : wrap64 (((d + 1 : Nat) : Int) - 1) = (d : Int) := by rw [w64 (by omega) (by omega)]; omega
    have w2 : wrap64 (pw q j * q) = pw q (j + 1) := w64 (by have := hb.1; rw [pw] at this; omega) (by have := hb.2; rw [pw] at this; omega)
    have ih := power_l0 hq d (j + 1) (by omega)
    exact Ev.step (fun k => by rw [spec_wePower.l0, if_pos (by omega), w1, w2]) (evEq ih (by congr 1; omega))
theorem power_f {q : Int} (hq : 2 ≤ q ∧ q ≤ 3) {S : Nat} (h : S ≤ 36) : Ev (fun k => spec_wePower.f k q (S : Int)) (pw q S) := by
  have := power_l0 hq S 0 (by omega)
  rw [Nat.zero_add] at this
  exact this
theorem mats_l0 {q : Int} (hq : 2 ≤ q ∧ q ≤ 3) {S : Nat} (hS : S ≤ 36) : ∀ (d j : Nat), j + d = S → pw q j ≤ 6561 → Ev (fun k => impl_matrices.l0 k q (pw q j) (S : Int) (j : Int)) (if pw q S ≤ 6561 then (pw q S, true) else (0, false))
  | 0, j, h, hj => by
    obtain rfl : j = S := by omega
    rw [if_pos hj]
    exact Ev.step (f := fun _ => some (pw q j, true)) (fun k => by rw [impl_matrices.l0, if_neg (by omega)]) (Ev.now _)
  | d + 1, j, h, hj => by
    have hb := pw_bd hq (n := j + 1) (by omega)
    have w1 : wrap64 ((j : Int) + 1) = ((j + 1 : Nat) : Int) := by rw [w64 (by omega) (by omega)]; rfl
    have w2 : wrap64 (pw q j * q) = pw q (j + 1) := w64 (by have := hb.1; rw [pw] at this; omega) (by have := hb.2; rw [pw] at this; omega)
    by_cases c : pw q (j + 1) > 6561
    · have := pw_up hq (j + 1) d (by omega)
      rw [show j + 1 + d = S by omega] at this
      rw [if_neg (by omega)]
      exact Ev.step (f := fun _ => some (0, false)) (fun k => by rw [impl_matrices.l0, if_pos (by omega), w2, if_pos c]) (Ev.now _)
    · have ih := mats_l0 hq hS d (j + 1) (by omega) (by omega)
      exact Ev.step (fun k => by rw [impl_matrices.l0, if_pos (by omega), w2, if_neg c, w1]) ih
def setD (q : Int) : Nat → Int → List Int → Nat → List Int × Int
  | 0, n, row, _ => (row, n)
  | j + 1, n, row, c => setD q j (Int.tdiv n q) (row.set c (Int.tmod n q)) (c + 1)
def matR (q : Int) (n : Nat) : List Int → Int → List (List Int)
  | [], _ => []
  | m :: t, num => (setD q m.toNat num (List.replicate n 0) 0).1 :: matR q n t (setD q m.toNat num (List.replicate n 0) 0).2
theorem setD_length (q : Int) : ∀ (d : Nat) (num : Int) (row : List Int) (c : Nat), (setD q d num row c).1.length = row.length
  | 0, _, _, _ => rfl
  | d + 1, num, row, c => by rw [setD, setD_length q d, List.length_set]
theorem td {q num : Int} (hq : 2 ≤ q ∧ q ≤ 3) (h : 0 ≤ num ∧ num ≤ 10000) : 0 ≤ Int.tdiv num q ∧ Int.tdiv num q ≤ 10000 := by
  rw [Int.tdiv_eq_ediv_of_nonneg h.1]
  obtain rfl | rfl : q = 2 ∨ q = 3 := by omega
  · omega
  · omega
theorem setD_num {q : Int} (hq : 2 ≤ q ∧ q ≤ 3) : ∀ (d : Nat) (num : Int) (row : List Int) (c : Nat), 0 ≤ num ∧ num ≤ 10000 → 0 ≤ (setD q d num row c).2 ∧ (setD q d num row c).2 ≤ 10000
  | 0, _, _, _, h => h
  | d + 1, num, row, c, h => by rw [setD]; exact setD_num hq d _ _ _ (td hq h)
theorem matR_length (q : Int) (n : Nat) : ∀ (t : List Int) (num : Int), (matR q n t num).length = t.length
  | [], _ => rfl
  | m :: t, num => by rw [matR, List.length_cons, List.length_cons, matR_length q n t]
theorem matR_row (q : Int) (n : Nat) : ∀ (t : List Int) (num : Int), ∀ x ∈ matR q n t num, x.length = n
  | [], _ => by intro x hx; simp [matR] at hx
  | m :: t, num => by
    intro x hx
    rw [matR, List.mem_cons] at hx
    rcases hx with rfl | hx
    · rw [setD_length, List.length_replicate]
    · exact matR_row q n t _ x hx
section
variable {l : List Int} {q : Int} (h6 : l.length ≤ 6) (hq : 2 ≤ q ∧ q ≤ 3) (hx : ∀ i (hi : i < l.length), 0 ≤ l[i] ∧ l[i] ≤ l.length)
include h6 hq
theorem imat_l1 {X : List (List Int)} (i : Nat) (hi : i < l.length) (acc : List (List Int)) (ha : acc.length ≤ 6) : ∀ (d c : Nat) (num : Int) (row : List Int), 0 ≤ num ∧ num ≤ 10000 → c + d ≤ row.length → row.length ≤ 6 →
    Ev (fun k => impl_matrix.l0 k l q (setD q d num row c).2 (acc ++ [(setD q d num row c).1]) l (l.length : Int) ((i + 1 : Nat) : Int)) X → Ev (fun k => impl_matrix.l1 k l q num acc row l (l.length : Int) i ((c + d : Nat) : Int) c) X
  | 0, c, num, row, hn, hc, h6r, hX => by
    have w1 : wrap64 ((i : Int) + 1) = ((i + 1 : Nat) : Int) := by rw [w64 (by omega) (by omega)]; rfl
    rw [setD] at hX
    exact Ev.step (fun k => by rw [impl_matrix.l1, if_neg (by simp), if_pos (by omega), w1]) hX
  | d + 1, c, num, row, hn, hc, h6r, hX => by
    have w1 : wrap64 ((c : Int) + 1) = ((c + 1 : Nat) : Int) := by rw [w64 (by omega) (by omega)]; rfl
    have hd := td hq hn
    have w2 : wrap64 (Int.tdiv num q) = Int.tdiv num q := w64 (by omega) (by omega)
    rw [setD] at hX
    have ih := imat_l1 i hi acc ha d (c + 1) (Int.tdiv num q) (row.set c (Int.tmod num q)) hd (by rw [List.length_set]; omega) (by rw [List.length_set]; exact h6r) hX
    rw [show c + 1 + d = c + (d + 1) by omega] at ih
    exact Ev.step (fun k => by rw [impl_matrix.l1, if_pos (by omega), if_neg (by omega), if_pos (by omega), if_pos (by omega), w2, w1, Int.toNat_natCast]) ih
theorem smat_l2 {X : List (List Int)} (i : Nat) (hi : i < l.length) : ∀ (d c : Nat) (num : Int) (rows : List (List Int)) (hr : i < rows.length), 0 ≤ num ∧ num ≤ 10000 → c + d ≤ rows[i].length → rows[i].length ≤ 6 →
    Ev (fun k => spec_weMatrix.l1 k q (setD q d num rows[i] c).2 (rows.set i (setD q d num rows[i] c).1) l (l.length : Int) ((i + 1 : Nat) : Int)) X → Ev (fun k => spec_weMatrix.l2 k q num rows i ((c + d : Nat) : Int) c l (l.length : Int) i) X
  | 0, c, num, rows, hr, hn, hc, h6r, hX => by
    have w1 : wrap64 ((i : Int) + 1) = ((i + 1 : Nat) : Int) := by rw [w64 (by omega) (by omega)]; rfl
    rw [setD, List.set_getElem_self] at hX
    exact Ev.step (fun k => by rw [spec_weMatrix.l2, if_neg (by simp), w1]) hX
  | d + 1, c, num, rows, hr, hn, hc, h6r, hX => by
    have w1 : wrap64 ((c : Int) + 1) = ((c + 1 : Nat) : Int) := by rw [w64 (by omega) (by omega)]; rfl
    have hd := td hq hn
    have w2 : wrap64 (Int.tdiv num q) = Int.tdiv num q := w64 (by omega) (by omega)
    rw [setD] at hX
    have e1 : (rows.set i (rows[i].set c (Int.tmod num q)))[i]'(by rw [List.length_set]; exact hr) = rows[i].set c (Int.tmod num q) := List.getElem_set_self _
    have ih := smat_l2 i hi d (c + 1) (Int.tdiv num q) (rows.set i (rows[i].set c (Int.tmod num q))) (by rw [List.length_set]; exact hr) hd (by rw [e1, List.length_set]; omega) (by rw [e1, List.length_set]; exact h6r) (by rw [e1, List.set_set]; exact hX)
    rw [show c + 1 + d = c + (d + 1) by omega] at ih
    exact Ev.step (fun k => by rw [spec_weMatrix.l2, if_pos (by omega), if_pos (by omega), if_pos (by omega), if_neg (by omega), if_pos (by omega), rdL hr, if_pos (by omega), w2, w1, Int.toNat_natCast, Int.toNat_natCast]) ih
include hx
theorem imat_l0 : ∀ (d i : Nat) (num : Int) (acc : List (List Int)), i + d = l.length → 0 ≤ num ∧ num ≤ 10000 → acc.length = i → Ev (fun k => impl_matrix.l0 k l q num acc l (l.length : Int) i) (acc ++ matR q l.length (l.drop i) num)
  | 0, i, num, acc, hi, hn, ha => by
    rw [List.drop_eq_nil_of_le (by omega), matR, List.append_nil]
    exact Ev.step (f := fun _ => some acc) (fun k => by rw [impl_matrix.l0, if_neg (by omega)]) (Ev.now _)
  | d + 1, i, num, acc, hi, hn, ha => by
    have hi2 : i < l.length := by omega
    obtain ⟨m, hm⟩ := Int.eq_ofNat_of_zero_le (hx i hi2).1
    have hm2 := (hx i hi2).2
    rw [List.drop_eq_getElem_cons hi2, matR]
    have ih := imat_l0 d (i + 1) (setD q m num (List.replicate l.length 0) 0).2 (acc ++ [(setD q m num (List.replicate l.length 0) 0).1]) (by omega) (setD_num hq _ _ _ _ hn) (by rw [List.length_append, ha]; rfl)
    have := imat_l1 h6 hq i hi2 acc (by omega) m 0 num (List.replicate l.length 0) hn (by rw [List.length_replicate]; omega) (by rw [List.length_replicate]; exact h6) ih
    rw [Nat.zero_add, ← hm] at this
    refine Ev.step (fun k => by rw [impl_matrix.l0, if_pos (by omega), if_pos (by omega), if_pos (by omega), if_pos (by omega), if_pos (by omega), rd_lt _ _ hi2, Int.toNat_natCast]; rfl) (evEq this ?_)
    rw [hm, List.append_assoc]
    rfl
theorem smat_l1 : ∀ (d i : Nat) (num : Int) (acc : List (List Int)), i + d = l.length → 0 ≤ num ∧ num ≤ 10000 → acc.length = i → Ev (fun k => spec_weMatrix.l1 k q num (acc ++ List.replicate d (List.replicate l.length 0)) l (l.length : Int) i) (acc ++ matR q l.length (l.drop i) num)
  | 0, i, num, acc, hi, hn, ha => by
    rw [List.drop_eq_nil_of_le (by omega), matR]
    exact Ev.step (f := fun _ => some (acc ++ [])) (fun k => by rw [spec_weMatrix.l1, if_neg (by omega)]; rfl) (Ev.now _)
  | d + 1, i, num, acc, hi, hn, ha => by
    have hi2 : i < l.length := by omega
    obtain ⟨m, hm⟩ := Int.eq_ofNat_of_zero_le (hx i hi2).1
    have hm2 := (hx i hi2).2
    rw [List.drop_eq_getElem_cons hi2, matR]
    have hr : i < (acc ++ List.replicate (d + 1) (List.replicate l.length (0 : Int))).length := by rw [List.length_append, List.length_replicate]; omega
    have e1 : (acc ++ List.replicate (d + 1) (List.replicate l.length (0 : Int)))[i] = List.replicate l.length 0 := by rw [List.getElem_append_right (by omega)]; exact List.getElem_replicate _
    have e2 : ∀ y, (acc ++ List.replicate (d + 1) (List.replicate l.length (0 : Int))).set i y = (acc ++ [y]) ++ List.replicate d (List.replicate l.length 0) := by
      intro y
      rw [List.set_append_right _ _ (by omega), ha, Nat.sub_self, List.replicate_succ, List.set_cons_zero, List.append_assoc]
      rfl
    have ih := smat_l1 d (i + 1) (setD q m num (List.replicate l.length 0) 0).2 (acc ++ [(setD q m num (List.replicate l.length 0) 0).1]) (by omega) (setD_num hq _ _ _ _ hn) (by rw [List.length_append, ha]; rfl)
    have := smat_l2 h6 hq (l := l) i hi2 m 0 num _ hr hn (by rw [e1, List.length_replicate]; omega) (by rw [e1, List.length_replicate]; exact h6) (by rw [e1, e2]; exact ih)
    rw [Nat.zero_add, ← hm] at this
    refine Ev.step (fun k => by rw [spec_weMatrix.l1, if_pos (by omega), if_pos (by omega), if_pos (by omega), rd_lt _ _ hi2]; rfl) (evEq this ?_)
    rw [hm, List.append_assoc]
    rfl
theorem smat_l0 {num : Int} (hn : 0 ≤ num ∧ num ≤ 10000) : ∀ (d j : Nat), j + d = l.length → Ev (fun k => spec_weMatrix.l0 k l q num (List.replicate j (List.replicate l.length 0)) (l.length : Int) j) (matR q l.length l num)
  | 0, j, h => by
    have := smat_l1 h6 hq hx l.length 0 num [] (by omega) hn rfl
    rw [List.nil_append, List.nil_append, List.drop_zero] at this
    obtain rfl : j = l.length := by omega
    exact Ev.step (fun k => by rw [spec_weMatrix.l0, if_neg (by omega)]; rfl) this
  | d + 1, j, h => by
    have w1 : wrap64 ((j : Int) + 1) = ((j + 1 : Nat) : Int) := by rw [w64 (by omega) (by omega)]; rfl
    have ih := smat_l0 hn d (j + 1) (by omega)
    rw [List.replicate_succ'] at ih
    exact Ev.step (fun k => by rw [spec_weMatrix.l0, if_pos (by omega), if_pos (by omega), if_pos (by omega), if_pos (by rw [List.length_replicate]; omega), Int.toNat_natCast, w1]) ih
theorem imat_f {num : Int} (hn : 0 ≤ num ∧ num ≤ 10000) : Ev (fun k => impl_matrix.f k l q num) (matR q l.length l num) := by
  have := imat_l0 h6 hq hx l.length 0 num [] (by omega) hn rfl
  rw [List.nil_append, List.drop_zero] at this
  exact this
theorem smat_f {num : Int} (hn : 0 ≤ num ∧ num ≤ 10000) : Ev (fun k => spec_weMatrix.f k l q num) (matR q l.length l num) := smat_l0 h6 hq hx hn l.length 0 (by omega)
end
end Go.Proofs.Ytadkkcdhgepbkaa.MatK
end
