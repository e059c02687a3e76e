/- Texts of this claim put together (11): words, what the functions compute, and plain facts. No conditions. -/
import Derived.Test.YtihnjbfjdkdhaaaGreatSFnWeightsOfRooks4
import Derived.Test.YtihnjbfjdkdhaaaGreatSFnWeightsOfRooks10
import Derived.Test.YtihnjbfjdkdhaaaGreatSFnWeightsOfRooks8
import Derived.Test.YtihnjbfjdkdhaaaGreatSFnWeightsOfRooks6
import Derived.Test.YtihnjbfjdkdhaaaGreatSFnWeightsOfRooks5
import Derived.Outline
import Derived.Lib.Hide
import Derived.Test.YtihnjbfjdkdhaaaGreatSFnWeightsOfRooks0
section
namespace Go.Proofs.YtihnjbfjdkdhaaaGreat.Q
open Go.RowKit Go.Proofs.YtihnjbfjdkdhaaaGreatW.PrintWords Go.Proofs.YtihnjbfjdkdhaaaGreatW.PrintLast Go.Proofs.YtihnjbfjdkdhaaaGreatW.PrintMore
attribute [local go_sem] max2_int min2_int max_two min_two max_three min_three max_four min_four   -- for this text's walks alone
set_option linter.unusedVariables false
set_option linter.unusedSimpArgs false
mutual
def impl_WeightedSumAt.l0:Nat→List Int→Int→Int→Int→List (List Int)→Int→Int→Option (Int × Bool)
|0,_,_,_,_,_,_,_=>none
|k + 1,x0,x1,x2,x8,x19,x20,x21=>if x21 < x20 then (if 0≤x21 then (if x21 < (x19.length:Int) then ((impl_at.f k (rd_L2 x19 x21) x1).bind fun t106=>(impl_WeightedSumAt.l1 k x0 x1 x2 x8 t106 x19 x20 x21 (wrap64 ((x0.length:Int) - x21)) 0)) else (none)) else (none)) else (some (x8,true))
def impl_WeightedSumAt.l1:Nat→List Int→Int→Int→Int→Int→List (List Int)→Int→Int→Int→Int→Option (Int × Bool)
|0,_,_,_,_,_,_,_,_,_,_=>none
|k + 1,x0,x1,x2,x8,x11,x19,x20,x21,x32,x33=>if x33 < x32 then ((impl_bracket.f k (wrap64 (x2 - x33)) x1).bind fun t107=>(impl_WeightedSumAt.l1 k x0 x1 x2 x8 (wrap64 (x11 * t107)) x19 x20 x21 x32 (wrap64 (x33 + 1)))) else (impl_WeightedSumAt.l0 k x0 x1 x2 (wrap64 (x8 + x11)) x19 x20 (wrap64 (x21 + 1)))
end
def impl_WeightedSumAt.f (k:Nat) (l0:List Int) (a1:Int) (a2:Int):Option (Int × Bool):=(impl_isWeighted.f k l0 a1 a2).bind fun t101=>(if t101=true then ((impl_weights.f l0).bind fun t102=>(impl_WeightedSumAt.l0 k l0 a1 a2 0 t102 (t102.length:Int) 0)) else (some (0,false)))
set_option maxHeartbeats 8000000 in
set_option maxRecDepth 100000 in
theorem impl_WeightedSumAt.calls (k:Nat) (A0:Option Addr) (c0:Nat) (l0:List Int) (a1:Int) (a2:Int) (r1:Int) (r2:Bool) (w:World) (hr0:Kd.C (Kd.int .i64) w A0 l0.length l0) (hc0:l0.length≤c0) (h:impl_WeightedSumAt.f k l0 a1 a2=some (r1,r2)) :
  Calls Tryz.prog 27 #[.slice A0 l0.length c0,.int .i64 a1,.int .i64 a2] w fun e w'=>e=.returned (.tuple #[.int .i64 r1,.bool r2])∧Below w.heap.size w w':=by
 have HR0:=za hr0;have HC0:=za hc0;clear hr0 hc0;have HB:=za (Below.refl w.heap.size w);have H:((impl_isWeighted.f k l0 a1 a2).bind fun t101=>(if t101=true then ((impl_weights.f l0).bind fun t102=>(impl_WeightedSumAt.l0 k l0 a1 a2 0 t102 (t102.length:Int) 0)) else (some (0,false))))=some (r1,r2):=h;clear h;obtain ⟨t101,A4,H⟩:=bindAside H;(try dsimp only at H);by_cases c5:t101=true
 ·
  subst c5;(have H1:((impl_weights.f l0).bind fun t102=>(impl_WeightedSumAt.l0 k l0 a1 a2 0 t102 (t102.length:Int) 0))=some (r1,r2):=by rw [if_pos rfl] at H;exact H);clear H;have H:=H1;clear H1;obtain ⟨t102,A6,H⟩:=bindAside H;(try dsimp only at H);have H':=za H;clear H;(go_enter Tryz.func27,Tryz.ntmps27);(go_wp2_with (first|((with_reducible refine zo (f:=61) rfl ?_);refine zp (some 16) rfl rfl Tryz.func61 (by kernel_rfl) rfl #[.slice A0 l0.length c0,.int .i64 a1,.int .i64 a2] rfl (by first|rfl|simp only [z3_,z4_,z5_];try rfl) ?_;(with_reducible refine (impl_isWeighted.calls k _ _ l0 a1 a2 true _ ?side1 ?side2 A4.out).mono ?_);(case side1=>repeat (first|exact HR0.out|(with_reducible refine zh ?_ _)|(with_reducible refine zi ?_ _)|(with_reducible refine zj ?_)));(case side2=>exact HC0.out);rintro e w' ⟨rfl,⟨nd,rfl⟩⟩;refine ⟨_,rfl,?_⟩)|((with_reducible refine zo (f:=45) rfl ?_);refine zp (some 19) rfl rfl Tryz.func45 (by kernel_rfl) rfl #[.slice A0 l0.length c0] rfl (by first|rfl|simp only [z3_,z4_,z5_];try rfl) ?_;(with_reducible refine (impl_weights.calls _ _ l0 t102 _ ?side1 ?side2 A6.out).mono ?_);(case side1=>repeat (first|exact HR0.out|(with_reducible refine zh ?_ _)|(with_reducible refine zi ?_ _)|(with_reducible refine zj ?_)));(case side2=>exact HC0.out);rintro e w7 ⟨v103,rfl,ho0,hb⟩;refine ⟨_,rfl,?_⟩;have HO104:=za (Kd.S_lower ho0 (zq (by repeat (first|(with_reducible first|exact HB.out|apply zc|apply zd|apply zb)|exact HB.out))));replace HB:=za (zm (by repeat (first|(with_reducible first|exact HB.out|apply zc|apply zd|apply zb)|exact HB.out)) hb);obtain ⟨Ao8,co8,eo8⟩:=Kd.S_slice HO104.out;subst eo8)));(go_loopg [8,21] k (fun kq v8 v21 w'=>∃ (x8_1:Int) (x21_1:Int),v8=.int .i64 x8_1∧v21=.int .i64 x21_1∧Aside0 (impl_WeightedSumAt.l0 kq l0 a1 a2 x8_1 t102 (t102.length:Int) x21_1=some (r1,r2))∧Aside0 (kq≤k)∧Aside0 (Kd.S (Kd.slice 3 (Kd.int .i64)) 24 w' w.heap.size (fun _=>True) (.slice Ao8 t102.length co8) t102)∧Aside0 (Below w.heap.size w w')));case atStart=>exact ⟨(0),(0),(by first|rfl|(simp;done)|(simp [*];done)),(by first|rfl|(simp;done)|(simp [*];done)),H',⟨Nat.le_refl _⟩,⟨by (with_reducible repeat (first|apply zH|apply zI|apply Kd.S_drew));exact HO104.out⟩,⟨by repeat (first|(with_reducible first|exact HB.out|apply zc|apply zd|apply zb)|exact HB.out)⟩⟩
  case round =>
   clear H';(try clear c2);(try clear p2);(try clear c4);(try clear c5);(try clear c6);obtain ⟨x8_1,x21_1,rfl,rfl,HA,HK1,HO_19,HB⟩:=hrel
   cases gk with
  |zero=>exact absurd HA.out (by simp [impl_WeightedSumAt.l0])
  |succ k1 =>
    have H:=HA.out;clear HA;simp only [impl_WeightedSumAt.l0] at H;by_cases c9:x21_1 < (t102.length:Int)
    ·
     rw [if_pos c9] at H;have c9b0:decide (x21_1 < (t102.length:Int))=true:=decide_eq_true c9;clear c9;by_cases c10:0≤x21_1
     ·
      rw [if_pos c10] at H;have c10b0:decide (0≤x21_1)=true:=decide_eq_true c10;clear c10;by_cases c11:x21_1 < (t102.length:Int)
      ·
       rw [if_pos c11] at H;have c11b0:decide (x21_1 < (t102.length:Int))=true:=decide_eq_true c11;clear c11;obtain ⟨t106,A12,H⟩:=bindAside H;(try dsimp only at H);have H':=za H;clear H;have p105:0≤(x21_1:Int):=of_decide_eq_true ‹_›;have q105:x21_1 < (t102.length:Int):=of_decide_eq_true ‹_›;obtain ⟨ad105,A105_0,c105_0,e105,hx105_0,hl105_0,hi105_0⟩:=at_L2 (Kd.S_reads' HO_19.out).2.2 x21_1 p105 q105;cases e105;obtain ⟨ce105,hce105,hMe105,hcc105⟩:=Kd.S_get HO_19.out [] x21_1 p105 (by first|exact q105|exact of_decide_eq_true ‹_›|(have e_:=(Kd.S_reads' HO_19.out).1;omega));obtain ⟨ve105_0,rfl,ge105_0⟩:=hMe105;have hv105_0:=hcc105 0 _ rfl;rw [Nat.add_zero,show ((Kd.slice 3 (Kd.int .i64))).sz=1 from rfl,Nat.mul_one] at hv105_0;replace hv105_0:=Option.some.inj (hv105_0.symm.trans hx105_0);rw [hv105_0] at ge105_0;have HL105_0:=za (show Kd.R (Kd.int .i64) 3 _ _ _ _ (rd_L2 t102 x21_1) from ge105_0);clear hv105_0 ge105_0;clear hcc105 hce105;have HR105_0:=za hi105_0;have HC105_0:=za hl105_0;clear hi105_0 hl105_0;replace p105:=eq_true p105;replace q105:=eq_true q105;(go_wp2_with (first|((with_reducible refine zo (f:=54) rfl ?_);refine zp (some 28) rfl rfl Tryz.func54 (by kernel_rfl) rfl #[.slice A105_0 (rd_L2 t102 x21_1).length c105_0,.int .i64 a1] rfl (by first|rfl|simp only [z3_,z4_,z5_];try rfl) ?_;(with_reducible refine (impl_at.calls k1 _ _ (rd_L2 t102 x21_1) a1 t106 _ ?side1 ?side2 A12.out).mono ?_);(case side1=>repeat (first|exact (by repeat (first|(with_reducible exact HR105_0.out)|(with_reducible refine zh ?_ _)|(with_reducible refine zi ?_ _)|(with_reducible refine zj ?_)|exact HR105_0.out))|(with_reducible refine zh ?_ _)|(with_reducible refine zi ?_ _)|(with_reducible refine zj ?_)));(case side2=>exact HC105_0.out);rintro e w' ⟨rfl,⟨nd,rfl⟩⟩;refine ⟨_,rfl,?_⟩)));(go_loopg [11,33] k1 (fun kq v11 v33 w'=>∃ (x11_2:Int) (x33_2:Int),v11=.int .i64 x11_2∧v33=.int .i64 x33_2∧Aside0 (impl_WeightedSumAt.l1 kq l0 a1 a2 x8_1 x11_2 t102 (t102.length:Int) x21_1 (wrap64 ((l0.length:Int) - x21_1)) x33_2=some (r1,r2))∧Aside0 (kq≤k1)∧Aside0 (Kd.S (Kd.slice 3 (Kd.int .i64)) 24 w' w.heap.size (fun _=>True) (.slice (some ad105) t102.length co8) t102)∧Aside0 (Kd.C (Kd.int .i64) w' A105_0 (rd_L2 t102 x21_1).length (rd_L2 t102 x21_1))∧Aside0 (Below w.heap.size w w')));case atStart=>exact ⟨(t106),(0),(by first|rfl|(simp;done)|(simp [*];done)),(by first|rfl|(simp;done)|(simp [*];done)),H',⟨Nat.le_refl _⟩,⟨by (with_reducible repeat (first|apply zH|apply zI|apply Kd.S_drew));exact HO_19.out⟩,⟨by repeat (first|(with_reducible exact HR105_0.out)|(with_reducible refine zh ?_ _)|(with_reducible refine zi ?_ _)|(with_reducible refine zj ?_)|exact HR105_0.out)⟩,⟨by repeat (first|(with_reducible first|exact HB.out|apply zc|apply zd|apply zb)|exact HB.out)⟩⟩
       case round =>
        clear H';(try clear c1);(try clear p1);(try clear q1);(try clear hx1);(try clear c2);(try clear p2);(try clear c4);(try clear c5);(try clear c6);(try clear p6);(try clear c9);(try clear c9b0);(try clear c10);(try clear c10b0);(try clear p10);(try clear q10);(try clear hx10);(try clear c11);(try clear c11b0);(try clear hx105_0);(try clear p105);(try clear p2);(try clear q105);obtain ⟨x11_2,x33_2,rfl,rfl,HA,HK2,HO_19,HR105_0,HB⟩:=hrel
        cases gk with
       |zero=>exact absurd HA.out (by simp [impl_WeightedSumAt.l1])
       |succ k2 =>
         have H:=HA.out;clear HA;simp only [impl_WeightedSumAt.l1] at H;by_cases c13:x33_2 < (wrap64 ((l0.length:Int) - x21_1))
         · rw [if_pos c13] at H;have c13b0:decide (x33_2 < (wrap64 ((l0.length:Int) - x21_1)))=true:=decide_eq_true c13;clear c13;obtain ⟨t107,A14,H⟩:=bindAside H;(try dsimp only at H);have H':=za H;clear H;(go_wp2_with (first|((with_reducible refine zo (f:=57) rfl ?_);refine zp (some 41) rfl rfl Tryz.func57 (by kernel_rfl) rfl #[.int .i64 (wrap64 (a2 - x33_2)),.int .i64 a1] rfl (by first|rfl|simp only [z3_,z4_,z5_];try rfl) ?_;(with_reducible refine (impl_bracket.calls k2 (wrap64 (a2 - x33_2)) a1 t107 _ A14.out).mono ?_);rintro e w' ⟨rfl,⟨nd,rfl⟩⟩;refine ⟨_,rfl,?_⟩)));(go_roundg k2);(case measure=>have:=HK1.out;have:=HK2.out;omega);case rel=>exact ⟨(wrap64 (x11_2 * t107)),(wrap64 (x33_2 + 1)),(by first|rfl|(simp;done)|(simp [*];done)),(by first|rfl|(simp;done)|(simp [*];done)),H',⟨by have:=HK1.out;have:=HK2.out;omega⟩,⟨by (with_reducible repeat (first|apply zH|apply zI|apply Kd.S_drew));exact HO_19.out⟩,⟨by repeat (first|(with_reducible exact HR105_0.out)|(with_reducible refine zh ?_ _)|(with_reducible refine zi ?_ _)|(with_reducible refine zj ?_)|exact HR105_0.out)⟩,⟨by repeat (first|(with_reducible first|exact HB.out|apply zc|apply zd|apply zb)|exact HB.out)⟩⟩
         · rw [if_neg c13] at H;have c13b0:decide (x33_2 < (wrap64 ((l0.length:Int) - x21_1)))=false:=decide_eq_false c13;clear c13;have H':=za H;clear H;(go_wp2);(go_roundg k2);(case measure=>have:=HK1.out;have:=HK2.out;omega);case rel=>exact ⟨(wrap64 (x8_1 + x11_2)),(wrap64 (x21_1 + 1)),(by first|rfl|(simp;done)|(simp [*];done)),(by first|rfl|(simp;done)|(simp [*];done)),H',⟨by have:=HK1.out;have:=HK2.out;omega⟩,⟨by (with_reducible repeat (first|apply zH|apply zI|apply Kd.S_drew));exact HO_19.out⟩,⟨by repeat (first|(with_reducible first|exact HB.out|apply zc|apply zd|apply zb)|exact HB.out)⟩⟩
      · rw [if_neg c11] at H;exact absurd H (by simp)
     · rw [if_neg c10] at H;exact absurd H (by simp)
    · rw [if_neg c9] at H;have c9b0:decide (x21_1 < (t102.length:Int))=false:=decide_eq_false c9;clear c9;simp only [Option.some.injEq,Prod.mk.injEq] at H;obtain ⟨rfl,rfl⟩:=H;(go_wp2);(go_ret2);exact ⟨by first|rfl|simp [*,errW_none,errW_some] <;> rfl,by repeat (first|(with_reducible first|exact HB.out|apply zc|apply zd|apply zb)|exact HB.out)⟩
 · replace c5:=Bool.eq_false_iff.mpr c5;subst c5;(have H1:(some (0,false))=some (r1,r2):=by rw [if_neg (show ¬ (false=true) by decide)] at H;exact H);clear H;have H:=H1;clear H1;simp only [Option.some.injEq,Prod.mk.injEq] at H;obtain ⟨rfl,rfl⟩:=H;(go_enter Tryz.func27,Tryz.ntmps27);(go_wp2_with (first|((with_reducible refine zo (f:=61) rfl ?_);refine zp (some 16) rfl rfl Tryz.func61 (by kernel_rfl) rfl #[.slice A0 l0.length c0,.int .i64 a1,.int .i64 a2] rfl (by first|rfl|simp only [z3_,z4_,z5_];try rfl) ?_;(with_reducible refine (impl_isWeighted.calls k _ _ l0 a1 a2 false _ ?side1 ?side2 A4.out).mono ?_);(case side1=>repeat (first|exact HR0.out|(with_reducible refine zh ?_ _)|(with_reducible refine zi ?_ _)|(with_reducible refine zj ?_)));(case side2=>exact HC0.out);rintro e w' ⟨rfl,⟨nd,rfl⟩⟩;refine ⟨_,rfl,?_⟩)));(go_ret2);exact ⟨by first|rfl|simp [*,errW_none,errW_some] <;> rfl,by repeat (first|(with_reducible first|exact HB.out|apply zc|apply zd|apply zb)|exact HB.out)⟩
end Go.Proofs.YtihnjbfjdkdhaaaGreat.Q
end
section
namespace Go.Proofs.YtihnjbfjdkdhaaaGreat.Q
open Go.RowKit Go.Proofs.YtihnjbfjdkdhaaaGreatW.PrintWords Go.Proofs.YtihnjbfjdkdhaaaGreatW.PrintLast Go.Proofs.YtihnjbfjdkdhaaaGreatW.PrintMore
attribute [local go_sem] max2_int min2_int max_two min_two max_three min_three max_four min_four   -- for this text's walks alone
set_option linter.unusedVariables false
set_option linter.unusedSimpArgs false
def spec_weArgument.f (k:Nat) (l0:List Int) (a1:Int) (a2:Int):Option (Bool):=(spec_feGood.f k l0).bind fun t101=>(if t101=true then (if (l0.length:Int)≤4 then ((spec_weBase.f a1).bind fun t102=>(if t102=true then ((spec_l1In.f a2 (l0.length:Int) 8).bind fun t103=>(some t103)) else (some false))) else (some false)) else (some false))
set_option maxHeartbeats 8000000 in
set_option maxRecDepth 100000 in
theorem spec_weArgument.calls (k:Nat) (A0:Option Addr) (c0:Nat) (l0:List Int) (a1:Int) (a2:Int) (r:Bool) (w:World) (hr0:Kd.C (Kd.int .i64) w A0 l0.length l0) (hc0:l0.length≤c0) (h:spec_weArgument.f k l0 a1 a2=some r) :
  Calls Tryz.prog 62 #[.slice A0 l0.length c0,.int .i64 a1,.int .i64 a2] w fun e w'=>e=.returned (.bool r)∧Drawn0 w w':=by
 have HR0:=za hr0;have HC0:=za hc0;clear hr0 hc0;have H:((spec_feGood.f k l0).bind fun t101=>(if t101=true then (if (l0.length:Int)≤4 then ((spec_weBase.f a1).bind fun t102=>(if t102=true then ((spec_l1In.f a2 (l0.length:Int) 8).bind fun t103=>(some t103)) else (some false))) else (some false)) else (some false)))=some r:=h;clear h;obtain ⟨t101,A4,H⟩:=bindAside H;(try dsimp only at H);by_cases c5:t101=true
 ·
  subst c5;(have H1:(if (l0.length:Int)≤4 then ((spec_weBase.f a1).bind fun t102=>(if t102=true then ((spec_l1In.f a2 (l0.length:Int) 8).bind fun t103=>(some t103)) else (some false))) else (some false))=some r:=by rw [if_pos rfl] at H;exact H);clear H;have H:=H1;clear H1;by_cases c6:(l0.length:Int)≤4
  ·
   rw [if_pos c6] at H;have c6b0:decide ((l0.length:Int)≤4)=true:=decide_eq_true c6;have c6b1:decide (l0.length≤4)=true:=decide_eq_true (by omega);clear c6;obtain ⟨t102,A7,H⟩:=bindAside H;(try dsimp only at H);by_cases c8:t102=true
   · subst c8;(have H1:((spec_l1In.f a2 (l0.length:Int) 8).bind fun t103=>(some t103))=some r:=by rw [if_pos rfl] at H;exact H);clear H;have H:=H1;clear H1;obtain ⟨t103,A9,H⟩:=bindAside H;(try dsimp only at H);obtain rfl:=Option.some.inj H;(go_enter Tryz.func62,Tryz.ntmps62);(go_wp2_with (first|((with_reducible refine zo (f:=40) rfl ?_);refine zp (some 8) rfl rfl Tryz.func40 (by kernel_rfl) rfl #[.slice A0 l0.length c0] rfl (by first|rfl|simp only [z3_,z4_,z5_];try rfl) ?_;(with_reducible refine (spec_feGood.calls k _ _ l0 true _ ?side1 ?side2 A4.out).mono ?_);(case side1=>repeat (first|exact HR0.out|(with_reducible refine zh ?_ _)|(with_reducible refine zi ?_ _)|(with_reducible refine zj ?_)));(case side2=>exact HC0.out);rintro e w' ⟨rfl,⟨nd,rfl⟩⟩;refine ⟨_,rfl,?_⟩)|(go_at_call 55;(with_reducible refine (spec_weBase.calls a1 true _ A7.out).mono ?_);rintro e w' ⟨rfl,⟨nd,rfl⟩⟩)|(go_at_call 58;(with_reducible refine (spec_l1In.calls a2 (l0.length:Int) 8 t103 _ A9.out).mono ?_);rintro e w' ⟨rfl,⟨nd,rfl⟩⟩)));(go_ret);exact ⟨by first|rfl|(simp;done)|(simp [*];done),by repeat (first|exact Drawn0.refl _|apply Drawn0.step)⟩
   · replace c8:=Bool.eq_false_iff.mpr c8;subst c8;(have H1:(some false)=some r:=by rw [if_neg (show ¬ (false=true) by decide)] at H;exact H);clear H;have H:=H1;clear H1;obtain rfl:=Option.some.inj H;(go_enter Tryz.func62,Tryz.ntmps62);(go_wp2_with (first|((with_reducible refine zo (f:=40) rfl ?_);refine zp (some 8) rfl rfl Tryz.func40 (by kernel_rfl) rfl #[.slice A0 l0.length c0] rfl (by first|rfl|simp only [z3_,z4_,z5_];try rfl) ?_;(with_reducible refine (spec_feGood.calls k _ _ l0 true _ ?side1 ?side2 A4.out).mono ?_);(case side1=>repeat (first|exact HR0.out|(with_reducible refine zh ?_ _)|(with_reducible refine zi ?_ _)|(with_reducible refine zj ?_)));(case side2=>exact HC0.out);rintro e w' ⟨rfl,⟨nd,rfl⟩⟩;refine ⟨_,rfl,?_⟩)|(go_at_call 55;(with_reducible refine (spec_weBase.calls a1 false _ A7.out).mono ?_);rintro e w' ⟨rfl,⟨nd,rfl⟩⟩)));(go_ret);exact ⟨by first|rfl|(simp;done)|(simp [*];done),by repeat (first|exact Drawn0.refl _|apply Drawn0.step)⟩
  · rw [if_neg c6] at H;have c6b0:decide ((l0.length:Int)≤4)=false:=decide_eq_false c6;have c6b1:decide (l0.length≤4)=false:=decide_eq_false (by omega);clear c6;obtain rfl:=Option.some.inj H;(go_enter Tryz.func62,Tryz.ntmps62);(go_wp2_with (first|((with_reducible refine zo (f:=40) rfl ?_);refine zp (some 8) rfl rfl Tryz.func40 (by kernel_rfl) rfl #[.slice A0 l0.length c0] rfl (by first|rfl|simp only [z3_,z4_,z5_];try rfl) ?_;(with_reducible refine (spec_feGood.calls k _ _ l0 true _ ?side1 ?side2 A4.out).mono ?_);(case side1=>repeat (first|exact HR0.out|(with_reducible refine zh ?_ _)|(with_reducible refine zi ?_ _)|(with_reducible refine zj ?_)));(case side2=>exact HC0.out);rintro e w' ⟨rfl,⟨nd,rfl⟩⟩;refine ⟨_,rfl,?_⟩)));(go_ret);exact ⟨by first|rfl|(simp;done)|(simp [*];done),by repeat (first|exact Drawn0.refl _|apply Drawn0.step)⟩
 · replace c5:=Bool.eq_false_iff.mpr c5;subst c5;(have H1:(some false)=some r:=by rw [if_neg (show ¬ (false=true) by decide)] at H;exact H);clear H;have H:=H1;clear H1;obtain rfl:=Option.some.inj H;(go_enter Tryz.func62,Tryz.ntmps62);(go_wp2_with (first|((with_reducible refine zo (f:=40) rfl ?_);refine zp (some 8) rfl rfl Tryz.func40 (by kernel_rfl) rfl #[.slice A0 l0.length c0] rfl (by first|rfl|simp only [z3_,z4_,z5_];try rfl) ?_;(with_reducible refine (spec_feGood.calls k _ _ l0 false _ ?side1 ?side2 A4.out).mono ?_);(case side1=>repeat (first|exact HR0.out|(with_reducible refine zh ?_ _)|(with_reducible refine zi ?_ _)|(with_reducible refine zj ?_)));(case side2=>exact HC0.out);rintro e w' ⟨rfl,⟨nd,rfl⟩⟩;refine ⟨_,rfl,?_⟩)));(go_ret);exact ⟨by first|rfl|(simp;done)|(simp [*];done),by repeat (first|exact Drawn0.refl _|apply Drawn0.step)⟩
end Go.Proofs.YtihnjbfjdkdhaaaGreat.Q
end
section
namespace Go.Proofs.YtihnjbfjdkdhaaaGreat.Q
open Go.RowKit Go.Proofs.YtihnjbfjdkdhaaaGreatW.PrintWords Go.Proofs.YtihnjbfjdkdhaaaGreatW.PrintLast Go.Proofs.YtihnjbfjdkdhaaaGreatW.PrintMore
attribute [local go_sem] max2_int min2_int max_two min_two max_three min_three max_four min_four   -- for this text's walks alone
set_option linter.unusedVariables false
set_option linter.unusedSimpArgs false
mutual
def spec_WeightedSumAt.l0:Nat→List Int→Int→Int→Int→List (List Int)→Int→Int→Option (Int × Bool)
|0,_,_,_,_,_,_,_=>none
|k + 1,x0,x1,x2,x8,x19,x20,x21=>if x21 < x20 then (if 0≤x21 then (if x21 < (x19.length:Int) then ((spec_weAt.f k (rd_L2 x19 x21) x1).bind fun t106=>(spec_WeightedSumAt.l1 k x0 x1 x2 x8 x21 t106 0 x19 x20 x21)) else (none)) else (none)) else (some (x8,true))
def spec_WeightedSumAt.l1:Nat→List Int→Int→Int→Int→Int→Int→Int→List (List Int)→Int→Int→Option (Int × Bool)
|0,_,_,_,_,_,_,_,_,_,_=>none
|k + 1,x0,x1,x2,x8,x9,x11,x12,x19,x20,x21=>if x12 < (wrap64 ((x0.length:Int) - x9)) then ((spec_weBracket.f k (wrap64 (x2 - x12)) x1).bind fun t107=>(spec_WeightedSumAt.l1 k x0 x1 x2 x8 x9 (wrap64 (x11 * t107)) (wrap64 (x12 + 1)) x19 x20 x21)) else (spec_WeightedSumAt.l0 k x0 x1 x2 (wrap64 (x8 + x11)) x19 x20 (wrap64 (x21 + 1)))
end
def spec_WeightedSumAt.f (k:Nat) (l0:List Int) (a1:Int) (a2:Int):Option (Int × Bool):=(spec_weArgument.f k l0 a1 a2).bind fun t101=>(if t101=true then ((spec_weAll.f k l0).bind fun t102=>(spec_WeightedSumAt.l0 k l0 a1 a2 0 t102 (t102.length:Int) 0)) else (some (0,false)))
set_option maxHeartbeats 8000000 in
set_option maxRecDepth 100000 in
theorem spec_WeightedSumAt.calls (k:Nat) (A0:Option Addr) (c0:Nat) (l0:List Int) (a1:Int) (a2:Int) (r1:Int) (r2:Bool) (w:World) (hr0:Kd.C (Kd.int .i64) w A0 l0.length l0) (hc0:l0.length≤c0) (h:spec_WeightedSumAt.f k l0 a1 a2=some (r1,r2)) :
  Calls Tryz.prog 28 #[.slice A0 l0.length c0,.int .i64 a1,.int .i64 a2] w fun e w'=>e=.returned (.tuple #[.int .i64 r1,.bool r2])∧Below w.heap.size w w':=by
 have HR0:=za hr0;have HC0:=za hc0;clear hr0 hc0;have HB:=za (Below.refl w.heap.size w);have H:((spec_weArgument.f k l0 a1 a2).bind fun t101=>(if t101=true then ((spec_weAll.f k l0).bind fun t102=>(spec_WeightedSumAt.l0 k l0 a1 a2 0 t102 (t102.length:Int) 0)) else (some (0,false))))=some (r1,r2):=h;clear h;obtain ⟨t101,A4,H⟩:=bindAside H;(try dsimp only at H);by_cases c5:t101=true
 ·
  subst c5;(have H1:((spec_weAll.f k l0).bind fun t102=>(spec_WeightedSumAt.l0 k l0 a1 a2 0 t102 (t102.length:Int) 0))=some (r1,r2):=by rw [if_pos rfl] at H;exact H);clear H;have H:=H1;clear H1;obtain ⟨t102,A6,H⟩:=bindAside H;(try dsimp only at H);have H':=za H;clear H;(go_enter Tryz.func28,Tryz.ntmps28);(go_wp2_with (first|((with_reducible refine zo (f:=62) rfl ?_);refine zp (some 16) rfl rfl Tryz.func62 (by kernel_rfl) rfl #[.slice A0 l0.length c0,.int .i64 a1,.int .i64 a2] rfl (by first|rfl|simp only [z3_,z4_,z5_];try rfl) ?_;(with_reducible refine (spec_weArgument.calls k _ _ l0 a1 a2 true _ ?side1 ?side2 A4.out).mono ?_);(case side1=>repeat (first|exact HR0.out|(with_reducible refine zh ?_ _)|(with_reducible refine zi ?_ _)|(with_reducible refine zj ?_)));(case side2=>exact HC0.out);rintro e w' ⟨rfl,⟨nd,rfl⟩⟩;refine ⟨_,rfl,?_⟩)|((with_reducible refine zo (f:=46) rfl ?_);refine zp (some 19) rfl rfl Tryz.func46 (by kernel_rfl) rfl #[.slice A0 l0.length c0] rfl (by first|rfl|simp only [z3_,z4_,z5_];try rfl) ?_;(with_reducible refine (spec_weAll.calls k _ _ l0 t102 _ ?side1 ?side2 A6.out).mono ?_);(case side1=>repeat (first|exact HR0.out|(with_reducible refine zh ?_ _)|(with_reducible refine zi ?_ _)|(with_reducible refine zj ?_)));(case side2=>exact HC0.out);rintro e w7 ⟨v103,rfl,ho0,hb⟩;refine ⟨_,rfl,?_⟩;have HO104:=za (Kd.S_lower ho0 (zq (by repeat (first|(with_reducible first|exact HB.out|apply zc|apply zd|apply zb)|exact HB.out))));replace HB:=za (zm (by repeat (first|(with_reducible first|exact HB.out|apply zc|apply zd|apply zb)|exact HB.out)) hb);obtain ⟨Ao8,co8,eo8⟩:=Kd.S_slice HO104.out;subst eo8)));(go_loopg [8,21] k (fun kq v8 v21 w'=>∃ (x8_1:Int) (x21_1:Int),v8=.int .i64 x8_1∧v21=.int .i64 x21_1∧Aside0 (spec_WeightedSumAt.l0 kq l0 a1 a2 x8_1 t102 (t102.length:Int) x21_1=some (r1,r2))∧Aside0 (kq≤k)∧Aside0 (Kd.S (Kd.slice 3 (Kd.int .i64)) 24 w' w.heap.size (fun _=>True) (.slice Ao8 t102.length co8) t102)∧Aside0 (Below w.heap.size w w')));case atStart=>exact ⟨(0),(0),(by first|rfl|(simp;done)|(simp [*];done)),(by first|rfl|(simp;done)|(simp [*];done)),H',⟨Nat.le_refl _⟩,⟨by (with_reducible repeat (first|apply zH|apply zI|apply Kd.S_drew));exact HO104.out⟩,⟨by repeat (first|(with_reducible first|exact HB.out|apply zc|apply zd|apply zb)|exact HB.out)⟩⟩
  case round =>
   clear H';(try clear c2);(try clear p2);(try clear c4);(try clear c5);(try clear c6);obtain ⟨x8_1,x21_1,rfl,rfl,HA,HK1,HO_19,HB⟩:=hrel
   cases gk with
  |zero=>exact absurd HA.out (by simp [spec_WeightedSumAt.l0])
  |succ k1 =>
    have H:=HA.out;clear HA;simp only [spec_WeightedSumAt.l0] at H;by_cases c9:x21_1 < (t102.length:Int)
    ·
     rw [if_pos c9] at H;have c9b0:decide (x21_1 < (t102.length:Int))=true:=decide_eq_true c9;clear c9;by_cases c10:0≤x21_1
     ·
      rw [if_pos c10] at H;have c10b0:decide (0≤x21_1)=true:=decide_eq_true c10;clear c10;by_cases c11:x21_1 < (t102.length:Int)
      ·
       rw [if_pos c11] at H;have c11b0:decide (x21_1 < (t102.length:Int))=true:=decide_eq_true c11;clear c11;obtain ⟨t106,A12,H⟩:=bindAside H;(try dsimp only at H);have H':=za H;clear H;have p105:0≤(x21_1:Int):=of_decide_eq_true ‹_›;have q105:x21_1 < (t102.length:Int):=of_decide_eq_true ‹_›;obtain ⟨ad105,A105_0,c105_0,e105,hx105_0,hl105_0,hi105_0⟩:=at_L2 (Kd.S_reads' HO_19.out).2.2 x21_1 p105 q105;cases e105;obtain ⟨ce105,hce105,hMe105,hcc105⟩:=Kd.S_get HO_19.out [] x21_1 p105 (by first|exact q105|exact of_decide_eq_true ‹_›|(have e_:=(Kd.S_reads' HO_19.out).1;omega));obtain ⟨ve105_0,rfl,ge105_0⟩:=hMe105;have hv105_0:=hcc105 0 _ rfl;rw [Nat.add_zero,show ((Kd.slice 3 (Kd.int .i64))).sz=1 from rfl,Nat.mul_one] at hv105_0;replace hv105_0:=Option.some.inj (hv105_0.symm.trans hx105_0);rw [hv105_0] at ge105_0;have HL105_0:=za (show Kd.R (Kd.int .i64) 3 _ _ _ _ (rd_L2 t102 x21_1) from ge105_0);clear hv105_0 ge105_0;clear hcc105 hce105;have HR105_0:=za hi105_0;have HC105_0:=za hl105_0;clear hi105_0 hl105_0;replace p105:=eq_true p105;replace q105:=eq_true q105;(go_wp2_with (first|((with_reducible refine zo (f:=56) rfl ?_);refine zp (some 28) rfl rfl Tryz.func56 (by kernel_rfl) rfl #[.slice A105_0 (rd_L2 t102 x21_1).length c105_0,.int .i64 a1] rfl (by first|rfl|simp only [z3_,z4_,z5_];try rfl) ?_;(with_reducible refine (spec_weAt.calls k1 _ _ (rd_L2 t102 x21_1) a1 t106 _ ?side1 ?side2 A12.out).mono ?_);(case side1=>repeat (first|exact (by repeat (first|(with_reducible exact HR105_0.out)|(with_reducible refine zh ?_ _)|(with_reducible refine zi ?_ _)|(with_reducible refine zj ?_)|exact HR105_0.out))|(with_reducible refine zh ?_ _)|(with_reducible refine zi ?_ _)|(with_reducible refine zj ?_)));(case side2=>exact HC105_0.out);rintro e w' ⟨rfl,⟨nd,rfl⟩⟩;refine ⟨_,rfl,?_⟩)));(go_loopg [11,12] k1 (fun kq v11 v12 w'=>∃ (x11_2:Int) (x12_2:Int),v11=.int .i64 x11_2∧v12=.int .i64 x12_2∧Aside0 (spec_WeightedSumAt.l1 kq l0 a1 a2 x8_1 x21_1 x11_2 x12_2 t102 (t102.length:Int) x21_1=some (r1,r2))∧Aside0 (kq≤k1)∧Aside0 (Kd.S (Kd.slice 3 (Kd.int .i64)) 24 w' w.heap.size (fun _=>True) (.slice (some ad105) t102.length co8) t102)∧Aside0 (Kd.C (Kd.int .i64) w' A105_0 (rd_L2 t102 x21_1).length (rd_L2 t102 x21_1))∧Aside0 (Below w.heap.size w w')));case atStart=>exact ⟨(t106),(0),(by first|rfl|(simp;done)|(simp [*];done)),(by first|rfl|(simp;done)|(simp [*];done)),H',⟨Nat.le_refl _⟩,⟨by (with_reducible repeat (first|apply zH|apply zI|apply Kd.S_drew));exact HO_19.out⟩,⟨by repeat (first|(with_reducible exact HR105_0.out)|(with_reducible refine zh ?_ _)|(with_reducible refine zi ?_ _)|(with_reducible refine zj ?_)|exact HR105_0.out)⟩,⟨by repeat (first|(with_reducible first|exact HB.out|apply zc|apply zd|apply zb)|exact HB.out)⟩⟩
       case round =>
        clear H';(try clear c1);(try clear p1);(try clear q1);(try clear hx1);(try clear c2);(try clear p2);(try clear c4);(try clear c5);(try clear c6);(try clear c9);(try clear c9b0);(try clear c10);(try clear c10b0);(try clear p10);(try clear q10);(try clear hx10);(try clear c11);(try clear c11b0);(try clear hx105_0);(try clear p105);(try clear p2);(try clear q105);obtain ⟨x11_2,x12_2,rfl,rfl,HA,HK2,HO_19,HR105_0,HB⟩:=hrel
        cases gk with
       |zero=>exact absurd HA.out (by simp [spec_WeightedSumAt.l1])
       |succ k2 =>
         have H:=HA.out;clear HA;simp only [spec_WeightedSumAt.l1] at H;by_cases c13:x12_2 < (wrap64 ((l0.length:Int) - x21_1))
         · rw [if_pos c13] at H;have c13b0:decide (x12_2 < (wrap64 ((l0.length:Int) - x21_1)))=true:=decide_eq_true c13;clear c13;obtain ⟨t107,A14,H⟩:=bindAside H;(try dsimp only at H);have H':=za H;clear H;(go_wp2_with (first|((with_reducible refine zo (f:=59) rfl ?_);refine zp (some 42) rfl rfl Tryz.func59 (by kernel_rfl) rfl #[.int .i64 (wrap64 (a2 - x12_2)),.int .i64 a1] rfl (by first|rfl|simp only [z3_,z4_,z5_];try rfl) ?_;(with_reducible refine (spec_weBracket.calls k2 (wrap64 (a2 - x12_2)) a1 t107 _ A14.out).mono ?_);rintro e w' ⟨rfl,⟨nd,rfl⟩⟩;refine ⟨_,rfl,?_⟩)));(go_roundg k2);(case measure=>have:=HK1.out;have:=HK2.out;omega);case rel=>exact ⟨(wrap64 (x11_2 * t107)),(wrap64 (x12_2 + 1)),(by first|rfl|(simp;done)|(simp [*];done)),(by first|rfl|(simp;done)|(simp [*];done)),H',⟨by have:=HK1.out;have:=HK2.out;omega⟩,⟨by (with_reducible repeat (first|apply zH|apply zI|apply Kd.S_drew));exact HO_19.out⟩,⟨by repeat (first|(with_reducible exact HR105_0.out)|(with_reducible refine zh ?_ _)|(with_reducible refine zi ?_ _)|(with_reducible refine zj ?_)|exact HR105_0.out)⟩,⟨by repeat (first|(with_reducible first|exact HB.out|apply zc|apply zd|apply zb)|exact HB.out)⟩⟩
         · rw [if_neg c13] at H;have c13b0:decide (x12_2 < (wrap64 ((l0.length:Int) - x21_1)))=false:=decide_eq_false c13;clear c13;have H':=za H;clear H;(go_wp2);(go_roundg k2);(case measure=>have:=HK1.out;have:=HK2.out;omega);case rel=>exact ⟨(wrap64 (x8_1 + x11_2)),(wrap64 (x21_1 + 1)),(by first|rfl|(simp;done)|(simp [*];done)),(by first|rfl|(simp;done)|(simp [*];done)),H',⟨by have:=HK1.out;have:=HK2.out;omega⟩,⟨by (with_reducible repeat (first|apply zH|apply zI|apply Kd.S_drew));exact HO_19.out⟩,⟨by repeat (first|(with_reducible first|exact HB.out|apply zc|apply zd|apply zb)|exact HB.out)⟩⟩
      · rw [if_neg c11] at H;exact absurd H (by simp)
     · rw [if_neg c10] at H;exact absurd H (by simp)
    · rw [if_neg c9] at H;have c9b0:decide (x21_1 < (t102.length:Int))=false:=decide_eq_false c9;clear c9;simp only [Option.some.injEq,Prod.mk.injEq] at H;obtain ⟨rfl,rfl⟩:=H;(go_wp2);(go_ret2);exact ⟨by first|rfl|simp [*,errW_none,errW_some] <;> rfl,by repeat (first|(with_reducible first|exact HB.out|apply zc|apply zd|apply zb)|exact HB.out)⟩
 · replace c5:=Bool.eq_false_iff.mpr c5;subst c5;(have H1:(some (0,false))=some (r1,r2):=by rw [if_neg (show ¬ (false=true) by decide)] at H;exact H);clear H;have H:=H1;clear H1;simp only [Option.some.injEq,Prod.mk.injEq] at H;obtain ⟨rfl,rfl⟩:=H;(go_enter Tryz.func28,Tryz.ntmps28);(go_wp2_with (first|((with_reducible refine zo (f:=62) rfl ?_);refine zp (some 16) rfl rfl Tryz.func62 (by kernel_rfl) rfl #[.slice A0 l0.length c0,.int .i64 a1,.int .i64 a2] rfl (by first|rfl|simp only [z3_,z4_,z5_];try rfl) ?_;(with_reducible refine (spec_weArgument.calls k _ _ l0 a1 a2 false _ ?side1 ?side2 A4.out).mono ?_);(case side1=>repeat (first|exact HR0.out|(with_reducible refine zh ?_ _)|(with_reducible refine zi ?_ _)|(with_reducible refine zj ?_)));(case side2=>exact HC0.out);rintro e w' ⟨rfl,⟨nd,rfl⟩⟩;refine ⟨_,rfl,?_⟩)));(go_ret2);exact ⟨by first|rfl|simp [*,errW_none,errW_some] <;> rfl,by repeat (first|(with_reducible first|exact HB.out|apply zc|apply zd|apply zb)|exact HB.out)⟩
end Go.Proofs.YtihnjbfjdkdhaaaGreat.Q
end
section
namespace Go.Proofs.YtihnjbfjdkdhaaaGreat.Q
open Go.RowKit Go.Proofs.YtihnjbfjdkdhaaaGreatW.PrintWords Go.Proofs.YtihnjbfjdkdhaaaGreatW.PrintLast Go.Proofs.YtihnjbfjdkdhaaaGreatW.PrintMore
attribute [local go_sem] max2_int min2_int max_two min_two max_three min_three max_four min_four   -- for this text's walks alone
set_option linter.unusedVariables false
set_option linter.unusedSimpArgs false
def bits_Len64.j0:Nat→Int→Int→Option (Int)
|0,_,_=>none
|k + 1,x0,x2=>if x0 ≥ 65536 then (if (x0 / 65536) ≥ 256 then (if 0≤(((x0 / 65536) / 256) % 256) then (if (((x0 / 65536) / 256) % 256) < 256 then (some (wrap64 ((wrap64 ((wrap64 (x2 + 16)) + 8)) + (wrap64 (bt (⟨#[0,1,2,2,3,3,3,3,4,4,4,4,4,4,4,4,5,5,5,5,5,5,5,5,5,5,5,5,5,5,5,5,6,6,6,6,6,6,6,6,6,6,6,6,6,6,6,6,6,6,6,6,6,6,6,6,6,6,6,6,6,6,6,6,7,7,7,7,7,7,7,7,7,7,7,7,7,7,7,7,7,7,7,7,7,7,7,7,7,7,7,7,7,7,7,7,7,7,7,7,7,7,7,7,7,7,7,7,7,7,7,7,7,7,7,7,7,7,7,7,7,7,7,7,7,7,7,7,8,8,8,8,8,8,8,8,8,8,8,8,8,8,8,8,8,8,8,8,8,8,8,8,8,8,8,8,8,8,8,8,8,8,8,8,8,8,8,8,8,8,8,8,8,8,8,8,8,8,8,8,8,8,8,8,8,8,8,8,8,8,8,8,8,8,8,8,8,8,8,8,8,8,8,8,8,8,8,8,8,8,8,8,8,8,8,8,8,8,8,8,8,8,8,8,8,8,8,8,8,8,8,8,8,8,8,8,8,8,8,8,8,8,8,8,8,8,8,8,8,8,8,8,8,8,8,8]⟩:ByteArray) (((x0 / 65536) / 256) % 256)))))) else (none)) else (none)) else (if 0≤((x0 / 65536) % 256) then (if ((x0 / 65536) % 256) < 256 then (some (wrap64 ((wrap64 (x2 + 16)) + (wrap64 (bt (⟨#[0,1,2,2,3,3,3,3,4,4,4,4,4,4,4,4,5,5,5,5,5,5,5,5,5,5,5,5,5,5,5,5,6,6,6,6,6,6,6,6,6,6,6,6,6,6,6,6,6,6,6,6,6,6,6,6,6,6,6,6,6,6,6,6,7,7,7,7,7,7,7,7,7,7,7,7,7,7,7,7,7,7,7,7,7,7,7,7,7,7,7,7,7,7,7,7,7,7,7,7,7,7,7,7,7,7,7,7,7,7,7,7,7,7,7,7,7,7,7,7,7,7,7,7,7,7,7,7,8,8,8,8,8,8,8,8,8,8,8,8,8,8,8,8,8,8,8,8,8,8,8,8,8,8,8,8,8,8,8,8,8,8,8,8,8,8,8,8,8,8,8,8,8,8,8,8,8,8,8,8,8,8,8,8,8,8,8,8,8,8,8,8,8,8,8,8,8,8,8,8,8,8,8,8,8,8,8,8,8,8,8,8,8,8,8,8,8,8,8,8,8,8,8,8,8,8,8,8,8,8,8,8,8,8,8,8,8,8,8,8,8,8,8,8,8,8,8,8,8,8,8,8,8,8,8,8]⟩:ByteArray) ((x0 / 65536) % 256)))))) else (none)) else (none))) else (if x0 ≥ 256 then (if 0≤((x0 / 256) % 256) then (if ((x0 / 256) % 256) < 256 then (some (wrap64 ((wrap64 (x2 + 8)) + (wrap64 (bt (⟨#[0,1,2,2,3,3,3,3,4,4,4,4,4,4,4,4,5,5,5,5,5,5,5,5,5,5,5,5,5,5,5,5,6,6,6,6,6,6,6,6,6,6,6,6,6,6,6,6,6,6,6,6,6,6,6,6,6,6,6,6,6,6,6,6,7,7,7,7,7,7,7,7,7,7,7,7,7,7,7,7,7,7,7,7,7,7,7,7,7,7,7,7,7,7,7,7,7,7,7,7,7,7,7,7,7,7,7,7,7,7,7,7,7,7,7,7,7,7,7,7,7,7,7,7,7,7,7,7,8,8,8,8,8,8,8,8,8,8,8,8,8,8,8,8,8,8,8,8,8,8,8,8,8,8,8,8,8,8,8,8,8,8,8,8,8,8,8,8,8,8,8,8,8,8,8,8,8,8,8,8,8,8,8,8,8,8,8,8,8,8,8,8,8,8,8,8,8,8,8,8,8,8,8,8,8,8,8,8,8,8,8,8,8,8,8,8,8,8,8,8,8,8,8,8,8,8,8,8,8,8,8,8,8,8,8,8,8,8,8,8,8,8,8,8,8,8,8,8,8,8,8,8,8,8,8,8]⟩:ByteArray) ((x0 / 256) % 256)))))) else (none)) else (none)) else (if 0≤((x0) % 256) then (if ((x0) % 256) < 256 then (some (wrap64 (x2 + (wrap64 (bt (⟨#[0,1,2,2,3,3,3,3,4,4,4,4,4,4,4,4,5,5,5,5,5,5,5,5,5,5,5,5,5,5,5,5,6,6,6,6,6,6,6,6,6,6,6,6,6,6,6,6,6,6,6,6,6,6,6,6,6,6,6,6,6,6,6,6,7,7,7,7,7,7,7,7,7,7,7,7,7,7,7,7,7,7,7,7,7,7,7,7,7,7,7,7,7,7,7,7,7,7,7,7,7,7,7,7,7,7,7,7,7,7,7,7,7,7,7,7,7,7,7,7,7,7,7,7,7,7,7,7,8,8,8,8,8,8,8,8,8,8,8,8,8,8,8,8,8,8,8,8,8,8,8,8,8,8,8,8,8,8,8,8,8,8,8,8,8,8,8,8,8,8,8,8,8,8,8,8,8,8,8,8,8,8,8,8,8,8,8,8,8,8,8,8,8,8,8,8,8,8,8,8,8,8,8,8,8,8,8,8,8,8,8,8,8,8,8,8,8,8,8,8,8,8,8,8,8,8,8,8,8,8,8,8,8,8,8,8,8,8,8,8,8,8,8,8,8,8,8,8,8,8,8,8,8,8,8,8]⟩:ByteArray) ((x0) % 256)))))) else (none)) else (none)))
def bits_Len64.f (k:Nat) (a0:Int):Option (Int):=if a0 ≥ 4294967296 then (bits_Len64.j0 k (a0 / 4294967296) 32) else (bits_Len64.j0 k a0 0)
theorem bits_Len64.mono_l:∀ k,(∀ y0 y1,LeO (bits_Len64.j0 k y0 y1) (bits_Len64.j0 (k + 1) y0 y1))
|0=>fun _ _ r h=>by simp [bits_Len64.j0] at h
|k + 1=>by
  have ih0:=bits_Len64.mono_l k
  ·
   intro y0 y1
   unfold bits_Len64.j0
   repeat' first
  |(with_reducible exact ih0 _ _)
  |(with_reducible exact LeO.refl _)
  |(with_reducible exact LeO.none _)
  |(with_reducible refine LeO.ite ?_ ?_)
  |(with_reducible refine LeO.bind ?_ (fun _=>?_))
  |exact ih0 _ _
  |exact LeO.none _
  |refine LeO.ite ?_ ?_
  |refine LeO.bind ?_ (fun _=>?_)
theorem bits_Len64.mono:∀ a0 k,LeO (bits_Len64.f k a0) (bits_Len64.f (k + 1) a0):=by
 intro a0 k;have ih0:=bits_Len64.mono_l k;unfold bits_Len64.f
 repeat' first
  |(with_reducible exact ih0 _ _)
  |(with_reducible exact LeO.refl _)
  |(with_reducible exact LeO.none _)
  |(with_reducible refine LeO.ite ?_ ?_)
  |(with_reducible refine LeO.bind ?_ (fun _=>?_))
  |exact ih0 _ _
  |exact LeO.none _
  |refine LeO.ite ?_ ?_
  |refine LeO.bind ?_ (fun _=>?_)
set_option maxHeartbeats 8000000 in
set_option maxRecDepth 100000 in
theorem bits_Len64.calls (k:Nat) (a0:Int) (r:Int) (w:World) (h:bits_Len64.f k a0=some r) :
  Calls Tryz.prog 106 #[.int .u64 a0] w fun e w'=>e=.returned (.int .i64 r)∧Drawn0 w w':=by
 have H:(if a0 ≥ 4294967296 then (bits_Len64.j0 k (a0 / 4294967296) 32) else (bits_Len64.j0 k a0 0))=some r:=h;clear h;have HC2:=za H;clear H;(go_enter Tryz.func106,Tryz.ntmps106);(go_upto_if 4 with (fail));go_cut [0,2] (fun v0 v2 wc=>∃ (kq:Nat) (x0_1:Int) (x2_1:Int),v0=.int .u64 x0_1∧v2=.int .i64 x2_1∧Aside0 (bits_Len64.j0 kq x0_1 x2_1=some r)∧Aside0 (kq≤k)∧Drawn0 w wc)
 case first =>
  have H:=HC2.out;clear HC2;by_cases c3:a0 ≥ 4294967296
  · rw [if_pos c3] at H;have c3b0:decide (4294967296≤a0)=true:=decide_eq_true c3;clear c3;(first|rw [c3b0]|(simp only [i64_w,i32_w];rw [c3b0])|skip);have H':=za H;clear H;(go_wp2);(go_meet);case rel=>exact ⟨_,(a0 / 4294967296),(32),(by first|rfl|(simp;done)|(simp [*];done)),(by first|rfl|(simp;done)|(simp [*];done)),H',⟨by first|omega|exact Nat.le_refl _⟩,by repeat (first|exact Drawn0.refl _|apply Drawn0.step)⟩
  · rw [if_neg c3] at H;have c3b0:decide (4294967296≤a0)=false:=decide_eq_false c3;clear c3;(first|rw [c3b0]|(simp only [i64_w,i32_w];rw [c3b0])|skip);have H':=za H;clear H;(go_wp2);(go_meet);case rel=>exact ⟨_,(a0),(0),(by first|rfl|(simp;done)|(simp [*];done)),(by first|rfl|(simp;done)|(simp [*];done)),H',⟨by first|omega|exact Nat.le_refl _⟩,by repeat (first|exact Drawn0.refl _|apply Drawn0.step)⟩
 case rest =>
  clear HC2;(try clear c1);(try clear p2);(try clear c3);(try clear c3b0);obtain ⟨kq,x0_1,x2_1,rfl,rfl,HA,HJ1,⟨mc1,rfl⟩⟩:=hcut
  cases kq with
 |zero=>exact absurd HA.out (by simp [bits_Len64.j0])
 |succ kj1 =>
   have H:=HA.out;clear HA;simp only [bits_Len64.j0] at H;by_cases c4:x0_1 ≥ 65536
   ·
    rw [if_pos c4] at H;have c4b0:decide (65536≤x0_1)=true:=decide_eq_true c4;clear c4;by_cases c5:(x0_1 / 65536) ≥ 256
    ·
     rw [if_pos c5] at H;have c5b0:decide (256≤(x0_1 / 65536))=true:=decide_eq_true c5;clear c5;obtain ⟨ji6,hji6⟩:∃ j_:Int,(((x0_1 / 65536) / 256) % 256)=j_:=⟨_,rfl⟩;(replace H:(if 0≤(ji6) then (if (ji6) < 256 then (some (wrap64 ((wrap64 ((wrap64 (x2_1 + 16)) + 8)) + (wrap64 (bt (⟨#[0,1,2,2,3,3,3,3,4,4,4,4,4,4,4,4,5,5,5,5,5,5,5,5,5,5,5,5,5,5,5,5,6,6,6,6,6,6,6,6,6,6,6,6,6,6,6,6,6,6,6,6,6,6,6,6,6,6,6,6,6,6,6,6,7,7,7,7,7,7,7,7,7,7,7,7,7,7,7,7,7,7,7,7,7,7,7,7,7,7,7,7,7,7,7,7,7,7,7,7,7,7,7,7,7,7,7,7,7,7,7,7,7,7,7,7,7,7,7,7,7,7,7,7,7,7,7,7,8,8,8,8,8,8,8,8,8,8,8,8,8,8,8,8,8,8,8,8,8,8,8,8,8,8,8,8,8,8,8,8,8,8,8,8,8,8,8,8,8,8,8,8,8,8,8,8,8,8,8,8,8,8,8,8,8,8,8,8,8,8,8,8,8,8,8,8,8,8,8,8,8,8,8,8,8,8,8,8,8,8,8,8,8,8,8,8,8,8,8,8,8,8,8,8,8,8,8,8,8,8,8,8,8,8,8,8,8,8,8,8,8,8,8,8,8,8,8,8,8,8,8,8,8,8,8,8]⟩:ByteArray) (ji6)))))) else (none)) else (none))=some r:=by first|(rw [hji6] at H;exact H)|(simp only [hji6] at H ⊢;exact H));by_cases c7:0≤(ji6)
     ·
      rw [if_pos c7] at H;have c7b0:decide (0≤(ji6))=true:=decide_eq_true c7;clear c7;by_cases c8:(ji6) < 256
      · rw [if_pos c8] at H;have c8b0:decide ((ji6) < 256)=true:=decide_eq_true c8;clear c8;obtain rfl:=Option.some.inj H;have p9:0≤((ji6):Int):=of_decide_eq_true ‹_›;have q9:(ji6) < (256:Int):=of_decide_eq_true ‹_›;have hx9:=bt_at (⟨#[0,1,2,2,3,3,3,3,4,4,4,4,4,4,4,4,5,5,5,5,5,5,5,5,5,5,5,5,5,5,5,5,6,6,6,6,6,6,6,6,6,6,6,6,6,6,6,6,6,6,6,6,6,6,6,6,6,6,6,6,6,6,6,6,7,7,7,7,7,7,7,7,7,7,7,7,7,7,7,7,7,7,7,7,7,7,7,7,7,7,7,7,7,7,7,7,7,7,7,7,7,7,7,7,7,7,7,7,7,7,7,7,7,7,7,7,7,7,7,7,7,7,7,7,7,7,7,7,8,8,8,8,8,8,8,8,8,8,8,8,8,8,8,8,8,8,8,8,8,8,8,8,8,8,8,8,8,8,8,8,8,8,8,8,8,8,8,8,8,8,8,8,8,8,8,8,8,8,8,8,8,8,8,8,8,8,8,8,8,8,8,8,8,8,8,8,8,8,8,8,8,8,8,8,8,8,8,8,8,8,8,8,8,8,8,8,8,8,8,8,8,8,8,8,8,8,8,8,8,8,8,8,8,8,8,8,8,8,8,8,8,8,8,8,8,8,8,8,8,8,8,8,8,8,8,8]⟩:ByteArray) (ji6);replace p9:=eq_true p9;replace q9:=eq_true q9;(go_wp2);(go_ret);exact ⟨by first|rfl|(simp;done)|(simp only [← hji6] <;> (first|rfl|simp))|(simp [*];done),by repeat (first|exact Drawn0.refl _|apply Drawn0.step)⟩
      · rw [if_neg c8] at H;exact absurd H (by simp)
     · rw [if_neg c7] at H;exact absurd H (by simp)
    ·
     rw [if_neg c5] at H;have c5b0:decide (256≤(x0_1 / 65536))=false:=decide_eq_false c5;clear c5;obtain ⟨ji10,hji10⟩:∃ j_:Int,((x0_1 / 65536) % 256)=j_:=⟨_,rfl⟩;(replace H:(if 0≤(ji10) then (if (ji10) < 256 then (some (wrap64 ((wrap64 (x2_1 + 16)) + (wrap64 (bt (⟨#[0,1,2,2,3,3,3,3,4,4,4,4,4,4,4,4,5,5,5,5,5,5,5,5,5,5,5,5,5,5,5,5,6,6,6,6,6,6,6,6,6,6,6,6,6,6,6,6,6,6,6,6,6,6,6,6,6,6,6,6,6,6,6,6,7,7,7,7,7,7,7,7,7,7,7,7,7,7,7,7,7,7,7,7,7,7,7,7,7,7,7,7,7,7,7,7,7,7,7,7,7,7,7,7,7,7,7,7,7,7,7,7,7,7,7,7,7,7,7,7,7,7,7,7,7,7,7,7,8,8,8,8,8,8,8,8,8,8,8,8,8,8,8,8,8,8,8,8,8,8,8,8,8,8,8,8,8,8,8,8,8,8,8,8,8,8,8,8,8,8,8,8,8,8,8,8,8,8,8,8,8,8,8,8,8,8,8,8,8,8,8,8,8,8,8,8,8,8,8,8,8,8,8,8,8,8,8,8,8,8,8,8,8,8,8,8,8,8,8,8,8,8,8,8,8,8,8,8,8,8,8,8,8,8,8,8,8,8,8,8,8,8,8,8,8,8,8,8,8,8,8,8,8,8,8,8]⟩:ByteArray) (ji10)))))) else (none)) else (none))=some r:=by first|(rw [hji10] at H;exact H)|(simp only [hji10] at H ⊢;exact H));by_cases c11:0≤(ji10)
     ·
      rw [if_pos c11] at H;have c11b0:decide (0≤(ji10))=true:=decide_eq_true c11;clear c11;by_cases c12:(ji10) < 256
      · rw [if_pos c12] at H;have c12b0:decide ((ji10) < 256)=true:=decide_eq_true c12;clear c12;obtain rfl:=Option.some.inj H;have p13:0≤((ji10):Int):=of_decide_eq_true ‹_›;have q13:(ji10) < (256:Int):=of_decide_eq_true ‹_›;have hx13:=bt_at (⟨#[0,1,2,2,3,3,3,3,4,4,4,4,4,4,4,4,5,5,5,5,5,5,5,5,5,5,5,5,5,5,5,5,6,6,6,6,6,6,6,6,6,6,6,6,6,6,6,6,6,6,6,6,6,6,6,6,6,6,6,6,6,6,6,6,7,7,7,7,7,7,7,7,7,7,7,7,7,7,7,7,7,7,7,7,7,7,7,7,7,7,7,7,7,7,7,7,7,7,7,7,7,7,7,7,7,7,7,7,7,7,7,7,7,7,7,7,7,7,7,7,7,7,7,7,7,7,7,7,8,8,8,8,8,8,8,8,8,8,8,8,8,8,8,8,8,8,8,8,8,8,8,8,8,8,8,8,8,8,8,8,8,8,8,8,8,8,8,8,8,8,8,8,8,8,8,8,8,8,8,8,8,8,8,8,8,8,8,8,8,8,8,8,8,8,8,8,8,8,8,8,8,8,8,8,8,8,8,8,8,8,8,8,8,8,8,8,8,8,8,8,8,8,8,8,8,8,8,8,8,8,8,8,8,8,8,8,8,8,8,8,8,8,8,8,8,8,8,8,8,8,8,8,8,8,8,8]⟩:ByteArray) (ji10);replace p13:=eq_true p13;replace q13:=eq_true q13;(go_wp2);(go_ret);exact ⟨by first|rfl|(simp;done)|(simp only [← hji10] <;> (first|rfl|simp))|(simp [*];done),by repeat (first|exact Drawn0.refl _|apply Drawn0.step)⟩
      · rw [if_neg c12] at H;exact absurd H (by simp)
     · rw [if_neg c11] at H;exact absurd H (by simp)
   ·
    rw [if_neg c4] at H;have c4b0:decide (65536≤x0_1)=false:=decide_eq_false c4;clear c4;by_cases c14:x0_1 ≥ 256
    ·
     rw [if_pos c14] at H;have c14b0:decide (256≤x0_1)=true:=decide_eq_true c14;clear c14;obtain ⟨ji15,hji15⟩:∃ j_:Int,((x0_1 / 256) % 256)=j_:=⟨_,rfl⟩;(replace H:(if 0≤(ji15) then (if (ji15) < 256 then (some (wrap64 ((wrap64 (x2_1 + 8)) + (wrap64 (bt (⟨#[0,1,2,2,3,3,3,3,4,4,4,4,4,4,4,4,5,5,5,5,5,5,5,5,5,5,5,5,5,5,5,5,6,6,6,6,6,6,6,6,6,6,6,6,6,6,6,6,6,6,6,6,6,6,6,6,6,6,6,6,6,6,6,6,7,7,7,7,7,7,7,7,7,7,7,7,7,7,7,7,7,7,7,7,7,7,7,7,7,7,7,7,7,7,7,7,7,7,7,7,7,7,7,7,7,7,7,7,7,7,7,7,7,7,7,7,7,7,7,7,7,7,7,7,7,7,7,7,8,8,8,8,8,8,8,8,8,8,8,8,8,8,8,8,8,8,8,8,8,8,8,8,8,8,8,8,8,8,8,8,8,8,8,8,8,8,8,8,8,8,8,8,8,8,8,8,8,8,8,8,8,8,8,8,8,8,8,8,8,8,8,8,8,8,8,8,8,8,8,8,8,8,8,8,8,8,8,8,8,8,8,8,8,8,8,8,8,8,8,8,8,8,8,8,8,8,8,8,8,8,8,8,8,8,8,8,8,8,8,8,8,8,8,8,8,8,8,8,8,8,8,8,8,8,8,8]⟩:ByteArray) (ji15)))))) else (none)) else (none))=some r:=by first|(rw [hji15] at H;exact H)|(simp only [hji15] at H ⊢;exact H));by_cases c16:0≤(ji15)
     ·
      rw [if_pos c16] at H;have c16b0:decide (0≤(ji15))=true:=decide_eq_true c16;clear c16;by_cases c17:(ji15) < 256
      · rw [if_pos c17] at H;have c17b0:decide ((ji15) < 256)=true:=decide_eq_true c17;clear c17;obtain rfl:=Option.some.inj H;have p18:0≤((ji15):Int):=of_decide_eq_true ‹_›;have q18:(ji15) < (256:Int):=of_decide_eq_true ‹_›;have hx18:=bt_at (⟨#[0,1,2,2,3,3,3,3,4,4,4,4,4,4,4,4,5,5,5,5,5,5,5,5,5,5,5,5,5,5,5,5,6,6,6,6,6,6,6,6,6,6,6,6,6,6,6,6,6,6,6,6,6,6,6,6,6,6,6,6,6,6,6,6,7,7,7,7,7,7,7,7,7,7,7,7,7,7,7,7,7,7,7,7,7,7,7,7,7,7,7,7,7,7,7,7,7,7,7,7,7,7,7,7,7,7,7,7,7,7,7,7,7,7,7,7,7,7,7,7,7,7,7,7,7,7,7,7,8,8,8,8,8,8,8,8,8,8,8,8,8,8,8,8,8,8,8,8,8,8,8,8,8,8,8,8,8,8,8,8,8,8,8,8,8,8,8,8,8,8,8,8,8,8,8,8,8,8,8,8,8,8,8,8,8,8,8,8,8,8,8,8,8,8,8,8,8,8,8,8,8,8,8,8,8,8,8,8,8,8,8,8,8,8,8,8,8,8,8,8,8,8,8,8,8,8,8,8,8,8,8,8,8,8,8,8,8,8,8,8,8,8,8,8,8,8,8,8,8,8,8,8,8,8,8,8]⟩:ByteArray) (ji15);replace p18:=eq_true p18;replace q18:=eq_true q18;(go_wp2);(go_ret);exact ⟨by first|rfl|(simp;done)|(simp only [← hji15] <;> (first|rfl|simp))|(simp [*];done),by repeat (first|exact Drawn0.refl _|apply Drawn0.step)⟩
      · rw [if_neg c17] at H;exact absurd H (by simp)
     · rw [if_neg c16] at H;exact absurd H (by simp)
    ·
     rw [if_neg c14] at H;have c14b0:decide (256≤x0_1)=false:=decide_eq_false c14;clear c14;obtain ⟨ji19,hji19⟩:∃ j_:Int,((x0_1) % 256)=j_:=⟨_,rfl⟩;(replace H:(if 0≤(ji19) then (if (ji19) < 256 then (some (wrap64 (x2_1 + (wrap64 (bt (⟨#[0,1,2,2,3,3,3,3,4,4,4,4,4,4,4,4,5,5,5,5,5,5,5,5,5,5,5,5,5,5,5,5,6,6,6,6,6,6,6,6,6,6,6,6,6,6,6,6,6,6,6,6,6,6,6,6,6,6,6,6,6,6,6,6,7,7,7,7,7,7,7,7,7,7,7,7,7,7,7,7,7,7,7,7,7,7,7,7,7,7,7,7,7,7,7,7,7,7,7,7,7,7,7,7,7,7,7,7,7,7,7,7,7,7,7,7,7,7,7,7,7,7,7,7,7,7,7,7,8,8,8,8,8,8,8,8,8,8,8,8,8,8,8,8,8,8,8,8,8,8,8,8,8,8,8,8,8,8,8,8,8,8,8,8,8,8,8,8,8,8,8,8,8,8,8,8,8,8,8,8,8,8,8,8,8,8,8,8,8,8,8,8,8,8,8,8,8,8,8,8,8,8,8,8,8,8,8,8,8,8,8,8,8,8,8,8,8,8,8,8,8,8,8,8,8,8,8,8,8,8,8,8,8,8,8,8,8,8,8,8,8,8,8,8,8,8,8,8,8,8,8,8,8,8,8,8]⟩:ByteArray) (ji19)))))) else (none)) else (none))=some r:=by first|(rw [hji19] at H;exact H)|(simp only [hji19] at H ⊢;exact H));by_cases c20:0≤(ji19)
     ·
      rw [if_pos c20] at H;have c20b0:decide (0≤(ji19))=true:=decide_eq_true c20;clear c20;by_cases c21:(ji19) < 256
      · rw [if_pos c21] at H;have c21b0:decide ((ji19) < 256)=true:=decide_eq_true c21;clear c21;obtain rfl:=Option.some.inj H;have p22:0≤((ji19):Int):=of_decide_eq_true ‹_›;have q22:(ji19) < (256:Int):=of_decide_eq_true ‹_›;have hx22:=bt_at (⟨#[0,1,2,2,3,3,3,3,4,4,4,4,4,4,4,4,5,5,5,5,5,5,5,5,5,5,5,5,5,5,5,5,6,6,6,6,6,6,6,6,6,6,6,6,6,6,6,6,6,6,6,6,6,6,6,6,6,6,6,6,6,6,6,6,7,7,7,7,7,7,7,7,7,7,7,7,7,7,7,7,7,7,7,7,7,7,7,7,7,7,7,7,7,7,7,7,7,7,7,7,7,7,7,7,7,7,7,7,7,7,7,7,7,7,7,7,7,7,7,7,7,7,7,7,7,7,7,7,8,8,8,8,8,8,8,8,8,8,8,8,8,8,8,8,8,8,8,8,8,8,8,8,8,8,8,8,8,8,8,8,8,8,8,8,8,8,8,8,8,8,8,8,8,8,8,8,8,8,8,8,8,8,8,8,8,8,8,8,8,8,8,8,8,8,8,8,8,8,8,8,8,8,8,8,8,8,8,8,8,8,8,8,8,8,8,8,8,8,8,8,8,8,8,8,8,8,8,8,8,8,8,8,8,8,8,8,8,8,8,8,8,8,8,8,8,8,8,8,8,8,8,8,8,8,8,8]⟩:ByteArray) (ji19);replace p22:=eq_true p22;replace q22:=eq_true q22;(go_wp2);(go_ret);exact ⟨by first|rfl|(simp;done)|(simp only [← hji19] <;> (first|rfl|simp))|(simp [*];done),by repeat (first|exact Drawn0.refl _|apply Drawn0.step)⟩
      · rw [if_neg c21] at H;exact absurd H (by simp)
     · rw [if_neg c20] at H;exact absurd H (by simp)
end Go.Proofs.YtihnjbfjdkdhaaaGreat.Q
end
section
namespace Go.Proofs.YtihnjbfjdkdhaaaGreat.Q
open Go.RowKit Go.Proofs.YtihnjbfjdkdhaaaGreatW.PrintWords Go.Proofs.YtihnjbfjdkdhaaaGreatW.PrintLast Go.Proofs.YtihnjbfjdkdhaaaGreatW.PrintMore
attribute [local go_sem] max2_int min2_int max_two min_two max_three min_three max_four min_four   -- for this text's walks alone
set_option linter.unusedVariables false
set_option linter.unusedSimpArgs false
def bits_Len.f (k:Nat) (a0:Int):Option (Int):=(bits_Len64.f k a0).bind fun t101=>(some t101)
theorem bits_Len.mono:∀ a0 k,LeO (bits_Len.f k a0) (bits_Len.f (k + 1) a0):=by
 intro a0 k;unfold bits_Len.f
 repeat' first
  |(with_reducible exact bits_Len64.mono _ _)
  |(with_reducible exact LeO.refl _)
  |(with_reducible exact LeO.none _)
  |(with_reducible refine LeO.ite ?_ ?_)
  |(with_reducible refine LeO.bind ?_ (fun _=>?_))
  |exact bits_Len64.mono _ _
  |exact LeO.none _
  |refine LeO.ite ?_ ?_
  |refine LeO.bind ?_ (fun _=>?_)
set_option maxHeartbeats 8000000 in
set_option maxRecDepth 100000 in
theorem bits_Len.calls (k:Nat) (a0:Int) (r:Int) (w:World) (h:bits_Len.f k a0=some r) :
  Calls Tryz.prog 95 #[.int .u64 a0] w fun e w'=>e=.returned (.int .i64 r)∧Drawn0 w w':=by
 have H:((bits_Len64.f k a0).bind fun t101=>(some t101))=some r:=h;clear h;obtain ⟨t101,A2,H⟩:=bindAside H;(try dsimp only at H);obtain rfl:=Option.some.inj H;(go_enter Tryz.func95,Tryz.ntmps95);(go_wp2_with (first|((with_reducible refine zo (f:=106) rfl ?_);refine zp (some 7) rfl rfl Tryz.func106 (by kernel_rfl) rfl #[.int .u64 a0] rfl (by first|rfl|simp only [z3_,z4_,z5_];try rfl) ?_;(with_reducible refine (bits_Len64.calls k a0 t101 _ A2.out).mono ?_);rintro e w' ⟨rfl,⟨nd,rfl⟩⟩;refine ⟨_,rfl,?_⟩)));(go_ret);exact ⟨by first|rfl|(simp;done)|(simp [*];done),by repeat (first|exact Drawn0.refl _|apply Drawn0.step)⟩
end Go.Proofs.YtihnjbfjdkdhaaaGreat.Q
end
section
namespace Go.Proofs.YtihnjbfjdkdhaaaGreat.Q
open Go.RowKit Go.Proofs.YtihnjbfjdkdhaaaGreatW.PrintWords Go.Proofs.YtihnjbfjdkdhaaaGreatW.PrintLast Go.Proofs.YtihnjbfjdkdhaaaGreatW.PrintMore
attribute [local go_sem] max2_int min2_int max_two min_two max_three min_three max_four min_four   -- for this text's walks alone
set_option linter.unusedVariables false
set_option linter.unusedSimpArgs false
mutual
def slices_insertionSortOrdered_int.l0:Nat→List Int→Int→Int→Int→Option (List Int)
|0,_,_,_,_=>none
|k + 1,x0,x1,x2,x6=>if x6 < x2 then (slices_insertionSortOrdered_int.l1 k x0 x1 x2 x6 x6) else (some x0)
def slices_insertionSortOrdered_int.l1:Nat→List Int→Int→Int→Int→Int→Option (List Int)
|0,_,_,_,_,_=>none
|k + 1,x0,x1,x2,x6,x7=>if x7 > x1 then (if 0≤x7 then (if x7 < (x0.length:Int) then (if 0≤(wrap64 (x7 - 1)) then (if (wrap64 (x7 - 1)) < (x0.length:Int) then ((cmp_Less_int.f (rd x0 x7) (rd x0 (wrap64 (x7 - 1)))).bind fun t103=>(if t103=true then (slices_insertionSortOrdered_int.l1 k ((x0.set (x7:Int).toNat (rd x0 (wrap64 (x7 - 1)))).set ((wrap64 (x7 - 1)):Int).toNat (rd x0 x7)) x1 x2 x6 (wrap64 (x7 - 1))) else (slices_insertionSortOrdered_int.l0 k x0 x1 x2 (wrap64 (x6 + 1))))) else (none)) else (none)) else (none)) else (none)) else (slices_insertionSortOrdered_int.l0 k x0 x1 x2 (wrap64 (x6 + 1)))
end
def slices_insertionSortOrdered_int.f (k:Nat) (l0:List Int) (a1:Int) (a2:Int):Option (List Int):=slices_insertionSortOrdered_int.l0 k l0 a1 a2 (wrap64 (a1 + 1))
theorem slices_insertionSortOrdered_int.mono_l:∀ k,(∀ y0 y1 y2 y3,LeO (slices_insertionSortOrdered_int.l0 k y0 y1 y2 y3) (slices_insertionSortOrdered_int.l0 (k + 1) y0 y1 y2 y3))∧(∀ y0 y1 y2 y3 y4,LeO (slices_insertionSortOrdered_int.l1 k y0 y1 y2 y3 y4) (slices_insertionSortOrdered_int.l1 (k + 1) y0 y1 y2 y3 y4))
|0=>⟨fun _ _ _ _ r h=>by simp [slices_insertionSortOrdered_int.l0] at h,fun _ _ _ _ _ r h=>by simp [slices_insertionSortOrdered_int.l1] at h⟩
|k + 1=>by
  obtain ⟨ih0,ih1⟩:=slices_insertionSortOrdered_int.mono_l k
  refine ⟨?_,?_⟩
  ·
   intro y0 y1 y2 y3
   unfold slices_insertionSortOrdered_int.l0
   repeat' first
  |(with_reducible exact ih0 _ _ _ _)
  |(with_reducible exact ih1 _ _ _ _ _)
  |(with_reducible exact LeO.refl _)
  |(with_reducible exact LeO.none _)
  |(with_reducible refine LeO.ite ?_ ?_)
  |(with_reducible refine LeO.bind ?_ (fun _=>?_))
  |exact ih0 _ _ _ _
  |exact ih1 _ _ _ _ _
  |exact LeO.none _
  |refine LeO.ite ?_ ?_
  |refine LeO.bind ?_ (fun _=>?_)
  ·
   intro y0 y1 y2 y3 y4
   unfold slices_insertionSortOrdered_int.l1
   repeat' first
  |(with_reducible exact ih0 _ _ _ _)
  |(with_reducible exact ih1 _ _ _ _ _)
  |(with_reducible exact LeO.refl _)
  |(with_reducible exact LeO.none _)
  |(with_reducible refine LeO.ite ?_ ?_)
  |(with_reducible refine LeO.bind ?_ (fun _=>?_))
  |exact ih0 _ _ _ _
  |exact ih1 _ _ _ _ _
  |exact LeO.none _
  |refine LeO.ite ?_ ?_
  |refine LeO.bind ?_ (fun _=>?_)
theorem slices_insertionSortOrdered_int.mono:∀ a0 a1 a2 k,LeO (slices_insertionSortOrdered_int.f k a0 a1 a2) (slices_insertionSortOrdered_int.f (k + 1) a0 a1 a2):=by
 intro a0 a1 a2 k;obtain ⟨ih0,ih1⟩:=slices_insertionSortOrdered_int.mono_l k;unfold slices_insertionSortOrdered_int.f
 repeat' first
  |(with_reducible exact ih0 _ _ _ _)
  |(with_reducible exact ih1 _ _ _ _ _)
  |(with_reducible exact LeO.refl _)
  |(with_reducible exact LeO.none _)
  |(with_reducible refine LeO.ite ?_ ?_)
  |(with_reducible refine LeO.bind ?_ (fun _=>?_))
  |exact ih0 _ _ _ _
  |exact ih1 _ _ _ _ _
  |exact LeO.none _
  |refine LeO.ite ?_ ?_
  |refine LeO.bind ?_ (fun _=>?_)
def slices_insertionSortOrdered_int.T4:Bool × List (List Nat × List Nat):=(true,[([],[]),([],[]),([0,1],[0,1]),([2],[2]),([3],[3]),([3],[3]),([4,5,3],[3,4,5]),([6,3],[3,6]),([3],[3]),([3],[3]),([9,3],[3,9]),([8,10,3],[3,8,10]),([11,3],[3,11]),([7,12,3,3],[3,7,12]),([3,13],[3,13])])
def slices_insertionSortOrdered_int.B4:List Nat:=[0,0,3,7,15,15,63,127,15,15,527,1807,3855,8191,16383]
theorem slices_insertionSortOrdered_int.tab4:rtab .any (opsOf Tryz.f97 4)=slices_insertionSortOrdered_int.T4:=by kernel_rfl
theorem slices_insertionSortOrdered_int.bits4:waitsOk slices_insertionSortOrdered_int.T4.2 slices_insertionSortOrdered_int.B4=true:=by kernel_rfl
def slices_insertionSortOrdered_int.T6:Bool × List (List Nat × List Nat):=(true,[([],[]),([],[]),([],[]),([],[]),([3],[3]),([],[]),([],[]),([6],[6]),([5,7],[5,7]),([8],[8]),([],[]),([],[]),([10,11],[10,11]),([12],[12]),([0,1,0,1,5,6,7,8,9,13],[0,1]),([14,9,0,1,5,6,7,8,9,13],[9,14]),([2,4,0,1,2,3,4,5,6,7,8,9,10,11,12,13,14,15],[2,4]),([16,13,15,0,1,2,3,4,5,6,7,8,9,10,11,12,13,14,15],[13,16])])
def slices_insertionSortOrdered_int.B6:List Nat:=[0,0,0,0,8,0,0,64,224,480,0,0,3072,7168,16355,32739,65535,131071]
theorem slices_insertionSortOrdered_int.tab6:rtab .any (opsOf Tryz.f97 6)=slices_insertionSortOrdered_int.T6:=by kernel_rfl
theorem slices_insertionSortOrdered_int.bits6:waitsOk slices_insertionSortOrdered_int.T6.2 slices_insertionSortOrdered_int.B6=true:=by kernel_rfl
set_option maxHeartbeats 8000000 in
set_option maxRecDepth 100000 in
theorem slices_insertionSortOrdered_int.calls (k:Nat) (P0_:Nat→Prop) (u9000_:Value) (l0:List Int) (a1:Int) (a2:Int) (r:List Int) (w0 w:World) (hB:Below w0.heap.size w0 w) (ho0:Kd.R (Kd.int .i64) 3 w w0.heap.size P0_ u9000_ l0) (h:slices_insertionSortOrdered_int.f k l0 a1 a2=some r) :
  Calls Tryz.prog 97 #[u9000_,.int .i64 a1,.int .i64 a2] w fun e w'=>e=.returned (.tuple #[])∧Kd.R (Kd.int .i64) 3 w' w0.heap.size (fun k_=>(P0_ k_ ∨ w.heap.size≤k_)) u9000_ r∧Below w0.heap.size w0 w'∧Kept w w' (fun k_=>P0_ k_):=by
 have HO0:=za (show Kd.R (Kd.int .i64) 3 w w0.heap.size (fun k_=>(P0_ k_ ∨ w.heap.size≤k_)) u9000_ l0 from zs ho0 (fun k_ hk=>(.inl hk)));have HK:=za (Kept.refl w (fun k_=>P0_ k_));have HW0:=za hB.size;have HB:=za hB;clear hB;have H:(slices_insertionSortOrdered_int.l0 k l0 a1 a2 (wrap64 (a1 + 1)))=some r:=h;clear h;have H':=za H;clear H;(go_enter Tryz.func97,Tryz.ntmps97);(go_wp2);(go_loopg [6] k (fun kq v6 w'=>∃ (x0_1:List Int) (x6_1:Int),v6=.int .i64 x6_1∧Aside0 (slices_insertionSortOrdered_int.l0 kq x0_1 a1 a2 x6_1=some r)∧Aside0 (kq≤k)∧Aside0 (Kd.R (Kd.int .i64) 3 w' w0.heap.size (fun k_=>(P0_ k_ ∨ w.heap.size≤k_)) u9000_ x0_1)∧Aside0 (Kept w w' (fun k_=>P0_ k_))∧Aside0 (Below w0.heap.size w0 w')));case atStart=>exact ⟨(l0),(wrap64 (a1 + 1)),(by first|rfl|(simp;done)|(simp [*];done)),H',⟨Nat.le_refl _⟩,⟨by (with_reducible repeat (first|apply zf|apply zg|apply ze));exact HO0.out⟩,⟨by repeat (first|(with_reducible first|exact HK.out|apply Kept.alloc|apply Kept.drewN|apply Kept.drew)|exact HK.out)⟩,⟨by repeat (first|(with_reducible first|exact HB.out|apply zc|apply zd|apply zb)|exact HB.out)⟩⟩
 case round =>
  clear H';(try clear p2);obtain ⟨x0_1,x6_1,rfl,HA,HK1,HO_0,HK,HB⟩:=hrel
  cases gk with
 |zero=>exact absurd HA.out (by simp [slices_insertionSortOrdered_int.l0])
 |succ k1 =>
   have H:=HA.out;clear HA;simp only [slices_insertionSortOrdered_int.l0] at H;by_cases c4:x6_1 < a2
   ·
    rw [if_pos c4] at H;have c4b0:decide (x6_1 < a2)=true:=decide_eq_true c4;clear c4;have H':=za H;clear H;(go_wp2);(go_loopg [7] k1 (fun kq v7 w'=>∃ (x0_2:List Int) (x7_2:Int),v7=.int .i64 x7_2∧Aside0 (slices_insertionSortOrdered_int.l1 kq x0_2 a1 a2 x6_1 x7_2=some r)∧Aside0 (kq≤k1)∧Aside0 (Kd.R (Kd.int .i64) 3 w' w0.heap.size (fun k_=>(P0_ k_ ∨ w.heap.size≤k_)) u9000_ x0_2)∧Aside0 (Kept w w' (fun k_=>P0_ k_))∧Aside0 (Below w0.heap.size w0 w')));case atStart=>exact ⟨(x0_1),(x6_1),(by first|rfl|(simp;done)|(simp [*];done)),H',⟨Nat.le_refl _⟩,⟨by (with_reducible repeat (first|apply zf|apply zg|apply ze));exact HO_0.out⟩,⟨by repeat (first|(with_reducible first|exact HK.out|apply Kept.alloc|apply Kept.drewN|apply Kept.drew)|exact HK.out)⟩,⟨by repeat (first|(with_reducible first|exact HB.out|apply zc|apply zd|apply zb)|exact HB.out)⟩⟩
    case round =>
     clear H';(try clear p2);(try clear c4);(try clear c4b0);(try clear p2);obtain ⟨x0_2,x7_2,rfl,HA,HK2,HO_0,HK,HB⟩:=hrel
     cases gk with
    |zero=>exact absurd HA.out (by simp [slices_insertionSortOrdered_int.l1])
    |succ k2 =>
      have H:=HA.out;clear HA;simp only [slices_insertionSortOrdered_int.l1] at H;by_cases c5:x7_2 > a1
      ·
       rw [if_pos c5] at H;have c5b0:decide (a1 < x7_2)=true:=decide_eq_true c5;clear c5;by_cases c6:0≤x7_2
       ·
        rw [if_pos c6] at H;have c6b0:decide (0≤x7_2)=true:=decide_eq_true c6;clear c6;by_cases c7:x7_2 < (x0_2.length:Int)
        ·
         rw [if_pos c7] at H;have c7b0:decide (x7_2 < (x0_2.length:Int))=true:=decide_eq_true c7;clear c7;obtain ⟨ji8,hji8⟩:∃ j_:Int,(wrap64 (x7_2 - 1))=j_:=⟨_,rfl⟩;(replace H:(if 0≤(ji8) then (if (ji8) < (x0_2.length:Int) then ((cmp_Less_int.f (rd x0_2 x7_2) (rd x0_2 (ji8))).bind fun t103=>(if t103=true then (slices_insertionSortOrdered_int.l1 k2 ((x0_2.set (x7_2:Int).toNat (rd x0_2 (ji8))).set ((ji8):Int).toNat (rd x0_2 x7_2)) a1 a2 x6_1 ji8) else (slices_insertionSortOrdered_int.l0 k2 x0_2 a1 a2 (wrap64 (x6_1 + 1))))) else (none)) else (none))=some r:=by first|(rw [hji8] at H;exact H)|(simp only [hji8] at H ⊢;exact H));have hji8w:(IntKind.i64.wrap (x7_2 - 1))=ji8:=(i64_w _).trans hji8;by_cases c9:0≤(ji8)
         ·
          rw [if_pos c9] at H;have c9b0:decide (0≤(ji8))=true:=decide_eq_true c9;clear c9;by_cases c10:(ji8) < (x0_2.length:Int)
          ·
           rw [if_pos c10] at H;have c10b0:decide ((ji8) < (x0_2.length:Int))=true:=decide_eq_true c10;clear c10;obtain ⟨t103,A11,H⟩:=bindAside H;(try dsimp only at H);by_cases c12:t103=true
           ·
            subst c12;(have H1:(slices_insertionSortOrdered_int.l1 k2 ((x0_2.set (x7_2:Int).toNat (rd x0_2 (ji8))).set ((ji8):Int).toNat (rd x0_2 x7_2)) a1 a2 x6_1 ji8)=some r:=by rw [if_pos rfl] at H;exact H);clear H;have H:=H1;clear H1;obtain ⟨y106,hy106⟩:∃ y_:List Int,y_=(x0_2.set (x7_2:Int).toNat (rd x0_2 (ji8))):=⟨_,rfl⟩;(replace H:(slices_insertionSortOrdered_int.l1 k2 (y106.set ((ji8):Int).toNat (rd x0_2 x7_2)) a1 a2 x6_1 ji8)=some r:=by first|(rw [hy106];with_reducible exact H)|(have H2_:=(Option.bind_some _ _).symm.trans H;rw [hy106];with_reducible exact H2_)|(have H2_:=(Option.bind_some _ _).symm.trans H;with_reducible exact H2_)|with_reducible exact H|(rw [hy106];exact H)|exact H);have Ny106:=za hy106;clear hy106;obtain ⟨y107,hy107⟩:∃ y_:List Int,y_=(y106.set ((ji8):Int).toNat (rd x0_2 x7_2)):=⟨_,rfl⟩;(replace H:(slices_insertionSortOrdered_int.l1 k2 y107 a1 a2 x6_1 ji8)=some r:=by first|(rw [hy107];with_reducible exact H)|(have H2_:=(Option.bind_some _ _).symm.trans H;rw [hy107];with_reducible exact H2_)|(have H2_:=(Option.bind_some _ _).symm.trans H;with_reducible exact H2_)|with_reducible exact H|(rw [hy107];exact H)|exact H);have Ny107:=za hy107;clear hy107;have H':=za H;clear H;(try go_wp2);replace HO_0:=za (ze HO_0.out);replace HK:=za (Kept.drew HK.out);replace HB:=za (zb HB.out);obtain ⟨Ao16,co16,eo16⟩:=zy HO_0.out;(first|subst eo16|(injection eo16 with f1_ f2_ f3_;have f4_:=f1_.symm;have f5_:=f3_.symm;clear f1_ f2_ f3_;subst f4_;subst f5_));have p101:0≤(x7_2:Int):=of_decide_eq_true ‹_›;have q101:x7_2 < (x0_2.length:Int):=of_decide_eq_true ‹_›;obtain ⟨ad101,e101,hx101_0⟩:=zz (zk HO_0.out).2.2 x7_2 p101 q101;cases e101;replace p101:=eq_true p101;replace q101:=eq_true q101;have p102:0≤((ji8):Int):=of_decide_eq_true ‹_›;have q102:(ji8) < (x0_2.length:Int):=of_decide_eq_true ‹_›;obtain ⟨ad102,e102,hx102_0⟩:=zz (zk HO_0.out).2.2 (ji8) p102 q102;obtain rfl:ad101=ad102:=(by injection e102);replace p102:=eq_true p102;replace q102:=eq_true q102;refine start_ (n:=15) (S:=fun w'=>w'.cell? (ad101.add (x7_2).toNat)=some (.int .i64 (rd x0_2 x7_2))∧w'.cell? (ad101.add ((ji8)).toNat)=some (.int .i64 (rd x0_2 (ji8)))) (ds:=[]) #[false,false,false,false,false,false,false,false,false,false,false,false,false,false,false] (by kernel_rfl) rfl rfl ⟨hx101_0,hx102_0⟩ (fun hHeld=>?_);refine with_tabW slices_insertionSortOrdered_int.tab4 slices_insertionSortOrdered_int.bits4 (fun HT_ HW_=>?_);generalize wr.drew=w15 at HO_0 HK HB hx101_0 hx102_0 hHeld ⊢;refine pure_ (i:=0) (N:=some 16) (v:=?_) (a':=?_) #[true,false,false,false,false,false,false,false,false,false,false,false,false,false,false] rfl rfl (any_of HT_.out (by kernel_rfl)) (fun _ _ _ h=>h) (Or.inl ⟨by rfl,?_⟩) ?_ ?_;rotate_left
            · intro w';go_simp;with_reducible rfl
            rotate_left
            · simp only [Act.put,z0_,z1_,z2_,i64_w,i32_w];rfl
            refine pure_ (i:=1) (N:=some 17) (v:=?_) (a':=?_) #[true,true,false,false,false,false,false,false,false,false,false,false,false,false,false] rfl rfl (any_of HT_.out (by kernel_rfl)) (fun _ _ _ h=>h) (Or.inl ⟨by rfl,?_⟩) ?_ ?_;rotate_left
            · intro w';go_simp;with_reducible rfl
            rotate_left
            · simp only [Act.put,z0_,z1_,z2_,i64_w,i32_w];rfl
            refine pure_ (i:=2) (N:=some 18) (v:=?_) (a':=?_) #[true,true,true,false,false,false,false,false,false,false,false,false,false,false,false] rfl rfl (any_of HT_.out (by kernel_rfl)) (fun _ _ _ h=>h) (Or.inl ⟨by rfl,?_⟩) ?_ ?_;rotate_left
            · intro w';go_simp;with_reducible rfl
            rotate_left
            · simp only [Act.put,z0_,z1_,z2_,i64_w,i32_w];rfl
            refine pure_ (i:=3) (N:=some 19) (v:=?_) (a':=?_) #[true,true,true,true,false,false,false,false,false,false,false,false,false,false,false] rfl rfl (any_of HT_.out (by kernel_rfl)) (fun _ _ _ h=>h) (Or.inl ⟨by rfl,?_⟩) ?_ ?_;rotate_left
            · intro w';go_simp;with_reducible rfl
            rotate_left
            · simp only [Act.put,z0_,z1_,z2_,i64_w,i32_w];rfl
            refine pure_ (i:=4) (N:=some 20) (v:=?_) (a':=?_) #[true,true,true,true,true,false,false,false,false,false,false,false,false,false,false] rfl rfl (any_of HT_.out (by kernel_rfl)) (fun _ _ _ h=>h) (Or.inl ⟨by rfl,?_⟩) ?_ ?_;rotate_left
            · intro w';go_simp;with_reducible rfl
            rotate_left
            · simp only [Act.put,z0_,z1_,z2_,i64_w,i32_w];rfl
            refine pure_ (i:=5) (N:=some 21) (v:=?_) (a':=?_) #[true,true,true,true,true,true,false,false,false,false,false,false,false,false,false] rfl rfl (any_of HT_.out (by kernel_rfl)) (fun _ _ _ h=>h) (Or.inl ⟨by rfl,?_⟩) ?_ ?_;rotate_left
            · intro w';go_simp;with_reducible rfl
            rotate_left
            · simp only [Act.put,z0_,z1_,z2_,i64_w,i32_w];rfl
            refine pure_ (i:=6) (N:=some 22) (v:=?_) (a':=?_) #[true,true,true,true,true,true,true,false,false,false,false,false,false,false,false] rfl rfl (any_of HT_.out (by kernel_rfl)) (fun _ _ _ h=>h) (Or.inl ⟨by rfl,?_⟩) ?_ ?_;rotate_left
            · intro w';go_simp;with_reducible rfl
            rotate_left
            · simp only [Act.put,z0_,z1_,z2_,i64_w,i32_w];rfl
            refine pure_ (i:=8) (N:=some 24) (v:=?_) (a':=?_) #[true,true,true,true,true,true,true,false,true,false,false,false,false,false,false] rfl rfl (any_of HT_.out (by kernel_rfl)) (fun _ _ _ h=>h) (Or.inl ⟨by rfl,?_⟩) ?_ ?_;rotate_left
            · intro w';go_simp;with_reducible rfl
            rotate_left
            · simp only [Act.put,z0_,z1_,z2_,i64_w,i32_w];rfl
            refine pure_ (i:=9) (N:=some 25) (v:=?_) (a':=?_) #[true,true,true,true,true,true,true,false,true,true,false,false,false,false,false] rfl rfl (any_of HT_.out (by kernel_rfl)) (fun _ _ _ h=>h) (Or.inl ⟨by rfl,?_⟩) ?_ ?_;rotate_left
            · intro w';go_simp;with_reducible rfl
            rotate_left
            · simp only [Act.put,z0_,z1_,z2_,i64_w,i32_w];rfl
            refine pure_ (i:=10) (N:=some 26) (v:=?_) (a':=?_) #[true,true,true,true,true,true,true,false,true,true,true,false,false,false,false] rfl rfl (any_of HT_.out (by kernel_rfl)) (fun _ _ _ h=>h) (Or.inl ⟨by rfl,?_⟩) ?_ ?_;rotate_left
            · intro w';go_simp;with_reducible rfl
            rotate_left
            · simp only [Act.put,z0_,z1_,z2_,i64_w,i32_w];rfl
            refine pure_ (i:=11) (N:=some 27) (v:=?_) (a':=?_) #[true,true,true,true,true,true,true,false,true,true,true,true,false,false,false] rfl rfl (any_of HT_.out (by kernel_rfl)) (fun _ _ _ h=>h) (Or.inl ⟨by rfl,?_⟩) ?_ ?_;rotate_left
            · intro w';go_simp;with_reducible rfl
            rotate_left
            · simp only [Act.put,z0_,z1_,z2_,i64_w,i32_w];rfl
            refine take_ (i:=7) (N:=some 23) (v:=?_) (a':=?_) #[true,true,true,true,true,true,true,true,true,true,true,true,false,false,false] rfl rfl (take_ofW HT_.out HW_.out (by kernel_rfl)) (fun _ _ _ h=>h) (Or.inl ⟨by rfl,?_⟩) hHeld ?_ ?_;rotate_left
            · rintro w' ⟨s0,s1⟩;go_simp;with_reducible rfl
            rotate_left
            · simp only [Act.put,z0_,z1_,z2_,i64_w,i32_w];rfl
            refine take_ (i:=12) (N:=some 28) (v:=?_) (a':=?_) #[true,true,true,true,true,true,true,true,true,true,true,true,true,false,false] rfl rfl (take_ofW HT_.out HW_.out (by kernel_rfl)) (fun _ _ _ h=>h) (Or.inl ⟨by rfl,?_⟩) hHeld ?_ ?_;rotate_left
            · rintro w' ⟨s0,s1⟩;go_simp;with_reducible rfl
            rotate_left
            · simp only [Act.put,z0_,z1_,z2_,i64_w,i32_w];rfl
            refine one_ (i:=13) (N:=some 29) #[true,true,true,true,true,true,true,true,true,true,true,true,true,true,false] rfl rfl (one_of HT_.out (by kernel_rfl)) (by decide) (fun K hK=>?_);refine goes_ Tryz.func90 (by kernel_rfl) rfl #[.int .i64 (rd x0_2 x7_2),.int .i64 (rd x0_2 (ji8))] (by rfl) rfl rfl (by (try simp only [z3_,z4_,z5_]);first|done|(simp only [hji8];rfl)|rfl|(simp only [List.length_drop,List.length_take];rfl)) ?_;(with_reducible refine (cmp_Less_int.calls (rd x0_2 x7_2) (rd x0_2 (ji8)) true _ A11.out).mono ?_);rintro e w' ⟨rfl,⟨nd,rfl⟩⟩;refine ⟨_,rfl,?_⟩;refine hK.out _ _ ⟨hHeld.1,hHeld.2⟩ (fun hHeld=>?_);clear hK K;refine norm_ (a':=?_) ?_ ?_;rotate_left
            · show Act.put _ (some 29) _=_;simp only [Act.put,z0_,z1_,z2_,i64_w,i32_w];rfl
            refine pure_ (i:=14) (N:=some 30) (v:=?_) (a':=?_) #[true,true,true,true,true,true,true,true,true,true,true,true,true,true,true] rfl rfl (any_of HT_.out (by kernel_rfl)) (fun _ _ _ h=>h) (Or.inl ⟨by rfl,?_⟩) ?_ ?_;rotate_left
            · intro w';go_simp;with_reducible rfl
            rotate_left
            · simp only [Act.put,z0_,z1_,z2_,i64_w,i32_w];rfl
            refine done_ (done_of HT_.out (by kernel_rfl)) ?_;(try go_wp2);(try (rw [drewN_self w15];generalize hq_:World.drewN w15 _=w15;have n0_:Aside0 (Kd.R (Kd.int .i64) 3 w15 w0.heap.size (fun k_=>(P0_ k_ ∨ w.heap.size≤k_)) (.slice (some ad101) x0_2.length co16) x0_2):=⟨by rw [← hq_];exact (by (with_reducible repeat (first|apply zf|apply zg|apply ze));exact HO_0.out)⟩;have n1_:Aside0 (Kept w w15 (fun k_=>P0_ k_)):=⟨by rw [← hq_];exact (by repeat (first|(with_reducible first|exact HK.out|apply Kept.alloc|apply Kept.drewN|apply Kept.drew)|exact HK.out))⟩;have n2_:Aside0 (Below w0.heap.size w0 w15):=⟨by rw [← hq_];exact (by repeat (first|(with_reducible first|exact HB.out|apply zc|apply zd|apply zb)|exact HB.out))⟩;clear HO_0 HK HB hq_;have HO_0:=n0_;have HK:=n1_;have HB:=n2_;clear n0_ n1_ n2_));replace HO_0:=za (ze HO_0.out);replace HK:=za (Kept.drew HK.out);replace HB:=za (zb HB.out);have p104:0≤((ji8):Int):=of_decide_eq_true ‹_›;have q104:(ji8) < (x0_2.length:Int):=of_decide_eq_true ‹_›;obtain ⟨ad104,e104,hx104_0⟩:=zz (zk HO_0.out).2.2 (ji8) p104 q104;obtain rfl:ad101=ad104:=(by injection e104);replace p104:=eq_true p104;replace q104:=eq_true q104;have p105:0≤(x7_2:Int):=of_decide_eq_true ‹_›;have q105:x7_2 < (x0_2.length:Int):=of_decide_eq_true ‹_›;obtain ⟨ad105,e105,hx105_0⟩:=zz (zk HO_0.out).2.2 x7_2 p105 q105;obtain rfl:ad101=ad105:=(by injection e105);replace p105:=eq_true p105;replace q105:=eq_true q105;have p13:0≤(x7_2:Int):=of_decide_eq_true ‹_›;have q13:(x7_2:Int) < ((x0_2.length:Int):Int):=of_decide_eq_true ‹_›;obtain ⟨go13,co13,eo13,gb13,gl13,cl13,HG13⟩:=Kd.R_form HO_0.out (by omega);(first|cases eo13|(injection eo13 with ea_ en_ ec_;(first|subst ea_|(injection ea_ with ea_;subst ea_));subst ec_;clear en_));have GB13:=za gb13;have GG13:=za HG13;clear gb13 gl13 HG13;have HMgo13:=za (show (P0_ go13 ∨ w.heap.size≤go13) from (HO_0.out.1 _ rfl));(first|simp only [add_plain] at hx101_0|skip);(first|simp only [add_plain] at hx102_0|skip);(first|simp only [add_plain] at hx104_0|skip);(first|simp only [add_plain] at hx105_0|skip);obtain ⟨hx13_0,hf13_0⟩:=Kd.R_celln 0 HO_0.out (x7_2:Int) p13 q13;replace p13:=eq_true p13;replace q13:=eq_true q13;have HP18:=Kd.R_putn HO_0.out (x7_2:Int) (rd x0_2 (ji8));rw [← Ny106.out] at HP18;have HQ18:=za HP18;clear HP18;have p14:0≤((ji8):Int):=of_decide_eq_true ‹_›;have q14:((ji8):Int) < ((x0_2.length:Int):Int):=of_decide_eq_true ‹_›;obtain ⟨hx14_0,hf14_0⟩:=Kd.R_celln 0 HQ18.out ((ji8):Int) p14 q14;replace p14:=eq_true p14;replace q14:=eq_true q14;have HP19:=Kd.R_putn HQ18.out ((ji8):Int) (rd x0_2 x7_2);rw [← Ny107.out] at HP19;have HQ19:=za HP19;clear HP19;refine start_ (n:=18) (S:=fun w'=>w'.cell? ⟨go13,((ji8)).toNat,none⟩=some (.int .i64 (rd x0_2 (ji8)))∧w'.cell? ⟨go13,(x7_2).toNat,none⟩=some (.int .i64 (rd x0_2 x7_2))) (ds:=[15,17]) #[false,false,false,false,false,false,false,false,false,false,false,false,false,false,false,false,false,false] (by kernel_rfl) rfl rfl ⟨hx104_0,hx105_0⟩ (fun hHeld=>?_);refine with_tabW slices_insertionSortOrdered_int.tab6 slices_insertionSortOrdered_int.bits6 (fun HT_ HW_=>?_);generalize w15.drew=w17 at HO_0 HK HB GG13 HQ18 HQ19 hf13_0 hf14_0 hx101_0 hx102_0 hx104_0 hx105_0 hx13_0 hx14_0 hHeld ⊢;refine pure_ (i:=0) (N:=some 33) (v:=?_) (a':=?_) #[true,false,false,false,false,false,false,false,false,false,false,false,false,false,false,false,false,false] rfl rfl (any_of HT_.out (by kernel_rfl)) (fun _ _ _ h=>h) (Or.inl ⟨by rfl,?_⟩) ?_ ?_;rotate_left
            · intro w';go_simp;with_reducible rfl
            rotate_left
            · simp only [Act.put,z0_,z1_,z2_,i64_w,i32_w];rfl
            refine pure_ (i:=1) (N:=some 34) (v:=?_) (a':=?_) #[true,true,false,false,false,false,false,false,false,false,false,false,false,false,false,false,false,false] rfl rfl (any_of HT_.out (by kernel_rfl)) (fun _ _ _ h=>h) (Or.inl ⟨by rfl,?_⟩) ?_ ?_;rotate_left
            · intro w';go_simp;with_reducible rfl
            rotate_left
            · simp only [Act.put,z0_,z1_,z2_,i64_w,i32_w];rfl
            refine pure_ (i:=2) (N:=some 35) (v:=?_) (a':=?_) #[true,true,true,false,false,false,false,false,false,false,false,false,false,false,false,false,false,false] rfl rfl (any_of HT_.out (by kernel_rfl)) (fun _ _ _ h=>h) (Or.inl ⟨by rfl,?_⟩) ?_ ?_;rotate_left
            · intro w';go_simp;with_reducible rfl
            rotate_left
            · simp only [Act.put,z0_,z1_,z2_,i64_w,i32_w];rfl
            refine pure_ (i:=3) (N:=some 36) (v:=?_) (a':=?_) #[true,true,true,true,false,false,false,false,false,false,false,false,false,false,false,false,false,false] rfl rfl (any_of HT_.out (by kernel_rfl)) (fun _ _ _ h=>h) (Or.inl ⟨by rfl,?_⟩) ?_ ?_;rotate_left
            · intro w';go_simp;with_reducible rfl
            rotate_left
            · simp only [Act.put,z0_,z1_,z2_,i64_w,i32_w];rfl
            refine pure_ (i:=4) (N:=some 37) (v:=?_) (a':=?_) #[true,true,true,true,true,false,false,false,false,false,false,false,false,false,false,false,false,false] rfl rfl (any_of HT_.out (by kernel_rfl)) (fun _ _ _ h=>h) (Or.inl ⟨by rfl,?_⟩) ?_ ?_;rotate_left
            · intro w';go_simp;with_reducible rfl
            rotate_left
            · simp only [Act.put,z0_,z1_,z2_,i64_w,i32_w];rfl
            refine pure_ (i:=5) (N:=some 38) (v:=?_) (a':=?_) #[true,true,true,true,true,true,false,false,false,false,false,false,false,false,false,false,false,false] rfl rfl (any_of HT_.out (by kernel_rfl)) (fun _ _ _ h=>h) (Or.inl ⟨by rfl,?_⟩) ?_ ?_;rotate_left
            · intro w';go_simp;with_reducible rfl
            rotate_left
            · simp only [Act.put,z0_,z1_,z2_,i64_w,i32_w];rfl
            refine pure_ (i:=6) (N:=some 39) (v:=?_) (a':=?_) #[true,true,true,true,true,true,true,false,false,false,false,false,false,false,false,false,false,false] rfl rfl (any_of HT_.out (by kernel_rfl)) (fun _ _ _ h=>h) (Or.inl ⟨by rfl,?_⟩) ?_ ?_;rotate_left
            · intro w';go_simp;with_reducible rfl
            rotate_left
            · simp only [Act.put,z0_,z1_,z2_,i64_w,i32_w];rfl
            refine pure_ (i:=7) (N:=some 40) (v:=?_) (a':=?_) #[true,true,true,true,true,true,true,true,false,false,false,false,false,false,false,false,false,false] rfl rfl (any_of HT_.out (by kernel_rfl)) (fun _ _ _ h=>h) (Or.inl ⟨by rfl,?_⟩) ?_ ?_;rotate_left
            · intro w';go_simp;with_reducible rfl
            rotate_left
            · simp only [Act.put,z0_,z1_,z2_,i64_w,i32_w];rfl
            refine pure_ (i:=8) (N:=some 41) (v:=?_) (a':=?_) #[true,true,true,true,true,true,true,true,true,false,false,false,false,false,false,false,false,false] rfl rfl (any_of HT_.out (by kernel_rfl)) (fun _ _ _ h=>h) (Or.inl ⟨by rfl,?_⟩) ?_ ?_;rotate_left
            · intro w';go_simp;with_reducible rfl
            rotate_left
            · simp only [Act.put,z0_,z1_,z2_,i64_w,i32_w];rfl
            refine pure_ (i:=10) (N:=some 43) (v:=?_) (a':=?_) #[true,true,true,true,true,true,true,true,true,false,true,false,false,false,false,false,false,false] rfl rfl (any_of HT_.out (by kernel_rfl)) (fun _ _ _ h=>h) (Or.inl ⟨by rfl,?_⟩) ?_ ?_;rotate_left
            · intro w';go_simp;with_reducible rfl
            rotate_left
            · simp only [Act.put,z0_,z1_,z2_,i64_w,i32_w];rfl
            refine pure_ (i:=11) (N:=some 44) (v:=?_) (a':=?_) #[true,true,true,true,true,true,true,true,true,false,true,true,false,false,false,false,false,false] rfl rfl (any_of HT_.out (by kernel_rfl)) (fun _ _ _ h=>h) (Or.inl ⟨by rfl,?_⟩) ?_ ?_;rotate_left
            · intro w';go_simp;with_reducible rfl
            rotate_left
            · simp only [Act.put,z0_,z1_,z2_,i64_w,i32_w];rfl
            refine pure_ (i:=12) (N:=some 45) (v:=?_) (a':=?_) #[true,true,true,true,true,true,true,true,true,false,true,true,true,false,false,false,false,false] rfl rfl (any_of HT_.out (by kernel_rfl)) (fun _ _ _ h=>h) (Or.inl ⟨by rfl,?_⟩) ?_ ?_;rotate_left
            · intro w';go_simp;with_reducible rfl
            rotate_left
            · simp only [Act.put,z0_,z1_,z2_,i64_w,i32_w];rfl
            refine take_ (i:=9) (N:=some 42) (v:=?_) (a':=?_) #[true,true,true,true,true,true,true,true,true,true,true,true,true,false,false,false,false,false] rfl rfl (take_ofW HT_.out HW_.out (by kernel_rfl)) (fun _ _ _ h=>h) (Or.inl ⟨by rfl,?_⟩) hHeld ?_ ?_;rotate_left
            · rintro w' ⟨s0,s1⟩;go_simp;with_reducible rfl
            rotate_left
            · simp only [Act.put,z0_,z1_,z2_,i64_w,i32_w];rfl
            refine take_ (i:=13) (N:=some 46) (v:=?_) (a':=?_) #[true,true,true,true,true,true,true,true,true,true,true,true,true,true,false,false,false,false] rfl rfl (take_ofW HT_.out HW_.out (by kernel_rfl)) (fun _ _ _ h=>h) (Or.inl ⟨by rfl,?_⟩) hHeld ?_ ?_;rotate_left
            · rintro w' ⟨s0,s1⟩;go_simp;with_reducible rfl
            rotate_left
            · simp only [Act.put,z0_,z1_,z2_,i64_w,i32_w];rfl
            refine pure_ (i:=14) (N:=some 47) (v:=?_) (a':=?_) #[true,true,true,true,true,true,true,true,true,true,true,true,true,true,true,false,false,false] rfl rfl (any_of HT_.out (by kernel_rfl)) (fun _ _ _ h=>h) (Or.inl ⟨by rfl,?_⟩) ?_ ?_;rotate_left
            · intro w';go_simp;with_reducible rfl
            rotate_left
            · simp only [Act.put,z0_,z1_,z2_,i64_w,i32_w];rfl
            refine last_ (i:=15) (N:=none) #[true,true,true,true,true,true,true,true,true,true,true,true,true,true,true,true,false,false] rfl rfl (one_of HT_.out (by kernel_rfl)) (by decide) (fun K hK=>?_);refine skip_ (w1:=?_) (by rfl) rfl ?_ ?_;rotate_left
            · go_simp;rfl
            refine hK.out _ _ ?_;clear hK K;refine pure_ (i:=16) (N:=some 48) (v:=?_) (a':=?_) #[true,true,true,true,true,true,true,true,true,true,true,true,true,true,true,true,true,false] rfl rfl (any_of HT_.out (by kernel_rfl)) (fun _ _ _ h=>h) (Or.inl ⟨by rfl,?_⟩) ?_ ?_;rotate_left
            · intro w';go_simp;with_reducible rfl
            rotate_left
            · simp only [Act.put,z0_,z1_,z2_,i64_w,i32_w];rfl
            refine last_ (i:=17) (N:=none) #[true,true,true,true,true,true,true,true,true,true,true,true,true,true,true,true,true,true] rfl rfl (one_of HT_.out (by kernel_rfl)) (by decide) (fun K hK=>?_);refine skip_ (w1:=?_) (by rfl) rfl ?_ ?_;rotate_left
            · go_simp;rfl
            refine hK.out _ _ ?_;clear hK K;refine done_ (done_of HT_.out (by kernel_rfl)) ?_;(try go_wp2);(go_roundg k2);(case measure=>have:=HK1.out;have:=HK2.out;omega);case rel=>exact ⟨(y107),(ji8),(by first|rfl|(simp;done)|(simp only [← hji8] <;> (first|rfl|simp))|(simp [*];done)),H',⟨by have:=HK1.out;have:=HK2.out;omega⟩,⟨by (with_reducible repeat (first|apply zf|apply zg|apply ze));exact HQ19.out⟩,⟨by repeat (first|(with_reducible first|exact HK.out|apply Kept.alloc|apply Kept.drewN|apply Kept.drew|refine Kept.setCell ?_ HMgo13.out _|refine Kept.setCell ?_ HMgo13.out _)|exact HK.out)⟩,⟨by repeat (first|(with_reducible first|exact HB.out|apply zc|apply zd|apply zb|refine zl ?_ GB13.out|refine zl ?_ GB13.out)|exact HB.out)⟩⟩
           ·
            replace c12:=Bool.eq_false_iff.mpr c12;subst c12;(have H1:(slices_insertionSortOrdered_int.l0 k2 x0_2 a1 a2 (wrap64 (x6_1 + 1)))=some r:=by rw [if_neg (show ¬ (false=true) by decide)] at H;exact H);clear H;have H:=H1;clear H1;have H':=za H;clear H;(try go_wp2);replace HO_0:=za (ze HO_0.out);replace HK:=za (Kept.drew HK.out);replace HB:=za (zb HB.out);obtain ⟨Ao21,co21,eo21⟩:=zy HO_0.out;(first|subst eo21|(injection eo21 with f1_ f2_ f3_;have f4_:=f1_.symm;have f5_:=f3_.symm;clear f1_ f2_ f3_;subst f4_;subst f5_));have p101:0≤(x7_2:Int):=of_decide_eq_true ‹_›;have q101:x7_2 < (x0_2.length:Int):=of_decide_eq_true ‹_›;obtain ⟨ad101,e101,hx101_0⟩:=zz (zk HO_0.out).2.2 x7_2 p101 q101;cases e101;replace p101:=eq_true p101;replace q101:=eq_true q101;have p102:0≤((ji8):Int):=of_decide_eq_true ‹_›;have q102:(ji8) < (x0_2.length:Int):=of_decide_eq_true ‹_›;obtain ⟨ad102,e102,hx102_0⟩:=zz (zk HO_0.out).2.2 (ji8) p102 q102;obtain rfl:ad101=ad102:=(by injection e102);replace p102:=eq_true p102;replace q102:=eq_true q102;refine start_ (n:=15) (S:=fun w'=>w'.cell? (ad101.add (x7_2).toNat)=some (.int .i64 (rd x0_2 x7_2))∧w'.cell? (ad101.add ((ji8)).toNat)=some (.int .i64 (rd x0_2 (ji8)))) (ds:=[]) #[false,false,false,false,false,false,false,false,false,false,false,false,false,false,false] (by kernel_rfl) rfl rfl ⟨hx101_0,hx102_0⟩ (fun hHeld=>?_);refine with_tabW slices_insertionSortOrdered_int.tab4 slices_insertionSortOrdered_int.bits4 (fun HT_ HW_=>?_);generalize wr.drew=w20 at HO_0 HK HB hx101_0 hx102_0 hHeld ⊢;refine pure_ (i:=0) (N:=some 16) (v:=?_) (a':=?_) #[true,false,false,false,false,false,false,false,false,false,false,false,false,false,false] rfl rfl (any_of HT_.out (by kernel_rfl)) (fun _ _ _ h=>h) (Or.inl ⟨by rfl,?_⟩) ?_ ?_;rotate_left
            · intro w';go_simp;with_reducible rfl
            rotate_left
            · simp only [Act.put,z0_,z1_,z2_,i64_w,i32_w];rfl
            refine pure_ (i:=1) (N:=some 17) (v:=?_) (a':=?_) #[true,true,false,false,false,false,false,false,false,false,false,false,false,false,false] rfl rfl (any_of HT_.out (by kernel_rfl)) (fun _ _ _ h=>h) (Or.inl ⟨by rfl,?_⟩) ?_ ?_;rotate_left
            · intro w';go_simp;with_reducible rfl
            rotate_left
            · simp only [Act.put,z0_,z1_,z2_,i64_w,i32_w];rfl
            refine pure_ (i:=2) (N:=some 18) (v:=?_) (a':=?_) #[true,true,true,false,false,false,false,false,false,false,false,false,false,false,false] rfl rfl (any_of HT_.out (by kernel_rfl)) (fun _ _ _ h=>h) (Or.inl ⟨by rfl,?_⟩) ?_ ?_;rotate_left
            · intro w';go_simp;with_reducible rfl
            rotate_left
            · simp only [Act.put,z0_,z1_,z2_,i64_w,i32_w];rfl
            refine pure_ (i:=3) (N:=some 19) (v:=?_) (a':=?_) #[true,true,true,true,false,false,false,false,false,false,false,false,false,false,false] rfl rfl (any_of HT_.out (by kernel_rfl)) (fun _ _ _ h=>h) (Or.inl ⟨by rfl,?_⟩) ?_ ?_;rotate_left
            · intro w';go_simp;with_reducible rfl
            rotate_left
            · simp only [Act.put,z0_,z1_,z2_,i64_w,i32_w];rfl
            refine pure_ (i:=4) (N:=some 20) (v:=?_) (a':=?_) #[true,true,true,true,true,false,false,false,false,false,false,false,false,false,false] rfl rfl (any_of HT_.out (by kernel_rfl)) (fun _ _ _ h=>h) (Or.inl ⟨by rfl,?_⟩) ?_ ?_;rotate_left
            · intro w';go_simp;with_reducible rfl
            rotate_left
            · simp only [Act.put,z0_,z1_,z2_,i64_w,i32_w];rfl
            refine pure_ (i:=5) (N:=some 21) (v:=?_) (a':=?_) #[true,true,true,true,true,true,false,false,false,false,false,false,false,false,false] rfl rfl (any_of HT_.out (by kernel_rfl)) (fun _ _ _ h=>h) (Or.inl ⟨by rfl,?_⟩) ?_ ?_;rotate_left
            · intro w';go_simp;with_reducible rfl
            rotate_left
            · simp only [Act.put,z0_,z1_,z2_,i64_w,i32_w];rfl
            refine pure_ (i:=6) (N:=some 22) (v:=?_) (a':=?_) #[true,true,true,true,true,true,true,false,false,false,false,false,false,false,false] rfl rfl (any_of HT_.out (by kernel_rfl)) (fun _ _ _ h=>h) (Or.inl ⟨by rfl,?_⟩) ?_ ?_;rotate_left
            · intro w';go_simp;with_reducible rfl
            rotate_left
            · simp only [Act.put,z0_,z1_,z2_,i64_w,i32_w];rfl
            refine pure_ (i:=8) (N:=some 24) (v:=?_) (a':=?_) #[true,true,true,true,true,true,true,false,true,false,false,false,false,false,false] rfl rfl (any_of HT_.out (by kernel_rfl)) (fun _ _ _ h=>h) (Or.inl ⟨by rfl,?_⟩) ?_ ?_;rotate_left
            · intro w';go_simp;with_reducible rfl
            rotate_left
            · simp only [Act.put,z0_,z1_,z2_,i64_w,i32_w];rfl
            refine pure_ (i:=9) (N:=some 25) (v:=?_) (a':=?_) #[true,true,true,true,true,true,true,false,true,true,false,false,false,false,false] rfl rfl (any_of HT_.out (by kernel_rfl)) (fun _ _ _ h=>h) (Or.inl ⟨by rfl,?_⟩) ?_ ?_;rotate_left
            · intro w';go_simp;with_reducible rfl
            rotate_left
            · simp only [Act.put,z0_,z1_,z2_,i64_w,i32_w];rfl
            refine pure_ (i:=10) (N:=some 26) (v:=?_) (a':=?_) #[true,true,true,true,true,true,true,false,true,true,true,false,false,false,false] rfl rfl (any_of HT_.out (by kernel_rfl)) (fun _ _ _ h=>h) (Or.inl ⟨by rfl,?_⟩) ?_ ?_;rotate_left
            · intro w';go_simp;with_reducible rfl
            rotate_left
            · simp only [Act.put,z0_,z1_,z2_,i64_w,i32_w];rfl
            refine pure_ (i:=11) (N:=some 27) (v:=?_) (a':=?_) #[true,true,true,true,true,true,true,false,true,true,true,true,false,false,false] rfl rfl (any_of HT_.out (by kernel_rfl)) (fun _ _ _ h=>h) (Or.inl ⟨by rfl,?_⟩) ?_ ?_;rotate_left
            · intro w';go_simp;with_reducible rfl
            rotate_left
            · simp only [Act.put,z0_,z1_,z2_,i64_w,i32_w];rfl
            refine take_ (i:=7) (N:=some 23) (v:=?_) (a':=?_) #[true,true,true,true,true,true,true,true,true,true,true,true,false,false,false] rfl rfl (take_ofW HT_.out HW_.out (by kernel_rfl)) (fun _ _ _ h=>h) (Or.inl ⟨by rfl,?_⟩) hHeld ?_ ?_;rotate_left
            · rintro w' ⟨s0,s1⟩;go_simp;with_reducible rfl
            rotate_left
            · simp only [Act.put,z0_,z1_,z2_,i64_w,i32_w];rfl
            refine take_ (i:=12) (N:=some 28) (v:=?_) (a':=?_) #[true,true,true,true,true,true,true,true,true,true,true,true,true,false,false] rfl rfl (take_ofW HT_.out HW_.out (by kernel_rfl)) (fun _ _ _ h=>h) (Or.inl ⟨by rfl,?_⟩) hHeld ?_ ?_;rotate_left
            · rintro w' ⟨s0,s1⟩;go_simp;with_reducible rfl
            rotate_left
            · simp only [Act.put,z0_,z1_,z2_,i64_w,i32_w];rfl
            refine one_ (i:=13) (N:=some 29) #[true,true,true,true,true,true,true,true,true,true,true,true,true,true,false] rfl rfl (one_of HT_.out (by kernel_rfl)) (by decide) (fun K hK=>?_);refine goes_ Tryz.func90 (by kernel_rfl) rfl #[.int .i64 (rd x0_2 x7_2),.int .i64 (rd x0_2 (ji8))] (by rfl) rfl rfl (by (try simp only [z3_,z4_,z5_]);first|done|(simp only [hji8];rfl)|rfl|(simp only [List.length_drop,List.length_take];rfl)) ?_;(with_reducible refine (cmp_Less_int.calls (rd x0_2 x7_2) (rd x0_2 (ji8)) false _ A11.out).mono ?_);rintro e w' ⟨rfl,⟨nd,rfl⟩⟩;refine ⟨_,rfl,?_⟩;refine hK.out _ _ ⟨hHeld.1,hHeld.2⟩ (fun hHeld=>?_);clear hK K;refine norm_ (a':=?_) ?_ ?_;rotate_left
            · show Act.put _ (some 29) _=_;simp only [Act.put,z0_,z1_,z2_,i64_w,i32_w];rfl
            refine pure_ (i:=14) (N:=some 30) (v:=?_) (a':=?_) #[true,true,true,true,true,true,true,true,true,true,true,true,true,true,true] rfl rfl (any_of HT_.out (by kernel_rfl)) (fun _ _ _ h=>h) (Or.inl ⟨by rfl,?_⟩) ?_ ?_;rotate_left
            · intro w';go_simp;with_reducible rfl
            rotate_left
            · simp only [Act.put,z0_,z1_,z2_,i64_w,i32_w];rfl
            refine done_ (done_of HT_.out (by kernel_rfl)) ?_;(try go_wp2);(go_roundg k2);(case measure=>have:=HK1.out;have:=HK2.out;omega);case rel=>exact ⟨(x0_2),(wrap64 (x6_1 + 1)),(by first|rfl|(simp;done)|(simp [*];done)),H',⟨by have:=HK1.out;have:=HK2.out;omega⟩,⟨by (with_reducible repeat (first|apply zf|apply zg|apply ze));exact HO_0.out⟩,⟨by repeat (first|(with_reducible first|exact HK.out|apply Kept.alloc|apply Kept.drewN|apply Kept.drew)|exact HK.out)⟩,⟨by repeat (first|(with_reducible first|exact HB.out|apply zc|apply zd|apply zb)|exact HB.out)⟩⟩
          · rw [if_neg c10] at H;exact absurd H (by simp)
         · rw [if_neg c9] at H;exact absurd H (by simp)
        · rw [if_neg c7] at H;exact absurd H (by simp)
       · rw [if_neg c6] at H;exact absurd H (by simp)
      ·
       rw [if_neg c5] at H;have c5b0:decide (a1 < x7_2)=false:=decide_eq_false c5;clear c5;have H':=za H;clear H;(try go_wp2);replace HO_0:=za (ze HO_0.out);replace HK:=za (Kept.drew HK.out);replace HB:=za (zb HB.out);refine start_ (n:=15) (S:=fun w'=>True) (ds:=[]) #[false,false,false,false,false,false,false,false,false,false,false,false,false,false,false] (by kernel_rfl) rfl rfl trivial (fun hHeld=>?_);refine with_tabW slices_insertionSortOrdered_int.tab4 slices_insertionSortOrdered_int.bits4 (fun HT_ HW_=>?_);generalize wr.drew=w22 at HO_0 HK HB hHeld ⊢;refine pure_ (i:=0) (N:=some 16) (v:=?_) (a':=?_) #[true,false,false,false,false,false,false,false,false,false,false,false,false,false,false] rfl rfl (any_of HT_.out (by kernel_rfl)) (fun _ _ _ h=>h) (Or.inl ⟨by rfl,?_⟩) ?_ ?_;rotate_left
       · intro w';go_simp;with_reducible rfl
       rotate_left
       · simp only [Act.put,z0_,z1_,z2_,i64_w,i32_w];rfl
       refine pure_ (i:=1) (N:=some 17) (v:=?_) (a':=?_) #[true,true,false,false,false,false,false,false,false,false,false,false,false,false,false] rfl rfl (any_of HT_.out (by kernel_rfl)) (fun _ _ _ h=>h) (Or.inl ⟨by rfl,?_⟩) ?_ ?_;rotate_left
       · intro w';go_simp;with_reducible rfl
       rotate_left
       · simp only [Act.put,z0_,z1_,z2_,i64_w,i32_w];rfl
       refine pure_ (i:=2) (N:=some 18) (v:=?_) (a':=?_) #[true,true,true,false,false,false,false,false,false,false,false,false,false,false,false] rfl rfl (any_of HT_.out (by kernel_rfl)) (fun _ _ _ h=>h) (Or.inl ⟨by rfl,?_⟩) ?_ ?_;rotate_left
       · intro w';go_simp;with_reducible rfl
       rotate_left
       · simp only [Act.put,z0_,z1_,z2_,i64_w,i32_w];rfl
       refine pure_ (i:=3) (N:=some 19) (v:=?_) (a':=?_) #[true,true,true,true,false,false,false,false,false,false,false,false,false,false,false] rfl rfl (any_of HT_.out (by kernel_rfl)) (fun _ _ _ h=>h) (Or.inl ⟨by rfl,?_⟩) ?_ ?_;rotate_left
       · intro w';go_simp;with_reducible rfl
       rotate_left
       · simp only [Act.put,z0_,z1_,z2_,i64_w,i32_w];rfl
       refine pure_ (i:=4) (N:=some 20) (v:=undef) (a':=?_) #[true,true,true,true,true,false,false,false,false,false,false,false,false,false,false] rfl rfl (any_of HT_.out (by kernel_rfl)) (fun _ _ _ h=>h) (Or.inr ⟨by rfl,rfl⟩) ?_ ?_;rotate_left
       · simp only [Act.put,z0_,z1_,z2_,i64_w,i32_w];rfl
       refine pure_ (i:=5) (N:=some 21) (v:=undef) (a':=?_) #[true,true,true,true,true,true,false,false,false,false,false,false,false,false,false] rfl rfl (any_of HT_.out (by kernel_rfl)) (fun _ _ _ h=>h) (Or.inr ⟨by rfl,rfl⟩) ?_ ?_;rotate_left
       · simp only [Act.put,z0_,z1_,z2_,i64_w,i32_w];rfl
       refine pure_ (i:=6) (N:=some 22) (v:=undef) (a':=?_) #[true,true,true,true,true,true,true,false,false,false,false,false,false,false,false] rfl rfl (any_of HT_.out (by kernel_rfl)) (fun _ _ _ h=>h) (Or.inr ⟨by rfl,rfl⟩) ?_ ?_;rotate_left
       · simp only [Act.put,z0_,z1_,z2_,i64_w,i32_w];rfl
       refine pure_ (i:=7) (N:=some 23) (v:=undef) (a':=?_) #[true,true,true,true,true,true,true,true,false,false,false,false,false,false,false] rfl rfl (any_of HT_.out (by kernel_rfl)) (fun _ _ _ h=>h) (Or.inr ⟨by rfl,rfl⟩) ?_ ?_;rotate_left
       · simp only [Act.put,z0_,z1_,z2_,i64_w,i32_w];rfl
       refine pure_ (i:=8) (N:=some 24) (v:=undef) (a':=?_) #[true,true,true,true,true,true,true,true,true,false,false,false,false,false,false] rfl rfl (any_of HT_.out (by kernel_rfl)) (fun _ _ _ h=>h) (Or.inr ⟨by rfl,rfl⟩) ?_ ?_;rotate_left
       · simp only [Act.put,z0_,z1_,z2_,i64_w,i32_w];rfl
       refine pure_ (i:=9) (N:=some 25) (v:=undef) (a':=?_) #[true,true,true,true,true,true,true,true,true,true,false,false,false,false,false] rfl rfl (any_of HT_.out (by kernel_rfl)) (fun _ _ _ h=>h) (Or.inr ⟨by rfl,rfl⟩) ?_ ?_;rotate_left
       · simp only [Act.put,z0_,z1_,z2_,i64_w,i32_w];rfl
       refine pure_ (i:=10) (N:=some 26) (v:=undef) (a':=?_) #[true,true,true,true,true,true,true,true,true,true,true,false,false,false,false] rfl rfl (any_of HT_.out (by kernel_rfl)) (fun _ _ _ h=>h) (Or.inr ⟨by rfl,rfl⟩) ?_ ?_;rotate_left
       · simp only [Act.put,z0_,z1_,z2_,i64_w,i32_w];rfl
       refine pure_ (i:=11) (N:=some 27) (v:=undef) (a':=?_) #[true,true,true,true,true,true,true,true,true,true,true,true,false,false,false] rfl rfl (any_of HT_.out (by kernel_rfl)) (fun _ _ _ h=>h) (Or.inr ⟨by rfl,rfl⟩) ?_ ?_;rotate_left
       · simp only [Act.put,z0_,z1_,z2_,i64_w,i32_w];rfl
       refine pure_ (i:=12) (N:=some 28) (v:=undef) (a':=?_) #[true,true,true,true,true,true,true,true,true,true,true,true,true,false,false] rfl rfl (any_of HT_.out (by kernel_rfl)) (fun _ _ _ h=>h) (Or.inr ⟨by rfl,rfl⟩) ?_ ?_;rotate_left
       · simp only [Act.put,z0_,z1_,z2_,i64_w,i32_w];rfl
       refine pure_ (i:=13) (N:=some 29) (v:=undef) (a':=?_) #[true,true,true,true,true,true,true,true,true,true,true,true,true,true,false] rfl rfl (any_of HT_.out (by kernel_rfl)) (fun _ _ _ h=>h) (Or.inr ⟨by rfl,rfl⟩) ?_ ?_;rotate_left
       · simp only [Act.put,z0_,z1_,z2_,i64_w,i32_w];rfl
       refine pure_ (i:=14) (N:=some 30) (v:=?_) (a':=?_) #[true,true,true,true,true,true,true,true,true,true,true,true,true,true,true] rfl rfl (any_of HT_.out (by kernel_rfl)) (fun _ _ _ h=>h) (Or.inl ⟨by rfl,?_⟩) ?_ ?_;rotate_left
       · intro w';go_simp;with_reducible rfl
       rotate_left
       · simp only [Act.put,z0_,z1_,z2_,i64_w,i32_w];rfl
       refine done_ (done_of HT_.out (by kernel_rfl)) ?_;(try go_wp2);(go_roundg k2);(case measure=>have:=HK1.out;have:=HK2.out;omega);case rel=>exact ⟨(x0_2),(wrap64 (x6_1 + 1)),(by first|rfl|(simp;done)|(simp [*];done)),H',⟨by have:=HK1.out;have:=HK2.out;omega⟩,⟨by (with_reducible repeat (first|apply zf|apply zg|apply ze));exact HO_0.out⟩,⟨by repeat (first|(with_reducible first|exact HK.out|apply Kept.alloc|apply Kept.drewN|apply Kept.drew)|exact HK.out)⟩,⟨by repeat (first|(with_reducible first|exact HB.out|apply zc|apply zd|apply zb)|exact HB.out)⟩⟩
   · rw [if_neg c4] at H;have c4b0:decide (x6_1 < a2)=false:=decide_eq_false c4;clear c4;obtain rfl:=Option.some.inj H;(go_wp2);(first|go_end0|((try simp only [Exit.inBlock,Exit.then]);refine bodyPost_ret (results_none rfl _ _ _) rfl ?_));exact ⟨by first|rfl|simp [*,errW_none,errW_some] <;> rfl,by (with_reducible repeat (first|apply zf|apply zg|apply ze));exact HO_0.out,by repeat (first|(with_reducible first|exact HB.out|apply zc|apply zd|apply zb)|exact HB.out),by repeat (first|(with_reducible first|exact HK.out|apply Kept.alloc|apply Kept.drewN|apply Kept.drew)|exact HK.out)⟩
end Go.Proofs.YtihnjbfjdkdhaaaGreat.Q
end
section
namespace Go.Proofs.YtihnjbfjdkdhaaaGreat.Q
set_option linter.unusedVariables false
open Go.RowKit Go.Proofs.YtihnjbfjdkdhaaaGreatW.PrintWords Go.Proofs.YtihnjbfjdkdhaaaGreatW.PrintLast Go.Proofs.YtihnjbfjdkdhaaaGreatW.PrintMore
def slices_pdqsortOrdered_int.f (k : Nat) (l0 : List Int) (a1 : Int) (a2 : Int) (a3 : Int) : Option (List Int) := if wrap64 (a2 - a1) ≤ 12 then slices_insertionSortOrdered_int.f k l0 a1 a2 else none
theorem slices_pdqsortOrdered_int.mono : ∀ a0 a1 a2 a3 k, LeO (slices_pdqsortOrdered_int.f k a0 a1 a2 a3) (slices_pdqsortOrdered_int.f (k + 1) a0 a1 a2 a3) := by
  intro a0 a1 a2 a3 k
  unfold slices_pdqsortOrdered_int.f
  split
  · exact slices_insertionSortOrdered_int.mono _ _ _ _
  · intro r h; simp at h
set_option maxHeartbeats 4000000 in
set_option maxRecDepth 100000 in
theorem slices_pdqsortOrdered_int.calls (k : Nat) (P0_ : Nat → Prop) (u9000_ : Value) (l0 : List Int) (a1 : Int) (a2 : Int) (a3 : Int) (r : List Int) (w0 w : World) (hB : Below w0.heap.size w0 w) (ho0 : Kd.R (Kd.int .i64) 3 w w0.heap.size P0_ u9000_ l0) (h : slices_pdqsortOrdered_int.f k l0 a1 a2 a3 = some r) :
    Calls Tryz.prog 94 #[u9000_, .int .i64 a1, .int .i64 a2, .int .i64 a3] w fun e w' => e = .returned (.tuple #[]) ∧ Kd.R (Kd.int .i64) 3 w' w0.heap.size (fun k_ => (P0_ k_ ∨ w.heap.size ≤ k_)) u9000_ r ∧ Below w0.heap.size w0 w' ∧ Kept w w' (fun k_ => P0_ k_) := by
  unfold slices_pdqsortOrdered_int.f at h
  by_cases c : wrap64 (a2 - a1) ≤ 12
  rotate_left
  · rw [if_neg c] at h; cases h
  rw [if_pos c] at h
  have CX := Lib.hid (slices_insertionSortOrdered_int.calls k P0_ u9000_ l0 a1 a2 r w0 w hB ho0 h)
  have p1 : decide (wrap64 (a2 - a1) ≤ 12) = true := decide_eq_true c
  clear h ho0 hB c
  go_enter Tryz.func94, Tryz.ntmps94
  go_wp2
  go_loopg [1, 2] 1 (fun kq v1 v2 w' => v1 = .int .i64 a1 ∧ v2 = .int .i64 a2 ∧ w' = w)
  case atStart => exact ⟨rfl, rfl, rfl⟩
  case round =>
    obtain ⟨rfl, rfl, rfl⟩ := hrel
    go_wp2_with (go_at_call 97; refine CX.out.mono ?_; rintro e w2 ⟨rfl, h2⟩; have H2 := Aside0.mk h2; clear h2)
    first | go_end0 | ((try simp only [Exit.inBlock, Exit.then]); refine bodyPost_ret (results_none rfl _ _ _) rfl ?_)
    exact ⟨rfl, H2.out⟩
end Go.Proofs.YtihnjbfjdkdhaaaGreat.Q
end
section
namespace Go.Proofs.YtihnjbfjdkdhaaaGreat.Q
open Go.RowKit Go.Proofs.YtihnjbfjdkdhaaaGreatW.PrintWords Go.Proofs.YtihnjbfjdkdhaaaGreatW.PrintLast Go.Proofs.YtihnjbfjdkdhaaaGreatW.PrintMore
attribute [local go_sem] max2_int min2_int max_two min_two max_three min_three max_four min_four   -- for this text's walks alone
set_option linter.unusedVariables false
set_option linter.unusedSimpArgs false
def slices_Sort_int_int.f (k:Nat) (l0:List Int):Option (List Int):=(bits_Len.f k (IntKind.u64.wrap ((l0.length:Int)))).bind fun t101=>((slices_pdqsortOrdered_int.f k l0 0 (l0.length:Int) t101).bind fun t102=>(some t102))
theorem slices_Sort_int_int.mono:∀ a0 k,LeO (slices_Sort_int_int.f k a0) (slices_Sort_int_int.f (k + 1) a0):=by
 intro a0 k;unfold slices_Sort_int_int.f
 repeat' first
  |(with_reducible exact bits_Len.mono _ _)
  |(with_reducible exact slices_pdqsortOrdered_int.mono _ _ _ _ _)
  |(with_reducible exact LeO.refl _)
  |(with_reducible exact LeO.none _)
  |(with_reducible refine LeO.ite ?_ ?_)
  |(with_reducible refine LeO.bind ?_ (fun _=>?_))
  |exact bits_Len.mono _ _
  |exact slices_pdqsortOrdered_int.mono _ _ _ _ _
  |exact LeO.none _
  |refine LeO.ite ?_ ?_
  |refine LeO.bind ?_ (fun _=>?_)
set_option maxHeartbeats 8000000 in
set_option maxRecDepth 100000 in
theorem slices_Sort_int_int.calls (k:Nat) (P0_:Nat→Prop) (u9000_:Value) (l0:List Int) (r:List Int) (w0 w:World) (hB:Below w0.heap.size w0 w) (ho0:Kd.R (Kd.int .i64) 3 w w0.heap.size P0_ u9000_ l0) (h:slices_Sort_int_int.f k l0=some r) :
  Calls Tryz.prog 88 #[u9000_] w fun e w'=>e=.returned (.tuple #[])∧Kd.R (Kd.int .i64) 3 w' w0.heap.size (fun k_=>(P0_ k_ ∨ w.heap.size≤k_)) u9000_ r∧Below w0.heap.size w0 w'∧Kept w w' (fun k_=>P0_ k_):=by
 have HO0:=za (show Kd.R (Kd.int .i64) 3 w w0.heap.size (fun k_=>(P0_ k_ ∨ w.heap.size≤k_)) u9000_ l0 from zs ho0 (fun k_ hk=>(.inl hk)));have HK:=za (Kept.refl w (fun k_=>P0_ k_));have HW0:=za hB.size;have HB:=za hB;clear hB;have H:((bits_Len.f k (IntKind.u64.wrap ((l0.length:Int)))).bind fun t101=>((slices_pdqsortOrdered_int.f k l0 0 (l0.length:Int) t101).bind fun t102=>(some t102)))=some r:=h;clear h;obtain ⟨t101,A2,H⟩:=bindAside H;(try dsimp only at H);obtain ⟨t102,A3,H⟩:=bindAside H;(try dsimp only at H);obtain rfl:=Option.some.inj H;obtain ⟨Ao4,co4,eo4⟩:=zy HO0.out;subst eo4;(go_enter Tryz.func88,Tryz.ntmps88);(go_wp2_with (first|((with_reducible refine zo (f:=95) rfl ?_);refine zp (some 9) rfl rfl Tryz.func95 (by kernel_rfl) rfl #[.int .u64 (IntKind.u64.wrap ((l0.length:Int)))] rfl (by first|rfl|simp only [z3_,z4_,z5_];try rfl) ?_;(with_reducible refine (bits_Len.calls k (IntKind.u64.wrap ((l0.length:Int))) t101 _ A2.out).mono ?_);rintro e w' ⟨rfl,⟨nd,rfl⟩⟩;refine ⟨_,rfl,?_⟩)|((with_reducible refine zo (f:=94) rfl ?_);refine zp (some 10) rfl rfl Tryz.func94 (by kernel_rfl) rfl #[.slice Ao4 l0.length co4,.int .i64 0,.int .i64 (l0.length:Int),.int .i64 t101] rfl (by first|rfl|simp only [z3_,z4_,z5_];try rfl) ?_;(with_reducible refine (slices_pdqsortOrdered_int.calls k (fun k_=>some k_=(.slice Ao4 l0.length co4:Value).ownBlock) (.slice Ao4 l0.length co4) l0 0 (l0.length:Int) t101 t102 w0 _ ?side1 ?side2 A3.out).mono ?_);(case side1=>repeat (first|(with_reducible first|exact HB.out|apply zc|apply zd|apply zb)|exact HB.out));(case side2=>exact Kd.R_tight rfl HO0.out);rintro e w5 ⟨rfl,hy0,hb,hkp⟩;refine ⟨_,rfl,?_⟩;replace HK:=za (Kept.then_ (S:=(fun k_=>P0_ k_)) (by repeat (first|(with_reducible first|exact HK.out|apply Kept.alloc|apply Kept.drewN|apply Kept.drew)|exact HK.out)) hkp (fun k_ hs_=>(fun e_=>(HO0.out.1 k_ e_.symm)) hs_));replace HO0:=za (Kd.R_reok rfl hy0 (fun k_ e_=>HO0.out.1 k_ e_));replace HB:=za (hb);(try clear hb);(try clear hkp);(try clear hy0))));(first|go_end0|((try simp only [Exit.inBlock,Exit.then]);refine bodyPost_ret (results_none rfl _ _ _) rfl ?_));exact ⟨by first|rfl|simp [*,errW_none,errW_some] <;> rfl,by (with_reducible repeat (first|apply zf|apply zg|apply ze));exact HO0.out,by repeat (first|(with_reducible first|exact HB.out|apply zc|apply zd|apply zb)|exact HB.out),by repeat (first|(with_reducible first|exact HK.out|apply Kept.alloc|apply Kept.drewN|apply Kept.drew)|exact HK.out)⟩
end Go.Proofs.YtihnjbfjdkdhaaaGreat.Q
end
section
namespace Go.Proofs.YtihnjbfjdkdhaaaGreat.Q
open Go.RowKit Go.Proofs.YtihnjbfjdkdhaaaGreatW.PrintWords Go.Proofs.YtihnjbfjdkdhaaaGreatW.PrintLast Go.Proofs.YtihnjbfjdkdhaaaGreatW.PrintMore
attribute [local go_sem] max2_int min2_int max_two min_two max_three min_three max_four min_four   -- for this text's walks alone
set_option linter.unusedVariables false
set_option linter.unusedSimpArgs false
def impl_factors.l0:Nat→List Int→List Int→Int→Int→Option (List Int)
|0,_,_,_,_=>none
|k + 1,x3,x7,x8,x9=>if x9 < x8 then (if 0≤x9 then (if x9 < (x7.length:Int) then (if x3.length < 17592186044416 then (impl_factors.l0 k (x3 ++ [wrap64 ((rd x7 x9) - x9)]) x7 x8 (wrap64 (x9 + 1))) else (none)) else (none)) else (none)) else ((slices_Sort_int_int.f k x3).bind fun t108=>(some t108))
def impl_factors.f (k:Nat) (l0:List Int):Option (List Int):=impl_factors.l0 k (([]:List Int)) l0 (l0.length:Int) 0
theorem impl_factors.mono_l:∀ k,(∀ y0 y1 y2 y3,LeO (impl_factors.l0 k y0 y1 y2 y3) (impl_factors.l0 (k + 1) y0 y1 y2 y3))
|0=>fun _ _ _ _ r h=>by simp [impl_factors.l0] at h
|k + 1=>by
  have ih0:=impl_factors.mono_l k
  ·
   intro y0 y1 y2 y3
   unfold impl_factors.l0
   repeat' first
  |(with_reducible exact ih0 _ _ _ _)
  |(with_reducible exact slices_Sort_int_int.mono _ _)
  |(with_reducible exact LeO.refl _)
  |(with_reducible exact LeO.none _)
  |(with_reducible refine LeO.ite ?_ ?_)
  |(with_reducible refine LeO.bind ?_ (fun _=>?_))
  |exact ih0 _ _ _ _
  |exact slices_Sort_int_int.mono _ _
  |exact LeO.none _
  |refine LeO.ite ?_ ?_
  |refine LeO.bind ?_ (fun _=>?_)
theorem impl_factors.mono:∀ a0 k,LeO (impl_factors.f k a0) (impl_factors.f (k + 1) a0):=by
 intro a0 k;have ih0:=impl_factors.mono_l k;unfold impl_factors.f
 repeat' first
  |(with_reducible exact ih0 _ _ _ _)
  |(with_reducible exact slices_Sort_int_int.mono _ _)
  |(with_reducible exact LeO.refl _)
  |(with_reducible exact LeO.none _)
  |(with_reducible refine LeO.ite ?_ ?_)
  |(with_reducible refine LeO.bind ?_ (fun _=>?_))
  |exact ih0 _ _ _ _
  |exact slices_Sort_int_int.mono _ _
  |exact LeO.none _
  |refine LeO.ite ?_ ?_
  |refine LeO.bind ?_ (fun _=>?_)
set_option maxHeartbeats 8000000 in
set_option maxRecDepth 100000 in
theorem impl_factors.calls (k:Nat) (A0:Option Addr) (c0:Nat) (l0:List Int) (r:List Int) (w:World) (hr0:Kd.C (Kd.int .i64) w A0 l0.length l0) (hc0:l0.length≤c0) (h:impl_factors.f k l0=some r) :
  Calls Tryz.prog 63 #[.slice A0 l0.length c0] w fun e w'=>∃ v0_:Value,e=.returned (v0_)∧Kd.R (Kd.int .i64) 3 w' w.heap.size (fun _=>True) v0_ r∧Below w.heap.size w w':=by
 have HR0:=za hr0;have HC0:=za hc0;clear hr0 hc0;have HB:=za (Below.refl w.heap.size w);have H:(impl_factors.l0 k (([]:List Int)) l0 (l0.length:Int) 0)=some r:=h;clear h;obtain ⟨y101,hy101⟩:∃ y_:List Int,y_=(([]:List Int)):=⟨_,rfl⟩;(replace H:(impl_factors.l0 k y101 l0 (l0.length:Int) 0)=some r:=by first|(rw [hy101];with_reducible exact H)|(have H2_:=(Option.bind_some _ _).symm.trans H;rw [hy101];with_reducible exact H2_)|(have H2_:=(Option.bind_some _ _).symm.trans H;with_reducible exact H2_)|with_reducible exact H|(rw [hy101];exact H)|exact H);have Ny101:=za hy101;clear hy101;have H':=za H;clear H;(go_enter Tryz.func63,Tryz.ntmps63);(go_wp2_with (first|((with_reducible refine gate_dst (N:=6) rfl ?_);refine Kd.R_lit (Kd.int .i64) _ 3 ?hg (N:=6) ?hd (xs:=([]:List Int)) (inner:=[]) (ok:=fun _=>True) (okp:=fun _=>True) ?hr ?hp (fun _ hk=>hk) trivial (Below.refl _ _) (Nat.le_refl _) (by simp) ?_;(case hd=>rfl);(case hg=>rfl);(case hr=>first|(go_simp;done)|(go_simp;rfl));(case hp=>exact (Reps.none _ _));intro v102 w2 ho3 hb hg_ hnew_;clear hg_ hnew_;(first|rw [← Ny101.out] at ho3|(simp only [Int.reduceToNat] at ho3;rw [← Ny101.out] at ho3));have HO103:=za (zA ho3 (zq (by repeat (first|(with_reducible first|exact HB.out|apply zc|apply zd|apply zb)|exact HB.out))));replace HB:=za (zm (by repeat (first|(with_reducible first|exact HB.out|apply zc|apply zd|apply zb)|exact HB.out)) hb);clear hb ho3)));(go_loopg [3,9] k (fun kq v3 v9 w'=>∃ (x3_1:List Int) (x9_1:Int),v9=.int .i64 x9_1∧Aside0 (impl_factors.l0 kq x3_1 l0 (l0.length:Int) x9_1=some r)∧Aside0 (kq≤k)∧Aside0 (Kd.R (Kd.int .i64) 3 w' w.heap.size (fun _=>True) v3 x3_1)∧Aside0 (Below w.heap.size w w')));case atStart=>exact ⟨(y101),(0),(by first|rfl|(simp;done)|(simp [*];done)),H',⟨Nat.le_refl _⟩,⟨by (with_reducible repeat (first|apply zf|apply zg|apply ze));exact HO103.out⟩,⟨by repeat (first|(with_reducible first|exact HB.out|apply zc|apply zd|apply zb)|exact HB.out)⟩⟩
 case round =>
  clear H';(try clear p2);obtain ⟨x3_1,x9_1,rfl,HA,HK1,HO_3,HB⟩:=hrel
  cases gk with
 |zero=>exact absurd HA.out (by simp [impl_factors.l0])
 |succ k1 =>
   have H:=HA.out;clear HA;simp only [impl_factors.l0] at H;by_cases c4:x9_1 < (l0.length:Int)
   ·
    rw [if_pos c4] at H;have c4b0:decide (x9_1 < (l0.length:Int))=true:=decide_eq_true c4;clear c4;by_cases c5:0≤x9_1
    ·
     rw [if_pos c5] at H;have c5b0:decide (0≤x9_1)=true:=decide_eq_true c5;clear c5;by_cases c6:x9_1 < (l0.length:Int)
     ·
      rw [if_pos c6] at H;have c6b0:decide (x9_1 < (l0.length:Int))=true:=decide_eq_true c6;clear c6;by_cases c7:x3_1.length < 17592186044416
      · rw [if_pos c7] at H;have LMc7:=za c7;clear c7;obtain ⟨y105,hy105⟩:∃ y_:List Int,y_=(x3_1 ++ [wrap64 ((rd l0 x9_1) - x9_1)]):=⟨_,rfl⟩;(replace H:(impl_factors.l0 k1 y105 l0 (l0.length:Int) (wrap64 (x9_1 + 1)))=some r:=by first|(rw [hy105];with_reducible exact H)|(have H2_:=(Option.bind_some _ _).symm.trans H;rw [hy105];with_reducible exact H2_)|(have H2_:=(Option.bind_some _ _).symm.trans H;with_reducible exact H2_)|with_reducible exact H|(rw [hy105];exact H)|exact H);have Ny105:=za hy105;clear hy105;have H':=za H;clear H;have p104:0≤(x9_1:Int):=of_decide_eq_true ‹_›;have q104:x9_1 < (l0.length:Int):=of_decide_eq_true ‹_›;obtain ⟨ad104,e104,hx104_0⟩:=zz HR0.out x9_1 p104 q104;cases e104;replace hx104_0:=(HB.out.cell (World.block_lt_of_cell? w _ hx104_0)).trans hx104_0;replace p104:=eq_true p104;replace q104:=eq_true q104;(go_wp2_with (first|((with_reducible refine gate_builtin (b:=.append) (xs:=#[.tmp 14,.tmp 18]) rfl ?_);at_builtin;refine Kd.R_append (Kd.int .i64) (w0:=w) w.heap.size rfl (.tmp 14) (.tmp 18) 24 3 (.int .i64 0) 8 rfl Tryz.underlying24 info3 rfl (by decide) (by omega) u3 x3_1 (wrap64 ((rd l0 x9_1) - x9_1)) [.int .i64 (wrap64 ((rd l0 x9_1) - x9_1))] (fun _=>True) (fun _=>False) rfl rfl ?aP (fun _ hk=>hk.elim) ?aF ?aO ?aB ?aS ?aL ?_;(case aP=>exact rfl);(case aB=>exact (by repeat (first|(with_reducible first|exact HB.out|apply zc|apply zd|apply zb)|exact HB.out)));(case aF=>exact (fun _ _=>trivial));(case aO=>exact (by (with_reducible repeat (first|apply zf|apply zg|apply ze));exact HO_3.out));(case aS=>exact (zq (by repeat (first|(with_reducible first|exact HB.out|apply zc|apply zd|apply zb)|exact HB.out))));(case aL=>have:=LMc7.out;omega);intro v106 w8 ho hb hg hat;rw [← Ny105.out] at ho;replace HB:=za (hb);have HO107:=za (ho);clear HO_3;clear ho hb hg hat)));(go_roundg k1);(case measure=>have:=HK1.out;omega);case rel=>exact ⟨(y105),(wrap64 (x9_1 + 1)),(by first|rfl|(simp;done)|(simp [*];done)),H',⟨by have:=HK1.out;omega⟩,⟨by (with_reducible repeat (first|apply zf|apply zg|apply ze));exact HO107.out⟩,⟨by repeat (first|(with_reducible first|exact HB.out|apply zc|apply zd|apply zb)|exact HB.out)⟩⟩
      · rw [if_neg c7] at H;exact absurd H (by simp)
     · rw [if_neg c6] at H;exact absurd H (by simp)
    · rw [if_neg c5] at H;exact absurd H (by simp)
   · rw [if_neg c4] at H;have c4b0:decide (x9_1 < (l0.length:Int))=false:=decide_eq_false c4;clear c4;obtain ⟨t108,A9,H⟩:=bindAside H;(try dsimp only at H);obtain rfl:=Option.some.inj H;obtain ⟨Ao10,co10,eo10⟩:=zy HO_3.out;subst eo10;(go_wp2_with (first|((with_reducible refine zo (f:=88) rfl ?_);refine zp (some 22) rfl rfl Tryz.func88 (by kernel_rfl) rfl #[.slice Ao10 x3_1.length co10] rfl (by first|rfl|simp only [z3_,z4_,z5_];try rfl) ?_;(with_reducible refine (slices_Sort_int_int.calls k1 (fun k_=>some k_=(.slice Ao10 x3_1.length co10:Value).ownBlock) (.slice Ao10 x3_1.length co10) x3_1 t108 w _ ?side1 ?side2 A9.out).mono ?_);(case side1=>repeat (first|(with_reducible first|exact HB.out|apply zc|apply zd|apply zb)|exact HB.out));(case side2=>exact Kd.R_tight rfl HO_3.out);rintro e w11 ⟨rfl,hy0,hb,hkp⟩;refine ⟨_,rfl,?_⟩;replace HO_3:=za (Kd.R_reok rfl hy0 (fun k_ e_=>HO_3.out.1 k_ e_));replace HB:=za (hb);(try clear hb);(try clear hkp);(try clear hy0))));(go_ret);exact ⟨_,by first|rfl|simp [*,errW_none,errW_some] <;> rfl,by (with_reducible repeat (first|apply zf|apply zg|apply ze));exact HO_3.out,by repeat (first|(with_reducible first|exact HB.out|apply zc|apply zd|apply zb)|exact HB.out)⟩
end Go.Proofs.YtihnjbfjdkdhaaaGreat.Q
end
section
namespace Go.Proofs.YtihnjbfjdkdhaaaGreat.Q
open Go.RowKit Go.Proofs.YtihnjbfjdkdhaaaGreatW.PrintWords Go.Proofs.YtihnjbfjdkdhaaaGreatW.PrintLast Go.Proofs.YtihnjbfjdkdhaaaGreatW.PrintMore
attribute [local go_sem] max2_int min2_int max_two min_two max_three min_three max_four min_four   -- for this text's walks alone
set_option linter.unusedVariables false
set_option linter.unusedSimpArgs false
def impl_WeightedProductAt.l0:Nat→Int→Int→Int→List Int→Int→Int→Option (Int × Bool)
|0,_,_,_,_,_,_=>none
|k + 1,x1,x2,x8,x17,x18,x19=>if x19 < x18 then (if 0≤x19 then (if x19 < (x17.length:Int) then ((impl_bracket.f k (wrap64 (x2 + (rd x17 x19))) x1).bind fun t106=>(impl_WeightedProductAt.l0 k x1 x2 (wrap64 (x8 * t106)) x17 x18 (wrap64 (x19 + 1)))) else (none)) else (none)) else (some (x8,true))
def impl_WeightedProductAt.f (k:Nat) (l0:List Int) (a1:Int) (a2:Int):Option (Int × Bool):=(impl_isWeighted.f k l0 a1 a2).bind fun t101=>(if t101=true then ((impl_factors.f k l0).bind fun t102=>(impl_WeightedProductAt.l0 k a1 a2 1 t102 (t102.length:Int) 0)) else (some (0,false)))
theorem impl_WeightedProductAt.mono_l:∀ k,(∀ y0 y1 y2 y3 y4 y5,LeO (impl_WeightedProductAt.l0 k y0 y1 y2 y3 y4 y5) (impl_WeightedProductAt.l0 (k + 1) y0 y1 y2 y3 y4 y5))
|0=>fun _ _ _ _ _ _ r h=>by simp [impl_WeightedProductAt.l0] at h
|k + 1=>by
  have ih0:=impl_WeightedProductAt.mono_l k
  ·
   intro y0 y1 y2 y3 y4 y5
   unfold impl_WeightedProductAt.l0
   repeat' first
  |(with_reducible exact ih0 _ _ _ _ _ _)
  |(with_reducible exact impl_bracket.mono _ _ _)
  |(with_reducible exact impl_factors.mono _ _)
  |(with_reducible exact impl_isWeighted.mono _ _ _ _)
  |(with_reducible exact LeO.refl _)
  |(with_reducible exact LeO.none _)
  |(with_reducible refine LeO.ite ?_ ?_)
  |(with_reducible refine LeO.bind ?_ (fun _=>?_))
  |exact ih0 _ _ _ _ _ _
  |exact impl_bracket.mono _ _ _
  |exact impl_factors.mono _ _
  |exact impl_isWeighted.mono _ _ _ _
  |exact LeO.none _
  |refine LeO.ite ?_ ?_
  |refine LeO.bind ?_ (fun _=>?_)
theorem impl_WeightedProductAt.mono:∀ a0 a1 a2 k,LeO (impl_WeightedProductAt.f k a0 a1 a2) (impl_WeightedProductAt.f (k + 1) a0 a1 a2):=by
 intro a0 a1 a2 k;have ih0:=impl_WeightedProductAt.mono_l k;unfold impl_WeightedProductAt.f
 repeat' first
  |(with_reducible exact ih0 _ _ _ _ _ _)
  |(with_reducible exact impl_bracket.mono _ _ _)
  |(with_reducible exact impl_factors.mono _ _)
  |(with_reducible exact impl_isWeighted.mono _ _ _ _)
  |(with_reducible exact LeO.refl _)
  |(with_reducible exact LeO.none _)
  |(with_reducible refine LeO.ite ?_ ?_)
  |(with_reducible refine LeO.bind ?_ (fun _=>?_))
  |exact ih0 _ _ _ _ _ _
  |exact impl_bracket.mono _ _ _
  |exact impl_factors.mono _ _
  |exact impl_isWeighted.mono _ _ _ _
  |exact LeO.none _
  |refine LeO.ite ?_ ?_
  |refine LeO.bind ?_ (fun _=>?_)
set_option maxHeartbeats 8000000 in
set_option maxRecDepth 100000 in
theorem impl_WeightedProductAt.calls (k:Nat) (A0:Option Addr) (c0:Nat) (l0:List Int) (a1:Int) (a2:Int) (r1:Int) (r2:Bool) (w:World) (hr0:Kd.C (Kd.int .i64) w A0 l0.length l0) (hc0:l0.length≤c0) (h:impl_WeightedProductAt.f k l0 a1 a2=some (r1,r2)) :
  Calls Tryz.prog 29 #[.slice A0 l0.length c0,.int .i64 a1,.int .i64 a2] w fun e w'=>e=.returned (.tuple #[.int .i64 r1,.bool r2])∧Below w.heap.size w w':=by
 have HR0:=za hr0;have HC0:=za hc0;clear hr0 hc0;have HB:=za (Below.refl w.heap.size w);have H:((impl_isWeighted.f k l0 a1 a2).bind fun t101=>(if t101=true then ((impl_factors.f k l0).bind fun t102=>(impl_WeightedProductAt.l0 k a1 a2 1 t102 (t102.length:Int) 0)) else (some (0,false))))=some (r1,r2):=h;clear h;obtain ⟨t101,A4,H⟩:=bindAside H;(try dsimp only at H);by_cases c5:t101=true
 ·
  subst c5;(have H1:((impl_factors.f k l0).bind fun t102=>(impl_WeightedProductAt.l0 k a1 a2 1 t102 (t102.length:Int) 0))=some (r1,r2):=by rw [if_pos rfl] at H;exact H);clear H;have H:=H1;clear H1;obtain ⟨t102,A6,H⟩:=bindAside H;(try dsimp only at H);have H':=za H;clear H;(go_enter Tryz.func29,Tryz.ntmps29);(go_wp2_with (first|((with_reducible refine zo (f:=61) rfl ?_);refine zp (some 14) rfl rfl Tryz.func61 (by kernel_rfl) rfl #[.slice A0 l0.length c0,.int .i64 a1,.int .i64 a2] rfl (by first|rfl|simp only [z3_,z4_,z5_];try rfl) ?_;(with_reducible refine (impl_isWeighted.calls k _ _ l0 a1 a2 true _ ?side1 ?side2 A4.out).mono ?_);(case side1=>repeat (first|exact HR0.out|(with_reducible refine zh ?_ _)|(with_reducible refine zi ?_ _)|(with_reducible refine zj ?_)));(case side2=>exact HC0.out);rintro e w' ⟨rfl,⟨nd,rfl⟩⟩;refine ⟨_,rfl,?_⟩)|((with_reducible refine zo (f:=63) rfl ?_);refine zp (some 17) rfl rfl Tryz.func63 (by kernel_rfl) rfl #[.slice A0 l0.length c0] rfl (by first|rfl|simp only [z3_,z4_,z5_];try rfl) ?_;(with_reducible refine (impl_factors.calls k _ _ l0 t102 _ ?side1 ?side2 A6.out).mono ?_);(case side1=>repeat (first|exact HR0.out|(with_reducible refine zh ?_ _)|(with_reducible refine zi ?_ _)|(with_reducible refine zj ?_)));(case side2=>exact HC0.out);rintro e w7 ⟨v103,rfl,ho0,hb⟩;refine ⟨_,rfl,?_⟩;have HO104:=za (zA ho0 (zq (by repeat (first|(with_reducible first|exact HB.out|apply zc|apply zd|apply zb)|exact HB.out))));replace HB:=za (zm (by repeat (first|(with_reducible first|exact HB.out|apply zc|apply zd|apply zb)|exact HB.out)) hb);obtain ⟨Ao8,co8,eo8⟩:=zy HO104.out;subst eo8)));(go_loopg [8,19] k (fun kq v8 v19 w'=>∃ (x8_1:Int) (x19_1:Int),v8=.int .i64 x8_1∧v19=.int .i64 x19_1∧Aside0 (impl_WeightedProductAt.l0 kq a1 a2 x8_1 t102 (t102.length:Int) x19_1=some (r1,r2))∧Aside0 (kq≤k)∧Aside0 (Kd.R (Kd.int .i64) 3 w' w.heap.size (fun _=>True) (.slice Ao8 t102.length co8) t102)∧Aside0 (Below w.heap.size w w')));case atStart=>exact ⟨(1),(0),(by first|rfl|(simp;done)|(simp [*];done)),(by first|rfl|(simp;done)|(simp [*];done)),H',⟨Nat.le_refl _⟩,⟨by (with_reducible repeat (first|apply zf|apply zg|apply ze));exact HO104.out⟩,⟨by repeat (first|(with_reducible first|exact HB.out|apply zc|apply zd|apply zb)|exact HB.out)⟩⟩
  case round =>
   clear H';(try clear c2);(try clear p2);(try clear c5);(try clear c6);obtain ⟨x8_1,x19_1,rfl,rfl,HA,HK1,HO_17,HB⟩:=hrel
   cases gk with
  |zero=>exact absurd HA.out (by simp [impl_WeightedProductAt.l0])
  |succ k1 =>
    have H:=HA.out;clear HA;simp only [impl_WeightedProductAt.l0] at H;by_cases c9:x19_1 < (t102.length:Int)
    ·
     rw [if_pos c9] at H;have c9b0:decide (x19_1 < (t102.length:Int))=true:=decide_eq_true c9;clear c9;by_cases c10:0≤x19_1
     ·
      rw [if_pos c10] at H;have c10b0:decide (0≤x19_1)=true:=decide_eq_true c10;clear c10;by_cases c11:x19_1 < (t102.length:Int)
      · rw [if_pos c11] at H;have c11b0:decide (x19_1 < (t102.length:Int))=true:=decide_eq_true c11;clear c11;obtain ⟨t106,A12,H⟩:=bindAside H;(try dsimp only at H);have H':=za H;clear H;have p105:0≤(x19_1:Int):=of_decide_eq_true ‹_›;have q105:x19_1 < (t102.length:Int):=of_decide_eq_true ‹_›;obtain ⟨ad105,e105,hx105_0⟩:=zz (zk HO_17.out).2.2 x19_1 p105 q105;cases e105;replace p105:=eq_true p105;replace q105:=eq_true q105;(go_wp2_with (first|((with_reducible refine zo (f:=57) rfl ?_);refine zp (some 28) rfl rfl Tryz.func57 (by kernel_rfl) rfl #[.int .i64 (wrap64 (a2 + (rd t102 x19_1))),.int .i64 a1] rfl (by first|rfl|simp only [z3_,z4_,z5_];try rfl) ?_;(with_reducible refine (impl_bracket.calls k1 (wrap64 (a2 + (rd t102 x19_1))) a1 t106 _ A12.out).mono ?_);rintro e w' ⟨rfl,⟨nd,rfl⟩⟩;refine ⟨_,rfl,?_⟩)));(go_roundg k1);(case measure=>have:=HK1.out;omega);case rel=>exact ⟨(wrap64 (x8_1 * t106)),(wrap64 (x19_1 + 1)),(by first|rfl|(simp;done)|(simp [*];done)),(by first|rfl|(simp;done)|(simp [*];done)),H',⟨by have:=HK1.out;omega⟩,⟨by (with_reducible repeat (first|apply zf|apply zg|apply ze));exact HO_17.out⟩,⟨by repeat (first|(with_reducible first|exact HB.out|apply zc|apply zd|apply zb)|exact HB.out)⟩⟩
      · rw [if_neg c11] at H;exact absurd H (by simp)
     · rw [if_neg c10] at H;exact absurd H (by simp)
    · rw [if_neg c9] at H;have c9b0:decide (x19_1 < (t102.length:Int))=false:=decide_eq_false c9;clear c9;simp only [Option.some.injEq,Prod.mk.injEq] at H;obtain ⟨rfl,rfl⟩:=H;(go_wp2);(go_ret2);exact ⟨by first|rfl|simp [*,errW_none,errW_some] <;> rfl,by repeat (first|(with_reducible first|exact HB.out|apply zc|apply zd|apply zb)|exact HB.out)⟩
 · replace c5:=Bool.eq_false_iff.mpr c5;subst c5;(have H1:(some (0,false))=some (r1,r2):=by rw [if_neg (show ¬ (false=true) by decide)] at H;exact H);clear H;have H:=H1;clear H1;simp only [Option.some.injEq,Prod.mk.injEq] at H;obtain ⟨rfl,rfl⟩:=H;(go_enter Tryz.func29,Tryz.ntmps29);(go_wp2_with (first|((with_reducible refine zo (f:=61) rfl ?_);refine zp (some 14) rfl rfl Tryz.func61 (by kernel_rfl) rfl #[.slice A0 l0.length c0,.int .i64 a1,.int .i64 a2] rfl (by first|rfl|simp only [z3_,z4_,z5_];try rfl) ?_;(with_reducible refine (impl_isWeighted.calls k _ _ l0 a1 a2 false _ ?side1 ?side2 A4.out).mono ?_);(case side1=>repeat (first|exact HR0.out|(with_reducible refine zh ?_ _)|(with_reducible refine zi ?_ _)|(with_reducible refine zj ?_)));(case side2=>exact HC0.out);rintro e w' ⟨rfl,⟨nd,rfl⟩⟩;refine ⟨_,rfl,?_⟩)));(go_ret2);exact ⟨by first|rfl|simp [*,errW_none,errW_some] <;> rfl,by repeat (first|(with_reducible first|exact HB.out|apply zc|apply zd|apply zb)|exact HB.out)⟩
end Go.Proofs.YtihnjbfjdkdhaaaGreat.Q
end
