/- Texts of this claim put together (8): words, what the functions compute, and plain facts. No conditions. -/
import Derived.Test.YtiopnmgcajohfaaSFnKnownHits4
import Derived.Test.YtiopnmgcajohfaaSFnKnownHits7
import Derived.Test.YtiopnmgcajohfaaSFnKnownHits5
import Derived.Outline
import Derived.Lib.Hide
import Derived.Test.YtiopnmgcajohfaaSFnKnownHits0
section
namespace Go.Proofs.Ytiopnmgcajohfaa.Q
open Go.RowKit Go.Proofs.YtiopnmgcajohfaaW.PrintWords Go.Proofs.YtiopnmgcajohfaaW.PrintLast Go.Proofs.YtiopnmgcajohfaaW.PrintMore
attribute [local go_sem] max2_int min2_int max_two min_two max_three min_three max_four min_four   -- for this text's walks alone
set_option linter.unusedVariables false
set_option linter.unusedSimpArgs false
def spec_CountCouples.l0:Nat→Int→Int→Int→Option (Int × Bool)
|0,_,_,_=>none
|k + 1,x0,x4,x5=>if x5≤x0 then ((spec_hiChoose.f k (wrap64 ((wrap64 (2 * x0)) - x5)) x5).bind fun t102=>(if (wrap64 ((wrap64 (2 * x0)) - x5))=0 then (none) else (if (Int.tmod x5 2)=1 then ((spec_hiFactorial.f k (wrap64 (x0 - x5))).bind fun t103=>(spec_CountCouples.l0 k x0 (wrap64 (x4 + (wrap64 ((wrap64 (-(wrap64 (Int.tdiv (wrap64 ((wrap64 (2 * x0)) * t102)) (wrap64 ((wrap64 (2 * x0)) - x5)))))) * t103)))) (wrap64 (x5 + 1)))) else ((spec_hiFactorial.f k (wrap64 (x0 - x5))).bind fun t104=>(spec_CountCouples.l0 k x0 (wrap64 (x4 + (wrap64 ((wrap64 (Int.tdiv (wrap64 ((wrap64 (2 * x0)) * t102)) (wrap64 ((wrap64 (2 * x0)) - x5)))) * t104)))) (wrap64 (x5 + 1))))))) else (some (x4,true))
def spec_CountCouples.f (k:Nat) (a0:Int):Option (Int × Bool):=(spec_l1In.f a0 2 10).bind fun t101=>(if t101=true then (spec_CountCouples.l0 k a0 0 0) else (some (0,false)))
theorem spec_CountCouples.mono_l:∀ k,(∀ y0 y1 y2,LeO (spec_CountCouples.l0 k y0 y1 y2) (spec_CountCouples.l0 (k + 1) y0 y1 y2))
|0=>fun _ _ _ r h=>by simp [spec_CountCouples.l0] at h
|k + 1=>by
  have ih0:=spec_CountCouples.mono_l k
  ·
   intro y0 y1 y2
   unfold spec_CountCouples.l0
   repeat' first
  |(with_reducible exact ih0 _ _ _)
  |(with_reducible exact spec_hiChoose.mono _ _ _)
  |(with_reducible exact spec_hiFactorial.mono _ _)
  |(with_reducible exact LeO.refl _)
  |(with_reducible exact LeO.none _)
  |(with_reducible refine LeO.ite ?_ ?_)
  |(with_reducible refine LeO.bind ?_ (fun _=>?_))
  |exact ih0 _ _ _
  |exact spec_hiChoose.mono _ _ _
  |exact spec_hiFactorial.mono _ _
  |exact LeO.none _
  |refine LeO.ite ?_ ?_
  |refine LeO.bind ?_ (fun _=>?_)
theorem spec_CountCouples.mono:∀ a0 k,LeO (spec_CountCouples.f k a0) (spec_CountCouples.f (k + 1) a0):=by
 intro a0 k;have ih0:=spec_CountCouples.mono_l k;unfold spec_CountCouples.f
 repeat' first
  |(with_reducible exact ih0 _ _ _)
  |(with_reducible exact spec_hiChoose.mono _ _ _)
  |(with_reducible exact spec_hiFactorial.mono _ _)
  |(with_reducible exact LeO.refl _)
  |(with_reducible exact LeO.none _)
  |(with_reducible refine LeO.ite ?_ ?_)
  |(with_reducible refine LeO.bind ?_ (fun _=>?_))
  |exact ih0 _ _ _
  |exact spec_hiChoose.mono _ _ _
  |exact spec_hiFactorial.mono _ _
  |exact LeO.none _
  |refine LeO.ite ?_ ?_
  |refine LeO.bind ?_ (fun _=>?_)
set_option maxHeartbeats 8000000 in
set_option maxRecDepth 100000 in
theorem spec_CountCouples.calls (k:Nat) (a0:Int) (r1:Int) (r2:Bool) (w:World) (h:spec_CountCouples.f k a0=some (r1,r2)) :
  Calls Try.prog 56 #[.int .i64 a0] w fun e w'=>e=.returned (.tuple #[.int .i64 r1,.bool r2])∧Drawn0 w w':=by
 have H:((spec_l1In.f a0 2 10).bind fun t101=>(if t101=true then (spec_CountCouples.l0 k a0 0 0) else (some (0,false))))=some (r1,r2):=h;clear h;obtain ⟨t101,A2,H⟩:=bindAside H;(try dsimp only at H);by_cases c3:t101=true
 ·
  subst c3;(have H1:(spec_CountCouples.l0 k a0 0 0)=some (r1,r2):=by rw [if_pos rfl] at H;exact H);clear H;have H:=H1;clear H1;have H':=za H;clear H;(go_enter Try.func56,Try.ntmps56);(go_wp2_with (first|((with_reducible refine zt (f:=77) rfl ?_);refine goesL_ (some 8) rfl rfl Try.func77 (by kernel_rfl) rfl #[.int .i64 a0,.int .i64 2,.int .i64 10] rfl (by first|rfl|simp only [z3_,z4_,z5_];try rfl) ?_;(with_reducible refine (spec_l1In.calls a0 2 10 true _ A2.out).mono ?_);rintro e w' ⟨rfl,⟨nd,rfl⟩⟩;refine ⟨_,rfl,?_⟩)));(go_loopg [4,5] k (fun kq v4 v5 w'=>∃ (x4_1:Int) (x5_1:Int),v4=.int .i64 x4_1∧v5=.int .i64 x5_1∧Aside0 (spec_CountCouples.l0 kq a0 x4_1 x5_1=some (r1,r2))∧Aside0 (kq≤k)∧Drawn0 w w'));case atStart=>exact ⟨(0),(0),(by first|rfl|(simp;done)|(simp [*];done)),(by first|rfl|(simp;done)|(simp [*];done)),H',⟨Nat.le_refl _⟩,by repeat (first|exact Drawn0.refl _|apply Drawn0.step)⟩
  case round =>
   clear H';(try clear p2);(try clear c3);obtain ⟨x4_1,x5_1,rfl,rfl,HA,HK1,⟨m1,rfl⟩⟩:=hrel
   cases gk with
  |zero=>exact absurd HA.out (by simp [spec_CountCouples.l0])
  |succ k1 =>
    have H:=HA.out;clear HA;simp only [spec_CountCouples.l0] at H;by_cases c4:x5_1≤a0
    ·
     rw [if_pos c4] at H;have c4b0:decide (x5_1≤a0)=true:=decide_eq_true c4;clear c4;obtain ⟨t102,A5,H⟩:=bindAside H;(try dsimp only at H);by_cases c6:(wrap64 ((wrap64 (2 * a0)) - x5_1))=0
     · rw [if_pos c6] at H;exact absurd H (by simp)
     ·
      rw [if_neg c6] at H;have c6b0:((wrap64 ((wrap64 (2 * a0)) - x5_1)) == 0)=false:=beq_eq_false_iff_ne.mpr c6;have c6b1:((wrap64 ((wrap64 (2 * a0)) - x5_1)) != 0)=true:=bne_iff_ne.mpr c6;by_cases c7:(Int.tmod x5_1 2)=1
      · rw [if_pos c7] at H;have c7b0:((Int.tmod x5_1 2) == 1)=true:=beq_iff_eq.mpr c7;have c7b1:((Int.tmod x5_1 2) != 1)=false:=bne_eq_false_iff_eq.mpr c7;clear c7;obtain ⟨t103,A8,H⟩:=bindAside H;(try dsimp only at H);have H':=za H;clear H;(go_wp2_with (first|((with_reducible refine zt (f:=114) rfl ?_);refine goesL_ (some 22) rfl rfl Try.func114 (by kernel_rfl) rfl #[.int .i64 (wrap64 ((wrap64 (2 * a0)) - x5_1)),.int .i64 x5_1] rfl (by first|rfl|simp only [z3_,z4_,z5_];try rfl) ?_;(with_reducible refine (spec_hiChoose.calls k1 (wrap64 ((wrap64 (2 * a0)) - x5_1)) x5_1 t102 _ A5.out).mono ?_);rintro e w' ⟨rfl,⟨nd,rfl⟩⟩;refine ⟨_,rfl,?_⟩)|((with_reducible refine zt (f:=115) rfl ?_);refine goesL_ (some 39) rfl rfl Try.func115 (by kernel_rfl) rfl #[.int .i64 (wrap64 (a0 - x5_1))] rfl (by first|rfl|simp only [z3_,z4_,z5_];try rfl) ?_;(with_reducible refine (spec_hiFactorial.calls k1 (wrap64 (a0 - x5_1)) t103 _ A8.out).mono ?_);rintro e w' ⟨rfl,⟨nd,rfl⟩⟩;refine ⟨_,rfl,?_⟩)));(go_roundg k1);(case measure=>have:=HK1.out;omega);case rel=>exact ⟨(wrap64 (x4_1 + (wrap64 ((wrap64 (-(wrap64 (Int.tdiv (wrap64 ((wrap64 (2 * a0)) * t102)) (wrap64 ((wrap64 (2 * a0)) - x5_1)))))) * t103)))),(wrap64 (x5_1 + 1)),(by first|rfl|(simp;done)|(simp [*];done)),(by first|rfl|(simp;done)|(simp [*];done)),H',⟨by have:=HK1.out;omega⟩,by repeat (first|exact Drawn0.refl _|apply Drawn0.step)⟩
      · rw [if_neg c7] at H;have c7b0:((Int.tmod x5_1 2) == 1)=false:=beq_eq_false_iff_ne.mpr c7;have c7b1:((Int.tmod x5_1 2) != 1)=true:=bne_iff_ne.mpr c7;obtain ⟨t104,A9,H⟩:=bindAside H;(try dsimp only at H);have H':=za H;clear H;(go_wp2_with (first|((with_reducible refine zt (f:=114) rfl ?_);refine goesL_ (some 22) rfl rfl Try.func114 (by kernel_rfl) rfl #[.int .i64 (wrap64 ((wrap64 (2 * a0)) - x5_1)),.int .i64 x5_1] rfl (by first|rfl|simp only [z3_,z4_,z5_];try rfl) ?_;(with_reducible refine (spec_hiChoose.calls k1 (wrap64 ((wrap64 (2 * a0)) - x5_1)) x5_1 t102 _ A5.out).mono ?_);rintro e w' ⟨rfl,⟨nd,rfl⟩⟩;refine ⟨_,rfl,?_⟩)|((with_reducible refine zt (f:=115) rfl ?_);refine goesL_ (some 39) rfl rfl Try.func115 (by kernel_rfl) rfl #[.int .i64 (wrap64 (a0 - x5_1))] rfl (by first|rfl|simp only [z3_,z4_,z5_];try rfl) ?_;(with_reducible refine (spec_hiFactorial.calls k1 (wrap64 (a0 - x5_1)) t104 _ A9.out).mono ?_);rintro e w' ⟨rfl,⟨nd,rfl⟩⟩;refine ⟨_,rfl,?_⟩)));(go_roundg k1);(case measure=>have:=HK1.out;omega);case rel=>exact ⟨(wrap64 (x4_1 + (wrap64 ((wrap64 (Int.tdiv (wrap64 ((wrap64 (2 * a0)) * t102)) (wrap64 ((wrap64 (2 * a0)) - x5_1)))) * t104)))),(wrap64 (x5_1 + 1)),(by first|rfl|(simp;done)|(simp [*];done)),(by first|rfl|(simp;done)|(simp [*];done)),H',⟨by have:=HK1.out;omega⟩,by repeat (first|exact Drawn0.refl _|apply Drawn0.step)⟩
    · rw [if_neg c4] at H;have c4b0:decide (x5_1≤a0)=false:=decide_eq_false c4;clear c4;simp only [Option.some.injEq,Prod.mk.injEq] at H;obtain ⟨rfl,rfl⟩:=H;(go_wp2);(go_ret2);exact ⟨by first|rfl|(simp;done)|(simp [*];done),by repeat (first|exact Drawn0.refl _|apply Drawn0.step)⟩
 · replace c3:=Bool.eq_false_iff.mpr c3;subst c3;(have H1:(some (0,false))=some (r1,r2):=by rw [if_neg (show ¬ (false=true) by decide)] at H;exact H);clear H;have H:=H1;clear H1;simp only [Option.some.injEq,Prod.mk.injEq] at H;obtain ⟨rfl,rfl⟩:=H;(go_enter Try.func56,Try.ntmps56);(go_wp2_with (first|((with_reducible refine zt (f:=77) rfl ?_);refine goesL_ (some 8) rfl rfl Try.func77 (by kernel_rfl) rfl #[.int .i64 a0,.int .i64 2,.int .i64 10] rfl (by first|rfl|simp only [z3_,z4_,z5_];try rfl) ?_;(with_reducible refine (spec_l1In.calls a0 2 10 false _ A2.out).mono ?_);rintro e w' ⟨rfl,⟨nd,rfl⟩⟩;refine ⟨_,rfl,?_⟩)));(go_ret2);exact ⟨by first|rfl|(simp;done)|(simp [*];done),by repeat (first|exact Drawn0.refl _|apply Drawn0.step)⟩
end Go.Proofs.Ytiopnmgcajohfaa.Q
end
section
namespace Go.Proofs.Ytiopnmgcajohfaa.Q
open Go.RowKit Go.Proofs.YtiopnmgcajohfaaW.PrintWords Go.Proofs.YtiopnmgcajohfaaW.PrintLast Go.Proofs.YtiopnmgcajohfaaW.PrintMore
attribute [local go_sem] max2_int min2_int max_two min_two max_three min_three max_four min_four   -- for this text's walks alone
set_option linter.unusedVariables false
set_option linter.unusedSimpArgs false
def spec_DrawEulerNumbers.f (l0:List Int):Option (Int):=(spec_l1Cur_among.f l0 0 0 (([1,2,3,4,5,6,10,11,0]:List Int))).bind fun bt105=>(some bt105.1)
set_option maxHeartbeats 8000000 in
set_option maxRecDepth 100000 in
theorem spec_DrawEulerNumbers.calls (A0:Option Addr) (c0:Nat) (l0:List Int) (r:Int) (w:World) (hr0:Kd.C (Kd.int .u8) w A0 l0.length l0) (hc0:l0.length≤c0) (h:spec_DrawEulerNumbers.f l0=some r) :
  Calls Try.prog 57 #[.slice A0 l0.length c0] w fun e w'=>e=.returned (.int .i64 r)∧Below w.heap.size w w':=by
 have hu88:=Try.underlying88;have HR0:=za hr0;have HC0:=za hc0;clear hr0 hc0;have HB:=za (Below.refl w.heap.size w);have H:((spec_l1Cur_among.f l0 0 0 (([1,2,3,4,5,6,10,11,0]:List Int))).bind fun bt105=>(some bt105.1))=some r:=h;clear h;obtain ⟨y102,hy102⟩:∃ y_:List Int,y_=(([1,2,3,4,5,6,10,11,0]:List Int)):=⟨_,rfl⟩;(replace H:((spec_l1Cur_among.f l0 0 0 y102).bind fun bt105=>(some bt105.1))=some r:=by first|(rw [hy102];with_reducible exact H)|(have H2_:=(Option.bind_some _ _).symm.trans H;rw [hy102];with_reducible exact H2_)|(have H2_:=(Option.bind_some _ _).symm.trans H;with_reducible exact H2_)|with_reducible exact H|(rw [hy102];exact H)|exact H);have Ny102:=za hy102;clear hy102;obtain ⟨⟨t105,t106,t107⟩,A2,H⟩:=bindAside H;(try dsimp only at H);obtain rfl:=Option.some.inj H;(go_enter Try.func57,Try.ntmps57);(go_wp2_with (first|((with_reducible refine gate_dst (N:=6) rfl ?_);refine box_event ?hg (N:=6) ?hd (cs:=#[.slice A0 l0.length c0,.int .i64 0,.int .u64 0]) (t:=88) ?hr ?_;(case hd=>rfl);(case hg=>rfl);(case hr=>first|(go_simp;done)|(go_simp;rfl));intro gb101 hg w3 hbox hb;have BK101:=za (hbox);have GW101:=za ((by rw [hg];exact (zq (by repeat (first|(with_reducible first|exact HB.out|apply zj|apply zk|apply zi)|exact HB.out))):w.heap.size≤gb101));have GE101:=za ((by rw [hg];exact (zq (by repeat (first|(with_reducible first|exact HB.out|apply zj|apply zk|apply zi)|exact HB.out))):w.heap.size≤gb101));replace HB:=za (zu (by repeat (first|(with_reducible first|exact HB.out|apply zj|apply zk|apply zi)|exact HB.out)) hb);clear hb hbox hg;have HI101:=za (show IsS88 w _ gb101 l0 0 0 from ⟨_,_,BK101.out,GE101.out,HR0.out⟩))|((with_reducible refine gate_dst (N:=8) rfl ?_);refine Kd.R_lit (Kd.int .i64) _ 3 ?hg (N:=8) ?hd (xs:=([1,2,3,4,5,6,10,11,0]:List Int)) (inner:=[.int .i64 1,.int .i64 2,.int .i64 3,.int .i64 4,.int .i64 5,.int .i64 6,.int .i64 10,.int .i64 11,.int .i64 0]) (ok:=fun _=>True) (okp:=fun _=>True) ?hr ?hp (fun _ hk=>hk) trivial (Below.refl _ _) (Nat.le_refl _) (by simp) ?_;(case hd=>rfl);(case hg=>rfl);(case hr=>first|(go_simp;done)|(go_simp;rfl));(case hp=>exact (Reps.one (show Kd.M (Kd.int .i64) _ _ _ 1 [.int .i64 1] from rfl) (Reps.one (show Kd.M (Kd.int .i64) _ _ _ 2 [.int .i64 2] from rfl) (Reps.one (show Kd.M (Kd.int .i64) _ _ _ 3 [.int .i64 3] from rfl) (Reps.one (show Kd.M (Kd.int .i64) _ _ _ 4 [.int .i64 4] from rfl) (Reps.one (show Kd.M (Kd.int .i64) _ _ _ 5 [.int .i64 5] from rfl) (Reps.one (show Kd.M (Kd.int .i64) _ _ _ 6 [.int .i64 6] from rfl) (Reps.one (show Kd.M (Kd.int .i64) _ _ _ 10 [.int .i64 10] from rfl) (Reps.one (show Kd.M (Kd.int .i64) _ _ _ 11 [.int .i64 11] from rfl) (Reps.one (show Kd.M (Kd.int .i64) _ _ _ 0 [.int .i64 0] from rfl) (Reps.none _ _)))))))))));intro v103 w4 ho5 hb hg_ hnew_;clear hg_ hnew_;(first|rw [← Ny102.out] at ho5|(simp only [Int.reduceToNat] at ho5;rw [← Ny102.out] at ho5));have HO104:=za (Kd.R_lower ho5 (zq (by repeat (first|(with_reducible first|exact HB.out|apply zj|apply zk|apply zi|refine zc ?_ (IsS88.ge HI101.out))|exact HB.out))));replace HB:=za (zu (by repeat (first|(with_reducible first|exact HB.out|apply zj|apply zk|apply zi|refine zc ?_ (IsS88.ge HI101.out))|exact HB.out)) hb);replace HI101:=za (IsS88.below (by repeat (first|(with_reducible first|exact HI101.out|apply IsS88.alloc|apply IsS88.drewN|apply IsS88.drew|apply IsS88.set_1|apply IsS88.set_2)|exact HI101.out)) hb);clear hb ho5;obtain ⟨Ao6,co6,eo6⟩:=Kd.R_slice HO104.out;subst eo6)|((with_reducible refine zt (f:=98) rfl ?_);refine goesL_ (some 9) rfl rfl Try.func98 (by kernel_rfl) rfl #[.pointer (some ⟨gb101,0,none⟩),.slice Ao6 y102.length co6] rfl (by first|rfl|simp only [z3_,z4_,z5_];try rfl) ?_;(with_reducible refine (spec_l1Cur_among.calls gb101 l0 0 0 _ _ y102 t105 t106 t107 w _ ?side1 ?side2 ?side3 ?side4 ?side5 A2.out).mono ?_);(case side1=>repeat (first|(with_reducible first|exact HI101.out|apply IsS88.alloc|apply IsS88.drewN|apply IsS88.drew|apply IsS88.set_1|apply IsS88.set_2)|exact HI101.out));(case side2=>repeat (first|(with_reducible first|exact HB.out|apply zj|apply zk|apply zi|refine zc ?_ (IsS88.ge HI101.out))|exact HB.out));(case side3=>repeat (first|exact (zv HO104.out).2.2|(with_reducible refine Kd.C_alloc ?_ _)|(with_reducible refine Kd.C_drewN ?_ _)|(with_reducible refine Kd.C_drew ?_)));(case side4=>exact (zv HO104.out).2.1);(case side5=>exact far_slice (IsS88.own_ne HI101.out HO104.out (by decide)));rintro e w7 ⟨rfl,hi,hb,hk⟩;refine ⟨_,rfl,?_⟩;replace HO104:=za (zp (Kd.R_keep (IsS88.apart (show IsS88 w _ gb101 l0 0 0 from by repeat (first|(with_reducible first|exact HI101.out|apply IsS88.alloc|apply IsS88.drewN|apply IsS88.drew|apply IsS88.set_1|apply IsS88.set_2)|exact HI101.out)) (by (with_reducible repeat (first|apply zg|apply zh|apply zf));exact HO104.out) (by decide)) hk (fun _ h=>h.2)) (fun _ h=>h.1));replace HB:=za (hb);replace HI101:=za (hi))));(go_ret);exact ⟨by first|rfl|simp [*,errW_none,errW_some] <;> rfl,by repeat (first|(with_reducible first|exact HB.out|apply zj|apply zk|apply zi|refine zc ?_ (IsS88.ge HI101.out))|exact HB.out)⟩
end Go.Proofs.Ytiopnmgcajohfaa.Q
end
section
namespace Go.Proofs.Ytiopnmgcajohfaa.Q
open Go.RowKit Go.Proofs.YtiopnmgcajohfaaW.PrintWords Go.Proofs.YtiopnmgcajohfaaW.PrintLast Go.Proofs.YtiopnmgcajohfaaW.PrintMore
attribute [local go_sem] max2_int min2_int max_two min_two max_three min_three max_four min_four   -- for this text's walks alone
set_option linter.unusedVariables false
set_option linter.unusedSimpArgs false
mutual
def spec_EulerNumbers.l0:Nat→Int→List Int→Int→Option (List Int × Bool)
|0,_,_,_=>none
|k + 1,x0,x4,x5=>if x5≤x0 then (if 0≤x5 then (if (x5:Int).toNat≤35184372088832 then (spec_EulerNumbers.l1 k x0 x5 (List.replicate (x5:Int).toNat 0) x4 (x4.length:Int) 0) else (none)) else (none)) else (some (x4,true))
def spec_EulerNumbers.l1:Nat→Int→Int→List Int→List Int→Int→Int→Option (List Int × Bool)
|0,_,_,_,_,_,_=>none
|k + 1,x0,x5,x6,x20,x21,x22=>if x22 < x21 then (if 0≤x22 then (if x22 < (x20.length:Int) then (if x22 < (x6.length:Int) then ((some (x6.set (x22:Int).toNat (wrap64 ((rd x6 x22) + (wrap64 ((wrap64 (x22 + 1)) * (rd x20 x22))))):List Int)).bind fun y110=>(if 0≤(wrap64 (x22 + 1)) then (if (wrap64 (x22 + 1)) < (x6.length:Int) then (spec_EulerNumbers.l1 k x0 x5 (y110.set ((wrap64 (x22 + 1)):Int).toNat (wrap64 ((rd y110 (wrap64 (x22 + 1))) + (wrap64 ((wrap64 ((wrap64 (x5 - x22)) - 1)) * (rd x20 x22)))))) x20 x21 (wrap64 (x22 + 1))) else (none)) else (none))) else (none)) else (none)) else (none)) else (spec_EulerNumbers.l0 k x0 x6 (wrap64 (x5 + 1)))
end
def spec_EulerNumbers.f (k:Nat) (a0:Int):Option (List Int × Bool):=(spec_l1In.f a0 1 10).bind fun t101=>(if t101=true then (spec_EulerNumbers.l0 k a0 (([1]:List Int)) 2) else (some (([]:List Int),false)))
theorem spec_EulerNumbers.mono_l:∀ k,(∀ y0 y1 y2,LeO (spec_EulerNumbers.l0 k y0 y1 y2) (spec_EulerNumbers.l0 (k + 1) y0 y1 y2))∧(∀ y0 y1 y2 y3 y4 y5,LeO (spec_EulerNumbers.l1 k y0 y1 y2 y3 y4 y5) (spec_EulerNumbers.l1 (k + 1) y0 y1 y2 y3 y4 y5))
|0=>⟨fun _ _ _ r h=>by simp [spec_EulerNumbers.l0] at h,fun _ _ _ _ _ _ r h=>by simp [spec_EulerNumbers.l1] at h⟩
|k + 1=>by
  obtain ⟨ih0,ih1⟩:=spec_EulerNumbers.mono_l k
  refine ⟨?_,?_⟩
  ·
   intro y0 y1 y2
   unfold spec_EulerNumbers.l0
   repeat' first
  |(with_reducible exact ih0 _ _ _)
  |(with_reducible exact ih1 _ _ _ _ _ _)
  |(with_reducible exact LeO.refl _)
  |(with_reducible exact LeO.none _)
  |(with_reducible refine LeO.ite ?_ ?_)
  |(with_reducible refine LeO.bind ?_ (fun _=>?_))
  |exact ih0 _ _ _
  |exact ih1 _ _ _ _ _ _
  |exact LeO.none _
  |refine LeO.ite ?_ ?_
  |refine LeO.bind ?_ (fun _=>?_)
  ·
   intro y0 y1 y2 y3 y4 y5
   unfold spec_EulerNumbers.l1
   repeat' first
  |(with_reducible exact ih0 _ _ _)
  |(with_reducible exact ih1 _ _ _ _ _ _)
  |(with_reducible exact LeO.refl _)
  |(with_reducible exact LeO.none _)
  |(with_reducible refine LeO.ite ?_ ?_)
  |(with_reducible refine LeO.bind ?_ (fun _=>?_))
  |exact ih0 _ _ _
  |exact ih1 _ _ _ _ _ _
  |exact LeO.none _
  |refine LeO.ite ?_ ?_
  |refine LeO.bind ?_ (fun _=>?_)
theorem spec_EulerNumbers.mono:∀ a0 k,LeO (spec_EulerNumbers.f k a0) (spec_EulerNumbers.f (k + 1) a0):=by
 intro a0 k;obtain ⟨ih0,ih1⟩:=spec_EulerNumbers.mono_l k;unfold spec_EulerNumbers.f
 repeat' first
  |(with_reducible exact ih0 _ _ _)
  |(with_reducible exact ih1 _ _ _ _ _ _)
  |(with_reducible exact LeO.refl _)
  |(with_reducible exact LeO.none _)
  |(with_reducible refine LeO.ite ?_ ?_)
  |(with_reducible refine LeO.bind ?_ (fun _=>?_))
  |exact ih0 _ _ _
  |exact ih1 _ _ _ _ _ _
  |exact LeO.none _
  |refine LeO.ite ?_ ?_
  |refine LeO.bind ?_ (fun _=>?_)
set_option maxHeartbeats 8000000 in
set_option maxRecDepth 100000 in
theorem spec_EulerNumbers.calls (k:Nat) (a0:Int) (r1:List Int) (r2:Bool) (w:World) (h:spec_EulerNumbers.f k a0=some (r1,r2)) :
  Calls Try.prog 58 #[.int .i64 a0] w fun e w'=>∃ v0_:Value,e=.returned (.tuple #[v0_,.bool r2])∧Kd.R (Kd.int .i64) 3 w' w.heap.size (fun _=>True) v0_ r1∧Below w.heap.size w w':=by
 have HB:=za (Below.refl w.heap.size w);have H:((spec_l1In.f a0 1 10).bind fun t101=>(if t101=true then (spec_EulerNumbers.l0 k a0 (([1]:List Int)) 2) else (some (([]:List Int),false))))=some (r1,r2):=h;clear h;obtain ⟨t101,A2,H⟩:=bindAside H;(try dsimp only at H);by_cases c3:t101=true
 ·
  subst c3;(have H1:(spec_EulerNumbers.l0 k a0 (([1]:List Int)) 2)=some (r1,r2):=by rw [if_pos rfl] at H;exact H);clear H;have H:=H1;clear H1;obtain ⟨y102,hy102⟩:∃ y_:List Int,y_=(([1]:List Int)):=⟨_,rfl⟩;(replace H:(spec_EulerNumbers.l0 k a0 y102 2)=some (r1,r2):=by first|(rw [hy102];with_reducible exact H)|(have H2_:=(Option.bind_some _ _).symm.trans H;rw [hy102];with_reducible exact H2_)|(have H2_:=(Option.bind_some _ _).symm.trans H;with_reducible exact H2_)|with_reducible exact H|(rw [hy102];exact H)|exact H);have Ny102:=za hy102;clear hy102;have H':=za H;clear H;(go_enter Try.func58,Try.ntmps58);(go_wp2_with (first|((with_reducible refine zt (f:=77) rfl ?_);refine goesL_ (some 10) rfl rfl Try.func77 (by kernel_rfl) rfl #[.int .i64 a0,.int .i64 1,.int .i64 10] rfl (by first|rfl|simp only [z3_,z4_,z5_];try rfl) ?_;(with_reducible refine (spec_l1In.calls a0 1 10 true _ A2.out).mono ?_);rintro e w' ⟨rfl,⟨nd,rfl⟩⟩;refine ⟨_,rfl,?_⟩)|((with_reducible refine gate_dst (N:=12) rfl ?_);refine Kd.R_lit (Kd.int .i64) _ 3 ?hg (N:=12) ?hd (xs:=([1]:List Int)) (inner:=[.int .i64 1]) (ok:=fun _=>True) (okp:=fun _=>True) ?hr ?hp (fun _ hk=>hk) trivial (Below.refl _ _) (Nat.le_refl _) (by simp) ?_;(case hd=>rfl);(case hg=>rfl);(case hr=>first|(go_simp;done)|(go_simp;rfl));(case hp=>exact (Reps.one (show Kd.M (Kd.int .i64) _ _ _ 1 [.int .i64 1] from rfl) (Reps.none _ _)));intro v103 w4 ho5 hb hg_ hnew_;clear hg_ hnew_;(first|rw [← Ny102.out] at ho5|(simp only [Int.reduceToNat] at ho5;rw [← Ny102.out] at ho5));have HO104:=za (Kd.R_lower ho5 (zq (by repeat (first|(with_reducible first|exact HB.out|apply zj|apply zk|apply zi)|exact HB.out))));replace HB:=za (zu (by repeat (first|(with_reducible first|exact HB.out|apply zj|apply zk|apply zi)|exact HB.out)) hb);clear hb ho5)));(go_loopg [4,5] k (fun kq v4 v5 w'=>∃ (x4_1:List Int) (x5_1:Int),v5=.int .i64 x5_1∧Aside0 (spec_EulerNumbers.l0 kq a0 x4_1 x5_1=some (r1,r2))∧Aside0 (kq≤k)∧Aside0 (Kd.R (Kd.int .i64) 3 w' w.heap.size (fun _=>True) v4 x4_1)∧Aside0 (Below w.heap.size w w')));case atStart=>exact ⟨(y102),(2),(by first|rfl|(simp;done)|(simp [*];done)),H',⟨Nat.le_refl _⟩,⟨by (with_reducible repeat (first|apply zg|apply zh|apply zf));exact HO104.out⟩,⟨by repeat (first|(with_reducible first|exact HB.out|apply zj|apply zk|apply zi)|exact HB.out)⟩⟩
  case round =>
   clear H';(try clear p2);(try clear c3);(try clear c5);obtain ⟨x4_1,x5_1,rfl,HA,HK1,HO_4,HB⟩:=hrel
   cases gk with
  |zero=>exact absurd HA.out (by simp [spec_EulerNumbers.l0])
  |succ k1 =>
    have H:=HA.out;clear HA;simp only [spec_EulerNumbers.l0] at H;by_cases c6:x5_1≤a0
    ·
     rw [if_pos c6] at H;have c6b0:decide (x5_1≤a0)=true:=decide_eq_true c6;clear c6;by_cases c7:0≤x5_1
     ·
      rw [if_pos c7] at H;have c7b0:=eq_true c7;have c7b1:decide (0≤x5_1)=true:=decide_eq_true c7;clear c7;by_cases c8:(x5_1:Int).toNat≤35184372088832
      ·
       rw [if_pos c8] at H;have c8b0:=eq_true c8;have c8b1:decide ((x5_1:Int).toNat≤35184372088832)=true:=decide_eq_true c8;clear c8;obtain ⟨y105,hy105⟩:∃ y_:List Int,y_=(List.replicate (x5_1:Int).toNat 0):=⟨_,rfl⟩;(replace H:(spec_EulerNumbers.l1 k1 a0 x5_1 y105 x4_1 (x4_1.length:Int) 0)=some (r1,r2):=by first|(rw [hy105];with_reducible exact H)|(have H2_:=(Option.bind_some _ _).symm.trans H;rw [hy105];with_reducible exact H2_)|(have H2_:=(Option.bind_some _ _).symm.trans H;with_reducible exact H2_)|with_reducible exact H|(rw [hy105];exact H)|exact H);have Ny105:=za hy105;clear hy105;have H':=za H;clear H;(go_wp2_with (first|((with_reducible refine gate_dst (N:=19) rfl ?_);refine Kd.R_make (Kd.int .i64) _ 3 rfl (N:=19) rfl 28 _ _ rfl x5_1 rfl rfl Try.underlying28 (.int .i64 0) 8 info3 rfl (by decide) (by omega) 0 (ok:=fun _=>True) (okp:=fun _=>True) rfl (fun _ hk=>hk) trivial (of_decide_eq_true ‹_›) (Nat.le_trans (Nat.mul_le_mul_right _ (of_decide_eq_true ‹_›:x5_1.toNat≤35184372088832)) (by omega)) (Below.refl _ _) (Nat.le_refl _) ?_;intro v106 w9 ho10 hb hg_ hnew_;clear hg_ hnew_;(first|rw [← Ny105.out] at ho10|(simp only [Int.reduceToNat] at ho10;rw [← Ny105.out] at ho10));have HO107:=za (Kd.R_lower (Kd.R_new' ho10 (Kd.R_lt (by (with_reducible repeat (first|apply zg|apply zh|apply zf));exact HO_4.out))) (zq (by repeat (first|(with_reducible first|exact HB.out|apply zj|apply zk|apply zi)|exact HB.out))));replace HO_4:=za (zx (by (with_reducible repeat (first|apply zg|apply zh|apply zf));exact HO_4.out) (Kd.R_base ho10) hb);replace HB:=za (zu (by repeat (first|(with_reducible first|exact HB.out|apply zj|apply zk|apply zi)|exact HB.out)) hb);clear hb ho10;obtain ⟨Ao11,co11,eo11⟩:=Kd.R_slice HO_4.out;subst eo11)));(go_loopg [22] k1 (fun kq v22 w'=>∃ (x6_2:List Int) (x22_2:Int),v22=.int .i64 x22_2∧Aside0 (spec_EulerNumbers.l1 kq a0 x5_1 x6_2 x4_1 (x4_1.length:Int) x22_2=some (r1,r2))∧Aside0 (kq≤k1)∧Aside0 (Kd.R (Kd.int .i64) 3 w' w.heap.size (fun k_=>some k_ ≠ ((.slice Ao11 x4_1.length co11):Value).ownBlock) v106 x6_2)∧Aside0 (Kd.R (Kd.int .i64) 3 w' w.heap.size (fun k_=>some k_ ≠ (v106:Value).ownBlock) (.slice Ao11 x4_1.length co11) x4_1)∧Aside0 (Below w.heap.size w w')));case atStart=>exact ⟨(y105),(0),(by first|rfl|(simp;done)|(simp [*];done)),H',⟨Nat.le_refl _⟩,⟨by (with_reducible repeat (first|apply zg|apply zh|apply zf));exact zp HO107.out (fun _ hk=>hk.2)⟩,⟨by (with_reducible repeat (first|apply zg|apply zh|apply zf));exact zp HO_4.out (fun _ hk=>hk.2)⟩,⟨by repeat (first|(with_reducible first|exact HB.out|apply zj|apply zk|apply zi)|exact HB.out)⟩⟩
       case round =>
        clear H';(try clear p2);(try clear c3);(try clear c5);(try clear c6);(try clear c6b0);(try clear c7);(try clear c7b0);(try clear c7b1);(try clear c8);(try clear c8b0);(try clear c8b1);(try clear p2);obtain ⟨x6_2,x22_2,rfl,HA,HK2,HO_6,HO_20,HB⟩:=hrel
        cases gk with
       |zero=>exact absurd HA.out (by simp [spec_EulerNumbers.l1])
       |succ k2 =>
         have H:=HA.out;clear HA;simp only [spec_EulerNumbers.l1] at H;by_cases c12:x22_2 < (x4_1.length:Int)
         ·
          rw [if_pos c12] at H;have c12b0:decide (x22_2 < (x4_1.length:Int))=true:=decide_eq_true c12;clear c12;by_cases c13:0≤x22_2
          ·
           rw [if_pos c13] at H;have c13b0:decide (0≤x22_2)=true:=decide_eq_true c13;clear c13;by_cases c14:x22_2 < (x4_1.length:Int)
           ·
            rw [if_pos c14] at H;have c14b0:decide (x22_2 < (x4_1.length:Int))=true:=decide_eq_true c14;clear c14;by_cases c15:x22_2 < (x6_2.length:Int)
            ·
             rw [if_pos c15] at H;have c15b0:decide (x22_2 < (x6_2.length:Int))=true:=decide_eq_true c15;clear c15;obtain ⟨y110,hy110⟩:∃ y_:List Int,y_=(x6_2.set (x22_2:Int).toNat (wrap64 ((rd x6_2 x22_2) + (wrap64 ((wrap64 (x22_2 + 1)) * (rd x4_1 x22_2)))))):=⟨_,rfl⟩;(replace H:(if 0≤(wrap64 (x22_2 + 1)) then (if (wrap64 (x22_2 + 1)) < (x6_2.length:Int) then (spec_EulerNumbers.l1 k2 a0 x5_1 (y110.set ((wrap64 (x22_2 + 1)):Int).toNat (wrap64 ((rd y110 (wrap64 (x22_2 + 1))) + (wrap64 ((wrap64 ((wrap64 (x5_1 - x22_2)) - 1)) * (rd x4_1 x22_2)))))) x4_1 (x4_1.length:Int) (wrap64 (x22_2 + 1))) else (none)) else (none))=some (r1,r2):=by first|(rw [hy110];with_reducible exact H)|(have H2_:=(Option.bind_some _ _).symm.trans H;rw [hy110];with_reducible exact H2_)|(have H2_:=(Option.bind_some _ _).symm.trans H;with_reducible exact H2_)|with_reducible exact H|(rw [hy110];exact H)|exact H);have Ny110:=za hy110;clear hy110;obtain ⟨ji17,hji17⟩:∃ j_:Int,(wrap64 (x22_2 + 1))=j_:=⟨_,rfl⟩;(replace H:(if 0≤(ji17) then (if (ji17) < (x6_2.length:Int) then (spec_EulerNumbers.l1 k2 a0 x5_1 (y110.set ((ji17):Int).toNat (wrap64 ((rd y110 (ji17)) + (wrap64 ((wrap64 ((wrap64 (x5_1 - x22_2)) - 1)) * (rd x4_1 x22_2)))))) x4_1 (x4_1.length:Int) ji17) else (none)) else (none))=some (r1,r2):=by first|(rw [hji17] at H;exact H)|(simp only [hji17] at H ⊢;exact H));(try rw [hji17] at Ny110);have hji17w:(IntKind.i64.wrap (x22_2 + 1))=ji17:=(i64_w _).trans hji17;by_cases c18:0≤(ji17)
             ·
              rw [if_pos c18] at H;have c18b0:decide (0≤(ji17))=true:=decide_eq_true c18;clear c18;by_cases c19:(ji17) < (x6_2.length:Int)
              · rw [if_pos c19] at H;have c19b0:decide ((ji17) < (x6_2.length:Int))=true:=decide_eq_true c19;clear c19;obtain ⟨y112,hy112⟩:∃ y_:List Int,y_=(y110.set ((ji17):Int).toNat (wrap64 ((rd y110 (ji17)) + (wrap64 ((wrap64 ((wrap64 (x5_1 - x22_2)) - 1)) * (rd x4_1 x22_2)))))):=⟨_,rfl⟩;(replace H:(spec_EulerNumbers.l1 k2 a0 x5_1 y112 x4_1 (x4_1.length:Int) ji17)=some (r1,r2):=by first|(rw [hy112];with_reducible exact H)|(have H2_:=(Option.bind_some _ _).symm.trans H;rw [hy112];with_reducible exact H2_)|(have H2_:=(Option.bind_some _ _).symm.trans H;with_reducible exact H2_)|with_reducible exact H|(rw [hy112];exact H)|exact H);have Ny112:=za hy112;clear hy112;have H':=za H;clear H;have p108:0≤(x22_2:Int):=of_decide_eq_true ‹_›;have q108:x22_2 < (x4_1.length:Int):=of_decide_eq_true ‹_›;obtain ⟨ad108,e108,hx108_0⟩:=Kd.at_int (zv HO_20.out).2.2 x22_2 p108 q108;cases e108;replace p108:=eq_true p108;replace q108:=eq_true q108;obtain ⟨Ao21,co21,eo21⟩:=Kd.R_slice HO_6.out;subst eo21;have p109:0≤(x22_2:Int):=of_decide_eq_true ‹_›;have q109:x22_2 < (x6_2.length:Int):=of_decide_eq_true ‹_›;obtain ⟨ad109,e109,hx109_0⟩:=Kd.at_int (zv HO_6.out).2.2 x22_2 p109 q109;cases e109;replace p109:=eq_true p109;replace q109:=eq_true q109;have p16:0≤(x22_2:Int):=of_decide_eq_true ‹_›;have q16:(x22_2:Int) < ((x6_2.length:Int):Int):=of_decide_eq_true ‹_›;obtain ⟨go16,co16,eo16,gb16,gl16,cl16,HG16⟩:=Kd.R_form HO_6.out (by omega);(first|cases eo16|(injection eo16 with ea_ en_ ec_;(first|subst ea_|(injection ea_ with ea_;subst ea_));subst ec_;clear en_));have GB16:=za gb16;have GG16:=za HG16;clear gb16 gl16 HG16;(first|simp only [add_plain] at hx109_0|skip);obtain ⟨hx16_0,hf16_0⟩:=Kd.R_celln 0 HO_6.out (x22_2:Int) p16 q16;replace p16:=eq_true p16;replace q16:=eq_true q16;have HP22:=Kd.R_putg HO_6.out (x22_2:Int) (wrap64 ((rd x6_2 x22_2) + (wrap64 ((ji17) * (rd x4_1 x22_2)))));(go_wp2_with (first|((with_reducible refine gate_store (t:=3) (p:=36) rfl ?_);refine store_event (t:=3) (p:=36) (v:=?vo_w23) (w1:=(wr.setCell ⟨go16,(x22_2:Int).toNat,none⟩ (.int .i64 (wrap64 ((rd x6_2 x22_2) + (wrap64 ((ji17) * (rd x4_1 x22_2)))))))) ?hg ?ho ?hn ?hr ?_;(case ho=>rfl);(case hg=>rfl);(case hn=>rfl);(case hr=>first|(go_simp;done)|(go_simp;rfl));intro w23 hw;have hg:wr.grownBy w23 (some go16):=(by rw [hw];exact HP22.2);have hp_:Kd.R (Kd.int .i64) 3 w23 w.heap.size (fun k_=>some k_ ≠ (.slice (some ad108) x4_1.length co11:Value).ownBlock) (.slice (some ⟨go16,0,none⟩) x6_2.length co21) y110:=(by rw [hw,Ny110.out];exact HP22.1);clear HP22;replace HO_6:=za (hp_);replace HO_20:=za (Kd.R_after (v:=(.slice (some ⟨go16,0,none⟩) x6_2.length co21)) (v1:=(.slice (some ⟨go16,0,none⟩) x6_2.length co21)) (ok:=(fun _=>True)) (by (with_reducible repeat (first|apply zg|apply zh|apply zf));exact zp HO_20.out (fun _ hk=>⟨trivial,hk⟩)) hg (.inl rfl));replace HB:=za ((by rw [hw];exact zc (HB.out) GB16.out:Below w.heap.size w w23));clear hg hw hp_;have p111:0≤((ji17):Int):=of_decide_eq_true ‹_›;have q111:(ji17) < (y110.length:Int):=(by have h_:((ji17):Int) < ((x6_2.length:Int):Int):=of_decide_eq_true ‹_›;first|(have e_:=(zv HO_6.out).1;omega)|simpa only [Ny110.out,List.length_set] using h_);have ql111:(((ji17):Int) < ((x6_2.length:Int):Int))=True:=eq_true (of_decide_eq_true ‹_›);obtain ⟨ad111,e111,hx111_0⟩:=Kd.at_int (zv HO_6.out).2.2 (ji17) p111 q111;obtain rfl:(⟨go16,0,none⟩:Addr)=ad111:=(by injection e111);(first|simp only [add_plain] at hx111_0|simp only [add_at] at hx111_0|simp only [Addr.add,Nat.zero_add] at hx111_0|skip);replace p111:=eq_true p111;replace q111:=eq_true q111;have p20:0≤((ji17):Int):=of_decide_eq_true ‹_›;have q20:((ji17):Int) < ((x6_2.length:Int):Int):=of_decide_eq_true ‹_›;obtain ⟨hx20_0,hf20_0⟩:=Kd.R_celln 0 HO_6.out ((ji17):Int) p20 q20;replace p20:=eq_true p20;replace q20:=eq_true q20;obtain ⟨hy24_,hz24_⟩:=Kd.R_celln 0 HO_6.out ((ji17):Int) (of_decide_eq_true ‹_›) (of_decide_eq_true ‹_›);have HP24:=Kd.R_putg HO_6.out ((ji17):Int) (wrap64 ((rd y110 (ji17)) + (wrap64 ((wrap64 ((wrap64 (x5_1 - x22_2)) - 1)) * (rd x4_1 x22_2))))))|((with_reducible refine gate_store (t:=3) (p:=49) rfl ?_);refine store_event (t:=3) (p:=49) (v:=?vo_w25) (w1:=(w23.setCell ⟨go16,((ji17):Int).toNat,none⟩ (.int .i64 (wrap64 ((rd y110 (ji17)) + (wrap64 ((wrap64 ((wrap64 (x5_1 - x22_2)) - 1)) * (rd x4_1 x22_2)))))))) ?hg ?ho ?hn ?hr ?_;(case ho=>rfl);(case hg=>rfl);(case hn=>rfl);(case hr=>first|(go_simp;done)|(go_simp;rfl));intro w25 hw;have hg:w23.grownBy w25 (some go16):=(by rw [hw];exact HP24.2);have hp_:Kd.R (Kd.int .i64) 3 w25 w.heap.size (fun k_=>some k_ ≠ (.slice (some ad108) x4_1.length co11:Value).ownBlock) (.slice (some ⟨go16,0,none⟩) x6_2.length co21) y112:=(by rw [hw,Ny112.out];exact HP24.1);clear HP24;replace HO_6:=za (hp_);replace HO_20:=za (Kd.R_after (v:=(.slice (some ⟨go16,0,none⟩) x6_2.length co21)) (v1:=(.slice (some ⟨go16,0,none⟩) x6_2.length co21)) (ok:=(fun _=>True)) (by (with_reducible repeat (first|apply zg|apply zh|apply zf));exact HO_20.out) hg (.inl rfl));replace HB:=za ((by rw [hw];exact zc (HB.out) GB16.out:Below w.heap.size w w25));clear hg hw hp_)));(go_roundg k2);(case measure=>have:=HK1.out;have:=HK2.out;omega);case rel=>exact ⟨(y112),(ji17),(by first|rfl|(simp;done)|(simp only [← hji17] <;> (first|rfl|simp))|(simp [*];done)),H',⟨by have:=HK1.out;have:=HK2.out;omega⟩,⟨by (with_reducible repeat (first|apply zg|apply zh|apply zf));exact HO_6.out⟩,⟨by (with_reducible repeat (first|apply zg|apply zh|apply zf));exact zp HO_20.out (fun _ hk=>hk.2)⟩,⟨by repeat (first|(with_reducible first|exact HB.out|apply zj|apply zk|apply zi)|exact HB.out)⟩⟩
              · rw [if_neg c19] at H;exact absurd H (by simp)
             · rw [if_neg c18] at H;exact absurd H (by simp)
            · rw [if_neg c15] at H;exact absurd H (by simp)
           · rw [if_neg c14] at H;exact absurd H (by simp)
          · rw [if_neg c13] at H;exact absurd H (by simp)
         · rw [if_neg c12] at H;have c12b0:decide (x22_2 < (x4_1.length:Int))=false:=decide_eq_false c12;clear c12;have H':=za H;clear H;(go_wp2);(go_roundg k2);(case measure=>have:=HK1.out;have:=HK2.out;omega);case rel=>exact ⟨(x6_2),(wrap64 (x5_1 + 1)),(by first|rfl|(simp;done)|(simp [*];done)),H',⟨by have:=HK1.out;have:=HK2.out;omega⟩,⟨by (with_reducible repeat (first|apply zg|apply zh|apply zf));exact zp HO_6.out (fun _ hk=>trivial)⟩,⟨by repeat (first|(with_reducible first|exact HB.out|apply zj|apply zk|apply zi)|exact HB.out)⟩⟩
      · rw [if_neg c8] at H;exact absurd H (by simp)
     · rw [if_neg c7] at H;exact absurd H (by simp)
    · rw [if_neg c6] at H;have c6b0:decide (x5_1≤a0)=false:=decide_eq_false c6;clear c6;simp only [Option.some.injEq,Prod.mk.injEq] at H;obtain ⟨rfl,rfl⟩:=H;(go_wp2);(go_ret2);exact ⟨_,by first|rfl|simp [*,errW_none,errW_some] <;> rfl,by (with_reducible repeat (first|apply zg|apply zh|apply zf));exact HO_4.out,by repeat (first|(with_reducible first|exact HB.out|apply zj|apply zk|apply zi)|exact HB.out)⟩
 · replace c3:=Bool.eq_false_iff.mpr c3;subst c3;(have H1:(some (([]:List Int),false))=some (r1,r2):=by rw [if_neg (show ¬ (false=true) by decide)] at H;exact H);clear H;have H:=H1;clear H1;simp only [Option.some.injEq,Prod.mk.injEq] at H;obtain ⟨rfl,rfl⟩:=H;(go_enter Try.func58,Try.ntmps58);(go_wp2_with (first|((with_reducible refine zt (f:=77) rfl ?_);refine goesL_ (some 10) rfl rfl Try.func77 (by kernel_rfl) rfl #[.int .i64 a0,.int .i64 1,.int .i64 10] rfl (by first|rfl|simp only [z3_,z4_,z5_];try rfl) ?_;(with_reducible refine (spec_l1In.calls a0 1 10 false _ A2.out).mono ?_);rintro e w' ⟨rfl,⟨nd,rfl⟩⟩;refine ⟨_,rfl,?_⟩)));(go_ret2);exact ⟨_,by first|rfl|simp [*,errW_none,errW_some] <;> rfl,by first|exact Kd.R_nil _ _ _ _ _|exact Kd.N_nil _ _ _ _ _|exact Kd.V_nil _ _ _ _ _|exact Kd.Q_nil _ _ _ _ _|exact Kd.S_nil _ _ _ _ _,by repeat (first|(with_reducible first|exact HB.out|apply zj|apply zk|apply zi)|exact HB.out)⟩
end Go.Proofs.Ytiopnmgcajohfaa.Q
end
section
namespace Go.Proofs.Ytiopnmgcajohfaa.Q
open Go.RowKit Go.Proofs.YtiopnmgcajohfaaW.PrintWords Go.Proofs.YtiopnmgcajohfaaW.PrintLast Go.Proofs.YtiopnmgcajohfaaW.PrintMore
attribute [local go_sem] max2_int min2_int max_two min_two max_three min_three max_four min_four   -- for this text's walks alone
set_option linter.unusedVariables false
set_option linter.unusedSimpArgs false
def spec_DrawDerangementsWith.f (l0:List Int):Option (Int × Int):=(spec_l1Cur_among.f l0 0 0 (([0,1,2,5,8,12,13,(-1)]:List Int))).bind fun bt105=>((spec_l1Cur_among.f l0 bt105.2.1 bt105.2.2 (([0,1,2,3,5,12,(-1)]:List Int))).bind fun bt111=>(some (bt105.1,bt111.1)))
set_option maxHeartbeats 8000000 in
set_option maxRecDepth 100000 in
theorem spec_DrawDerangementsWith.calls (A0:Option Addr) (c0:Nat) (l0:List Int) (r1:Int) (r2:Int) (w:World) (hr0:Kd.C (Kd.int .u8) w A0 l0.length l0) (hc0:l0.length≤c0) (h:spec_DrawDerangementsWith.f l0=some (r1,r2)) :
  Calls Try.prog 59 #[.slice A0 l0.length c0] w fun e w'=>e=.returned (.tuple #[.int .i64 r1,.int .i64 r2])∧Below w.heap.size w w':=by
 have hu88:=Try.underlying88;have HR0:=za hr0;have HC0:=za hc0;clear hr0 hc0;have HB:=za (Below.refl w.heap.size w);have H:((spec_l1Cur_among.f l0 0 0 (([0,1,2,5,8,12,13,(-1)]:List Int))).bind fun bt105=>((spec_l1Cur_among.f l0 bt105.2.1 bt105.2.2 (([0,1,2,3,5,12,(-1)]:List Int))).bind fun bt111=>(some (bt105.1,bt111.1))))=some (r1,r2):=h;clear h;obtain ⟨y102,hy102⟩:∃ y_:List Int,y_=(([0,1,2,5,8,12,13,(-1)]:List Int)):=⟨_,rfl⟩;(replace H:((spec_l1Cur_among.f l0 0 0 y102).bind fun bt105=>((spec_l1Cur_among.f l0 bt105.2.1 bt105.2.2 (([0,1,2,3,5,12,(-1)]:List Int))).bind fun bt111=>(some (bt105.1,bt111.1))))=some (r1,r2):=by first|(rw [hy102];with_reducible exact H)|(have H2_:=(Option.bind_some _ _).symm.trans H;rw [hy102];with_reducible exact H2_)|(have H2_:=(Option.bind_some _ _).symm.trans H;with_reducible exact H2_)|with_reducible exact H|(rw [hy102];exact H)|exact H);have Ny102:=za hy102;clear hy102;obtain ⟨⟨t105,t106,t107⟩,A2,H⟩:=bindAside H;(try dsimp only at H);obtain ⟨y108,hy108⟩:∃ y_:List Int,y_=(([0,1,2,3,5,12,(-1)]:List Int)):=⟨_,rfl⟩;(replace H:((spec_l1Cur_among.f l0 t106 t107 y108).bind fun bt111=>(some (t105,bt111.1)))=some (r1,r2):=by first|(rw [hy108];with_reducible exact H)|(have H2_:=(Option.bind_some _ _).symm.trans H;rw [hy108];with_reducible exact H2_)|(have H2_:=(Option.bind_some _ _).symm.trans H;with_reducible exact H2_)|with_reducible exact H|(rw [hy108];exact H)|exact H);have Ny108:=za hy108;clear hy108;obtain ⟨⟨t111,t112,t113⟩,A3,H⟩:=bindAside H;(try dsimp only at H);simp only [Option.some.injEq,Prod.mk.injEq] at H;obtain ⟨rfl,rfl⟩:=H;(go_enter Try.func59,Try.ntmps59);(go_wp2_with (first|((with_reducible refine gate_dst (N:=7) rfl ?_);refine box_event ?hg (N:=7) ?hd (cs:=#[.slice A0 l0.length c0,.int .i64 0,.int .u64 0]) (t:=88) ?hr ?_;(case hd=>rfl);(case hg=>rfl);(case hr=>first|(go_simp;done)|(go_simp;rfl));intro gb101 hg w4 hbox hb;have BK101:=za (hbox);have GW101:=za ((by rw [hg];exact (zq (by repeat (first|(with_reducible first|exact HB.out|apply zj|apply zk|apply zi)|exact HB.out))):w.heap.size≤gb101));have GE101:=za ((by rw [hg];exact (zq (by repeat (first|(with_reducible first|exact HB.out|apply zj|apply zk|apply zi)|exact HB.out))):w.heap.size≤gb101));replace HB:=za (zu (by repeat (first|(with_reducible first|exact HB.out|apply zj|apply zk|apply zi)|exact HB.out)) hb);clear hb hbox hg;have HI101:=za (show IsS88 w _ gb101 l0 0 0 from ⟨_,_,BK101.out,GE101.out,HR0.out⟩))|((with_reducible refine gate_dst (N:=9) rfl ?_);refine Kd.R_lit (Kd.int .i64) _ 3 ?hg (N:=9) ?hd (xs:=([0,1,2,5,8,12,13,(-1)]:List Int)) (inner:=[.int .i64 0,.int .i64 1,.int .i64 2,.int .i64 5,.int .i64 8,.int .i64 12,.int .i64 13,.int .i64 (-1)]) (ok:=fun _=>True) (okp:=fun _=>True) ?hr ?hp (fun _ hk=>hk) trivial (Below.refl _ _) (Nat.le_refl _) (by simp) ?_;(case hd=>rfl);(case hg=>rfl);(case hr=>first|(go_simp;done)|(go_simp;rfl));(case hp=>exact (Reps.one (show Kd.M (Kd.int .i64) _ _ _ 0 [.int .i64 0] from rfl) (Reps.one (show Kd.M (Kd.int .i64) _ _ _ 1 [.int .i64 1] from rfl) (Reps.one (show Kd.M (Kd.int .i64) _ _ _ 2 [.int .i64 2] from rfl) (Reps.one (show Kd.M (Kd.int .i64) _ _ _ 5 [.int .i64 5] from rfl) (Reps.one (show Kd.M (Kd.int .i64) _ _ _ 8 [.int .i64 8] from rfl) (Reps.one (show Kd.M (Kd.int .i64) _ _ _ 12 [.int .i64 12] from rfl) (Reps.one (show Kd.M (Kd.int .i64) _ _ _ 13 [.int .i64 13] from rfl) (Reps.one (show Kd.M (Kd.int .i64) _ _ _ (-1) [.int .i64 (-1)] from rfl) (Reps.none _ _))))))))));intro v103 w5 ho6 hb hg_ hnew_;clear hg_ hnew_;(first|rw [← Ny102.out] at ho6|(simp only [Int.reduceToNat] at ho6;rw [← Ny102.out] at ho6));have HO104:=za (Kd.R_lower ho6 (zq (by repeat (first|(with_reducible first|exact HB.out|apply zj|apply zk|apply zi|refine zc ?_ (IsS88.ge HI101.out))|exact HB.out))));replace HB:=za (zu (by repeat (first|(with_reducible first|exact HB.out|apply zj|apply zk|apply zi|refine zc ?_ (IsS88.ge HI101.out))|exact HB.out)) hb);replace HI101:=za (IsS88.below (by repeat (first|(with_reducible first|exact HI101.out|apply IsS88.alloc|apply IsS88.drewN|apply IsS88.drew|apply IsS88.set_1|apply IsS88.set_2)|exact HI101.out)) hb);clear hb ho6;obtain ⟨Ao7,co7,eo7⟩:=Kd.R_slice HO104.out;subst eo7)|((with_reducible refine zt (f:=98) rfl ?_);refine goesL_ (some 10) rfl rfl Try.func98 (by kernel_rfl) rfl #[.pointer (some ⟨gb101,0,none⟩),.slice Ao7 y102.length co7] rfl (by first|rfl|simp only [z3_,z4_,z5_];try rfl) ?_;(with_reducible refine (spec_l1Cur_among.calls gb101 l0 0 0 _ _ y102 t105 t106 t107 w _ ?side1 ?side2 ?side3 ?side4 ?side5 A2.out).mono ?_);(case side1=>repeat (first|(with_reducible first|exact HI101.out|apply IsS88.alloc|apply IsS88.drewN|apply IsS88.drew|apply IsS88.set_1|apply IsS88.set_2)|exact HI101.out));(case side2=>repeat (first|(with_reducible first|exact HB.out|apply zj|apply zk|apply zi|refine zc ?_ (IsS88.ge HI101.out))|exact HB.out));(case side3=>repeat (first|exact (zv HO104.out).2.2|(with_reducible refine Kd.C_alloc ?_ _)|(with_reducible refine Kd.C_drewN ?_ _)|(with_reducible refine Kd.C_drew ?_)));(case side4=>exact (zv HO104.out).2.1);(case side5=>exact far_slice (IsS88.own_ne HI101.out HO104.out (by decide)));rintro e w8 ⟨rfl,hi,hb,hk⟩;refine ⟨_,rfl,?_⟩;replace HO104:=za (zp (Kd.R_keep (IsS88.apart (show IsS88 w _ gb101 l0 0 0 from by repeat (first|(with_reducible first|exact HI101.out|apply IsS88.alloc|apply IsS88.drewN|apply IsS88.drew|apply IsS88.set_1|apply IsS88.set_2)|exact HI101.out)) (by (with_reducible repeat (first|apply zg|apply zh|apply zf));exact HO104.out) (by decide)) hk (fun _ h=>h.2)) (fun _ h=>h.1));replace HB:=za (hb);replace HI101:=za (hi))|((with_reducible refine gate_dst (N:=12) rfl ?_);refine Kd.R_lit (Kd.int .i64) _ 3 ?hg (N:=12) ?hd (xs:=([0,1,2,3,5,12,(-1)]:List Int)) (inner:=[.int .i64 0,.int .i64 1,.int .i64 2,.int .i64 3,.int .i64 5,.int .i64 12,.int .i64 (-1)]) (ok:=fun _=>True) (okp:=fun _=>True) ?hr ?hp (fun _ hk=>hk) trivial (Below.refl _ _) (Nat.le_refl _) (by simp) ?_;(case hd=>rfl);(case hg=>rfl);(case hr=>first|(go_simp;done)|(go_simp;rfl));(case hp=>exact (Reps.one (show Kd.M (Kd.int .i64) _ _ _ 0 [.int .i64 0] from rfl) (Reps.one (show Kd.M (Kd.int .i64) _ _ _ 1 [.int .i64 1] from rfl) (Reps.one (show Kd.M (Kd.int .i64) _ _ _ 2 [.int .i64 2] from rfl) (Reps.one (show Kd.M (Kd.int .i64) _ _ _ 3 [.int .i64 3] from rfl) (Reps.one (show Kd.M (Kd.int .i64) _ _ _ 5 [.int .i64 5] from rfl) (Reps.one (show Kd.M (Kd.int .i64) _ _ _ 12 [.int .i64 12] from rfl) (Reps.one (show Kd.M (Kd.int .i64) _ _ _ (-1) [.int .i64 (-1)] from rfl) (Reps.none _ _)))))))));intro v109 w9 ho10 hb hg_ hnew_;clear hg_ hnew_;(first|rw [← Ny108.out] at ho10|(simp only [Int.reduceToNat] at ho10;rw [← Ny108.out] at ho10));have HO110:=za (Kd.R_lower (Kd.R_new' ho10 (Kd.R_lt (by (with_reducible repeat (first|apply zg|apply zh|apply zf));exact HO104.out))) (zq (by repeat (first|(with_reducible first|exact HB.out|apply zj|apply zk|apply zi|refine zc ?_ (IsS88.ge HI101.out))|exact HB.out))));replace HO104:=za (zx (by (with_reducible repeat (first|apply zg|apply zh|apply zf));exact HO104.out) (Kd.R_base ho10) hb);replace HB:=za (zu (by repeat (first|(with_reducible first|exact HB.out|apply zj|apply zk|apply zi|refine zc ?_ (IsS88.ge HI101.out))|exact HB.out)) hb);replace HI101:=za (IsS88.below (by repeat (first|(with_reducible first|exact HI101.out|apply IsS88.alloc|apply IsS88.drewN|apply IsS88.drew|apply IsS88.set_1|apply IsS88.set_2)|exact HI101.out)) hb);clear hb ho10;obtain ⟨Ao11,co11,eo11⟩:=Kd.R_slice HO110.out;subst eo11)|((with_reducible refine zt (f:=98) rfl ?_);refine goesL_ (some 13) rfl rfl Try.func98 (by kernel_rfl) rfl #[.pointer (some ⟨gb101,0,none⟩),.slice Ao11 y108.length co11] rfl (by first|rfl|simp only [z3_,z4_,z5_];try rfl) ?_;(with_reducible refine (spec_l1Cur_among.calls gb101 l0 t106 t107 _ _ y108 t111 t112 t113 w _ ?side1 ?side2 ?side3 ?side4 ?side5 A3.out).mono ?_);(case side1=>repeat (first|(with_reducible first|exact HI101.out|apply IsS88.alloc|apply IsS88.drewN|apply IsS88.drew|apply IsS88.set_1|apply IsS88.set_2)|exact HI101.out));(case side2=>repeat (first|(with_reducible first|exact HB.out|apply zj|apply zk|apply zi|refine zc ?_ (IsS88.ge HI101.out))|exact HB.out));(case side3=>repeat (first|exact (zv HO110.out).2.2|(with_reducible refine Kd.C_alloc ?_ _)|(with_reducible refine Kd.C_drewN ?_ _)|(with_reducible refine Kd.C_drew ?_)));(case side4=>exact (zv HO110.out).2.1);(case side5=>exact far_slice (IsS88.own_ne HI101.out HO110.out (by decide)));rintro e w12 ⟨rfl,hi,hb,hk⟩;refine ⟨_,rfl,?_⟩;replace HO104:=za (zp (Kd.R_keep (IsS88.apart (show IsS88 w _ gb101 l0 t106 t107 from by repeat (first|(with_reducible first|exact HI101.out|apply IsS88.alloc|apply IsS88.drewN|apply IsS88.drew|apply IsS88.set_1|apply IsS88.set_2)|exact HI101.out)) (by (with_reducible repeat (first|apply zg|apply zh|apply zf));exact HO104.out) (by decide)) hk (fun _ h=>h.2)) (fun _ h=>h.1));replace HO110:=za (zp (Kd.R_keep (IsS88.apart (show IsS88 w _ gb101 l0 t106 t107 from by repeat (first|(with_reducible first|exact HI101.out|apply IsS88.alloc|apply IsS88.drewN|apply IsS88.drew|apply IsS88.set_1|apply IsS88.set_2)|exact HI101.out)) (by (with_reducible repeat (first|apply zg|apply zh|apply zf));exact HO110.out) (by decide)) hk (fun _ h=>h.2)) (fun _ h=>h.1));replace HB:=za (hb);replace HI101:=za (hi))));(go_ret2);exact ⟨by first|rfl|simp [*,errW_none,errW_some] <;> rfl,by repeat (first|(with_reducible first|exact HB.out|apply zj|apply zk|apply zi|refine zc ?_ (IsS88.ge HI101.out))|exact HB.out)⟩
end Go.Proofs.Ytiopnmgcajohfaa.Q
end
section
namespace Go.Proofs.Ytiopnmgcajohfaa.Q
open Go.RowKit Go.Proofs.YtiopnmgcajohfaaW.PrintWords Go.Proofs.YtiopnmgcajohfaaW.PrintLast Go.Proofs.YtiopnmgcajohfaaW.PrintMore
attribute [local go_sem] max2_int min2_int max_two min_two max_three min_three max_four min_four   -- for this text's walks alone
set_option linter.unusedVariables false
set_option linter.unusedSimpArgs false
def spec_DerangementsWith.j0:Nat→Int→Int→Bool→Option (Int × Bool)
|0,_,_,_=>none
|k + 1,x0,x1,x14=>if x14=true then (some (0,false)) else ((spec_hiChoose.f k x0 x1).bind fun t103=>((spec_hiDeranged.f k (wrap64 (x0 - x1))).bind fun t104=>(some (wrap64 (t103 * t104),true))))
def spec_DerangementsWith.f (k:Nat) (a0:Int) (a1:Int):Option (Int × Bool):=(spec_l1In.f a0 0 12).bind fun t101=>(if t101=true then ((spec_l1In.f a1 0 a0).bind fun t102=>(spec_DerangementsWith.j0 k a0 a1 (!t102))) else (spec_DerangementsWith.j0 k a0 a1 true))
theorem spec_DerangementsWith.mono_l:∀ k,(∀ y0 y1 y2,LeO (spec_DerangementsWith.j0 k y0 y1 y2) (spec_DerangementsWith.j0 (k + 1) y0 y1 y2))
|0=>fun _ _ _ r h=>by simp [spec_DerangementsWith.j0] at h
|k + 1=>by
  have ih0:=spec_DerangementsWith.mono_l k
  ·
   intro y0 y1 y2
   unfold spec_DerangementsWith.j0
   repeat' first
  |(with_reducible exact ih0 _ _ _)
  |(with_reducible exact spec_hiChoose.mono _ _ _)
  |(with_reducible exact spec_hiDeranged.mono _ _)
  |(with_reducible exact LeO.refl _)
  |(with_reducible exact LeO.none _)
  |(with_reducible refine LeO.ite ?_ ?_)
  |(with_reducible refine LeO.bind ?_ (fun _=>?_))
  |exact ih0 _ _ _
  |exact spec_hiChoose.mono _ _ _
  |exact spec_hiDeranged.mono _ _
  |exact LeO.none _
  |refine LeO.ite ?_ ?_
  |refine LeO.bind ?_ (fun _=>?_)
theorem spec_DerangementsWith.mono:∀ a0 a1 k,LeO (spec_DerangementsWith.f k a0 a1) (spec_DerangementsWith.f (k + 1) a0 a1):=by
 intro a0 a1 k;have ih0:=spec_DerangementsWith.mono_l k;unfold spec_DerangementsWith.f
 repeat' first
  |(with_reducible exact ih0 _ _ _)
  |(with_reducible exact spec_hiChoose.mono _ _ _)
  |(with_reducible exact spec_hiDeranged.mono _ _)
  |(with_reducible exact LeO.refl _)
  |(with_reducible exact LeO.none _)
  |(with_reducible refine LeO.ite ?_ ?_)
  |(with_reducible refine LeO.bind ?_ (fun _=>?_))
  |exact ih0 _ _ _
  |exact spec_hiChoose.mono _ _ _
  |exact spec_hiDeranged.mono _ _
  |exact LeO.none _
  |refine LeO.ite ?_ ?_
  |refine LeO.bind ?_ (fun _=>?_)
set_option maxHeartbeats 8000000 in
set_option maxRecDepth 100000 in
theorem spec_DerangementsWith.calls (k:Nat) (a0:Int) (a1:Int) (r1:Int) (r2:Bool) (w:World) (h:spec_DerangementsWith.f k a0 a1=some (r1,r2)) :
  Calls Try.prog 60 #[.int .i64 a0,.int .i64 a1] w fun e w'=>e=.returned (.tuple #[.int .i64 r1,.bool r2])∧Drawn0 w w':=by
 have H:((spec_l1In.f a0 0 12).bind fun t101=>(if t101=true then ((spec_l1In.f a1 0 a0).bind fun t102=>(spec_DerangementsWith.j0 k a0 a1 (!t102))) else (spec_DerangementsWith.j0 k a0 a1 true)))=some (r1,r2):=h;clear h;have HC3:=za H;clear H;(go_enter Try.func60,Try.ntmps60);(go_upto_region 1 with (fail));go_cut [14] (fun v14 wc=>∃ (kq:Nat) (x14_2:Bool),v14=.bool x14_2∧Aside0 (spec_DerangementsWith.j0 kq a0 a1 x14_2=some (r1,r2))∧Aside0 (kq≤k)∧Drawn0 w wc)
 case first =>
  have H:=HC3.out;clear HC3;obtain ⟨t101,A4,H⟩:=bindAside H;(try dsimp only at H);by_cases c5:t101=true
  · subst c5;(have H1:((spec_l1In.f a1 0 a0).bind fun t102=>(spec_DerangementsWith.j0 k a0 a1 (!t102)))=some (r1,r2):=by rw [if_pos rfl] at H;exact H);clear H;have H:=H1;clear H1;obtain ⟨t102,A6,H⟩:=bindAside H;(try dsimp only at H);have H':=za H;clear H;(go_wp2_with (first|((with_reducible refine zt (f:=77) rfl ?_);refine goesL_ (some 7) rfl rfl Try.func77 (by kernel_rfl) rfl #[.int .i64 a0,.int .i64 0,.int .i64 12] rfl (by first|rfl|simp only [z3_,z4_,z5_];try rfl) ?_;(with_reducible refine (spec_l1In.calls a0 0 12 true _ A4.out).mono ?_);rintro e w' ⟨rfl,⟨nd,rfl⟩⟩;refine ⟨_,rfl,?_⟩)|(go_at_call 77;(with_reducible refine (spec_l1In.calls a1 0 a0 t102 _ A6.out).mono ?_);rintro e w' ⟨rfl,⟨nd,rfl⟩⟩)));(go_meet);case rel=>exact ⟨_,(!t102),(by first|rfl|(simp;done)|(simp [*];done)),H',⟨by first|omega|exact Nat.le_refl _⟩,by repeat (first|exact Drawn0.refl _|apply Drawn0.step)⟩
  · replace c5:=Bool.eq_false_iff.mpr c5;subst c5;(have H1:(spec_DerangementsWith.j0 k a0 a1 true)=some (r1,r2):=by rw [if_neg (show ¬ (false=true) by decide)] at H;exact H);clear H;have H:=H1;clear H1;have H':=za H;clear H;(go_wp2_with (first|((with_reducible refine zt (f:=77) rfl ?_);refine goesL_ (some 7) rfl rfl Try.func77 (by kernel_rfl) rfl #[.int .i64 a0,.int .i64 0,.int .i64 12] rfl (by first|rfl|simp only [z3_,z4_,z5_];try rfl) ?_;(with_reducible refine (spec_l1In.calls a0 0 12 false _ A4.out).mono ?_);rintro e w' ⟨rfl,⟨nd,rfl⟩⟩;refine ⟨_,rfl,?_⟩)));(go_meet);case rel=>exact ⟨_,(true),(by first|rfl|(simp;done)|(simp [*];done)),H',⟨by first|omega|exact Nat.le_refl _⟩,by repeat (first|exact Drawn0.refl _|apply Drawn0.step)⟩
 case rest =>
  clear HC3;(try clear p2);(try clear c5);(try clear c6);obtain ⟨kq,x14_2,rfl,HA,HJ2,⟨mc2,rfl⟩⟩:=hcut
  cases kq with
 |zero=>exact absurd HA.out (by simp [spec_DerangementsWith.j0])
 |succ kj2 =>
   have H:=HA.out;clear HA;simp only [spec_DerangementsWith.j0] at H;by_cases c7:x14_2=true
   · subst c7;(have H1:(some (0,false))=some (r1,r2):=by rw [if_pos rfl] at H;exact H);clear H;have H:=H1;clear H1;simp only [Option.some.injEq,Prod.mk.injEq] at H;obtain ⟨rfl,rfl⟩:=H;(go_wp2);(go_ret2);exact ⟨by first|rfl|(simp;done)|(simp [*];done),by repeat (first|exact Drawn0.refl _|apply Drawn0.step)⟩
   · replace c7:=Bool.eq_false_iff.mpr c7;subst c7;(have H1:((spec_hiChoose.f kj2 a0 a1).bind fun t103=>((spec_hiDeranged.f kj2 (wrap64 (a0 - a1))).bind fun t104=>(some (wrap64 (t103 * t104),true))))=some (r1,r2):=by rw [if_neg (show ¬ (false=true) by decide)] at H;exact H);clear H;have H:=H1;clear H1;obtain ⟨t103,A8,H⟩:=bindAside H;(try dsimp only at H);obtain ⟨t104,A9,H⟩:=bindAside H;(try dsimp only at H);simp only [Option.some.injEq,Prod.mk.injEq] at H;obtain ⟨rfl,rfl⟩:=H;(go_wp2_with (first|((with_reducible refine zt (f:=114) rfl ?_);refine goesL_ (some 17) rfl rfl Try.func114 (by kernel_rfl) rfl #[.int .i64 a0,.int .i64 a1] rfl (by first|rfl|simp only [z3_,z4_,z5_];try rfl) ?_;(with_reducible refine (spec_hiChoose.calls kj2 a0 a1 t103 _ A8.out).mono ?_);rintro e w' ⟨rfl,⟨nd,rfl⟩⟩;refine ⟨_,rfl,?_⟩)|((with_reducible refine zt (f:=113) rfl ?_);refine goesL_ (some 21) rfl rfl Try.func113 (by kernel_rfl) rfl #[.int .i64 (wrap64 (a0 - a1))] rfl (by first|rfl|simp only [z3_,z4_,z5_];try rfl) ?_;(with_reducible refine (spec_hiDeranged.calls kj2 (wrap64 (a0 - a1)) t104 _ A9.out).mono ?_);rintro e w' ⟨rfl,⟨nd,rfl⟩⟩;refine ⟨_,rfl,?_⟩)));(go_ret2);exact ⟨by first|rfl|(simp;done)|(simp [*];done),by repeat (first|exact Drawn0.refl _|apply Drawn0.step)⟩
end Go.Proofs.Ytiopnmgcajohfaa.Q
end
section
namespace Go.Proofs.Ytiopnmgcajohfaa.Q
open Go.RowKit Go.Proofs.YtiopnmgcajohfaaW.PrintWords Go.Proofs.YtiopnmgcajohfaaW.PrintLast Go.Proofs.YtiopnmgcajohfaaW.PrintMore
attribute [local go_sem] max2_int min2_int max_two min_two max_three min_three max_four min_four   -- for this text's walks alone
set_option linter.unusedVariables false
set_option linter.unusedSimpArgs false
def laws_kSum.l0:Nat→Int→List Int→Int→Int→Option (Int)
|0,_,_,_,_=>none
|k + 1,x3,x6,x7,x8=>if x8 < x7 then (if 0≤x8 then (if x8 < (x6.length:Int) then (laws_kSum.l0 k (wrap64 (x3 + (rd x6 x8))) x6 x7 (wrap64 (x8 + 1))) else (none)) else (none)) else (some x3)
def laws_kSum.f (k:Nat) (l0:List Int):Option (Int):=laws_kSum.l0 k 0 l0 (l0.length:Int) 0
theorem laws_kSum.mono_l:∀ k,(∀ y0 y1 y2 y3,LeO (laws_kSum.l0 k y0 y1 y2 y3) (laws_kSum.l0 (k + 1) y0 y1 y2 y3))
|0=>fun _ _ _ _ r h=>by simp [laws_kSum.l0] at h
|k + 1=>by
  have ih0:=laws_kSum.mono_l k
  ·
   intro y0 y1 y2 y3
   unfold laws_kSum.l0
   repeat' first
  |(with_reducible exact ih0 _ _ _ _)
  |(with_reducible exact LeO.refl _)
  |(with_reducible exact LeO.none _)
  |(with_reducible refine LeO.ite ?_ ?_)
  |(with_reducible refine LeO.bind ?_ (fun _=>?_))
  |exact ih0 _ _ _ _
  |exact LeO.none _
  |refine LeO.ite ?_ ?_
  |refine LeO.bind ?_ (fun _=>?_)
theorem laws_kSum.mono:∀ a0 k,LeO (laws_kSum.f k a0) (laws_kSum.f (k + 1) a0):=by
 intro a0 k;have ih0:=laws_kSum.mono_l k;unfold laws_kSum.f
 repeat' first
  |(with_reducible exact ih0 _ _ _ _)
  |(with_reducible exact LeO.refl _)
  |(with_reducible exact LeO.none _)
  |(with_reducible refine LeO.ite ?_ ?_)
  |(with_reducible refine LeO.bind ?_ (fun _=>?_))
  |exact ih0 _ _ _ _
  |exact LeO.none _
  |refine LeO.ite ?_ ?_
  |refine LeO.bind ?_ (fun _=>?_)
set_option maxHeartbeats 8000000 in
set_option maxRecDepth 100000 in
theorem laws_kSum.calls (k:Nat) (A0:Option Addr) (c0:Nat) (l0:List Int) (r:Int) (w:World) (hr0:Kd.C (Kd.int .i64) w A0 l0.length l0) (hc0:l0.length≤c0) (h:laws_kSum.f k l0=some r) :
  Calls Try.prog 61 #[.slice A0 l0.length c0] w fun e w'=>e=.returned (.int .i64 r)∧Drawn0 w w':=by
 have HR0:=za hr0;have HC0:=za hc0;clear hr0 hc0;have H:(laws_kSum.l0 k 0 l0 (l0.length:Int) 0)=some r:=h;clear h;have H':=za H;clear H;(go_enter Try.func61,Try.ntmps61);(go_wp2);(go_loopg [3,8] k (fun kq v3 v8 w'=>∃ (x3_1:Int) (x8_1:Int),v3=.int .i64 x3_1∧v8=.int .i64 x8_1∧Aside0 (laws_kSum.l0 kq x3_1 l0 (l0.length:Int) x8_1=some r)∧Aside0 (kq≤k)∧Drawn0 w w'));case atStart=>exact ⟨(0),(0),(by first|rfl|(simp;done)|(simp [*];done)),(by first|rfl|(simp;done)|(simp [*];done)),H',⟨Nat.le_refl _⟩,by repeat (first|exact Drawn0.refl _|apply Drawn0.step)⟩
 case round =>
  clear H';obtain ⟨x3_1,x8_1,rfl,rfl,HA,HK1,⟨m1,rfl⟩⟩:=hrel
  cases gk with
 |zero=>exact absurd HA.out (by simp [laws_kSum.l0])
 |succ k1 =>
   have H:=HA.out;clear HA;simp only [laws_kSum.l0] at H;by_cases c2:x8_1 < (l0.length:Int)
   ·
    rw [if_pos c2] at H;have c2b0:decide (x8_1 < (l0.length:Int))=true:=decide_eq_true c2;clear c2;by_cases c3:0≤x8_1
    ·
     rw [if_pos c3] at H;have c3b0:decide (0≤x8_1)=true:=decide_eq_true c3;clear c3;by_cases c4:x8_1 < (l0.length:Int)
     · rw [if_pos c4] at H;have c4b0:decide (x8_1 < (l0.length:Int))=true:=decide_eq_true c4;clear c4;have H':=za H;clear H;have p101:0≤(x8_1:Int):=of_decide_eq_true ‹_›;have q101:x8_1 < (l0.length:Int):=of_decide_eq_true ‹_›;obtain ⟨ad101,e101,hx101_0⟩:=Kd.at_int HR0.out x8_1 p101 q101;cases e101;replace p101:=eq_true p101;replace q101:=eq_true q101;(go_wp2);(go_roundg k1);(case measure=>have:=HK1.out;omega);case rel=>exact ⟨(wrap64 (x3_1 + (rd l0 x8_1))),(wrap64 (x8_1 + 1)),(by first|rfl|(simp;done)|(simp [*];done)),(by first|rfl|(simp;done)|(simp [*];done)),H',⟨by have:=HK1.out;omega⟩,by repeat (first|exact Drawn0.refl _|apply Drawn0.step)⟩
     · rw [if_neg c4] at H;exact absurd H (by simp)
    · rw [if_neg c3] at H;exact absurd H (by simp)
   · rw [if_neg c2] at H;have c2b0:decide (x8_1 < (l0.length:Int))=false:=decide_eq_false c2;clear c2;obtain rfl:=Option.some.inj H;(go_wp2);(go_ret);exact ⟨by first|rfl|(simp;done)|(simp [*];done),by repeat (first|exact Drawn0.refl _|apply Drawn0.step)⟩
end Go.Proofs.Ytiopnmgcajohfaa.Q
end
section
namespace Go.Proofs.Ytiopnmgcajohfaa.Q
open Go.RowKit Go.Proofs.YtiopnmgcajohfaaW.PrintWords Go.Proofs.YtiopnmgcajohfaaW.PrintLast Go.Proofs.YtiopnmgcajohfaaW.PrintMore
attribute [local go_sem] max2_int min2_int max_two min_two max_three min_three max_four min_four   -- for this text's walks alone
set_option linter.unusedVariables false
set_option linter.unusedSimpArgs false
def laws_kFactorial.l0:Nat→Int→Int→Option (Int)
|0,_,_=>none
|k + 1,x0,x3=>if x0 > 1 then (laws_kFactorial.l0 k (wrap64 (x0 - 1)) (wrap64 (x3 * x0))) else (some x3)
def laws_kFactorial.f (k:Nat) (a0:Int):Option (Int):=laws_kFactorial.l0 k a0 1
theorem laws_kFactorial.mono_l:∀ k,(∀ y0 y1,LeO (laws_kFactorial.l0 k y0 y1) (laws_kFactorial.l0 (k + 1) y0 y1))
|0=>fun _ _ r h=>by simp [laws_kFactorial.l0] at h
|k + 1=>by
  have ih0:=laws_kFactorial.mono_l k
  ·
   intro y0 y1
   unfold laws_kFactorial.l0
   repeat' first
  |(with_reducible exact ih0 _ _)
  |(with_reducible exact LeO.refl _)
  |(with_reducible exact LeO.none _)
  |(with_reducible refine LeO.ite ?_ ?_)
  |(with_reducible refine LeO.bind ?_ (fun _=>?_))
  |exact ih0 _ _
  |exact LeO.none _
  |refine LeO.ite ?_ ?_
  |refine LeO.bind ?_ (fun _=>?_)
theorem laws_kFactorial.mono:∀ a0 k,LeO (laws_kFactorial.f k a0) (laws_kFactorial.f (k + 1) a0):=by
 intro a0 k;have ih0:=laws_kFactorial.mono_l k;unfold laws_kFactorial.f
 repeat' first
  |(with_reducible exact ih0 _ _)
  |(with_reducible exact LeO.refl _)
  |(with_reducible exact LeO.none _)
  |(with_reducible refine LeO.ite ?_ ?_)
  |(with_reducible refine LeO.bind ?_ (fun _=>?_))
  |exact ih0 _ _
  |exact LeO.none _
  |refine LeO.ite ?_ ?_
  |refine LeO.bind ?_ (fun _=>?_)
set_option maxHeartbeats 8000000 in
set_option maxRecDepth 100000 in
theorem laws_kFactorial.calls (k:Nat) (a0:Int) (r:Int) (w:World) (h:laws_kFactorial.f k a0=some r) :
  Calls Try.prog 62 #[.int .i64 a0] w fun e w'=>e=.returned (.int .i64 r)∧Drawn0 w w':=by
 have H:(laws_kFactorial.l0 k a0 1)=some r:=h;clear h;have H':=za H;clear H;(go_enter Try.func62,Try.ntmps62);(go_wp2);(go_loopg [0,3] k (fun kq v0 v3 w'=>∃ (x0_1:Int) (x3_1:Int),v0=.int .i64 x0_1∧v3=.int .i64 x3_1∧Aside0 (laws_kFactorial.l0 kq x0_1 x3_1=some r)∧Aside0 (kq≤k)∧Drawn0 w w'));case atStart=>exact ⟨(a0),(1),(by first|rfl|(simp;done)|(simp [*];done)),(by first|rfl|(simp;done)|(simp [*];done)),H',⟨Nat.le_refl _⟩,by repeat (first|exact Drawn0.refl _|apply Drawn0.step)⟩
 case round =>
  clear H';obtain ⟨x0_1,x3_1,rfl,rfl,HA,HK1,⟨m1,rfl⟩⟩:=hrel
  cases gk with
 |zero=>exact absurd HA.out (by simp [laws_kFactorial.l0])
 |succ k1 =>
   have H:=HA.out;clear HA;simp only [laws_kFactorial.l0] at H;by_cases c2:x0_1 > 1
   · rw [if_pos c2] at H;have c2b0:decide (1 < x0_1)=true:=decide_eq_true c2;clear c2;have H':=za H;clear H;(go_wp2);(go_roundg k1);(case measure=>have:=HK1.out;omega);case rel=>exact ⟨(wrap64 (x0_1 - 1)),(wrap64 (x3_1 * x0_1)),(by first|rfl|(simp;done)|(simp [*];done)),(by first|rfl|(simp;done)|(simp [*];done)),H',⟨by have:=HK1.out;omega⟩,by repeat (first|exact Drawn0.refl _|apply Drawn0.step)⟩
   · rw [if_neg c2] at H;have c2b0:decide (1 < x0_1)=false:=decide_eq_false c2;clear c2;obtain rfl:=Option.some.inj H;(go_wp2);(go_ret);exact ⟨by first|rfl|(simp;done)|(simp [*];done),by repeat (first|exact Drawn0.refl _|apply Drawn0.step)⟩
end Go.Proofs.Ytiopnmgcajohfaa.Q
end
section
namespace Go.Proofs.Ytiopnmgcajohfaa.Q
open Go.RowKit Go.Proofs.YtiopnmgcajohfaaW.PrintWords Go.Proofs.YtiopnmgcajohfaaW.PrintLast Go.Proofs.YtiopnmgcajohfaaW.PrintMore
open Go.Proofs.YtiopnmgcajohfaaL
set_option linter.unusedVariables false
def impl_TableBoard_1.f (n : Int) (r : Int) (c : Int) : Option Bool := if n = 0 then none else some (c == r || c == Int.tmod (wrap64 (r + 1)) n)
set_option maxHeartbeats 4000000 in
set_option maxRecDepth 100000 in
theorem impl_TableBoard_1.calls (n : Int) (a0 : Int) (a1 : Int) (r : Bool) (gn : Nat) (w : World) (hn : w.heap[gn]? = some (.cells #[.int .i64 n] 3 (0, 0))) (h : impl_TableBoard_1.f n a0 a1 = some r) :
    Calls Try.prog 110 #[.int .i64 a0, .int .i64 a1, .pointer (some ⟨gn, 0, none⟩)] w fun e w' => e = .returned (.bool r) ∧ Drawn0 w w' := by
  unfold impl_TableBoard_1.f at h
  by_cases h0 : n = 0
  · rw [if_pos h0] at h; cases h
  rw [if_neg h0] at h
  have h := Option.some.inj h
  have z1 : w.cell? ⟨gn, 0, none⟩ = some (.int .i64 n) := (blk_cell hn 0).trans rfl
  have n0 : (n == 0) = false := beq_eq_false_iff_ne.mpr h0
  clear hn
  by_cases h1 : a1 = a0
  · have c1 : (a1 == a0) = true := beq_iff_eq.mpr h1
    rw [c1, Bool.true_or] at h
    subst h
    clear h1
    go_enter Try.func110, Try.ntmps110
    go_wp2
    go_ret
    exact ⟨rfl, by repeat (first | exact Drawn0.refl _ | apply Drawn0.step)⟩
  · have c1 : (a1 == a0) = false := beq_eq_false_iff_ne.mpr h1
    rw [c1, Bool.false_or] at h
    subst h
    clear h1
    go_enter Try.func110, Try.ntmps110
    go_wp2
    go_ret
    exact ⟨by first | rfl | (simp [wrap_i64']; done) | simp, by repeat (first | exact Drawn0.refl _ | apply Drawn0.step)⟩
end Go.Proofs.Ytiopnmgcajohfaa.Q
end
section
namespace Go.Proofs.Ytiopnmgcajohfaa.Q
open Go.RowKit Go.Proofs.YtiopnmgcajohfaaW.PrintWords Go.Proofs.YtiopnmgcajohfaaW.PrintLast Go.Proofs.YtiopnmgcajohfaaW.PrintMore
attribute [local go_sem] max2_int min2_int max_two min_two max_three min_three max_four min_four   -- for this text's walks alone
set_option linter.unusedVariables false
set_option linter.unusedSimpArgs false
mutual
def impl_made_at_impl_TableBoard_1.l0:Nat→Int→Int→Int→Int→Int→List Int→Option (Int × Int × List Int)
|0,_,_,_,_,_,_=>none
|k + 1,x0,x11,x12,x108000,x108001,x108002=>if x12 < x11 then (impl_made_at_impl_TableBoard_1.l1 k x0 x12 x11 x12 x0 0 x108000 x108001 x108002) else (some (x108000,x108001,x108002))
def impl_made_at_impl_TableBoard_1.l1:Nat→Int→Int→Int→Int→Int→Int→Int→Int→List Int→Option (Int × Int × List Int)
|0,_,_,_,_,_,_,_,_,_=>none
|k + 1,x0,x6,x11,x12,x15,x16,x108000,x108001,x108002=>if x16 < x15 then ((impl_TableBoard_1.f x0 x6 x16).bind fun t108=>(if t108=true then (if 0≤x6 then (if x6 < (x108002.length:Int) then (if 0≤x16 then (impl_made_at_impl_TableBoard_1.l1 k x0 x6 x11 x12 x15 (wrap64 (x16 + 1)) x108000 x108001 (x108002.set (x6:Int).toNat (Go.bits .or .i64 (rd x108002 x6) (shl .i64 1 x16)))) else (none)) else (none)) else (none)) else (impl_made_at_impl_TableBoard_1.l1 k x0 x6 x11 x12 x15 (wrap64 (x16 + 1)) x108000 x108001 x108002))) else (impl_made_at_impl_TableBoard_1.l0 k x0 x11 (wrap64 (x12 + 1)) x108000 x108001 x108002)
end
def impl_made_at_impl_TableBoard_1.f (k:Nat) (a0:Int) :Option (Int × Int × List Int):=(impl_newBoard.f a0 a0).bind fun bt102=>(impl_made_at_impl_TableBoard_1.l0 k a0 a0 0 bt102.1 bt102.2.1 bt102.2.2)
theorem impl_made_at_impl_TableBoard_1.mono_l:∀ k,(∀ y0 y1 y2 y3 y4 y5,LeO (impl_made_at_impl_TableBoard_1.l0 k y0 y1 y2 y3 y4 y5) (impl_made_at_impl_TableBoard_1.l0 (k + 1) y0 y1 y2 y3 y4 y5))∧(∀ y0 y1 y2 y3 y4 y5 y6 y7 y8,LeO (impl_made_at_impl_TableBoard_1.l1 k y0 y1 y2 y3 y4 y5 y6 y7 y8) (impl_made_at_impl_TableBoard_1.l1 (k + 1) y0 y1 y2 y3 y4 y5 y6 y7 y8))
|0=>⟨fun _ _ _ _ _ _ r h=>by simp [impl_made_at_impl_TableBoard_1.l0] at h,fun _ _ _ _ _ _ _ _ _ r h=>by simp [impl_made_at_impl_TableBoard_1.l1] at h⟩
|k + 1=>by
  obtain ⟨ih0,ih1⟩:=impl_made_at_impl_TableBoard_1.mono_l k
  refine ⟨?_,?_⟩
  ·
   intro y0 y1 y2 y3 y4 y5
   unfold impl_made_at_impl_TableBoard_1.l0
   repeat' first
  |(with_reducible exact ih0 _ _ _ _ _ _)
  |(with_reducible exact ih1 _ _ _ _ _ _ _ _ _)
  |(with_reducible exact LeO.refl _)
  |(with_reducible exact LeO.none _)
  |(with_reducible refine LeO.ite ?_ ?_)
  |(with_reducible refine LeO.bind ?_ (fun _=>?_))
  |exact ih0 _ _ _ _ _ _
  |exact ih1 _ _ _ _ _ _ _ _ _
  |exact LeO.none _
  |refine LeO.ite ?_ ?_
  |refine LeO.bind ?_ (fun _=>?_)
  ·
   intro y0 y1 y2 y3 y4 y5 y6 y7 y8
   unfold impl_made_at_impl_TableBoard_1.l1
   repeat' first
  |(with_reducible exact ih0 _ _ _ _ _ _)
  |(with_reducible exact ih1 _ _ _ _ _ _ _ _ _)
  |(with_reducible exact LeO.refl _)
  |(with_reducible exact LeO.none _)
  |(with_reducible refine LeO.ite ?_ ?_)
  |(with_reducible refine LeO.bind ?_ (fun _=>?_))
  |exact ih0 _ _ _ _ _ _
  |exact ih1 _ _ _ _ _ _ _ _ _
  |exact LeO.none _
  |refine LeO.ite ?_ ?_
  |refine LeO.bind ?_ (fun _=>?_)
theorem impl_made_at_impl_TableBoard_1.mono:∀ a0 k,LeO (impl_made_at_impl_TableBoard_1.f k a0) (impl_made_at_impl_TableBoard_1.f (k + 1) a0):=by
 intro a0 k;obtain ⟨ih0,ih1⟩:=impl_made_at_impl_TableBoard_1.mono_l k;unfold impl_made_at_impl_TableBoard_1.f
 repeat' first
  |(with_reducible exact ih0 _ _ _ _ _ _)
  |(with_reducible exact ih1 _ _ _ _ _ _ _ _ _)
  |(with_reducible exact LeO.refl _)
  |(with_reducible exact LeO.none _)
  |(with_reducible refine LeO.ite ?_ ?_)
  |(with_reducible refine LeO.bind ?_ (fun _=>?_))
  |exact ih0 _ _ _ _ _ _
  |exact ih1 _ _ _ _ _ _ _ _ _
  |exact LeO.none _
  |refine LeO.ite ?_ ?_
  |refine LeO.bind ?_ (fun _=>?_)
def impl_made_at_impl_TableBoard_1.T9:Bool × List (List Nat × List Nat):=(true,[([],[]),([0],[0]),([],[]),([1,2],[1,2]),([3],[3]),([],[]),([5],[5]),([4,6],[4,6]),([1,2,0,1,2,3,4,5,6,7],[1,2]),([8,7,0,1,2,3,4,5,6,7],[7,8])])
def impl_made_at_impl_TableBoard_1.B9:List Nat:=[0,1,0,7,15,0,32,127,255,511]
theorem impl_made_at_impl_TableBoard_1.tab9:rtab .any (opsOf Try.f105 9)=impl_made_at_impl_TableBoard_1.T9:=by kernel_rfl
theorem impl_made_at_impl_TableBoard_1.bits9:waitsOk impl_made_at_impl_TableBoard_1.T9.2 impl_made_at_impl_TableBoard_1.B9=true:=by kernel_rfl
set_option maxHeartbeats 8000000 in
set_option maxRecDepth 100000 in
theorem impl_made_at_impl_TableBoard_1.calls (k:Nat) (a0:Int)  (r1:Int) (r2:Int) (r3:List Int) (gn:Nat) (w:World) (hn_:w.heap[gn]?=some (.cells #[.int .i64 a0] 3 (0,0))) (h:impl_made_at_impl_TableBoard_1.f k a0=some (r1,r2,r3)) :
  Calls Try.prog 105 #[.int .i64 a0,.func (.func 110) #[] #[.pointer (some ⟨gn,0,none⟩)]] w fun e w'=>∃ v2_:Value,e=.returned (.agg #[.int .i64 r1,.int .i64 r2,v2_])∧Kd.R (Kd.int .i64) 3 w' w.heap.size (fun _=>True) v2_ r3∧Below w.heap.size w w':=by
 have hu43:=Try.underlying43;have HB:=za (Below.refl w.heap.size w);have HN_:=Lib.hid (fun (W:World) (hb:Below w.heap.size w W)=>zo hn_ hb);clear hn_;have H:((impl_newBoard.f a0 a0).bind fun bt102=>(impl_made_at_impl_TableBoard_1.l0 k a0 a0 0 bt102.1 bt102.2.1 bt102.2.2))=some (r1,r2,r3):=h;clear h;obtain ⟨⟨t102,t103,t104⟩,A3,H⟩:=bindAside H;(try dsimp only at H);have H':=za H;clear H;(go_enter Try.func105,Try.ntmps105);(go_wp2_with (first|((with_reducible refine gate_dst (N:=4) rfl ?_);refine box_event ?hg (N:=4) ?hd (cs:=#[.int .i64 0,.int .i64 0,.slice none 0 0]) (t:=43) ?hr ?_;(case hd=>rfl);(case hg=>rfl);(case hr=>first|(go_simp;done)|(go_simp;rfl));intro gb101 hg w4 hbox hb;have BK101:=za (hbox);have GW101:=za ((by rw [hg];exact (zq (by repeat (first|(with_reducible first|exact HB.out|apply zj|apply zk|apply zi)|exact HB.out))):w.heap.size≤gb101));have GE101:=za ((by rw [hg];exact (zq (by repeat (first|(with_reducible first|exact HB.out|apply zj|apply zk|apply zi)|exact HB.out))):w.heap.size≤gb101));replace HB:=za (zu (by repeat (first|(with_reducible first|exact HB.out|apply zj|apply zk|apply zi)|exact HB.out)) hb);clear hb hbox hg)|((with_reducible refine zt (f:=145) rfl ?_);refine goesL_ (some 10) rfl rfl Try.func145 (by kernel_rfl) rfl #[.int .i64 a0,.int .i64 a0] rfl (by first|rfl|simp only [z3_,z4_,z5_];try rfl) ?_;(with_reducible refine (impl_newBoard.calls a0 a0 t102 t103 t104 _ A3.out).mono ?_);rintro e w5 ⟨v105,rfl,ho0,hb⟩;refine ⟨_,rfl,?_⟩;have HO106:=za (Kd.R_lower ho0 (zq (by repeat (first|(with_reducible first|exact HB.out|apply zj|apply zk|apply zi|refine zc ?_ GE101.out)|exact HB.out))));replace BK101:=za (zo (g:=gb101) (o:=.cells #[.int .i64 0,.int .i64 0,.slice none 0 0] 43 (0,0)) (by apply_rules only [BK101.out,zd,zb,ze]) hb);replace HB:=za (zu (by repeat (first|(with_reducible first|exact HB.out|apply zj|apply zk|apply zi|refine zc ?_ GE101.out)|exact HB.out)) hb))|((with_reducible refine gate_dst (N:=5) rfl ?_);refine box_event ?hg (N:=5) ?hd (cs:=#[.int .i64 0,.int .i64 0,.slice none 0 0]) (t:=43) ?hr ?_;(case hd=>rfl);(case hg=>rfl);(case hr=>first|(go_simp;done)|(go_simp;rfl));intro gb107 hg w6 hbox hb;replace HO106:=za (zr (by (with_reducible repeat (first|apply zg|apply zh|apply zf));exact HO106.out) hb);have BK107:=za (hbox);have GW107:=za ((by rw [hg];exact (zq (by repeat (first|(with_reducible first|exact HB.out|apply zj|apply zk|apply zi|refine zc ?_ GE101.out)|exact HB.out))):w.heap.size≤gb107));have GE107:=za ((by rw [hg];exact (zq (by repeat (first|(with_reducible first|exact HB.out|apply zj|apply zk|apply zi|refine zc ?_ GE101.out)|exact HB.out))):w.heap.size≤gb107));replace HB:=za (zu (by repeat (first|(with_reducible first|exact HB.out|apply zj|apply zk|apply zi|refine zc ?_ GE101.out)|exact HB.out)) hb);have NB101_107:=za ((by rw [hg];exact Nat.ne_of_lt (blk_lt (g:=gb101) (o:=.cells #[.int .i64 0,.int .i64 0,.slice none 0 0] 43 (0,0)) (by apply_rules only [BK101.out,zd,zb,ze])):gb101 ≠ gb107));have NB107_101:=za ((by rw [hg];exact Nat.ne_of_gt (blk_lt (g:=gb101) (o:=.cells #[.int .i64 0,.int .i64 0,.slice none 0 0] 43 (0,0)) (by apply_rules only [BK101.out,zd,zb,ze])):gb107 ≠ gb101));replace BK101:=za (zo (g:=gb101) (o:=.cells #[.int .i64 0,.int .i64 0,.slice none 0 0] 43 (0,0)) (by apply_rules only [BK101.out,zd,zb,ze]) hb);clear hb hbox hg;have hnb7:=NB107_101.out;have hnc7:=NB101_107.out;have hcz8_0:w6.cell? ⟨gb107,0,none⟩=some (.int .i64 0):=(zl BK107.out 0).trans rfl;have hcz8_1:w6.cell? ⟨gb107,1,none⟩=some (.int .i64 0):=(zl BK107.out 1).trans rfl;have hcz8_2:w6.cell? ⟨gb107,2,none⟩=some (.slice none 0 0):=(zl BK107.out 2).trans rfl;have hfz8_0:=zm BK107.out 0;have hfz8_1:=zm BK107.out 1;have hfz8_2:=zm BK107.out 2;obtain ⟨Ao9,co9,eo9⟩:=Kd.R_slice HO106.out;subst eo9)));(go_loopg [12] k (fun kq v12 w'=>∃ (x12_1:Int) (x108002_1:List Int) (u108002:Value),v12=.int .i64 x12_1∧Aside0 (impl_made_at_impl_TableBoard_1.l0 kq a0 a0 x12_1 t102 t103 x108002_1=some (r1,r2,r3))∧Aside0 (kq≤k)∧Aside0 (Kd.R (Kd.int .i64) 3 w' w.heap.size (fun _=>True) u108002 x108002_1)∧Aside0 (w'.heap[gb101]?=some (.cells #[.int .i64 0,.int .i64 0,(.slice none 0 0)] 43 (0,0)))∧Aside0 (w'.heap[gb107]?=some (.cells #[.int .i64 t102,.int .i64 t103,u108002] 43 (0,0)))∧Aside0 (Below w.heap.size w w')));case atStart=>exact ⟨(0),(t104),(.slice Ao9 t104.length co9),(by first|rfl|(simp;done)|(simp [*];done)),H',⟨Nat.le_refl _⟩,⟨by (with_reducible repeat (first|apply zg|apply zh|apply zf));exact zp (zn (p:=⟨gb107,2,none⟩) (zn (p:=⟨gb107,1,none⟩) (zn (p:=⟨gb107,0,none⟩) (zw HO106.out BK107.out (by decide)) (fun _ hk=>hk.2) (.int .i64 t102)) (fun _ hk=>hk.2) (.int .i64 t103)) (fun _ hk=>hk.2) (.slice Ao9 t104.length co9)) (fun _ hk=>trivial)⟩,⟨by (with_reducible repeat (first|refine zd ?_ _|refine zb ?_|refine ze ?_ _));refine zs ?_ NB101_107.out _;(with_reducible repeat (first|refine zd ?_ _|refine zb ?_|refine ze ?_ _));refine zs ?_ NB101_107.out _;(with_reducible repeat (first|refine zd ?_ _|refine zb ?_|refine ze ?_ _));refine zs ?_ NB101_107.out _;(with_reducible repeat (first|refine zd ?_ _|refine zb ?_|refine ze ?_ _));exact BK101.out⟩,⟨by (with_reducible repeat (first|refine zd ?_ _|refine zb ?_|refine ze ?_ _));refine blk_put (cs:=#[.int .i64 t102,.int .i64 t103,.slice none 0 0]) ?_ 2 _ rfl;(with_reducible repeat (first|refine zd ?_ _|refine zb ?_|refine ze ?_ _));refine blk_put (cs:=#[.int .i64 t102,.int .i64 0,.slice none 0 0]) ?_ 1 _ rfl;(with_reducible repeat (first|refine zd ?_ _|refine zb ?_|refine ze ?_ _));refine blk_put (cs:=#[.int .i64 0,.int .i64 0,.slice none 0 0]) ?_ 0 _ rfl;(with_reducible repeat (first|refine zd ?_ _|refine zb ?_|refine ze ?_ _));exact BK107.out⟩,⟨by repeat (first|(with_reducible first|exact HB.out|apply zj|apply zk|apply zi|refine zc ?_ GE101.out|refine zc ?_ GE107.out)|exact HB.out)⟩⟩
 case round =>
  clear H';(try clear c1);(try clear p2);(try clear c7);(try clear hcz8_0);(try clear hcz8_1);(try clear hcz8_2);(try clear hfz8_0);(try clear hfz8_1);(try clear hfz8_2);obtain ⟨x12_1,x108002_1,u108002,rfl,HA,HK1,HO_108002,BK101,BK107,HB⟩:=hrel
  cases gk with
 |zero=>exact absurd HA.out (by simp [impl_made_at_impl_TableBoard_1.l0])
 |succ k1 =>
   have H:=HA.out;clear HA;simp only [impl_made_at_impl_TableBoard_1.l0] at H;by_cases c10:x12_1 < a0
   ·
    rw [if_pos c10] at H;have c10b0:decide (x12_1 < a0)=true:=decide_eq_true c10;clear c10;have H':=za H;clear H;(go_wp2);(go_loopg [16] k1 (fun kq v16 w'=>∃ (x16_2:Int) (x108002_2:List Int) (u108002:Value),v16=.int .i64 x16_2∧Aside0 (impl_made_at_impl_TableBoard_1.l1 kq a0 x12_1 a0 x12_1 a0 x16_2 t102 t103 x108002_2=some (r1,r2,r3))∧Aside0 (kq≤k1)∧Aside0 (Kd.R (Kd.int .i64) 3 w' w.heap.size (fun _=>True) u108002 x108002_2)∧Aside0 (w'.heap[gb101]?=some (.cells #[.int .i64 0,.int .i64 0,(.slice none 0 0)] 43 (0,0)))∧Aside0 (w'.heap[gb107]?=some (.cells #[.int .i64 t102,.int .i64 t103,u108002] 43 (0,0)))∧Aside0 (Below w.heap.size w w')));case atStart=>exact ⟨(0),(x108002_1),(u108002),(by first|rfl|(simp;done)|(simp [*];done)),H',⟨Nat.le_refl _⟩,⟨by (with_reducible repeat (first|apply zg|apply zh|apply zf));exact HO_108002.out⟩,⟨by (with_reducible repeat (first|refine zd ?_ _|refine zb ?_|refine ze ?_ _));exact BK101.out⟩,⟨by (with_reducible repeat (first|refine zd ?_ _|refine zb ?_|refine ze ?_ _));exact BK107.out⟩,⟨by repeat (first|(with_reducible first|exact HB.out|apply zj|apply zk|apply zi|refine zc ?_ GE101.out|refine zc ?_ GE107.out)|exact HB.out)⟩⟩
    case round =>
     clear H';(try clear c1);(try clear p2);(try clear c7);(try clear c10);(try clear c10b0);(try clear hcz8_0);(try clear hcz8_1);(try clear hcz8_2);(try clear hfz8_0);(try clear hfz8_1);(try clear hfz8_2);(try clear p2);obtain ⟨x16_2,x108002_2,u108002,rfl,HA,HK2,HO_108002,BK101,BK107,HB⟩:=hrel
     cases gk with
    |zero=>exact absurd HA.out (by simp [impl_made_at_impl_TableBoard_1.l1])
    |succ k2 =>
      have H:=HA.out;clear HA;simp only [impl_made_at_impl_TableBoard_1.l1] at H;by_cases c11:x16_2 < a0
      ·
       rw [if_pos c11] at H;have c11b0:decide (x16_2 < a0)=true:=decide_eq_true c11;clear c11;obtain ⟨t108,A12,H⟩:=bindAside H;(try dsimp only at H);by_cases c13:t108=true
       ·
        subst c13;(have H1:(if 0≤x12_1 then (if x12_1 < (x108002_2.length:Int) then (if 0≤x16_2 then (impl_made_at_impl_TableBoard_1.l1 k2 a0 x12_1 a0 x12_1 a0 (wrap64 (x16_2 + 1)) t102 t103 (x108002_2.set (x12_1:Int).toNat (Go.bits .or .i64 (rd x108002_2 x12_1) (shl .i64 1 x16_2)))) else (none)) else (none)) else (none))=some (r1,r2,r3):=by rw [if_pos rfl] at H;exact H);clear H;have H:=H1;clear H1;by_cases c14:0≤x12_1
        ·
         rw [if_pos c14] at H;have c14b0:decide (0≤x12_1)=true:=decide_eq_true c14;clear c14;by_cases c15:x12_1 < (x108002_2.length:Int)
         ·
          rw [if_pos c15] at H;have c15b0:decide (x12_1 < (x108002_2.length:Int))=true:=decide_eq_true c15;clear c15;by_cases c16:0≤x16_2
          ·
           rw [if_pos c16] at H;have c16b0:=eq_true c16;have c16b1:decide (0≤x16_2)=true:=decide_eq_true c16;clear c16;obtain ⟨ji17,hji17⟩:∃ j_:Int,(shl .i64 1 x16_2)=j_:=⟨_,rfl⟩;(replace H:(impl_made_at_impl_TableBoard_1.l1 k2 a0 x12_1 a0 x12_1 a0 (wrap64 (x16_2 + 1)) t102 t103 (x108002_2.set (x12_1:Int).toNat (Go.bits .or .i64 (rd x108002_2 x12_1) (ji17))))=some (r1,r2,r3):=by first|(rw [hji17] at H;exact H)|(simp only [hji17] at H ⊢;exact H));(try rw [hji17] at A12);have hji17_:(IntKind.i64.wrap (1 * 2 ^ min x16_2.toNat 64))=ji17:=hji17;have hji17z:x16_2≤64→(IntKind.i64.wrap (1 * 2 ^ x16_2.toNat))=ji17:=shl_small hji17;(have hji17u:(IntKind.i64.wrap (2 ^ min x16_2.toNat 64))=ji17:=by have h_:=hji17_;rw [Int.one_mul] at h_;exact h_);(have hji17v:x16_2≤64→(IntKind.i64.wrap (2 ^ x16_2.toNat))=ji17:=fun hle_=>by have h_:=hji17z hle_;rw [Int.one_mul] at h_;exact h_);have hji17y:(wrap64 (1 * 2 ^ min x16_2.toNat 64))=ji17:=(i64_w _).symm.trans hji17_;(have hji17x:x16_2≤64→(wrap64 (1 * 2 ^ x16_2.toNat))=ji17:=fun h_=>(i64_w _).symm.trans (hji17z h_));obtain ⟨y110,hy110⟩:∃ y_:List Int,y_=(x108002_2.set (x12_1:Int).toNat (Go.bits .or .i64 (rd x108002_2 x12_1) (ji17))):=⟨_,rfl⟩;(replace H:(impl_made_at_impl_TableBoard_1.l1 k2 a0 x12_1 a0 x12_1 a0 (wrap64 (x16_2 + 1)) t102 t103 y110)=some (r1,r2,r3):=by first|(rw [hy110];with_reducible exact H)|(have H2_:=(Option.bind_some _ _).symm.trans H;rw [hy110];with_reducible exact H2_)|(have H2_:=(Option.bind_some _ _).symm.trans H;with_reducible exact H2_)|with_reducible exact H|(rw [hy110];exact H)|exact H);have Ny110:=za hy110;clear hy110;have H':=za H;clear H;(try go_wp2_with (first|(go_at_call 110;(with_reducible refine (impl_TableBoard_1.calls a0 x12_1 x16_2 true gn _ (HN_.out _ (by repeat (first|(with_reducible first|exact HB.out|apply zj|apply zk|apply zi|refine zc ?_ GE101.out|refine zc ?_ GE107.out)|exact HB.out))) A12.out).mono ?_);rintro e w' ⟨rfl,⟨nd,rfl⟩⟩;(try (rw [drewN_self wr];generalize hq_:World.drewN wr _=wr;have n0_:Aside0 (Kd.R (Kd.int .i64) 3 wr w.heap.size (fun _=>True) u108002 x108002_2):=⟨by rw [← hq_];exact (by (with_reducible repeat (first|apply zg|apply zh|apply zf));exact HO_108002.out)⟩;have n1_:Aside0 (wr.heap[gb101]?=some (.cells #[.int .i64 0,.int .i64 0,.slice none 0 0] 43 (0,0))):=⟨by rw [← hq_];exact (by apply_rules only [BK101.out,zd,zb,ze])⟩;have n2_:Aside0 (wr.heap[gb107]?=some (.cells #[.int .i64 t102,.int .i64 t103,u108002] 43 (0,0))):=⟨by rw [← hq_];exact (by apply_rules only [BK107.out,zd,zb,ze])⟩;have n3_:Aside0 (Below w.heap.size w wr):=⟨by rw [← hq_];exact (by repeat (first|(with_reducible first|exact HB.out|apply zj|apply zk|apply zi|refine zc ?_ GE101.out|refine zc ?_ GE107.out)|exact HB.out))⟩;clear HO_108002 BK101 BK107 HB hq_;have HO_108002:=n0_;have BK101:=n1_;have BK107:=n2_;have HB:=n3_;clear n0_ n1_ n2_ n3_)))));replace HO_108002:=za (zf HO_108002.out);replace BK101:=za (zb BK101.out);replace BK107:=za (zb BK107.out);replace HB:=za (zi HB.out);obtain ⟨Ao20,co20,eo20⟩:=Kd.R_slice HO_108002.out;(first|subst eo20|(injection eo20 with f1_ f2_ f3_;have f4_:=f1_.symm;have f5_:=f3_.symm;clear f1_ f2_ f3_;subst f4_;subst f5_));have p109:0≤(x12_1:Int):=of_decide_eq_true ‹_›;have q109:x12_1 < (x108002_2.length:Int):=of_decide_eq_true ‹_›;obtain ⟨ad109,e109,hx109_0⟩:=Kd.at_int (zv HO_108002.out).2.2 x12_1 p109 q109;cases e109;replace p109:=eq_true p109;replace q109:=eq_true q109;have p18:0≤(x12_1:Int):=of_decide_eq_true ‹_›;have q18:(x12_1:Int) < ((x108002_2.length:Int):Int):=of_decide_eq_true ‹_›;obtain ⟨go18,co18,eo18,gb18,gl18,cl18,HG18⟩:=Kd.R_form HO_108002.out (by omega);(first|cases eo18|(injection eo18 with ea_ en_ ec_;(first|subst ea_|(injection ea_ with ea_;subst ea_));subst ec_;clear en_));have GB18:=za gb18;have GG18:=za HG18;clear gb18 gl18 HG18;(first|simp only [add_plain] at hx109_0|skip);obtain ⟨hx18_0,hf18_0⟩:=Kd.R_celln 0 HO_108002.out (x12_1:Int) p18 q18;replace p18:=eq_true p18;replace q18:=eq_true q18;have HP21:=Kd.R_putn HO_108002.out (x12_1:Int) (Go.bits .or .i64 (rd x108002_2 x12_1) (ji17));rw [← Ny110.out] at HP21;have HQ21:=za HP21;clear HP21;refine start_ (n:=10) (S:=fun w'=>w'.cell? ⟨gb107,0,none⟩=some (.int .i64 t102)∧w'.cell? ⟨gb107,1,none⟩=some (.int .i64 t103)∧w'.cell? ⟨gb107,2,none⟩=some (.slice (some ⟨go18,0,none⟩) x108002_2.length co20)∧w'.cell? ⟨go18,(x12_1).toNat,none⟩=some (.int .i64 (rd x108002_2 x12_1))) (ds:=[9]) #[false,false,false,false,false,false,false,false,false,false] (by kernel_rfl) rfl rfl ⟨(zl BK107.out 0).trans rfl,(zl BK107.out 1).trans rfl,(zl BK107.out 2).trans rfl,hx109_0⟩ (fun hHeld=>?_);refine with_tabW impl_made_at_impl_TableBoard_1.tab9 impl_made_at_impl_TableBoard_1.bits9 (fun HT_ HW_=>?_);generalize wr.drew=w19 at HO_108002 BK101 BK107 HB GG18 HQ21 hf18_0 hx109_0 hx18_0 hHeld ⊢;refine pure_ (i:=0) (N:=some 23) (v:=?_) (a':=?_) #[true,false,false,false,false,false,false,false,false,false] rfl rfl (any_of HT_.out (by kernel_rfl)) (fun _ _ _ h=>h) (Or.inl ⟨by rfl,?_⟩) ?_ ?_;rotate_left
           · intro w';go_simp;with_reducible rfl
           rotate_left
           · simp only [Act.put,z0_,z1_,z2_,i64_w,i32_w];rfl
           refine pure_ (i:=2) (N:=some 25) (v:=?_) (a':=?_) #[true,false,true,false,false,false,false,false,false,false] rfl rfl (any_of HT_.out (by kernel_rfl)) (fun _ _ _ h=>h) (Or.inl ⟨by rfl,?_⟩) ?_ ?_;rotate_left
           · intro w';go_simp;with_reducible rfl
           rotate_left
           · simp only [Act.put,z0_,z1_,z2_,i64_w,i32_w];rfl
           refine pure_ (i:=5) (N:=some 28) (v:=?_) (a':=?_) #[true,false,true,false,false,true,false,false,false,false] rfl rfl (any_of HT_.out (by kernel_rfl)) (fun _ _ _ h=>h) (Or.inl ⟨by rfl,?_⟩) ?_ ?_;rotate_left
           · intro w';go_simp;with_reducible rfl
           rotate_left
           · simp only [Act.put,z0_,z1_,z2_,i64_w,i32_w];rfl
           refine pure_ (i:=6) (N:=some 29) (v:=?_) (a':=?_) #[true,false,true,false,false,true,true,false,false,false] rfl rfl (any_of HT_.out (by kernel_rfl)) (fun _ _ _ h=>h) (Or.inl ⟨by rfl,?_⟩) ?_ ?_;rotate_left
           · intro w';go_simp;with_reducible rfl
           rotate_left
           · simp only [Act.put,z0_,z1_,z2_,i64_w,i32_w];rfl
           refine take_ (i:=1) (N:=some 24) (v:=?_) (a':=?_) #[true,true,true,false,false,true,true,false,false,false] rfl rfl (take_ofW HT_.out HW_.out (by kernel_rfl)) (fun _ _ _ h=>h) (Or.inl ⟨by rfl,?_⟩) hHeld ?_ ?_;rotate_left
           · rintro w' ⟨s0,s1,s2,s3⟩;go_simp;with_reducible rfl
           rotate_left
           · simp only [Act.put,z0_,z1_,z2_,i64_w,i32_w];rfl
           refine pure_ (i:=3) (N:=some 26) (v:=?_) (a':=?_) #[true,true,true,true,false,true,true,false,false,false] rfl rfl (any_of HT_.out (by kernel_rfl)) (fun _ _ _ h=>h) (Or.inl ⟨by rfl,?_⟩) ?_ ?_;rotate_left
           · intro w';go_simp;with_reducible rfl
           rotate_left
           · simp only [Act.put,z0_,z1_,z2_,i64_w,i32_w];rfl
           refine take_ (i:=4) (N:=some 27) (v:=?_) (a':=?_) #[true,true,true,true,true,true,true,false,false,false] rfl rfl (take_ofW HT_.out HW_.out (by kernel_rfl)) (fun _ _ _ h=>h) (Or.inl ⟨by rfl,?_⟩) hHeld ?_ ?_;rotate_left
           · rintro w' ⟨s0,s1,s2,s3⟩;go_simp;with_reducible rfl
           rotate_left
           · simp only [Act.put,z0_,z1_,z2_,i64_w,i32_w];rfl
           refine pure_ (i:=7) (N:=some 30) (v:=?_) (a':=?_) #[true,true,true,true,true,true,true,true,false,false] rfl rfl (any_of HT_.out (by kernel_rfl)) (fun _ _ _ h=>h) (Or.inl ⟨by rfl,?_⟩) ?_ ?_;rotate_left
           · intro w';go_simp;with_reducible rfl
           rotate_left
           · simp only [Act.put,z0_,z1_,z2_,i64_w,i32_w];rfl
           refine pure_ (i:=8) (N:=some 31) (v:=?_) (a':=?_) #[true,true,true,true,true,true,true,true,true,false] rfl rfl (any_of HT_.out (by kernel_rfl)) (fun _ _ _ h=>h) (Or.inl ⟨by rfl,?_⟩) ?_ ?_;rotate_left
           · intro w';go_simp;with_reducible rfl
           rotate_left
           · simp only [Act.put,z0_,z1_,z2_,i64_w,i32_w];rfl
           refine last_ (i:=9) (N:=none) #[true,true,true,true,true,true,true,true,true,true] rfl rfl (one_of HT_.out (by kernel_rfl)) (by decide) (fun K hK=>?_);refine skip_ (w1:=?_) (by rfl) rfl ?_ ?_;rotate_left
           · go_simp;rfl
           refine hK.out _ _ ?_;clear hK K;refine done_ (done_of HT_.out (by kernel_rfl)) ?_;(try go_wp2);(go_roundg k2);(case measure=>have:=HK1.out;have:=HK2.out;omega);case rel=>exact ⟨(wrap64 (x16_2 + 1)),(y110),(.slice (some ⟨go18,0,none⟩) x108002_2.length co20),(by first|rfl|(simp;done)|(simp [*];done)),H',⟨by have:=HK1.out;have:=HK2.out;omega⟩,⟨by (with_reducible repeat (first|apply zg|apply zh|apply zf));exact HQ21.out⟩,⟨by (with_reducible repeat (first|refine zd ?_ _|refine zb ?_|refine ze ?_ _));refine zs ?_ (by have h_:=Kd.R_ne HO_108002.out BK101.out (by decide);intro e_;exact h_ (by rw [e_];rfl)) _;(with_reducible repeat (first|refine zd ?_ _|refine zb ?_|refine ze ?_ _));exact BK101.out⟩,⟨by (with_reducible repeat (first|refine zd ?_ _|refine zb ?_|refine ze ?_ _));refine zs ?_ (by have h_:=Kd.R_ne HO_108002.out BK107.out (by decide);intro e_;exact h_ (by rw [e_];rfl)) _;(with_reducible repeat (first|refine zd ?_ _|refine zb ?_|refine ze ?_ _));exact BK107.out⟩,⟨by repeat (first|(with_reducible first|exact HB.out|apply zj|apply zk|apply zi|refine zc ?_ GB18.out|refine zc ?_ GE101.out|refine zc ?_ GE107.out)|exact HB.out)⟩⟩
          · rw [if_neg c16] at H;exact absurd H (by simp)
         · rw [if_neg c15] at H;exact absurd H (by simp)
        · rw [if_neg c14] at H;exact absurd H (by simp)
       · replace c13:=Bool.eq_false_iff.mpr c13;subst c13;(have H1:(impl_made_at_impl_TableBoard_1.l1 k2 a0 x12_1 a0 x12_1 a0 (wrap64 (x16_2 + 1)) t102 t103 x108002_2)=some (r1,r2,r3):=by rw [if_neg (show ¬ (false=true) by decide)] at H;exact H);clear H;have H:=H1;clear H1;have H':=za H;clear H;(go_wp2_with (first|(go_at_call 110;(with_reducible refine (impl_TableBoard_1.calls a0 x12_1 x16_2 false gn _ (HN_.out _ (by repeat (first|(with_reducible first|exact HB.out|apply zj|apply zk|apply zi|refine zc ?_ GE101.out|refine zc ?_ GE107.out)|exact HB.out))) A12.out).mono ?_);rintro e w' ⟨rfl,⟨nd,rfl⟩⟩)));(go_roundg k2);(case measure=>have:=HK1.out;have:=HK2.out;omega);case rel=>exact ⟨(wrap64 (x16_2 + 1)),(x108002_2),(u108002),(by first|rfl|(simp;done)|(simp [*];done)),H',⟨by have:=HK1.out;have:=HK2.out;omega⟩,⟨by (with_reducible repeat (first|apply zg|apply zh|apply zf));exact HO_108002.out⟩,⟨by (with_reducible repeat (first|refine zd ?_ _|refine zb ?_|refine ze ?_ _));exact BK101.out⟩,⟨by (with_reducible repeat (first|refine zd ?_ _|refine zb ?_|refine ze ?_ _));exact BK107.out⟩,⟨by repeat (first|(with_reducible first|exact HB.out|apply zj|apply zk|apply zi|refine zc ?_ GE101.out|refine zc ?_ GE107.out)|exact HB.out)⟩⟩
      · rw [if_neg c11] at H;have c11b0:decide (x16_2 < a0)=false:=decide_eq_false c11;clear c11;have H':=za H;clear H;(go_wp2);(go_roundg k2);(case measure=>have:=HK1.out;have:=HK2.out;omega);case rel=>exact ⟨(wrap64 (x12_1 + 1)),(x108002_2),(u108002),(by first|rfl|(simp;done)|(simp [*];done)),H',⟨by have:=HK1.out;have:=HK2.out;omega⟩,⟨by (with_reducible repeat (first|apply zg|apply zh|apply zf));exact HO_108002.out⟩,⟨by (with_reducible repeat (first|refine zd ?_ _|refine zb ?_|refine ze ?_ _));exact BK101.out⟩,⟨by (with_reducible repeat (first|refine zd ?_ _|refine zb ?_|refine ze ?_ _));exact BK107.out⟩,⟨by repeat (first|(with_reducible first|exact HB.out|apply zj|apply zk|apply zi|refine zc ?_ GE101.out|refine zc ?_ GE107.out)|exact HB.out)⟩⟩
   · rw [if_neg c10] at H;have c10b0:decide (x12_1 < a0)=false:=decide_eq_false c10;clear c10;simp only [Option.some.injEq,Prod.mk.injEq] at H;obtain ⟨rfl,rfl,rfl⟩:=H;have hnb22:=NB107_101.out;have hnc22:=NB101_107.out;have hcz23_0:wr.cell? ⟨gb107,0,none⟩=some (.int .i64 t102):=(zl BK107.out 0).trans rfl;have hcz23_1:wr.cell? ⟨gb107,1,none⟩=some (.int .i64 t103):=(zl BK107.out 1).trans rfl;have hcz23_2:wr.cell? ⟨gb107,2,none⟩=some (u108002):=(zl BK107.out 2).trans rfl;have hfz23_0:=zm BK107.out 0;have hfz23_1:=zm BK107.out 1;have hfz23_2:=zm BK107.out 2;have hcz24_0:wr.cell? ⟨gb101,0,none⟩=some (.int .i64 0):=(zl BK101.out 0).trans rfl;have hcz24_1:wr.cell? ⟨gb101,1,none⟩=some (.int .i64 0):=(zl BK101.out 1).trans rfl;have hcz24_2:wr.cell? ⟨gb101,2,none⟩=some (.slice none 0 0):=(zl BK101.out 2).trans rfl;have hfz24_0:=zm BK101.out 0;have hfz24_1:=zm BK101.out 1;have hfz24_2:=zm BK101.out 2;obtain ⟨Ao25,co25,eo25⟩:=Kd.R_slice HO_108002.out;subst eo25;(go_wp2);refine bodyPost_ret (results_cell_row rfl _ _ gb101 43 #[.int .i64 t102,.int .i64 t103,.slice Ao25 x108002_1.length co25] (0,0) _ rfl (by (with_reducible repeat (first|refine zd ?_ _|refine zb ?_|refine ze ?_ _));refine blk_put (cs:=#[.int .i64 t102,.int .i64 t103,.slice none 0 0]) ?_ 2 _ rfl;(with_reducible repeat (first|refine zd ?_ _|refine zb ?_|refine ze ?_ _));refine blk_put (cs:=#[.int .i64 t102,.int .i64 0,.slice none 0 0]) ?_ 1 _ rfl;(with_reducible repeat (first|refine zd ?_ _|refine zb ?_|refine ze ?_ _));refine blk_put (cs:=#[.int .i64 0,.int .i64 0,.slice none 0 0]) ?_ 0 _ rfl;(with_reducible repeat (first|refine zd ?_ _|refine zb ?_|refine ze ?_ _));exact BK101.out) Try.underlying43 rfl (by kernel_rfl)) rfl ?_;exact ⟨_,by first|rfl|simp [*,errW_none,errW_some] <;> rfl,by (with_reducible repeat (first|apply zg|apply zh|apply zf));exact zp (zn (p:=⟨gb101,2,none⟩) (zn (p:=⟨gb101,1,none⟩) (zn (p:=⟨gb101,0,none⟩) (zw HO_108002.out BK101.out (by decide)) (fun _ hk=>hk.2) (.int .i64 t102)) (fun _ hk=>hk.2) (.int .i64 t103)) (fun _ hk=>hk.2) (.slice Ao25 x108002_1.length co25)) (fun _ hk=>trivial),by repeat (first|(with_reducible first|exact HB.out|apply zj|apply zk|apply zi|refine zc ?_ GE101.out|refine zc ?_ GE107.out)|exact HB.out)⟩
end Go.Proofs.Ytiopnmgcajohfaa.Q
end
section
namespace Go.Proofs.Ytiopnmgcajohfaa.Q
open Go.RowKit Go.Proofs.YtiopnmgcajohfaaW.PrintWords Go.Proofs.YtiopnmgcajohfaaW.PrintLast Go.Proofs.YtiopnmgcajohfaaW.PrintMore
attribute [local go_sem] max2_int min2_int max_two min_two max_three min_three max_four min_four   -- for this text's walks alone
set_option linter.unusedVariables false
set_option linter.unusedSimpArgs false
def impl_TableBoard.f (k : Nat) (a0 : Int) : Option (Int × Int × List Int × Bool) := (impl_within.f a0 2 6).bind fun t102 => (if t102 = true then ((impl_made_at_impl_TableBoard_1.f k a0).bind fun bt103 => (some (bt103.1, bt103.2.1, bt103.2.2, true))) else (some (0, 0, ([] : List Int), false)))
theorem impl_TableBoard.mono : ∀ a0 k, LeO (impl_TableBoard.f k a0) (impl_TableBoard.f (k + 1) a0) := by
  intro a0 k
  unfold impl_TableBoard.f
  repeat' first
      | (with_reducible exact impl_made_at_impl_TableBoard_1.mono _ _)
      | (with_reducible exact LeO.refl _)
      | (with_reducible exact LeO.none _)
      | (with_reducible refine LeO.ite ?_ ?_)
      | (with_reducible refine LeO.bind ?_ (fun _ => ?_))
      | exact impl_made_at_impl_TableBoard_1.mono _ _
      | exact LeO.none _
      | refine LeO.ite ?_ ?_
      | refine LeO.bind ?_ (fun _ => ?_)
set_option maxHeartbeats 8000000 in
set_option maxRecDepth 100000 in
theorem impl_TableBoard.calls (k : Nat) (a0 : Int) (r1 : Int) (r2 : Int) (r3 : List Int) (r4 : Bool) (w : World) (h : impl_TableBoard.f k a0 = some (r1, r2, r3, r4)) :
    Calls Try.prog 46 #[.int .i64 a0] w fun e w' => ∃ v2_ : Value, e = .returned (.tuple #[.agg #[.int .i64 r1, .int .i64 r2, v2_], .bool r4]) ∧ Kd.R (Kd.int .i64) 3 w' w.heap.size (fun _ => True) v2_ r3 ∧ Below w.heap.size w w' := by
  have hu43 := Try.underlying43
  have HB := Aside0.mk (Below.refl w.heap.size w)
  have H : ((impl_within.f a0 2 6).bind fun t102 => (if t102 = true then ((impl_made_at_impl_TableBoard_1.f k a0).bind fun bt103 => (some (bt103.1, bt103.2.1, bt103.2.2, true))) else (some (0, 0, ([] : List Int), false)))) = some (r1, r2, r3, r4) := h
  clear h
  replace H := Option.bind_eq_some_iff.mp H
  obtain ⟨t102, A20, H⟩ := H
  replace H : (if t102 = true then ((impl_made_at_impl_TableBoard_1.f k a0).bind fun bt103 => (some (bt103.1, bt103.2.1, bt103.2.2, true))) else (some (0, 0, ([] : List Int), false))) = some (r1, r2, r3, r4) := H
  have A2 := Aside0.mk A20
  clear A20
  by_cases c3 : t102 = true
  · subst c3
    have H1 : ((impl_made_at_impl_TableBoard_1.f k a0).bind fun bt103 => (some (bt103.1, bt103.2.1, bt103.2.2, true))) = some (r1, r2, r3, r4) := by rw [if_pos rfl] at H; exact H
    clear H
    have H := H1
    clear H1
    replace H := Option.bind_eq_some_iff.mp H
    obtain ⟨⟨t103, t104, t105⟩, A40, H⟩ := H
    replace H : (some (t103, t104, t105, true)) = some (r1, r2, r3, r4) := H
    have A4 := Aside0.mk A40
    clear A40
    simp only [Option.some.injEq, Prod.mk.injEq] at H
    obtain ⟨rfl, rfl, rfl, rfl⟩ := H
    go_enter Try.func46, Try.ntmps46
    go_wp2_with (first | ((with_reducible refine gate_dst (N := 1) rfl ?_); refine box_event ?hg (N := 1) ?hd (cs := #[.int .i64 a0]) (t := 3) ?hr ?_; (case hd => rfl); (case hg => rfl); (case hr => first | (go_simp; done) | (go_simp; rfl)); intro gn hg w1_ hbox hb; have BN1 := Aside0.mk hbox; clear HB; have HB := Aside0.mk hb; clear hb hbox hg) | ((with_reducible refine gate_dst (N := 2) rfl ?_); refine box_event ?hg (N := 2) ?hd (cs := #[.int .i64 0, .int .i64 0, .slice none 0 0]) (t := 43) ?hr ?_; (case hd => rfl); (case hg => rfl); (case hr => first | (go_simp; done) | (go_simp; rfl)); intro gb101 hg w5 hbox hb; have BN2 := Aside0.mk (blk_below BN1.out hb); have hzn : w5.cell? ⟨gn, 0, none⟩ = some (.int .i64 a0) := (blk_cell BN2.out 0).trans rfl; have n0_ := Aside0.mk (below_step (by repeat (first | (with_reducible first | exact HB.out | apply below_alloc | apply pw_below_drewN | apply below_drew1) | exact HB.out)) hb); have n1_ := Aside0.mk (hbox); have n2_ := Aside0.mk ((by rw [hg]; exact (below_size (by repeat (first | (with_reducible first | exact HB.out | apply below_alloc | apply pw_below_drewN | apply below_drew1) | exact HB.out))) : w.heap.size ≤ gb101)); have n3_ := Aside0.mk ((by rw [hg]; exact (below_size (by repeat (first | (with_reducible first | exact HB.out | apply below_alloc | apply pw_below_drewN | apply below_drew1) | exact HB.out))) : w.heap.size ≤ gb101)); clear HB; have HB := n0_; have BK101 := n1_; have GW101 := n2_; have GE101 := n3_; clear n0_ n1_ n2_ n3_; clear hb hbox hg) | ((with_reducible refine gate_callee (f := 79) rfl ?_); refine goesL_ (some 5) rfl rfl Try.func79 (by kernel_rfl) rfl #[.int .i64 a0, .int .i64 2, .int .i64 6] rfl (by (try simp only [List.map_toArray, List.map_cons, List.map_nil]); first | done | rfl | (simp only [List.length_drop, List.length_take]; rfl)) ?_; (with_reducible refine (impl_within.calls a0 2 6 true _ A2.out).mono ?_); rintro e w' ⟨rfl, ⟨nd, rfl⟩⟩; refine ⟨_, rfl, ?_⟩; (try (rw [drewN_self w5]; generalize hq_ : World.drewN w5 _ = w5; have n0_ : Aside0 (w5.heap[gb101]? = some (.cells #[.int .i64 0, .int .i64 0, .slice none 0 0] 43 (0, 0))) := ⟨by rw [← hq_]; exact (by (with_reducible repeat (first | refine blk_drewN ?_ _ | refine blk_drew ?_ | refine blk_alloc ?_ _)); exact BK101.out)⟩; have n1_ : Aside0 (Below w.heap.size w w5) := ⟨by rw [← hq_]; exact (by repeat (first | (with_reducible first | exact HB.out | apply below_alloc | apply pw_below_drewN | apply below_drew1 | refine below_set ?_ GE101.out) | exact HB.out))⟩; have nn_ : Aside0 (w5.heap[gn]? = some (.cells #[.int .i64 a0] 3 (0, 0))) := ⟨by rw [← hq_]; exact (by (with_reducible repeat (first | refine blk_drewN ?_ _ | refine blk_drew ?_ | refine blk_alloc ?_ _)); exact BN2.out)⟩; clear BK101 HB hq_ BN2 hzn; have BK101 := n0_; have HB := n1_; have BN2 := nn_; clear n0_ n1_ nn_; have hzn : w5.cell? ⟨gn, 0, none⟩ = some (.int .i64 a0) := (blk_cell BN2.out 0).trans rfl))) | ((with_reducible refine gate_callee (f := 105) rfl ?_); refine goesL_ (some 10) rfl rfl Try.func105 (by kernel_rfl) rfl #[.int .i64 a0, .func (.func 110) #[] #[.pointer (some ⟨gn, 0, none⟩)]] rfl (by (try simp only [List.map_toArray, List.map_cons, List.map_nil]); first | done | rfl | (simp only [List.length_drop, List.length_take]; rfl)) ?_; (with_reducible refine (impl_made_at_impl_TableBoard_1.calls k a0  t103 t104 t105 gn _ (by (with_reducible repeat (first | refine blk_drewN ?_ _ | refine blk_drew ?_ | refine blk_alloc ?_ _)); exact BN2.out) A4.out).mono ?_); rintro e w6 ⟨v106, rfl, ho0, hb⟩; refine ⟨_, rfl, ?_⟩; have n0_ := Aside0.mk (Kd.R_lower ho0 (below_size (by repeat (first | (with_reducible first | exact HB.out | apply below_alloc | apply pw_below_drewN | apply below_drew1 | refine below_set ?_ GE101.out) | exact HB.out)))); have n1_ := Aside0.mk (blk_below (g := gb101) (o := .cells #[.int .i64 0, .int .i64 0, .slice none 0 0] 43 (0, 0)) (by (with_reducible repeat (first | refine blk_drewN ?_ _ | refine blk_drew ?_ | refine blk_alloc ?_ _)); exact BK101.out) hb); have n2_ := Aside0.mk (below_step (by repeat (first | (with_reducible first | exact HB.out | apply below_alloc | apply pw_below_drewN | apply below_drew1 | refine below_set ?_ GE101.out) | exact HB.out)) hb); clear BK101; clear HB; have HO107 := n0_; have BK101 := n1_; have HB := n2_; clear n0_ n1_ n2_; (try clear hb); (try clear hb2); (try clear hk); (try clear hi); (try clear ho0); have hcz7_0 : w6.cell? ⟨gb101, 0, none⟩ = some (.int .i64 0) := (blk_cell BK101.out 0).trans rfl; have hcz7_1 : w6.cell? ⟨gb101, 1, none⟩ = some (.int .i64 0) := (blk_cell BK101.out 1).trans rfl; have hcz7_2 : w6.cell? ⟨gb101, 2, none⟩ = some (.slice none 0 0) := (blk_cell BK101.out 2).trans rfl; have hfz7_0 := blk_frozen BK101.out 0; have hfz7_1 := blk_frozen BK101.out 1; have hfz7_2 := blk_frozen BK101.out 2; obtain ⟨Ao8, co8, eo8⟩ := Kd.R_slice HO107.out; subst eo8))
    refine bodyPost_ret (results_ct rfl _ _ gb101 43 #[.int .i64 t103, .int .i64 t104, .slice Ao8 t105.length co8] (0, 0) _ rfl (by (with_reducible repeat (first | refine blk_drewN ?_ _ | refine blk_drew ?_ | refine blk_alloc ?_ _)); refine blk_put (cs := #[.int .i64 t103, .int .i64 t104, .slice none 0 0]) ?_ 2 _ rfl; (with_reducible repeat (first | refine blk_drewN ?_ _ | refine blk_drew ?_ | refine blk_alloc ?_ _)); refine blk_put (cs := #[.int .i64 t103, .int .i64 0, .slice none 0 0]) ?_ 1 _ rfl; (with_reducible repeat (first | refine blk_drewN ?_ _ | refine blk_drew ?_ | refine blk_alloc ?_ _)); refine blk_put (cs := #[.int .i64 0, .int .i64 0, .slice none 0 0]) ?_ 0 _ rfl; (with_reducible repeat (first | refine blk_drewN ?_ _ | refine blk_drew ?_ | refine blk_alloc ?_ _)); exact BK101.out) Try.underlying43 rfl (by kernel_rfl)) rfl ?_
    exact ⟨_, by first | rfl | (simp [errW_none, errW_some] <;> rfl) | (simp [*, errW_none, errW_some] <;> rfl), by (with_reducible repeat (first | apply Kd.R_alloc | apply Kd.R_drewN | apply Kd.R_drew)); exact Kd.R_mono (Kd.R_far (p := ⟨gb101, 2, none⟩) (Kd.R_far (p := ⟨gb101, 1, none⟩) (Kd.R_far (p := ⟨gb101, 0, none⟩) (Kd.R_types HO107.out BK101.out (by decide)) (fun _ hk => hk.2) (.int .i64 t103)) (fun _ hk => hk.2) (.int .i64 t104)) (fun _ hk => hk.2) (.slice Ao8 t105.length co8)) (fun _ hk => trivial), by repeat (first | (with_reducible first | exact HB.out | apply below_alloc | apply pw_below_drewN | apply below_drew1 | refine below_set ?_ GE101.out) | exact HB.out)⟩
  · replace c3 := Bool.eq_false_iff.mpr c3
    subst c3
    have H1 : (some (0, 0, ([] : List Int), false)) = some (r1, r2, r3, r4) := by rw [if_neg (show ¬ (false = true) by decide)] at H; exact H
    clear H
    have H := H1
    clear H1
    simp only [Option.some.injEq, Prod.mk.injEq] at H
    obtain ⟨rfl, rfl, rfl, rfl⟩ := H
    go_enter Try.func46, Try.ntmps46
    go_wp2_with (first | ((with_reducible refine gate_dst (N := 1) rfl ?_); refine box_event ?hg (N := 1) ?hd (cs := #[.int .i64 a0]) (t := 3) ?hr ?_; (case hd => rfl); (case hg => rfl); (case hr => first | (go_simp; done) | (go_simp; rfl)); intro gn hg w1_ hbox hb; have BN1 := Aside0.mk hbox; clear HB; have HB := Aside0.mk hb; clear hb hbox hg) | ((with_reducible refine gate_dst (N := 2) rfl ?_); refine box_event ?hg (N := 2) ?hd (cs := #[.int .i64 0, .int .i64 0, .slice none 0 0]) (t := 43) ?hr ?_; (case hd => rfl); (case hg => rfl); (case hr => first | (go_simp; done) | (go_simp; rfl)); intro gb101 hg w9 hbox hb; have BN2 := Aside0.mk (blk_below BN1.out hb); have hzn : w9.cell? ⟨gn, 0, none⟩ = some (.int .i64 a0) := (blk_cell BN2.out 0).trans rfl; have n0_ := Aside0.mk (below_step (by repeat (first | (with_reducible first | exact HB.out | apply below_alloc | apply pw_below_drewN | apply below_drew1) | exact HB.out)) hb); have n1_ := Aside0.mk (hbox); have n2_ := Aside0.mk ((by rw [hg]; exact (below_size (by repeat (first | (with_reducible first | exact HB.out | apply below_alloc | apply pw_below_drewN | apply below_drew1) | exact HB.out))) : w.heap.size ≤ gb101)); have n3_ := Aside0.mk ((by rw [hg]; exact (below_size (by repeat (first | (with_reducible first | exact HB.out | apply below_alloc | apply pw_below_drewN | apply below_drew1) | exact HB.out))) : w.heap.size ≤ gb101)); clear HB; have HB := n0_; have BK101 := n1_; have GW101 := n2_; have GE101 := n3_; clear n0_ n1_ n2_ n3_; clear hb hbox hg) | ((with_reducible refine gate_callee (f := 79) rfl ?_); refine goesL_ (some 5) rfl rfl Try.func79 (by kernel_rfl) rfl #[.int .i64 a0, .int .i64 2, .int .i64 6] rfl (by (try simp only [List.map_toArray, List.map_cons, List.map_nil]); first | done | rfl | (simp only [List.length_drop, List.length_take]; rfl)) ?_; (with_reducible refine (impl_within.calls a0 2 6 false _ A2.out).mono ?_); rintro e w' ⟨rfl, ⟨nd, rfl⟩⟩; refine ⟨_, rfl, ?_⟩; (try (rw [drewN_self w9]; generalize hq_ : World.drewN w9 _ = w9; have n0_ : Aside0 (w9.heap[gb101]? = some (.cells #[.int .i64 0, .int .i64 0, .slice none 0 0] 43 (0, 0))) := ⟨by rw [← hq_]; exact (by (with_reducible repeat (first | refine blk_drewN ?_ _ | refine blk_drew ?_ | refine blk_alloc ?_ _)); exact BK101.out)⟩; have n1_ : Aside0 (Below w.heap.size w w9) := ⟨by rw [← hq_]; exact (by repeat (first | (with_reducible first | exact HB.out | apply below_alloc | apply pw_below_drewN | apply below_drew1 | refine below_set ?_ GE101.out) | exact HB.out))⟩; have nn_ : Aside0 (w9.heap[gn]? = some (.cells #[.int .i64 a0] 3 (0, 0))) := ⟨by rw [← hq_]; exact (by (with_reducible repeat (first | refine blk_drewN ?_ _ | refine blk_drew ?_ | refine blk_alloc ?_ _)); exact BN2.out)⟩; clear BK101 HB hq_ BN2 hzn; have BK101 := n0_; have HB := n1_; have BN2 := nn_; clear n0_ n1_ nn_; have hzn : w9.cell? ⟨gn, 0, none⟩ = some (.int .i64 a0) := (blk_cell BN2.out 0).trans rfl)); have hcz10_0 : w9.cell? ⟨gb101, 0, none⟩ = some (.int .i64 0) := (blk_cell BK101.out 0).trans rfl; have hcz10_1 : w9.cell? ⟨gb101, 1, none⟩ = some (.int .i64 0) := (blk_cell BK101.out 1).trans rfl; have hcz10_2 : w9.cell? ⟨gb101, 2, none⟩ = some (.slice none 0 0) := (blk_cell BK101.out 2).trans rfl; have hfz10_0 := blk_frozen BK101.out 0; have hfz10_1 := blk_frozen BK101.out 1; have hfz10_2 := blk_frozen BK101.out 2))
    refine bodyPost_ret (results_ct rfl _ _ gb101 43 #[.int .i64 0, .int .i64 0, .slice none 0 0] (0, 0) _ rfl (by (with_reducible repeat (first | refine blk_drewN ?_ _ | refine blk_drew ?_ | refine blk_alloc ?_ _)); refine blk_put (cs := #[.int .i64 0, .int .i64 0, .slice none 0 0]) ?_ 2 _ rfl; (with_reducible repeat (first | refine blk_drewN ?_ _ | refine blk_drew ?_ | refine blk_alloc ?_ _)); refine blk_put (cs := #[.int .i64 0, .int .i64 0, .slice none 0 0]) ?_ 1 _ rfl; (with_reducible repeat (first | refine blk_drewN ?_ _ | refine blk_drew ?_ | refine blk_alloc ?_ _)); refine blk_put (cs := #[.int .i64 0, .int .i64 0, .slice none 0 0]) ?_ 0 _ rfl; (with_reducible repeat (first | refine blk_drewN ?_ _ | refine blk_drew ?_ | refine blk_alloc ?_ _)); exact BK101.out) Try.underlying43 rfl (by kernel_rfl)) rfl ?_
    exact ⟨_, by first | rfl | (simp [errW_none, errW_some] <;> rfl) | (simp [*, errW_none, errW_some] <;> rfl), by first | exact Kd.R_nil _ _ _ _ _ | exact Kd.N_nil _ _ _ _ _ | exact Kd.V_nil _ _ _ _ _ | exact Kd.Q_nil _ _ _ _ _ | exact Kd.S_nil _ _ _ _ _, by repeat (first | (with_reducible first | exact HB.out | apply below_alloc | apply pw_below_drewN | apply below_drew1 | refine below_set ?_ GE101.out) | exact HB.out)⟩
end Go.Proofs.Ytiopnmgcajohfaa.Q
end
