/- Texts of this claim put together (7): words, what the functions compute, and plain facts. No conditions. -/
import Derived.Test.YtadkkcdhgepbkaaSFnMatricesOfRanks4
import Derived.Test.YtadkkcdhgepbkaaSFnMatricesOfRanks6
import Derived.Test.YtadkkcdhgepbkaaSFnMatricesOfRanks5
import Derived.Outline
import Derived.Lib.Hide
import Derived.Deep.RegionWith
import Derived.Deep.RegionLaw
import Derived.Test.YtadkkcdhgepbkaaSFnMatricesOfRanks0
section
namespace Go.Proofs.Ytadkkcdhgepbkaa.Q
open Go.RowKit Go.Proofs.YtadkkcdhgepbkaaW.PrintWords Go.Proofs.YtadkkcdhgepbkaaW.PrintLast Go.Proofs.YtadkkcdhgepbkaaW.PrintMore
attribute [local go_sem] max2_int min2_int max_two min_two max_three min_three max_four min_four   -- for this text's walks alone
set_option linter.unusedVariables false
set_option linter.unusedSimpArgs false
def spec_wePower.l0:Nat→Int→Int→Int→Option (Int)
|0,_,_,_=>none
|k + 1,x0,x1,x5=>if x1 > 0 then (spec_wePower.l0 k x0 (wrap64 (x1 - 1)) (wrap64 (x5 * x0))) else (some x5)
def spec_wePower.f (k:Nat) (a0:Int) (a1:Int):Option (Int):=spec_wePower.l0 k a0 a1 1
theorem spec_wePower.mono_l:∀ k,(∀ y0 y1 y2,LeO (spec_wePower.l0 k y0 y1 y2) (spec_wePower.l0 (k + 1) y0 y1 y2))
|0=>fun _ _ _ r h=>by simp [spec_wePower.l0] at h
|k + 1=>by
  have ih0:=spec_wePower.mono_l k
  ·
   intro y0 y1 y2
   unfold spec_wePower.l0
   repeat' first
  |(with_reducible exact ih0 _ _ _)
  |(with_reducible exact LeO.refl _)
  |(with_reducible exact LeO.none _)
  |(with_reducible refine LeO.ite ?_ ?_)
  |(with_reducible refine LeO.bind ?_ (fun _=>?_))
  |exact ih0 _ _ _
  |exact LeO.none _
  |refine LeO.ite ?_ ?_
  |refine LeO.bind ?_ (fun _=>?_)
theorem spec_wePower.mono:∀ a0 a1 k,LeO (spec_wePower.f k a0 a1) (spec_wePower.f (k + 1) a0 a1):=by
 intro a0 a1 k;have ih0:=spec_wePower.mono_l k;unfold spec_wePower.f
 repeat' first
  |(with_reducible exact ih0 _ _ _)
  |(with_reducible exact LeO.refl _)
  |(with_reducible exact LeO.none _)
  |(with_reducible refine LeO.ite ?_ ?_)
  |(with_reducible refine LeO.bind ?_ (fun _=>?_))
  |exact ih0 _ _ _
  |exact LeO.none _
  |refine LeO.ite ?_ ?_
  |refine LeO.bind ?_ (fun _=>?_)
set_option maxHeartbeats 8000000 in
set_option maxRecDepth 100000 in
theorem spec_wePower.calls (k:Nat) (a0:Int) (a1:Int) (r:Int) (w:World) (h:spec_wePower.f k a0 a1=some r) :
  Calls Try.prog 41 #[.int .i64 a0,.int .i64 a1] w fun e w'=>e=.returned (.int .i64 r)∧Drawn0 w w':=by
 have H:(spec_wePower.l0 k a0 a1 1)=some r:=h;clear h;have H':=za H;clear H;(go_enter Try.func41,Try.ntmps41);(go_wp2);(go_loopg [1,5] k (fun kq v1 v5 w'=>∃ (x1_1:Int) (x5_1:Int),v1=.int .i64 x1_1∧v5=.int .i64 x5_1∧Aside0 (spec_wePower.l0 kq a0 x1_1 x5_1=some r)∧Aside0 (kq≤k)∧Drawn0 w w'));case atStart=>exact ⟨(a1),(1),(by first|rfl|(simp;done)|(simp [*];done)),(by first|rfl|(simp;done)|(simp [*];done)),H',⟨Nat.le_refl _⟩,by repeat (first|exact Drawn0.refl _|apply Drawn0.step)⟩
 case round =>
  clear H';(try clear p2);obtain ⟨x1_1,x5_1,rfl,rfl,HA,HK1,⟨m1,rfl⟩⟩:=hrel
  cases gk with
 |zero=>exact absurd HA.out (by simp [spec_wePower.l0])
 |succ k1 =>
   have H:=HA.out;clear HA;simp only [spec_wePower.l0] at H;by_cases c3:x1_1 > 0
   · rw [if_pos c3] at H;have c3b0:decide (0 < x1_1)=true:=decide_eq_true c3;clear c3;have H':=za H;clear H;(go_wp2);(go_roundg k1);(case measure=>have:=HK1.out;omega);case rel=>exact ⟨(wrap64 (x1_1 - 1)),(wrap64 (x5_1 * a0)),(by first|rfl|(simp;done)|(simp [*];done)),(by first|rfl|(simp;done)|(simp [*];done)),H',⟨by have:=HK1.out;omega⟩,by repeat (first|exact Drawn0.refl _|apply Drawn0.step)⟩
   · rw [if_neg c3] at H;have c3b0:decide (0 < x1_1)=false:=decide_eq_false c3;clear c3;obtain rfl:=Option.some.inj H;(go_wp2);(go_ret);exact ⟨by first|rfl|(simp;done)|(simp [*];done),by repeat (first|exact Drawn0.refl _|apply Drawn0.step)⟩
end Go.Proofs.Ytadkkcdhgepbkaa.Q
end
section
namespace Go.Proofs.Ytadkkcdhgepbkaa.Q
open Go.RowKit Go.Proofs.YtadkkcdhgepbkaaW.PrintWords Go.Proofs.YtadkkcdhgepbkaaW.PrintLast Go.Proofs.YtadkkcdhgepbkaaW.PrintMore
attribute [local go_sem] max2_int min2_int max_two min_two max_three min_three max_four min_four   -- for this text's walks alone
set_option linter.unusedVariables false
set_option linter.unusedSimpArgs false
def spec_weBase.f (a0:Int):Option (Bool):=(spec_l1In.f a0 2 3).bind fun t101=>(some t101)
set_option maxHeartbeats 8000000 in
set_option maxRecDepth 100000 in
theorem spec_weBase.calls (a0:Int) (r:Bool) (w:World) (h:spec_weBase.f a0=some r) :
  Calls Try.prog 34 #[.int .i64 a0] w fun e w'=>e=.returned (.bool r)∧Drawn0 w w':=by
 have H:((spec_l1In.f a0 2 3).bind fun t101=>(some t101))=some r:=h;clear h;obtain ⟨t101,A2,H⟩:=bindAside H;(try dsimp only at H);obtain rfl:=Option.some.inj H;(go_enter Try.func34,Try.ntmps34);(go_wp2_with (first|((with_reducible refine zh (f:=50) rfl ?_);refine goesL_ (some 4) rfl rfl Try.func50 (by kernel_rfl) rfl #[.int .i64 a0,.int .i64 2,.int .i64 3] rfl (by first|rfl|simp only [z3_,z4_,z5_];try rfl) ?_;(with_reducible refine (spec_l1In.calls a0 2 3 t101 _ A2.out).mono ?_);rintro e w' ⟨rfl,⟨nd,rfl⟩⟩;refine ⟨_,rfl,?_⟩)));(go_ret);exact ⟨by first|rfl|(simp;done)|(simp [*];done),by repeat (first|exact Drawn0.refl _|apply Drawn0.step)⟩
end Go.Proofs.Ytadkkcdhgepbkaa.Q
end
section
namespace Go.Proofs.Ytadkkcdhgepbkaa.Q
open Go.RowKit Go.Proofs.YtadkkcdhgepbkaaW.PrintWords Go.Proofs.YtadkkcdhgepbkaaW.PrintLast Go.Proofs.YtadkkcdhgepbkaaW.PrintMore
attribute [local go_sem] max2_int min2_int max_two min_two max_three min_three max_four min_four   -- for this text's walks alone
set_option linter.unusedVariables false
set_option linter.unusedSimpArgs false
def spec_weFew.f (k:Nat) (l0:List Int) (a1:Int):Option (Bool):=(spec_feGood.f k l0).bind fun t101=>(if t101=true then ((spec_weBase.f a1).bind fun t102=>(if t102=true then ((spec_weCells.f k l0).bind fun t103=>((spec_wePower.f k a1 t103).bind fun t104=>(some (decide (t104≤6561))))) else (some false))) else (some false))
set_option maxHeartbeats 8000000 in
set_option maxRecDepth 100000 in
theorem spec_weFew.calls (k:Nat) (A0:Option Addr) (c0:Nat) (l0:List Int) (a1:Int) (r:Bool) (w:World) (hr0:Kd.C (Kd.int .i64) w A0 l0.length l0) (hc0:l0.length≤c0) (h:spec_weFew.f k l0 a1=some r) :
  Calls Try.prog 39 #[.slice A0 l0.length c0,.int .i64 a1] w fun e w'=>e=.returned (.bool r)∧Drawn0 w w':=by
 have HR0:=za hr0;have HC0:=za hc0;clear hr0 hc0;have H:((spec_feGood.f k l0).bind fun t101=>(if t101=true then ((spec_weBase.f a1).bind fun t102=>(if t102=true then ((spec_weCells.f k l0).bind fun t103=>((spec_wePower.f k a1 t103).bind fun t104=>(some (decide (t104≤6561))))) else (some false))) else (some false)))=some r:=h;clear h;obtain ⟨t101,A3,H⟩:=bindAside H;(try dsimp only at H);by_cases c4:t101=true
 ·
  subst c4;(have H1:((spec_weBase.f a1).bind fun t102=>(if t102=true then ((spec_weCells.f k l0).bind fun t103=>((spec_wePower.f k a1 t103).bind fun t104=>(some (decide (t104≤6561))))) else (some false)))=some r:=by rw [if_pos rfl] at H;exact H);clear H;have H:=H1;clear H1;obtain ⟨t102,A5,H⟩:=bindAside H;(try dsimp only at H);by_cases c6:t102=true
  · subst c6;(have H1:((spec_weCells.f k l0).bind fun t103=>((spec_wePower.f k a1 t103).bind fun t104=>(some (decide (t104≤6561)))))=some r:=by rw [if_pos rfl] at H;exact H);clear H;have H:=H1;clear H1;obtain ⟨t103,A7,H⟩:=bindAside H;(try dsimp only at H);obtain ⟨t104,A8,H⟩:=bindAside H;(try dsimp only at H);obtain rfl:=Option.some.inj H;(go_enter Try.func39,Try.ntmps39);(go_wp2_with (first|((with_reducible refine zh (f:=52) rfl ?_);refine goesL_ (some 6) rfl rfl Try.func52 (by kernel_rfl) rfl #[.slice A0 l0.length c0] rfl (by first|rfl|simp only [z3_,z4_,z5_];try rfl) ?_;(with_reducible refine (spec_feGood.calls k _ _ l0 true _ ?side1 ?side2 A3.out).mono ?_);(case side1=>repeat (first|exact HR0.out|(with_reducible refine zi ?_ _)|(with_reducible refine zj ?_ _)|(with_reducible refine zk ?_)));(case side2=>exact HC0.out);rintro e w' ⟨rfl,⟨nd,rfl⟩⟩;refine ⟨_,rfl,?_⟩)|(go_at_call 34;(with_reducible refine (spec_weBase.calls a1 true _ A5.out).mono ?_);rintro e w' ⟨rfl,⟨nd,rfl⟩⟩)|(go_at_call 42;(with_reducible refine (spec_weCells.calls k _ _ l0 t103 _ ?side1 ?side2 A7.out).mono ?_);(case side1=>repeat (first|exact HR0.out|(with_reducible refine zi ?_ _)|(with_reducible refine zj ?_ _)|(with_reducible refine zk ?_)));(case side2=>exact HC0.out);rintro e w' ⟨rfl,⟨nd,rfl⟩⟩)|(go_at_call 41;(with_reducible refine (spec_wePower.calls k a1 t103 t104 _ A8.out).mono ?_);rintro e w' ⟨rfl,⟨nd,rfl⟩⟩)));(go_ret);exact ⟨by first|rfl|(simp;done)|(simp [*];done),by repeat (first|exact Drawn0.refl _|apply Drawn0.step)⟩
  · replace c6:=Bool.eq_false_iff.mpr c6;subst c6;(have H1:(some false)=some r:=by rw [if_neg (show ¬ (false=true) by decide)] at H;exact H);clear H;have H:=H1;clear H1;obtain rfl:=Option.some.inj H;(go_enter Try.func39,Try.ntmps39);(go_wp2_with (first|((with_reducible refine zh (f:=52) rfl ?_);refine goesL_ (some 6) rfl rfl Try.func52 (by kernel_rfl) rfl #[.slice A0 l0.length c0] rfl (by first|rfl|simp only [z3_,z4_,z5_];try rfl) ?_;(with_reducible refine (spec_feGood.calls k _ _ l0 true _ ?side1 ?side2 A3.out).mono ?_);(case side1=>repeat (first|exact HR0.out|(with_reducible refine zi ?_ _)|(with_reducible refine zj ?_ _)|(with_reducible refine zk ?_)));(case side2=>exact HC0.out);rintro e w' ⟨rfl,⟨nd,rfl⟩⟩;refine ⟨_,rfl,?_⟩)|(go_at_call 34;(with_reducible refine (spec_weBase.calls a1 false _ A5.out).mono ?_);rintro e w' ⟨rfl,⟨nd,rfl⟩⟩)));(go_ret);exact ⟨by first|rfl|(simp;done)|(simp [*];done),by repeat (first|exact Drawn0.refl _|apply Drawn0.step)⟩
 · replace c4:=Bool.eq_false_iff.mpr c4;subst c4;(have H1:(some false)=some r:=by rw [if_neg (show ¬ (false=true) by decide)] at H;exact H);clear H;have H:=H1;clear H1;obtain rfl:=Option.some.inj H;(go_enter Try.func39,Try.ntmps39);(go_wp2_with (first|((with_reducible refine zh (f:=52) rfl ?_);refine goesL_ (some 6) rfl rfl Try.func52 (by kernel_rfl) rfl #[.slice A0 l0.length c0] rfl (by first|rfl|simp only [z3_,z4_,z5_];try rfl) ?_;(with_reducible refine (spec_feGood.calls k _ _ l0 false _ ?side1 ?side2 A3.out).mono ?_);(case side1=>repeat (first|exact HR0.out|(with_reducible refine zi ?_ _)|(with_reducible refine zj ?_ _)|(with_reducible refine zk ?_)));(case side2=>exact HC0.out);rintro e w' ⟨rfl,⟨nd,rfl⟩⟩;refine ⟨_,rfl,?_⟩)));(go_ret);exact ⟨by first|rfl|(simp;done)|(simp [*];done),by repeat (first|exact Drawn0.refl _|apply Drawn0.step)⟩
end Go.Proofs.Ytadkkcdhgepbkaa.Q
end
section
namespace Go.Proofs.Ytadkkcdhgepbkaa.Q
open Go.RowKit Go.Proofs.YtadkkcdhgepbkaaW.PrintWords Go.Proofs.YtadkkcdhgepbkaaW.PrintLast Go.Proofs.YtadkkcdhgepbkaaW.PrintMore
attribute [local go_sem] max2_int min2_int max_two min_two max_three min_three max_four min_four   -- for this text's walks alone
set_option linter.unusedVariables false
set_option linter.unusedSimpArgs false
mutual
def spec_weMatrix.l0:Nat→List Int→Int→Int→List (List Int)→Int→Int→Option ((List (List Int)))
|0,_,_,_,_,_,_=>none
|k + 1,x0,x1,x2,x7,x12,x13=>if x13 < x12 then (if 0≤(x0.length:Int) then (if ((x0.length:Int):Int).toNat≤35184372088832 then (if x7.length < 5864062014805 then (spec_weMatrix.l0 k x0 x1 x2 (x7 ++ [(List.replicate ((x0.length:Int):Int).toNat 0)]) x12 (wrap64 (x13 + 1))) else (none)) else (none)) else (none)) else (spec_weMatrix.l1 k x1 x2 x7 x0 (x0.length:Int) 0)
def spec_weMatrix.l1:Nat→Int→Int→List (List Int)→List Int→Int→Int→Option ((List (List Int)))
|0,_,_,_,_,_,_=>none
|k + 1,x1,x2,x7,x22,x23,x24=>if x24 < x23 then (if 0≤x24 then (if x24 < (x22.length:Int) then (spec_weMatrix.l2 k x1 x2 x7 x24 (rd x22 x24) 0 x22 x23 x24) else (none)) else (none)) else (some x7)
def spec_weMatrix.l2:Nat→Int→Int→List (List Int)→Int→Int→Int→List Int→Int→Int→Option ((List (List Int)))
|0,_,_,_,_,_,_,_,_,_=>none
|k + 1,x1,x2,x7,x8,x9,x10,x22,x23,x24=>if x10 < x9 then (if 0≤x8 then (if x8 < (x7.length:Int) then (if x1=0 then (none) else (if 0≤x10 then (if x10 < ((rd_L2 x7 x8).length:Int) then (spec_weMatrix.l2 k x1 (wrap64 (Int.tdiv x2 x1)) (x7.set (x8:Int).toNat ((rd_L2 x7 x8).set (x10:Int).toNat (Int.tmod x2 x1))) x8 x9 (wrap64 (x10 + 1)) x22 x23 x24) else (none)) else (none))) else (none)) else (none)) else (spec_weMatrix.l1 k x1 x2 x7 x22 x23 (wrap64 (x24 + 1)))
end
def spec_weMatrix.f (k:Nat) (l0:List Int) (a1:Int) (a2:Int):Option ((List (List Int))):=spec_weMatrix.l0 k l0 a1 a2 ([]:List (List Int)) (l0.length:Int) 0
def spec_weMatrix.T12:Bool × List (List Nat × List Nat):=(true,[([],[]),([],[]),([0,1],[0,1]),([2],[2]),([],[]),([],[]),([],[]),([5,6],[5,6]),([3,4,0,1,2,3,4,5,6,7],[3,4]),([8,7,0,1,2,3,4,5,6,7],[7,8])])
def spec_weMatrix.B12:List Nat:=[0,0,3,7,0,0,0,96,255,511]
theorem spec_weMatrix.tab12:rtab .any (opsOf Try.f51 12)=spec_weMatrix.T12:=by kernel_rfl
theorem spec_weMatrix.bits12:waitsOk spec_weMatrix.T12.2 spec_weMatrix.B12=true:=by kernel_rfl
set_option maxHeartbeats 8000000 in
set_option maxRecDepth 100000 in
theorem spec_weMatrix.calls (k:Nat) (A0:Option Addr) (c0:Nat) (l0:List Int) (a1:Int) (a2:Int) (r:List (List Int)) (w:World) (hr0:Kd.C (Kd.int .i64) w A0 l0.length l0) (hc0:l0.length≤c0) (h:spec_weMatrix.f k l0 a1 a2=some r) :
  Calls Try.prog 51 #[.slice A0 l0.length c0,.int .i64 a1,.int .i64 a2] w fun e w'=>∃ v0_:Value,e=.returned (v0_)∧Kd.S (Kd.slice 3 (Kd.int .i64)) 29 w' w.heap.size (fun _=>True) v0_ r∧Below w.heap.size w w':=by
 have HR0:=za hr0;have HC0:=za hc0;clear hr0 hc0;have HB:=za (Below.refl w.heap.size w);have H:(spec_weMatrix.l0 k l0 a1 a2 ([]:List (List Int)) (l0.length:Int) 0)=some r:=h;clear h;have H':=za H;clear H;(go_enter Try.func51,Try.ntmps51);(go_wp2);(go_loopg [7,13] k (fun kq v7 v13 w'=>∃ (x7_1:List (List Int)) (x13_1:Int),v13=.int .i64 x13_1∧Aside0 (spec_weMatrix.l0 kq l0 a1 a2 x7_1 (l0.length:Int) x13_1=some r)∧Aside0 (kq≤k)∧Aside0 (Kd.S (Kd.slice 3 (Kd.int .i64)) 29 w' w.heap.size (fun _=>True) v7 x7_1)∧Aside0 (Below w.heap.size w w')));case atStart=>exact ⟨(([]:List (List Int))),(0),(by first|rfl|(simp;done)|(simp [*];done)),H',⟨Nat.le_refl _⟩,⟨by first|exact Kd.S_nil _ _ _ _ _|exact Kd.N_nil _ _ _ _ _|exact Kd.V_nil _ _ _ _ _|exact Kd.Q_nil _ _ _ _ _|exact Kd.R_nil _ _ _ _ _⟩,⟨by repeat (first|(with_reducible first|exact HB.out|apply zc|apply zd|apply zb)|exact HB.out)⟩⟩
 case round =>
  clear H';(try clear p2);obtain ⟨x7_1,x13_1,rfl,HA,HK1,HO_7,HB⟩:=hrel
  cases gk with
 |zero=>exact absurd HA.out (by simp [spec_weMatrix.l0])
 |succ k1 =>
   have H:=HA.out;clear HA;simp only [spec_weMatrix.l0] at H;by_cases c4:x13_1 < (l0.length:Int)
   ·
    rw [if_pos c4] at H;have c4b0:decide (x13_1 < (l0.length:Int))=true:=decide_eq_true c4;clear c4;by_cases c5:0≤(l0.length:Int)
    ·
     rw [if_pos c5] at H;have c5b0:=eq_true c5;have c5b1:decide (0≤(l0.length:Int))=true:=decide_eq_true c5;clear c5;by_cases c6:((l0.length:Int):Int).toNat≤35184372088832
     ·
      rw [if_pos c6] at H;have c6b0:=eq_true c6;have c6b1:decide (((l0.length:Int):Int).toNat≤35184372088832)=true:=decide_eq_true c6;clear c6;obtain ⟨y101,hy101⟩:∃ y_:List Int,y_=(List.replicate ((l0.length:Int):Int).toNat 0):=⟨_,rfl⟩;(replace H:(if x7_1.length < 5864062014805 then (spec_weMatrix.l0 k1 l0 a1 a2 (x7_1 ++ [y101]) (l0.length:Int) (wrap64 (x13_1 + 1))) else (none))=some r:=by first|(rw [hy101];with_reducible exact H)|(have H2_:=(Option.bind_some _ _).symm.trans H;rw [hy101];with_reducible exact H2_)|(have H2_:=(Option.bind_some _ _).symm.trans H;with_reducible exact H2_)|with_reducible exact H|(rw [hy101];exact H)|exact H);have Ny101:=za hy101;clear hy101;by_cases c7:x7_1.length < 5864062014805
      · rw [if_pos c7] at H;have LMc7:=za c7;clear c7;obtain ⟨y104,hy104⟩:∃ y_:List (List Int),y_=(x7_1 ++ [y101]):=⟨_,rfl⟩;(replace H:(spec_weMatrix.l0 k1 l0 a1 a2 y104 (l0.length:Int) (wrap64 (x13_1 + 1)))=some r:=by first|(rw [hy104];with_reducible exact H)|(have H2_:=(Option.bind_some _ _).symm.trans H;rw [hy104];with_reducible exact H2_)|(have H2_:=(Option.bind_some _ _).symm.trans H;with_reducible exact H2_)|with_reducible exact H|(rw [hy104];exact H)|exact H);have Ny104:=za hy104;clear hy104;have H':=za H;clear H;(go_wp2_with (first|((with_reducible refine gate_dst (N:=18) rfl ?_);refine Kd.R_make (Kd.int .i64) _ 3 rfl (N:=18) rfl 29 _ _ rfl (l0.length:Int) rfl rfl Try.underlying29 (.int .i64 0) 8 info3 rfl (by decide) (by omega) 0 (ok:=fun _=>True) (okp:=fun _=>True) rfl (fun _ hk=>hk) trivial (of_decide_eq_true ‹_›) (Nat.le_trans (Nat.mul_le_mul_right _ (of_decide_eq_true ‹_›:(l0.length:Int).toNat≤35184372088832)) (by omega)) (Below.refl _ _) (Nat.le_refl _) ?_;intro v102 w8 ho9 hb hg_ hnew_;clear hg_ hnew_;(first|rw [← Ny101.out] at ho9|(simp only [Int.reduceToNat] at ho9;rw [← Ny101.out] at ho9));replace HO_7:=za (Kd.S_elder' (by (with_reducible repeat (first|apply Kd.S_alloc|apply Kd.S_drewN|apply Kd.S_drew));exact HO_7.out) (Kd.R_base ho9) hb);have HO103:=za (Kd.R_lower ho9 (zr (by repeat (first|(with_reducible first|exact HB.out|apply zc|apply zd|apply zb)|exact HB.out))));replace HB:=za (below_step (by repeat (first|(with_reducible first|exact HB.out|apply zc|apply zd|apply zb)|exact HB.out)) hb);clear hb ho9;obtain ⟨Ao11,co11,eo11⟩:=Kd.R_slice HO103.out;subst eo11)|((with_reducible refine gate_builtin (b:=.append) (xs:=#[.tmp 15,.tmp 19]) rfl ?_);at_builtin;refine Kd.S_append (Kd.slice 3 (Kd.int .i64)) (w0:=w) w.heap.size rfl (.tmp 15) (.tmp 19) 24 29 (.slice none 0 0) 24 rfl Try.underlying24 info29 rfl (by decide) (by omega) u7 x7_1 y101 [.slice Ao11 y101.length co11] (fun _=>True) (fun k_=>some k_=(.slice Ao11 y101.length co11:Value).ownBlock) rfl rfl ?aP (fun k_ hk_=>((Kd.R_mono (ok':=fun k_=>((fun _=>True)) k_∧some k_ ≠ (u7:Value).ownBlock) (Kd.R_apart' (HO103.out) (Kd.S_typed HO_7.out) (by decide)) (fun k_ hk=>⟨trivial,hk.2⟩))).1 k_ hk_.symm) ?aF ?aO ?aB ?aS ?aL ?_;(case aP=>exact Kd.M_row (Kd.R_mono (Kd.R_tight rfl (Kd.R_mono (ok':=fun k_=>((fun _=>True)) k_∧some k_ ≠ (u7:Value).ownBlock) (Kd.R_apart' (HO103.out) (Kd.S_typed HO_7.out) (by decide)) (fun k_ hk=>⟨trivial,hk.2⟩))) (fun _ h_=>h_)));(case aB=>exact (by repeat (first|(with_reducible first|exact HB.out|apply zc|apply zd|apply zb)|exact HB.out)));(case aF=>exact (fun _ _=>trivial));(case aO=>exact (by (with_reducible repeat (first|apply Kd.S_alloc|apply Kd.S_drewN|apply Kd.S_drew));exact Kd.S_mono HO_7.out (fun k_ hk=>⟨trivial,fun e_=>hk.2 e_⟩)));(case aS=>exact (zr (by repeat (first|(with_reducible first|exact HB.out|apply zc|apply zd|apply zb)|exact HB.out))));(case aL=>have:=LMc7.out;omega);intro v105 w10 ho hb hg hat;rw [← Ny104.out] at ho;replace HB:=za (hb);have HO106:=za (ho);clear HO_7 HO103;clear ho hb hg hat)));(go_roundg k1);(case measure=>have:=HK1.out;omega);case rel=>exact ⟨(y104),(wrap64 (x13_1 + 1)),(by first|rfl|(simp;done)|(simp [*];done)),H',⟨by have:=HK1.out;omega⟩,⟨by (with_reducible repeat (first|apply Kd.S_alloc|apply Kd.S_drewN|apply Kd.S_drew));exact HO106.out⟩,⟨by repeat (first|(with_reducible first|exact HB.out|apply zc|apply zd|apply zb)|exact HB.out)⟩⟩
      · rw [if_neg c7] at H;exact absurd H (by simp)
     · rw [if_neg c6] at H;exact absurd H (by simp)
    · rw [if_neg c5] at H;exact absurd H (by simp)
   ·
    rw [if_neg c4] at H;have c4b0:decide (x13_1 < (l0.length:Int))=false:=decide_eq_false c4;clear c4;have H':=za H;clear H;(go_wp2);(go_loopg [2,24] k1 (fun kq v2 v24 w'=>∃ (x2_2:Int) (x7_2:List (List Int)) (x24_2:Int),v2=.int .i64 x2_2∧v24=.int .i64 x24_2∧Aside0 (spec_weMatrix.l1 kq a1 x2_2 x7_2 l0 (l0.length:Int) x24_2=some r)∧Aside0 (kq≤k1)∧Aside0 (Kd.S (Kd.slice 3 (Kd.int .i64)) 29 w' w.heap.size (fun _=>True) u7 x7_2)∧Aside0 (Below w.heap.size w w')));case atStart=>exact ⟨(a2),(x7_1),(0),(by first|rfl|(simp;done)|(simp [*];done)),(by first|rfl|(simp;done)|(simp [*];done)),H',⟨Nat.le_refl _⟩,⟨by (with_reducible repeat (first|apply Kd.S_alloc|apply Kd.S_drewN|apply Kd.S_drew));exact HO_7.out⟩,⟨by repeat (first|(with_reducible first|exact HB.out|apply zc|apply zd|apply zb)|exact HB.out)⟩⟩
    case round =>
     clear H';(try clear p2);(try clear c4);(try clear c4b0);(try clear c5);(try clear c5b0);(try clear c5b1);(try clear c6);(try clear c6b0);(try clear c6b1);(try clear p6);(try clear c7);(try clear p2);obtain ⟨x2_2,x7_2,x24_2,rfl,rfl,HA,HK2,HO_7,HB⟩:=hrel
     cases gk with
    |zero=>exact absurd HA.out (by simp [spec_weMatrix.l1])
    |succ k2 =>
      have H:=HA.out;clear HA;simp only [spec_weMatrix.l1] at H;by_cases c12:x24_2 < (l0.length:Int)
      ·
       rw [if_pos c12] at H;have c12b0:decide (x24_2 < (l0.length:Int))=true:=decide_eq_true c12;clear c12;by_cases c13:0≤x24_2
       ·
        rw [if_pos c13] at H;have c13b0:decide (0≤x24_2)=true:=decide_eq_true c13;clear c13;by_cases c14:x24_2 < (l0.length:Int)
        ·
         rw [if_pos c14] at H;have c14b0:decide (x24_2 < (l0.length:Int))=true:=decide_eq_true c14;clear c14;have H':=za H;clear H;have p107:0≤(x24_2:Int):=of_decide_eq_true ‹_›;have q107:x24_2 < (l0.length:Int):=of_decide_eq_true ‹_›;obtain ⟨ad107,e107,hx107_0⟩:=Kd.at_int HR0.out x24_2 p107 q107;cases e107;replace hx107_0:=(HB.out.cell (World.block_lt_of_cell? w _ hx107_0)).trans hx107_0;replace p107:=eq_true p107;replace q107:=eq_true q107;(go_wp2);(go_loopg [2,10] k2 (fun kq v2 v10 w'=>∃ (x2_3:Int) (x7_3:List (List Int)) (x10_3:Int),v2=.int .i64 x2_3∧v10=.int .i64 x10_3∧Aside0 (spec_weMatrix.l2 kq a1 x2_3 x7_3 x24_2 (rd l0 x24_2) x10_3 l0 (l0.length:Int) x24_2=some r)∧Aside0 (kq≤k2)∧Aside0 (Kd.S (Kd.slice 3 (Kd.int .i64)) 29 w' w.heap.size (fun _=>True) u7 x7_3)∧Aside0 (Below w.heap.size w w')));case atStart=>exact ⟨(x2_2),(x7_2),(0),(by first|rfl|(simp;done)|(simp [*];done)),(by first|rfl|(simp;done)|(simp [*];done)),H',⟨Nat.le_refl _⟩,⟨by (with_reducible repeat (first|apply Kd.S_alloc|apply Kd.S_drewN|apply Kd.S_drew));exact HO_7.out⟩,⟨by repeat (first|(with_reducible first|exact HB.out|apply zc|apply zd|apply zb)|exact HB.out)⟩⟩
         case round =>
          clear H';(try clear c1);(try clear p1);(try clear q1);(try clear hx1);(try clear p2);(try clear c4);(try clear c4b0);(try clear c5);(try clear c5b0);(try clear c5b1);(try clear c6);(try clear c6b0);(try clear c6b1);(try clear p6);(try clear c7);(try clear p10);(try clear q10);(try clear hx10);(try clear c12);(try clear c12b0);(try clear c13);(try clear c13b0);(try clear c14);(try clear c14b0);(try clear hx107_0);(try clear p107);(try clear p2);(try clear p6);(try clear q107);obtain ⟨x2_3,x7_3,x10_3,rfl,rfl,HA,HK3,HO_7,HB⟩:=hrel
          cases gk with
         |zero=>exact absurd HA.out (by simp [spec_weMatrix.l2])
         |succ k3 =>
           have H:=HA.out;clear HA;simp only [spec_weMatrix.l2] at H;by_cases c15:x10_3 < (rd l0 x24_2)
           ·
            rw [if_pos c15] at H;have c15b0:decide (x10_3 < (rd l0 x24_2))=true:=decide_eq_true c15;clear c15;by_cases c16:0≤x24_2
            ·
             rw [if_pos c16] at H;have c16b0:decide (0≤x24_2)=true:=decide_eq_true c16;clear c16;by_cases c17:x24_2 < (x7_3.length:Int)
             ·
              rw [if_pos c17] at H;have c17b0:decide (x24_2 < (x7_3.length:Int))=true:=decide_eq_true c17;clear c17;by_cases c18:a1=0
              · rw [if_pos c18] at H;exact absurd H (by simp)
              ·
               rw [if_neg c18] at H;have c18b0:(a1 == 0)=false:=beq_eq_false_iff_ne.mpr c18;have c18b1:(a1 != 0)=true:=bne_iff_ne.mpr c18;by_cases c19:0≤x10_3
               ·
                rw [if_pos c19] at H;have c19b0:decide (0≤x10_3)=true:=decide_eq_true c19;clear c19;by_cases c20:x10_3 < ((rd_L2 x7_3 x24_2).length:Int)
                ·
                 rw [if_pos c20] at H;have c20b0:decide (x10_3 < ((rd_L2 x7_3 x24_2).length:Int))=true:=decide_eq_true c20;clear c20;obtain ⟨y109,hy109⟩:∃ y_:List Int,y_=((rd_L2 x7_3 x24_2).set (x10_3:Int).toNat (Int.tmod x2_3 a1)):=⟨_,rfl⟩;(replace H:(spec_weMatrix.l2 k3 a1 (wrap64 (Int.tdiv x2_3 a1)) (x7_3.set (x24_2:Int).toNat y109) x24_2 (rd l0 x24_2) (wrap64 (x10_3 + 1)) l0 (l0.length:Int) x24_2)=some r:=by first|(rw [hy109];with_reducible exact H)|(have H2_:=(Option.bind_some _ _).symm.trans H;rw [hy109];with_reducible exact H2_)|(have H2_:=(Option.bind_some _ _).symm.trans H;with_reducible exact H2_)|with_reducible exact H|(rw [hy109];exact H)|exact H);have Ny109:=za hy109;clear hy109;obtain ⟨y111,hy111⟩:∃ y_:List (List Int),y_=(x7_3.set (x24_2:Int).toNat y109):=⟨_,rfl⟩;(replace H:(spec_weMatrix.l2 k3 a1 (wrap64 (Int.tdiv x2_3 a1)) y111 x24_2 (rd l0 x24_2) (wrap64 (x10_3 + 1)) l0 (l0.length:Int) x24_2)=some r:=by first|(rw [hy111];with_reducible exact H)|(have H2_:=(Option.bind_some _ _).symm.trans H;rw [hy111];with_reducible exact H2_)|(have H2_:=(Option.bind_some _ _).symm.trans H;with_reducible exact H2_)|with_reducible exact H|(rw [hy111];exact H)|exact H);have Ny111:=za hy111;clear hy111;have H':=za H;clear H;(try go_wp2);replace HO_7:=za (Kd.S_drew HO_7.out);replace HB:=za (zb HB.out);obtain ⟨Ao23,co23,eo23⟩:=Kd.S_slice HO_7.out;(first|subst eo23|(injection eo23 with f1_ f2_ f3_;have f4_:=f1_.symm;have f5_:=f3_.symm;clear f1_ f2_ f3_;subst f4_;subst f5_));have p108:0≤(x24_2:Int):=of_decide_eq_true ‹_›;have q108:x24_2 < (x7_3.length:Int):=of_decide_eq_true ‹_›;obtain ⟨ad108,A108_0,c108_0,e108,hx108_0,hl108_0,hi108_0⟩:=at_L2 (Kd.S_reads' HO_7.out).2.2 x24_2 p108 q108;cases e108;obtain ⟨ce108,hce108,hMe108,hcc108⟩:=Kd.S_get HO_7.out [] x24_2 p108 (by first|exact q108|exact of_decide_eq_true ‹_›|(have e_:=(Kd.S_reads' HO_7.out).1;omega));obtain ⟨ve108_0,rfl,ge108_0⟩:=hMe108;have hv108_0:=hcc108 0 _ rfl;rw [Nat.add_zero,show ((Kd.slice 3 (Kd.int .i64))).sz=1 from rfl,Nat.mul_one] at hv108_0;replace hv108_0:=Option.some.inj (hv108_0.symm.trans hx108_0);rw [hv108_0] at ge108_0;have HL108_0:=za (show Kd.R (Kd.int .i64) 3 _ _ _ _ (rd_L2 x7_3 x24_2) from ge108_0);clear hv108_0 ge108_0;have HX108_0:=za hx108_0;clear hcc108 hce108;have HR108_0:=za hi108_0;have HC108_0:=za hl108_0;clear hi108_0 hl108_0;replace p108:=eq_true p108;replace q108:=eq_true q108;have p21:0≤(x10_3:Int):=of_decide_eq_true ‹_›;have q21:(x10_3:Int) < (((rd_L2 x7_3 x24_2).length:Int):Int):=of_decide_eq_true ‹_›;obtain ⟨go21,co21,eo21,gb21,gl21,cl21,HG21⟩:=Kd.R_form HL108_0.out (by omega);(first|cases eo21|(injection eo21 with ea_ en_ ec_;(first|subst ea_|(injection ea_ with ea_;subst ea_));subst ec_;clear en_));have GB21:=za gb21;have GG21:=za HG21;clear gb21 gl21 HG21;obtain ⟨hx21_0,hf21_0⟩:=Kd.R_celln 0 HL108_0.out (x10_3:Int) p21 q21;replace p21:=eq_true p21;replace q21:=eq_true q21;have hq24:(x24_2:Int) < (x7_3.length:Int):=(by have h_:(x24_2:Int) < ((x7_3.length:Int):Int):=of_decide_eq_true ‹_›;first|exact h_|(have e_:=(Kd.S_reads' HO_7.out).1;omega)|simpa only [List.length_set,List.length_set] using h_);obtain ⟨oki24,ce24,hcl24,hM24,hcc24,hok24,hbk24⟩:=Kd.S_borrow HO_7.out [] (x24_2:Int) (of_decide_eq_true ‹_›) hq24;obtain ⟨ve24_0,rfl,ge24_0⟩:=hM24;have hv24:=hcc24 0 _ rfl;rw [Nat.add_zero,show ((Kd.slice 3 (Kd.int .i64))).sz=1 from rfl,Nat.mul_one] at hv24;replace hv24:=Option.some.inj (hv24.symm.trans HX108_0.out);subst hv24;clear hcc24 hcl24;replace ge24_0:=(show Kd.R (Kd.int .i64) 3 _ _ _ _ (rd_L2 x7_3 x24_2) from ge24_0);have HP24:=Kd.R_putg ge24_0 (x10_3:Int) (Int.tmod x2_3 a1);rw [← Ny109.out] at HP24;have HS24:=hbk24 HP24.2 (fun k_ e_=>by injection e_ with e_;subst e_;exact ge24_0.1 _ rfl) (x':=y109) (Kd.M_row HP24.1);rw [← Ny111.out] at HS24;have HQ24:=za HS24;clear HP24 HS24 hbk24 hok24;refine start_ (n:=10) (S:=fun w'=>w'.cell? (ad108.add (x24_2).toNat)=some (.slice (some ⟨go21,0,none⟩) (rd_L2 x7_3 x24_2).length c108_0)) (ds:=[9]) #[false,false,false,false,false,false,false,false,false,false] (by kernel_rfl) rfl rfl (hx108_0) (fun hHeld=>?_);refine with_tabW spec_weMatrix.tab12 spec_weMatrix.bits12 (fun HT_ HW_=>?_);generalize wr.drew=w22 at HO_7 HB GG21 HL108_0 HQ24 HR108_0 HX108_0 hf21_0 hx108_0 hx21_0 hHeld ⊢;refine pure_ (i:=0) (N:=some 34) (v:=?_) (a':=?_) #[true,false,false,false,false,false,false,false,false,false] rfl rfl (any_of HT_.out (by kernel_rfl)) (fun _ _ _ h=>h) (Or.inl ⟨by rfl,?_⟩) ?_ ?_;rotate_left
                 · intro w';go_simp;with_reducible rfl
                 rotate_left
                 · simp only [Act.put,z0_,z1_,z2_,i64_w,i32_w];rfl
                 refine pure_ (i:=1) (N:=some 35) (v:=?_) (a':=?_) #[true,true,false,false,false,false,false,false,false,false] rfl rfl (any_of HT_.out (by kernel_rfl)) (fun _ _ _ h=>h) (Or.inl ⟨by rfl,?_⟩) ?_ ?_;rotate_left
                 · intro w';go_simp;with_reducible rfl
                 rotate_left
                 · simp only [Act.put,z0_,z1_,z2_,i64_w,i32_w];rfl
                 refine pure_ (i:=2) (N:=some 36) (v:=?_) (a':=?_) #[true,true,true,false,false,false,false,false,false,false] rfl rfl (any_of HT_.out (by kernel_rfl)) (fun _ _ _ h=>h) (Or.inl ⟨by rfl,?_⟩) ?_ ?_;rotate_left
                 · intro w';go_simp;with_reducible rfl
                 rotate_left
                 · simp only [Act.put,z0_,z1_,z2_,i64_w,i32_w];rfl
                 refine pure_ (i:=4) (N:=some 38) (v:=?_) (a':=?_) #[true,true,true,false,true,false,false,false,false,false] rfl rfl (any_of HT_.out (by kernel_rfl)) (fun _ _ _ h=>h) (Or.inl ⟨by rfl,?_⟩) ?_ ?_;rotate_left
                 · intro w';go_simp;with_reducible rfl
                 rotate_left
                 · simp only [Act.put,z0_,z1_,z2_,i64_w,i32_w];rfl
                 refine pure_ (i:=5) (N:=some 39) (v:=?_) (a':=?_) #[true,true,true,false,true,true,false,false,false,false] rfl rfl (any_of HT_.out (by kernel_rfl)) (fun _ _ _ h=>h) (Or.inl ⟨by rfl,?_⟩) ?_ ?_;rotate_left
                 · intro w';go_simp;with_reducible rfl
                 rotate_left
                 · simp only [Act.put,z0_,z1_,z2_,i64_w,i32_w];rfl
                 refine pure_ (i:=6) (N:=some 40) (v:=?_) (a':=?_) #[true,true,true,false,true,true,true,false,false,false] rfl rfl (any_of HT_.out (by kernel_rfl)) (fun _ _ _ h=>h) (Or.inl ⟨by rfl,?_⟩) ?_ ?_;rotate_left
                 · intro w';go_simp;with_reducible rfl
                 rotate_left
                 · simp only [Act.put,z0_,z1_,z2_,i64_w,i32_w];rfl
                 refine pure_ (i:=7) (N:=some 41) (v:=?_) (a':=?_) #[true,true,true,false,true,true,true,true,false,false] rfl rfl (any_of HT_.out (by kernel_rfl)) (fun _ _ _ h=>h) (Or.inl ⟨by rfl,?_⟩) ?_ ?_;rotate_left
                 · intro w';go_simp;with_reducible rfl
                 rotate_left
                 · simp only [Act.put,z0_,z1_,z2_,i64_w,i32_w];rfl
                 refine take_ (i:=3) (N:=some 37) (v:=?_) (a':=?_) #[true,true,true,true,true,true,true,true,false,false] rfl rfl (take_ofW HT_.out HW_.out (by kernel_rfl)) (fun _ _ _ h=>h) (Or.inl ⟨by rfl,?_⟩) hHeld ?_ ?_;rotate_left
                 · intro w' s0;go_simp;with_reducible rfl
                 rotate_left
                 · simp only [Act.put,z0_,z1_,z2_,i64_w,i32_w];rfl
                 refine pure_ (i:=8) (N:=some 42) (v:=?_) (a':=?_) #[true,true,true,true,true,true,true,true,true,false] rfl rfl (any_of HT_.out (by kernel_rfl)) (fun _ _ _ h=>h) (Or.inl ⟨by rfl,?_⟩) ?_ ?_;rotate_left
                 · intro w';go_simp;with_reducible rfl
                 rotate_left
                 · simp only [Act.put,z0_,z1_,z2_,i64_w,i32_w];rfl
                 refine last_ (i:=9) (N:=none) #[true,true,true,true,true,true,true,true,true,true] rfl rfl (one_of HT_.out (by kernel_rfl)) (by decide) (fun K hK=>?_);refine skip_ (w1:=?_) (by rfl) rfl ?_ ?_;rotate_left
                 · go_simp;rfl
                 refine hK.out _ _ ?_;clear hK K;refine done_ (done_of HT_.out (by kernel_rfl)) ?_;(try go_wp2);(go_roundg k3);(case measure=>have:=HK1.out;have:=HK2.out;have:=HK3.out;omega);case rel=>exact ⟨(wrap64 (Int.tdiv x2_3 a1)),(y111),(wrap64 (x10_3 + 1)),(by first|rfl|(simp;done)|(simp [*];done)),(by first|rfl|(simp;done)|(simp [*];done)),H',⟨by have:=HK1.out;have:=HK2.out;have:=HK3.out;omega⟩,⟨by (with_reducible repeat (first|apply Kd.S_alloc|apply Kd.S_drewN|apply Kd.S_drew));exact HQ24.out⟩,⟨by repeat (first|(with_reducible first|exact HB.out|apply zc|apply zd|apply zb|refine zm ?_ GB21.out)|exact HB.out)⟩⟩
                · rw [if_neg c20] at H;exact absurd H (by simp)
               · rw [if_neg c19] at H;exact absurd H (by simp)
             · rw [if_neg c17] at H;exact absurd H (by simp)
            · rw [if_neg c16] at H;exact absurd H (by simp)
           · rw [if_neg c15] at H;have c15b0:decide (x10_3 < (rd l0 x24_2))=false:=decide_eq_false c15;clear c15;have H':=za H;clear H;(go_wp2);(go_roundg k3);(case measure=>have:=HK1.out;have:=HK2.out;have:=HK3.out;omega);case rel=>exact ⟨(x2_3),(x7_3),(wrap64 (x24_2 + 1)),(by first|rfl|(simp;done)|(simp [*];done)),(by first|rfl|(simp;done)|(simp [*];done)),H',⟨by have:=HK1.out;have:=HK2.out;have:=HK3.out;omega⟩,⟨by (with_reducible repeat (first|apply Kd.S_alloc|apply Kd.S_drewN|apply Kd.S_drew));exact HO_7.out⟩,⟨by repeat (first|(with_reducible first|exact HB.out|apply zc|apply zd|apply zb)|exact HB.out)⟩⟩
        · rw [if_neg c14] at H;exact absurd H (by simp)
       · rw [if_neg c13] at H;exact absurd H (by simp)
      · rw [if_neg c12] at H;have c12b0:decide (x24_2 < (l0.length:Int))=false:=decide_eq_false c12;clear c12;obtain rfl:=Option.some.inj H;(go_wp2);(go_ret);exact ⟨_,by first|rfl|simp [*,errW_none,errW_some] <;> rfl,by (with_reducible repeat (first|apply Kd.S_alloc|apply Kd.S_drewN|apply Kd.S_drew));exact HO_7.out,by repeat (first|(with_reducible first|exact HB.out|apply zc|apply zd|apply zb)|exact HB.out)⟩
end Go.Proofs.Ytadkkcdhgepbkaa.Q
end
section
namespace Go.Proofs.Ytadkkcdhgepbkaa.Q
open Go.RowKit Go.Proofs.YtadkkcdhgepbkaaW.PrintWords Go.Proofs.YtadkkcdhgepbkaaW.PrintLast Go.Proofs.YtadkkcdhgepbkaaW.PrintMore
attribute [local go_sem] max2_int min2_int max_two min_two max_three min_three max_four min_four   -- for this text's walks alone
set_option linter.unusedVariables false
set_option linter.unusedSimpArgs false
def spec_RankCountsPlain.l0:Nat→List Int→Int→List Int→Int→Option (List Int × Bool)
|0,_,_,_,_=>none
|k + 1,x0,x1,x6,x7=>(spec_weCells.f k x0).bind fun t105=>((spec_wePower.f k x1 t105).bind fun t106=>(if x7 < t106 then ((spec_weMatrix.f k x0 x1 x7).bind fun t107=>((spec_weRank.f k t107 x1).bind fun t110=>(if 0≤t110 then (if t110 < (x6.length:Int) then (spec_RankCountsPlain.l0 k x0 x1 (x6.set (t110:Int).toNat (wrap64 ((rd x6 t110) + 1))) (wrap64 (x7 + 1))) else (none)) else (none)))) else (some (x6,true))))
def spec_RankCountsPlain.f (k:Nat) (l0:List Int) (a1:Int):Option (List Int × Bool):=(spec_weFew.f k l0 a1).bind fun t101=>(if t101=true then (if 0≤(wrap64 ((l0.length:Int) + 1)) then (if (wrap64 ((l0.length:Int) + 1):Int).toNat≤35184372088832 then (spec_RankCountsPlain.l0 k l0 a1 (List.replicate (wrap64 ((l0.length:Int) + 1):Int).toNat 0) 0) else (none)) else (none)) else (some (([]:List Int),false)))
set_option maxHeartbeats 8000000 in
set_option maxRecDepth 100000 in
theorem spec_RankCountsPlain.calls (k:Nat) (A0:Option Addr) (c0:Nat) (l0:List Int) (a1:Int) (r1:List Int) (r2:Bool) (w:World) (hr0:Kd.C (Kd.int .i64) w A0 l0.length l0) (hc0:l0.length≤c0) (h:spec_RankCountsPlain.f k l0 a1=some (r1,r2)) :
  Calls Try.prog 22 #[.slice A0 l0.length c0,.int .i64 a1] w fun e w'=>∃ v0_:Value,e=.returned (.tuple #[v0_,.bool r2])∧Kd.R (Kd.int .i64) 3 w' w.heap.size (fun _=>True) v0_ r1∧Below w.heap.size w w':=by
 have HR0:=za hr0;have HC0:=za hc0;clear hr0 hc0;have HB:=za (Below.refl w.heap.size w);have H:((spec_weFew.f k l0 a1).bind fun t101=>(if t101=true then (if 0≤(wrap64 ((l0.length:Int) + 1)) then (if (wrap64 ((l0.length:Int) + 1):Int).toNat≤35184372088832 then (spec_RankCountsPlain.l0 k l0 a1 (List.replicate (wrap64 ((l0.length:Int) + 1):Int).toNat 0) 0) else (none)) else (none)) else (some (([]:List Int),false))))=some (r1,r2):=h;clear h;obtain ⟨t101,A3,H⟩:=bindAside H;(try dsimp only at H);by_cases c4:t101=true
 ·
  subst c4;(have H1:(if 0≤(wrap64 ((l0.length:Int) + 1)) then (if (wrap64 ((l0.length:Int) + 1):Int).toNat≤35184372088832 then (spec_RankCountsPlain.l0 k l0 a1 (List.replicate (wrap64 ((l0.length:Int) + 1):Int).toNat 0) 0) else (none)) else (none))=some (r1,r2):=by rw [if_pos rfl] at H;exact H);clear H;have H:=H1;clear H1;obtain ⟨ji5,hji5⟩:∃ j_:Int,(wrap64 ((l0.length:Int) + 1))=j_:=⟨_,rfl⟩;(replace H:(if 0≤(ji5) then (if (ji5:Int).toNat≤35184372088832 then (spec_RankCountsPlain.l0 k l0 a1 (List.replicate (ji5:Int).toNat 0) 0) else (none)) else (none))=some (r1,r2):=by first|(rw [hji5] at H;exact H)|(simp only [hji5] at H ⊢;exact H));(try rw [hji5] at A3);have hji5w:(IntKind.i64.wrap ((l0.length:Int) + 1))=ji5:=(i64_w _).trans hji5;by_cases c6:0≤(ji5)
  ·
   rw [if_pos c6] at H;have c6b0:=eq_true c6;have c6b1:decide (0≤(ji5))=true:=decide_eq_true c6;clear c6;by_cases c7:(ji5:Int).toNat≤35184372088832
   ·
    rw [if_pos c7] at H;have c7b0:=eq_true c7;have c7b1:decide ((ji5:Int).toNat≤35184372088832)=true:=decide_eq_true c7;clear c7;obtain ⟨y102,hy102⟩:∃ y_:List Int,y_=(List.replicate (ji5:Int).toNat 0):=⟨_,rfl⟩;(replace H:(spec_RankCountsPlain.l0 k l0 a1 y102 0)=some (r1,r2):=by first|(rw [hy102];with_reducible exact H)|(have H2_:=(Option.bind_some _ _).symm.trans H;rw [hy102];with_reducible exact H2_)|(have H2_:=(Option.bind_some _ _).symm.trans H;with_reducible exact H2_)|with_reducible exact H|(rw [hy102];exact H)|exact H);have Ny102:=za hy102;clear hy102;have H':=za H;clear H;(go_enter Try.func22,Try.ntmps22);(go_wp2_with (first|((with_reducible refine zh (f:=39) rfl ?_);refine goesL_ (some 10) rfl rfl Try.func39 (by kernel_rfl) rfl #[.slice A0 l0.length c0,.int .i64 a1] rfl (by first|rfl|simp only [z3_,z4_,z5_];try rfl) ?_;(with_reducible refine (spec_weFew.calls k _ _ l0 a1 true _ ?side1 ?side2 A3.out).mono ?_);(case side1=>repeat (first|exact HR0.out|(with_reducible refine zi ?_ _)|(with_reducible refine zj ?_ _)|(with_reducible refine zk ?_)));(case side2=>exact HC0.out);rintro e w' ⟨rfl,⟨nd,rfl⟩⟩;refine ⟨_,rfl,?_⟩)|((with_reducible refine gate_dst (N:=15) rfl ?_);refine Kd.R_make (Kd.int .i64) _ 3 rfl (N:=15) rfl 29 _ _ rfl ji5 rfl rfl Try.underlying29 (.int .i64 0) 8 info3 rfl (by decide) (by omega) 0 (ok:=fun _=>True) (okp:=fun _=>True) rfl (fun _ hk=>hk) trivial (of_decide_eq_true ‹_›) (Nat.le_trans (Nat.mul_le_mul_right _ (of_decide_eq_true ‹_›:ji5.toNat≤35184372088832)) (by omega)) (Below.refl _ _) (Nat.le_refl _) ?_;intro v103 w8 ho9 hb hg_ hnew_;clear hg_ hnew_;(first|rw [← Ny102.out] at ho9|(simp only [Int.reduceToNat] at ho9;rw [← Ny102.out] at ho9));have HO104:=za (Kd.R_lower ho9 (zr (by repeat (first|(with_reducible first|exact HB.out|apply zc|apply zd|apply zb)|exact HB.out))));replace HB:=za (below_step (by repeat (first|(with_reducible first|exact HB.out|apply zc|apply zd|apply zb)|exact HB.out)) hb);clear hb ho9)));(go_loopg [7] k (fun kq v7 w'=>∃ (x6_1:List Int) (x7_1:Int),v7=.int .i64 x7_1∧Aside0 (spec_RankCountsPlain.l0 kq l0 a1 x6_1 x7_1=some (r1,r2))∧Aside0 (kq≤k)∧Aside0 (Kd.R (Kd.int .i64) 3 w' w.heap.size (fun _=>True) v103 x6_1)∧Aside0 (Below w.heap.size w w')));case atStart=>exact ⟨(y102),(0),(by first|rfl|(simp;done)|(simp [*];done)),H',⟨Nat.le_refl _⟩,⟨by (with_reducible repeat (first|apply zf|apply zg|apply ze));exact HO104.out⟩,⟨by repeat (first|(with_reducible first|exact HB.out|apply zc|apply zd|apply zb)|exact HB.out)⟩⟩
    case round =>
     clear H';(try clear c2);(try clear p2);(try clear c3);(try clear c4);(try clear c6);(try clear c6b0);(try clear c6b1);(try clear p6);(try clear c7);(try clear c7b0);(try clear c7b1);obtain ⟨x6_1,x7_1,rfl,HA,HK1,HO_6,HB⟩:=hrel
     cases gk with
    |zero=>exact absurd HA.out (by simp [spec_RankCountsPlain.l0])
    |succ k1 =>
      have H:=HA.out;clear HA;simp only [spec_RankCountsPlain.l0] at H;obtain ⟨t105,A10,H⟩:=bindAside H;(try dsimp only at H);obtain ⟨t106,A11,H⟩:=bindAside H;(try dsimp only at H);by_cases c12:x7_1 < t106
      ·
       rw [if_pos c12] at H;have c12b0:decide (x7_1 < t106)=true:=decide_eq_true c12;clear c12;obtain ⟨t107,A13,H⟩:=bindAside H;(try dsimp only at H);obtain ⟨t110,A14,H⟩:=bindAside H;(try dsimp only at H);by_cases c15:0≤t110
       ·
        rw [if_pos c15] at H;have c15b0:decide (0≤t110)=true:=decide_eq_true c15;clear c15;by_cases c16:t110 < (x6_1.length:Int)
        · rw [if_pos c16] at H;have c16b0:decide (t110 < (x6_1.length:Int))=true:=decide_eq_true c16;clear c16;obtain ⟨y112,hy112⟩:∃ y_:List Int,y_=(x6_1.set (t110:Int).toNat (wrap64 ((rd x6_1 t110) + 1))):=⟨_,rfl⟩;(replace H:(spec_RankCountsPlain.l0 k1 l0 a1 y112 (wrap64 (x7_1 + 1)))=some (r1,r2):=by first|(rw [hy112];with_reducible exact H)|(have H2_:=(Option.bind_some _ _).symm.trans H;rw [hy112];with_reducible exact H2_)|(have H2_:=(Option.bind_some _ _).symm.trans H;with_reducible exact H2_)|with_reducible exact H|(rw [hy112];exact H)|exact H);have Ny112:=za hy112;clear hy112;have H':=za H;clear H;(go_wp2_with (first|((with_reducible refine zh (f:=42) rfl ?_);refine goesL_ (some 19) rfl rfl Try.func42 (by kernel_rfl) rfl #[.slice A0 l0.length c0] rfl (by first|rfl|simp only [z3_,z4_,z5_];try rfl) ?_;(with_reducible refine (spec_weCells.calls k1 _ _ l0 t105 _ ?side1 ?side2 A10.out).mono ?_);(case side1=>repeat (first|exact (Kd.C_below HR0.out HB.out)|(with_reducible refine zi ?_ _)|(with_reducible refine zj ?_ _)|(with_reducible refine zk ?_)));(case side2=>exact HC0.out);rintro e w' ⟨rfl,⟨nd,rfl⟩⟩;refine ⟨_,rfl,?_⟩;(try (rw [drewN_self wr];generalize hq_:World.drewN wr _=wr;have n0_:Aside0 (Kd.R (Kd.int .i64) 3 wr w.heap.size (fun _=>True) v103 x6_1):=⟨by rw [← hq_];exact (by (with_reducible repeat (first|apply zf|apply zg|apply ze));exact HO_6.out)⟩;have n1_:Aside0 (Below w.heap.size w wr):=⟨by rw [← hq_];exact (by repeat (first|(with_reducible first|exact HB.out|apply zc|apply zd|apply zb)|exact HB.out))⟩;clear HO_6 HB hq_;have HO_6:=n0_;have HB:=n1_;clear n0_ n1_)))|((with_reducible refine zh (f:=41) rfl ?_);refine goesL_ (some 20) rfl rfl Try.func41 (by kernel_rfl) rfl #[.int .i64 a1,.int .i64 t105] rfl (by first|rfl|simp only [z3_,z4_,z5_];try rfl) ?_;(with_reducible refine (spec_wePower.calls k1 a1 t105 t106 _ A11.out).mono ?_);rintro e w' ⟨rfl,⟨nd,rfl⟩⟩;refine ⟨_,rfl,?_⟩;(try (rw [drewN_self wr];generalize hq_:World.drewN wr _=wr;have n0_:Aside0 (Kd.R (Kd.int .i64) 3 wr w.heap.size (fun _=>True) v103 x6_1):=⟨by rw [← hq_];exact (by (with_reducible repeat (first|apply zf|apply zg|apply ze));exact HO_6.out)⟩;have n1_:Aside0 (Below w.heap.size w wr):=⟨by rw [← hq_];exact (by repeat (first|(with_reducible first|exact HB.out|apply zc|apply zd|apply zb)|exact HB.out))⟩;clear HO_6 HB hq_;have HO_6:=n0_;have HB:=n1_;clear n0_ n1_)))|((with_reducible refine zh (f:=51) rfl ?_);refine goesL_ (some 28) rfl rfl Try.func51 (by kernel_rfl) rfl #[.slice A0 l0.length c0,.int .i64 a1,.int .i64 x7_1] rfl (by first|rfl|simp only [z3_,z4_,z5_];try rfl) ?_;(with_reducible refine (spec_weMatrix.calls k1 _ _ l0 a1 x7_1 t107 _ ?side1 ?side2 A13.out).mono ?_);(case side1=>repeat (first|exact (Kd.C_below HR0.out HB.out)|(with_reducible refine zi ?_ _)|(with_reducible refine zj ?_ _)|(with_reducible refine zk ?_)));(case side2=>exact HC0.out);rintro e w18 ⟨v108,rfl,ho0,hb⟩;refine ⟨_,rfl,?_⟩;have HO109:=za (Kd.S_lower (Kd.S_new' ho0 (Kd.R_lt (by (with_reducible repeat (first|apply zf|apply zg|apply ze));exact HO_6.out))) (zr (by repeat (first|(with_reducible first|exact HB.out|apply zc|apply zd|apply zb)|exact HB.out))));replace HO_6:=za (Kd.R_below (by (with_reducible repeat (first|apply zf|apply zg|apply ze));exact HO_6.out) hb);replace HB:=za (below_step (by repeat (first|(with_reducible first|exact HB.out|apply zc|apply zd|apply zb)|exact HB.out)) hb);obtain ⟨Ao19,co19,eo19⟩:=Kd.S_slice HO109.out;subst eo19)|((with_reducible refine zh (f:=36) rfl ?_);refine goesL_ (some 30) rfl rfl Try.func36 (by kernel_rfl) rfl #[.slice Ao19 t107.length co19,.int .i64 a1] rfl (by first|rfl|simp only [z3_,z4_,z5_];try rfl) ?_;(with_reducible refine (spec_weRank.calls k1 _ _ t107 a1 t110 _ ?side1 ?side2 A14.out).mono ?_);(case side1=>repeat (first|exact (Kd.S_reads' HO109.out).2.2|(with_reducible refine zi ?_ _)|(with_reducible refine zj ?_ _)|(with_reducible refine zk ?_)));(case side2=>exact (Kd.S_reads' HO109.out).2.1);rintro e w20 ⟨rfl,hb⟩;refine ⟨_,rfl,?_⟩;replace HO_6:=za (Kd.R_below (by (with_reducible repeat (first|apply zf|apply zg|apply ze));exact HO_6.out) hb);replace HO109:=za (Kd.S_below (by (with_reducible repeat (first|apply Kd.S_alloc|apply Kd.S_drewN|apply Kd.S_drew));exact HO109.out) hb);replace HB:=za (below_step (by repeat (first|(with_reducible first|exact HB.out|apply zc|apply zd|apply zb)|exact HB.out)) hb);obtain ⟨Ao21,co21,eo21⟩:=Kd.R_slice HO_6.out;subst eo21;have p111:0≤(t110:Int):=of_decide_eq_true ‹_›;have q111:t110 < (x6_1.length:Int):=of_decide_eq_true ‹_›;obtain ⟨ad111,e111,hx111_0⟩:=Kd.at_int (zl HO_6.out).2.2 t110 p111 q111;cases e111;replace p111:=eq_true p111;replace q111:=eq_true q111;have p17:0≤(t110:Int):=of_decide_eq_true ‹_›;have q17:(t110:Int) < ((x6_1.length:Int):Int):=of_decide_eq_true ‹_›;obtain ⟨go17,co17,eo17,gb17,gl17,cl17,HG17⟩:=Kd.R_form HO_6.out (by omega);(first|cases eo17|(injection eo17 with ea_ en_ ec_;(first|subst ea_|(injection ea_ with ea_;subst ea_));subst ec_;clear en_));have GB17:=za gb17;have GG17:=za HG17;clear gb17 gl17 HG17;(first|simp only [add_plain] at hx111_0|skip);obtain ⟨hx17_0,hf17_0⟩:=Kd.R_celln 0 HO_6.out (t110:Int) p17 q17;replace p17:=eq_true p17;replace q17:=eq_true q17;obtain ⟨hy22_,hz22_⟩:=Kd.R_celln 0 HO_6.out (t110:Int) (of_decide_eq_true ‹_›) (of_decide_eq_true ‹_›);have HP22:=Kd.R_putg HO_6.out (t110:Int) (wrap64 ((rd x6_1 t110) + 1)))|((with_reducible refine gate_store (t:=3) (p:=34) rfl ?_);refine store_event (t:=3) (p:=34) (v:=?vo_w23) (w1:=(w20.setCell ⟨go17,(t110:Int).toNat,none⟩ (.int .i64 (wrap64 ((rd x6_1 t110) + 1))))) ?hg ?ho ?hn ?hr ?_;(case ho=>rfl);(case hg=>rfl);(case hn=>rfl);(case hr=>first|(go_simp;done)|(go_simp;rfl));intro w23 hw;have hg:w20.grownBy w23 (some go17):=(by rw [hw];exact HP22.2);have hp_:Kd.R (Kd.int .i64) 3 w23 w.heap.size (fun _=>True) (.slice (some ⟨go17,0,none⟩) x6_1.length co21) y112:=(by rw [hw,Ny112.out];exact HP22.1);clear HP22;replace HO_6:=za (hp_);replace HO109:=za (Kd.S_after (v:=(.slice (some ⟨go17,0,none⟩) x6_1.length co21)) (v1:=(.slice (some ⟨go17,0,none⟩) x6_1.length co21)) (ok:=(fun _=>True)) (by (with_reducible repeat (first|apply Kd.S_alloc|apply Kd.S_drewN|apply Kd.S_drew));exact HO109.out) hg (.inl rfl));replace HB:=za ((by rw [hw];exact zm (HB.out) GB17.out:Below w.heap.size w w23));clear hg hw hp_)));(go_roundg k1);(case measure=>have:=HK1.out;omega);case rel=>exact ⟨(y112),(wrap64 (x7_1 + 1)),(by first|rfl|(simp;done)|(simp [*];done)),H',⟨by have:=HK1.out;omega⟩,⟨by (with_reducible repeat (first|apply zf|apply zg|apply ze));exact HO_6.out⟩,⟨by repeat (first|(with_reducible first|exact HB.out|apply zc|apply zd|apply zb)|exact HB.out)⟩⟩
        · rw [if_neg c16] at H;exact absurd H (by simp)
       · rw [if_neg c15] at H;exact absurd H (by simp)
      · rw [if_neg c12] at H;have c12b0:decide (x7_1 < t106)=false:=decide_eq_false c12;clear c12;simp only [Option.some.injEq,Prod.mk.injEq] at H;obtain ⟨rfl,rfl⟩:=H;(go_wp2_with (first|((with_reducible refine zh (f:=42) rfl ?_);refine goesL_ (some 19) rfl rfl Try.func42 (by kernel_rfl) rfl #[.slice A0 l0.length c0] rfl (by first|rfl|simp only [z3_,z4_,z5_];try rfl) ?_;(with_reducible refine (spec_weCells.calls k1 _ _ l0 t105 _ ?side1 ?side2 A10.out).mono ?_);(case side1=>repeat (first|exact (Kd.C_below HR0.out HB.out)|(with_reducible refine zi ?_ _)|(with_reducible refine zj ?_ _)|(with_reducible refine zk ?_)));(case side2=>exact HC0.out);rintro e w' ⟨rfl,⟨nd,rfl⟩⟩;refine ⟨_,rfl,?_⟩)|((with_reducible refine zh (f:=41) rfl ?_);refine goesL_ (some 20) rfl rfl Try.func41 (by kernel_rfl) rfl #[.int .i64 a1,.int .i64 t105] rfl (by first|rfl|simp only [z3_,z4_,z5_];try rfl) ?_;(with_reducible refine (spec_wePower.calls k1 a1 t105 t106 _ A11.out).mono ?_);rintro e w' ⟨rfl,⟨nd,rfl⟩⟩;refine ⟨_,rfl,?_⟩)));(go_ret2);exact ⟨_,by first|rfl|(simp [errW_none,errW_some] <;> rfl)|(simp only [← hji5];first|rfl|(simp [errW_none,errW_some] <;> rfl))|(simp [*,errW_none,errW_some] <;> rfl),by (with_reducible repeat (first|apply zf|apply zg|apply ze));exact HO_6.out,by repeat (first|(with_reducible first|exact HB.out|apply zc|apply zd|apply zb)|exact HB.out)⟩
   · rw [if_neg c7] at H;exact absurd H (by simp)
  · rw [if_neg c6] at H;exact absurd H (by simp)
 · replace c4:=Bool.eq_false_iff.mpr c4;subst c4;(have H1:(some (([]:List Int),false))=some (r1,r2):=by rw [if_neg (show ¬ (false=true) by decide)] at H;exact H);clear H;have H:=H1;clear H1;simp only [Option.some.injEq,Prod.mk.injEq] at H;obtain ⟨rfl,rfl⟩:=H;(go_enter Try.func22,Try.ntmps22);(go_wp2_with (first|((with_reducible refine zh (f:=39) rfl ?_);refine goesL_ (some 10) rfl rfl Try.func39 (by kernel_rfl) rfl #[.slice A0 l0.length c0,.int .i64 a1] rfl (by first|rfl|simp only [z3_,z4_,z5_];try rfl) ?_;(with_reducible refine (spec_weFew.calls k _ _ l0 a1 false _ ?side1 ?side2 A3.out).mono ?_);(case side1=>repeat (first|exact HR0.out|(with_reducible refine zi ?_ _)|(with_reducible refine zj ?_ _)|(with_reducible refine zk ?_)));(case side2=>exact HC0.out);rintro e w' ⟨rfl,⟨nd,rfl⟩⟩;refine ⟨_,rfl,?_⟩)));(go_ret2);exact ⟨_,by first|rfl|simp [*,errW_none,errW_some] <;> rfl,by first|exact Kd.R_nil _ _ _ _ _|exact Kd.N_nil _ _ _ _ _|exact Kd.V_nil _ _ _ _ _|exact Kd.Q_nil _ _ _ _ _|exact Kd.S_nil _ _ _ _ _,by repeat (first|(with_reducible first|exact HB.out|apply zc|apply zd|apply zb)|exact HB.out)⟩
end Go.Proofs.Ytadkkcdhgepbkaa.Q
end
section
namespace Go.Proofs.Ytadkkcdhgepbkaa.Q
open Go.RowKit Go.Proofs.YtadkkcdhgepbkaaW.PrintWords Go.Proofs.YtadkkcdhgepbkaaW.PrintLast Go.Proofs.YtadkkcdhgepbkaaW.PrintMore
attribute [local go_sem] max2_int min2_int max_two min_two max_three min_three max_four min_four   -- for this text's walks alone
set_option linter.unusedVariables false
set_option linter.unusedSimpArgs false
def impl_power.l0:Nat→Int→Int→Int→Int→Option (Int)
|0,_,_,_,_=>none
|k + 1,x0,x5,x6,x7=>if x7 < x6 then (impl_power.l0 k x0 (wrap64 (x5 * x0)) x6 (wrap64 (x7 + 1))) else (some x5)
def impl_power.f (k:Nat) (a0:Int) (a1:Int):Option (Int):=impl_power.l0 k a0 1 a1 0
theorem impl_power.mono_l:∀ k,(∀ y0 y1 y2 y3,LeO (impl_power.l0 k y0 y1 y2 y3) (impl_power.l0 (k + 1) y0 y1 y2 y3))
|0=>fun _ _ _ _ r h=>by simp [impl_power.l0] at h
|k + 1=>by
  have ih0:=impl_power.mono_l k
  ·
   intro y0 y1 y2 y3
   unfold impl_power.l0
   repeat' first
  |(with_reducible exact ih0 _ _ _ _)
  |(with_reducible exact LeO.refl _)
  |(with_reducible exact LeO.none _)
  |(with_reducible refine LeO.ite ?_ ?_)
  |(with_reducible refine LeO.bind ?_ (fun _=>?_))
  |exact ih0 _ _ _ _
  |exact LeO.none _
  |refine LeO.ite ?_ ?_
  |refine LeO.bind ?_ (fun _=>?_)
theorem impl_power.mono:∀ a0 a1 k,LeO (impl_power.f k a0 a1) (impl_power.f (k + 1) a0 a1):=by
 intro a0 a1 k;have ih0:=impl_power.mono_l k;unfold impl_power.f
 repeat' first
  |(with_reducible exact ih0 _ _ _ _)
  |(with_reducible exact LeO.refl _)
  |(with_reducible exact LeO.none _)
  |(with_reducible refine LeO.ite ?_ ?_)
  |(with_reducible refine LeO.bind ?_ (fun _=>?_))
  |exact ih0 _ _ _ _
  |exact LeO.none _
  |refine LeO.ite ?_ ?_
  |refine LeO.bind ?_ (fun _=>?_)
set_option maxHeartbeats 8000000 in
set_option maxRecDepth 100000 in
theorem impl_power.calls (k:Nat) (a0:Int) (a1:Int) (r:Int) (w:World) (h:impl_power.f k a0 a1=some r) :
  Calls Try.prog 58 #[.int .i64 a0,.int .i64 a1] w fun e w'=>e=.returned (.int .i64 r)∧Drawn0 w w':=by
 have H:(impl_power.l0 k a0 1 a1 0)=some r:=h;clear h;have H':=za H;clear H;(go_enter Try.func58,Try.ntmps58);(go_wp2);(go_loopg [5,7] k (fun kq v5 v7 w'=>∃ (x5_1:Int) (x7_1:Int),v5=.int .i64 x5_1∧v7=.int .i64 x7_1∧Aside0 (impl_power.l0 kq a0 x5_1 a1 x7_1=some r)∧Aside0 (kq≤k)∧Drawn0 w w'));case atStart=>exact ⟨(1),(0),(by first|rfl|(simp;done)|(simp [*];done)),(by first|rfl|(simp;done)|(simp [*];done)),H',⟨Nat.le_refl _⟩,by repeat (first|exact Drawn0.refl _|apply Drawn0.step)⟩
 case round =>
  clear H';(try clear p2);obtain ⟨x5_1,x7_1,rfl,rfl,HA,HK1,⟨m1,rfl⟩⟩:=hrel
  cases gk with
 |zero=>exact absurd HA.out (by simp [impl_power.l0])
 |succ k1 =>
   have H:=HA.out;clear HA;simp only [impl_power.l0] at H;by_cases c3:x7_1 < a1
   · rw [if_pos c3] at H;have c3b0:decide (x7_1 < a1)=true:=decide_eq_true c3;clear c3;have H':=za H;clear H;(go_wp2);(go_roundg k1);(case measure=>have:=HK1.out;omega);case rel=>exact ⟨(wrap64 (x5_1 * a0)),(wrap64 (x7_1 + 1)),(by first|rfl|(simp;done)|(simp [*];done)),(by first|rfl|(simp;done)|(simp [*];done)),H',⟨by have:=HK1.out;omega⟩,by repeat (first|exact Drawn0.refl _|apply Drawn0.step)⟩
   · rw [if_neg c3] at H;have c3b0:decide (x7_1 < a1)=false:=decide_eq_false c3;clear c3;obtain rfl:=Option.some.inj H;(go_wp2);(go_ret);exact ⟨by first|rfl|(simp;done)|(simp [*];done),by repeat (first|exact Drawn0.refl _|apply Drawn0.step)⟩
end Go.Proofs.Ytadkkcdhgepbkaa.Q
end
section
end
section
namespace Go.Proofs.Ytadkkcdhgepbkaa.Walk
set_option linter.unusedVariables false
open Go.RowKit Go.Proofs.YtadkkcdhgepbkaaW.PrintWords Go.Proofs.YtadkkcdhgepbkaaW.PrintLast Go.Proofs.YtadkkcdhgepbkaaW.PrintMore
open Go.Proofs.YtadkkcdhgepbkaaL Go.Proofs.Ytadkkcdhgepbkaa.LawK Go.Proofs.Ytadkkcdhgepbkaa.BoardK
def colWays (l : List Int) (r t : Nat) (pre : List Int) (next : Nat → List Int → List (List Int)) (c : Int) : List (List Int) :=
  if c < 0 then next t (pre ++ [c])
  else if cell l r c.toNat && !t.testBit c.toNat then next (t ||| 2 ^ c.toNat) (pre ++ [c]) else []
def waysFrom (l : List Int) (C : Nat) : Nat → Nat → Nat → List Int → List (List Int)
  | 0, _, _, pre => [pre]
  | d + 1, r, t, pre => (iota (-1) (C + 1)).flatMap (colWays l r t pre (waysFrom l C d (r + 1)))
theorem iota_cut : ∀ (j n : Nat) (m : Int), j < n → iota m n = iota m j ++ (m + j) :: iota (m + j + 1) (n - j - 1)
  | 0, n + 1, m, _ => by rw [iota, iota]; simp
  | j + 1, n + 1, m, h => by
    rw [iota, iota, iota_cut j n (m + 1) (by omega), List.cons_append]
    have e1 : m + 1 + (j : Int) = m + ((j + 1 : Nat) : Int) := by omega
    rw [e1, show n + 1 - (j + 1) - 1 = n - j - 1 by omega]
theorem ways_cut (l : List Int) (C d r t : Nat) (pre : List Int) (j : Nat) (hj : j < C + 1) {x : Int} (hx : x = -1 + j) :
    waysFrom l C (d + 1) r t pre = (iota (-1) j).flatMap (colWays l r t pre (waysFrom l C d (r + 1))) ++ (colWays l r t pre (waysFrom l C d (r + 1)) x ++ (iota (x + 1) (C + 1 - j - 1)).flatMap (colWays l r t pre (waysFrom l C d (r + 1)))) := by
  rw [waysFrom, iota_cut j (C + 1) (-1) hj, List.flatMap_append, List.flatMap_cons, hx]
theorem ways_len (l : List Int) (C : Nat) : ∀ (d r t : Nat) (pre : List Int), (waysFrom l C d r t pre).length ≤ (C + 1) ^ d
  | 0, r, t, pre => by simp [waysFrom]
  | d + 1, r, t, pre => by
    have hc : ∀ c, (colWays l r t pre (waysFrom l C d (r + 1)) c).length ≤ (C + 1) ^ d := by
      intro c
      unfold colWays
      split
      · exact ways_len l C d (r + 1) _ _
      · split
        · exact ways_len l C d (r + 1) _ _
        · exact Nat.zero_le _
    have hf : ∀ (n : Nat) (m : Int), ((iota m n).flatMap (colWays l r t pre (waysFrom l C d (r + 1)))).length ≤ n * (C + 1) ^ d := by
      intro n
      induction n with
      | zero => intro m; simp [iota]
      | succ n ih =>
        intro m
        rw [iota, List.flatMap_cons, List.length_append, Nat.succ_mul]
        have h1 := hc m
        have h2 := ih (m + 1)
        omega
    rw [waysFrom, Nat.pow_succ, Nat.mul_comm]
    exact hf (C + 1) (-1)
structure Blks where (b d a p g r : Nat)
structure Blks.Apart (k : Blks) : Prop where
  bd : k.b ≠ k.d
  ba : k.b ≠ k.a
  bp : k.b ≠ k.p
  bg : k.b ≠ k.g
  br : k.b ≠ k.r
  da : k.d ≠ k.a
  dp : k.d ≠ k.p
  dg : k.d ≠ k.g
  dr : k.d ≠ k.r
  ap : k.a ≠ k.p
  ag : k.a ≠ k.g
  ar : k.a ≠ k.r
  pg : k.p ≠ k.g
  pr : k.p ≠ k.r
  gr : k.g ≠ k.r
def Blks.has (k : Blks) (i : Nat) : Prop := i = k.b ∨ i = k.d ∨ i = k.a ∨ i = k.p ∨ i = k.g ∨ i = k.r
structure Still (S : Nat → Prop) (w w' : World) : Prop where
  kept : Kept w w' S
  os : w'.os = w.os
  tape : w'.tape = w.tape
  output : w'.output = w.output
theorem Still.refl (S : Nat → Prop) (w : World) : Still S w w := ⟨Kept.refl _ _, rfl, rfl, rfl⟩
theorem Still.of_below {S : Nat → Prop} {w w' : World} (h : Below w.heap.size w w') : Still S w w' := ⟨Kept.of_below h S, h.os, h.tape, h.output⟩
theorem Still.set {S : Nat → Prop} (w : World) {a : Addr} (h : S a.block) (v : Value) : Still S w (w.setCell a v) := ⟨Kept.setCell (Kept.refl _ _) (.inl h) v, rfl, rfl, rfl⟩
theorem Still.drewN {S : Nat → Prop} (w : World) (n : Nat) : Still S w (w.drewN n) := ⟨Kept.drewN (Kept.refl _ _) n, rfl, rfl, rfl⟩
theorem Still.trans {S : Nat → Prop} {a b c : World} (h : Still S a b) (k : Still S b c) : Still S a c := ⟨h.kept.then_ k.kept (fun _ hk => .inl hk), k.os.trans h.os, k.tape.trans h.tape, k.output.trans h.output⟩
theorem Still.below {S : Nat → Prop} {w0 w w' : World} (h : Below w0.heap.size w0 w) (k : Still S w w') (hS : ∀ i, S i → w0.heap.size ≤ i) : Below w0.heap.size w0 w' :=
  ⟨k.os.trans h.os, k.tape.trans h.tape, k.output.trans h.output, Nat.le_trans h.size k.kept.1, fun i hi => (k.kept.2 i (Nat.lt_of_lt_of_le hi h.size) (fun hs => by have := hS i hs; omega)).trans (h.block i hi)⟩
structure WSt (k : Blks) (Inv : List (List Int) → World → Prop) (RI CI : Int) (n cp : Nat) (l : List Int) (A0 : Option Addr) (c0 : Nat) (F : Value) (vis : List (List Int)) (ps : List Int) (w : World) : Prop where
  cB : w.heap[k.b]? = some (.cells #[.int .i64 RI, .int .i64 CI, .slice A0 l.length c0] 73 (0, 0))
  cD : w.heap[k.d]? = some (.cells #[F] 62 (0, 0))
  cA : Kd.R (Kd.int .i64) 3 w 0 (fun i => i = k.a) (.slice (some ⟨k.a, 0, none⟩) n cp) ps
  cP : w.heap[k.p]? = some (.cells #[.slice (some ⟨k.a, 0, none⟩) n cp] 29 (0, 0))
  cG : w.heap[k.g]? = some (.cells #[.bool true] 4 (0, 0))
  cR : w.heap[k.r]? = some (.cells #[.func (.func 82) #[] #[.pointer (some ⟨k.b, 0, none⟩), .pointer (some ⟨k.d, 0, none⟩), .pointer (some ⟨k.p, 0, none⟩), .pointer (some ⟨k.g, 0, none⟩), .pointer (some ⟨k.r, 0, none⟩)]] 81 (0, 0))
  inv : Inv vis w
section
variable {k : Blks} {Inv : List (List Int) → World → Prop} {RI CI : Int} {n cp : Nat} {l : List Int} {A0 : Option Addr} {c0 : Nat} {F : Value} {vis : List (List Int)} {ps : List Int} {w w' : World}
theorem WSt.below (hI : ∀ vis w w', Inv vis w → Still k.has w w' → Inv vis w') (h : WSt k Inv RI CI n cp l A0 c0 F vis ps w) (hb : Below w.heap.size w w') : WSt k Inv RI CI n cp l A0 c0 F vis ps w' :=
  ⟨blk_below h.cB hb, blk_below h.cD hb, Kd.R_below h.cA hb, blk_below h.cP hb, blk_below h.cG hb, blk_below h.cR hb, hI _ _ _ h.inv (Still.of_below hb)⟩
theorem WSt.drewN (hI : ∀ vis w w', Inv vis w → Still k.has w w' → Inv vis w') (h : WSt k Inv RI CI n cp l A0 c0 F vis ps w) (m : Nat) : WSt k Inv RI CI n cp l A0 c0 F vis ps (w.drewN m) :=
  h.below hI (pw_below_drewN (Below.refl _ _) m)
theorem WSt.setA (hI : ∀ vis w w', Inv vis w → Still k.has w w' → Inv vis w') (hk : k.Apart) (h : WSt k Inv RI CI n cp l A0 c0 F vis ps w) (i c : Int) : WSt k Inv RI CI n cp l A0 c0 F vis (ps.set i.toNat c) (w.setCell ⟨k.a, i.toNat, none⟩ (.int .i64 c)) :=
  ⟨blk_far h.cB hk.ba _, blk_far h.cD hk.da _, Kd.R_putn h.cA i c, blk_far h.cP hk.ap.symm _, blk_far h.cG hk.ag.symm _, blk_far h.cR hk.ar.symm _, hI _ _ _ h.inv (Still.set w (.inr (.inr (.inl rfl))) _)⟩
theorem WSt.setG (hI : ∀ vis w w', Inv vis w → Still k.has w w' → Inv vis w') (hk : k.Apart) (h : WSt k Inv RI CI n cp l A0 c0 F vis ps w) : WSt k Inv RI CI n cp l A0 c0 F vis ps (w.setCell ⟨k.g, 0, none⟩ (.bool true)) :=
  ⟨blk_far h.cB hk.bg _, blk_far h.cD hk.dg _, Kd.R_far h.cA (fun i hi => by rw [hi]; exact hk.ag) _, blk_far h.cP hk.pg _, blk_put h.cG 0 _ rfl, blk_far h.cR hk.gr.symm _, hI _ _ _ h.inv (Still.set w (.inr (.inr (.inr (.inr (.inl rfl))))) _)⟩
end
end Go.Proofs.Ytadkkcdhgepbkaa.Walk
end
section
namespace Go.Proofs.Ytadkkcdhgepbkaa.WalkW
set_option linter.unusedVariables false
open Go.RowKit Go.Proofs.YtadkkcdhgepbkaaW.PrintWords Go.Proofs.YtadkkcdhgepbkaaW.PrintLast Go.Proofs.YtadkkcdhgepbkaaW.PrintMore
open Go.Proofs.YtadkkcdhgepbkaaL Go.Proofs.Ytadkkcdhgepbkaa.LawK Go.Proofs.Ytadkkcdhgepbkaa.BoardK Go.Proofs.Ytadkkcdhgepbkaa.Walk Go.Proofs.Ytadkkcdhgepbkaa.Q
theorem run_store_func {P:Program} {w:World} {a:Addr} {m:Mode} (f:Fn) (xs:Array Value) (ys:Array Value):(store a (.func f xs ys) m).run P w=stored P w a (.func f xs ys) m:=run_store P w a _ m rfl
attribute [local go_sem] run_store_func
section
variable (k : Blks) (hk : k.Apart) (Inv : List (List Int) → World → Prop) (hI : ∀ vis w w', Inv vis w → Still k.has w w' → Inv vis w') (R C : Nat) (RI CI : Int) (hRI : RI = R) (hCI : CI = C) (l : List Int) (A0 : Option Addr) (c0 cp : Nat) (hc0 : l.length ≤ c0) (cc1 cc2 : Value)
  (hL : ∀ vis w, Inv vis w → Kd.C (Kd.int .i64) w A0 l.length l)
  (hl : l.length = R) (hR : R ≤ 6) (hC : C ≤ 6) (hb : ∀ i (hi : i < l.length), 0 ≤ l[i] ∧ l[i] < 2 ^ C)
  (P : List (List Int) → List Int → Prop) (hdo : ∀ vis ps w, ps.length = R → P vis ps → WSt k Inv RI CI R cp l A0 c0 (.func (.func 76) #[] #[cc1, cc2]) vis ps w →
    Calls Try.prog 76 #[.slice (some ⟨k.a, 0, none⟩) R cp, cc1, cc2] w fun e w' => e = .returned (.bool true) ∧ WSt k Inv RI CI R cp l A0 c0 (.func (.func 76) #[] #[cc1, cc2]) (vis ++ [ps]) ps w')
include hk hI hRI hCI hc0 hL hl hR hC hb hdo
set_option maxHeartbeats 4000000 in
set_option maxRecDepth 100000 in
theorem row_calls:∀ (d r t:Nat) (rI tI:Int),rI=r→tI=t→r + d=R→t < 64→∀ vis ps w,ps.length=R→(∀ a q b,waysFrom l C d r t (ps.take r)=a ++ q :: b→P (vis ++ a) q)→WSt k Inv RI CI R cp l A0 c0 (.func (.func 76) #[] #[cc1,cc2]) vis ps w →
  Calls Try.prog 82 #[.int .i64 rI,.int .i64 tI,.pointer (some ⟨k.b,0,none⟩),.pointer (some ⟨k.d,0,none⟩),.pointer (some ⟨k.p,0,none⟩),.pointer (some ⟨k.g,0,none⟩),.pointer (some ⟨k.r,0,none⟩)] w fun e w'=>e=.returned (.tuple #[]) ∧
   ∃ ps',ps'.length=R∧ps'.take r=ps.take r∧WSt k Inv RI CI R cp l A0 c0 (.func (.func 76) #[] #[cc1,cc2]) (vis ++ waysFrom l C d r t (ps.take r)) ps' w'
|0,r,t,rI,tI,hr,ht,hrd,ht6,vis,ps,w,hps,hPP,hst=>by
  have hP0:P vis ps:=by have:=hPP [] ps [] (by rw [waysFrom,List.take_of_length_le (by omega)];rfl);rwa [List.append_nil] at this
  have CX:=Lib.hid (fun W (h:Aside0 (WSt k Inv RI CI R cp l A0 c0 (.func (.func 76) #[] #[cc1,cc2]) vis ps W))=>hdo vis ps W hps hP0 h.out)
  have MV:=Lib.hid (fun W (h:Aside0 (WSt k Inv RI CI R cp l A0 c0 (.func (.func 76) #[] #[cc1,cc2]) (vis ++ [ps]) ps W))=>h.out.setG hI hk)
  have e0:(rI == RI)=true:=beq_iff_eq.mpr (by omega)
  have e1:=za (show ps.take r=ps from List.take_of_length_le (by omega))
  have hz1:w.cell? ⟨k.b,0,none⟩=some (.int .i64 RI):=(blk_cell hst.cB 0).trans rfl
  have hz2:w.cell? ⟨k.d,0,none⟩=some (.func (.func 76) #[] #[cc1,cc2]):=(blk_cell hst.cD 0).trans rfl
  have hz3:w.cell? ⟨k.p,0,none⟩=some (.slice (some ⟨k.a,0,none⟩) R cp):=(blk_cell hst.cP 0).trans rfl
  have HS:=za hst
  have HP:=za hps
  have hu24:=Try.underlying73
  clear hdo hst hps hr ht hrd ht6 hRI hCI hk hI hL hl hR hC hb hc0 hPP hP0
  go_enter Try.func82,Try.ntmps82
  go_wp2_with (first|(go_at_call 76;(refine (CX.out _ HS).mono ?_);rintro e w2 ⟨rfl,hs2⟩;have hz4:w2.cell? ⟨k.g,0,none⟩=some (.bool true):=(blk_cell hs2.cG 0).trans rfl;have hf4:=blk_frozen hs2.cG 0;have HS2:=za hs2;clear hs2))
  first|go_end0|((try simp only [Exit.inBlock,Exit.then]);refine bodyPost_ret (results_none rfl _ _ _) rfl ?_)
  refine ⟨rfl,ps,HP.out,rfl,?_⟩
  rw [e1.out]
  exact MV.out _ HS2
|d + 1,r,t,rI,tI,hr,ht,hrd,ht6,vis,ps,w,hps,hPP,hst=>by
  have IH:=Lib.hid (fun (t':Nat) (tI':Int) (h2:tI'=(t':Int)) (h3:t' < 64) vis ps W (h4:ps.length=R) (h5:∀ a q b,waysFrom l C d (r + 1) t' (ps.take (r + 1))=a ++ q :: b→P (vis ++ a) q) (h:WSt k Inv RI CI R cp l A0 c0 (.func (.func 76) #[] #[cc1,cc2]) vis ps W)=>row_calls d (r + 1) t' (wrap64 (rI + 1)) tI' (by rw [hr,w64 (by omega) (by omega)];rfl) h2 (by omega) h3 vis ps W h4 h5 h)
  have MVB:=Lib.hid (fun vis ps W W' (h:WSt k Inv RI CI R cp l A0 c0 (.func (.func 76) #[] #[cc1,cc2]) vis ps W) (hb:Below W.heap.size W W')=>h.below hI hb)
  have MVA:=Lib.hid (fun vis ps W (h:WSt k Inv RI CI R cp l A0 c0 (.func (.func 76) #[] #[cc1,cc2]) vis ps W) (i c:Int)=>h.setA hI hk i c)
  have HL:=Lib.hid (fun vis ps W (h:WSt k Inv RI CI R cp l A0 c0 (.func (.func 76) #[] #[cc1,cc2]) vis ps W)=>hL vis W h.inv)
  have HASF:=Lib.hid (fun (j:Nat) (hj:j≤64)=>has_f RI CI (l:=l) (i:=r) (j:=j) (by omega) (hb r (by omega)).1 (by have:=(hb r (by omega)).2;have:=two_pow_six hC;omega) hj)
  have e0:(rI == RI)=false:=beq_eq_false_iff_ne.mpr (by omega)
  have z1:w.cell? ⟨k.b,0,none⟩=some (.int .i64 RI):=(blk_cell hst.cB 0).trans rfl
  have HS:=za hst
  have HP:=za hps
  have HR:=za hr
  have HT:=za ht
  have HT6:=za ht6
  have HRD:=za hrd
  have HCI:=za hCI
  have HC0:=za hc0
  have HC6:=za hC
  have HR6:=za hR
  have hu24:=Try.underlying73
  obtain ⟨pre,hpre⟩:∃ pre,pre=ps.take r:=⟨_,rfl⟩
  rw [← hpre] at hPP ⊢
  have HPP:=za hPP
  have HPRE:=za hpre
  have plt:=eq_true (show 0≤rI by omega)
  have plt2:=eq_true (show rI < (R:Int) by omega)
  clear hdo hst hps hr ht hrd ht6 hRI hCI hk hI hL hl hR hC hb hc0 hpre hPP row_calls
  go_enter Try.func82,Try.ntmps82
  go_wp2
  go_loopg [9] (C + 1) (fun kq v9 w'=>∃ (x9:Int),v9=.int .i64 x9∧Aside0 (∃ (j:Nat) (ps':List Int),x9=-1 + j∧j + kq=C + 1∧ps'.length=R∧ps'.take r=pre∧WSt k Inv RI CI R cp l A0 c0 (.func (.func 76) #[] #[cc1,cc2]) (vis ++ (iota (-1) j).flatMap (colWays l r t pre (waysFrom l C d (r + 1)))) ps' w'))
  case atStart=>exact ⟨-1,rfl,⟨0,ps,by omega,by omega,HP.out,HPRE.out.symm,by simpa [iota] using HS.out⟩⟩
  case round =>
   clear z1
   obtain ⟨x9,rfl,HX⟩:=hrel
   obtain ⟨j,qs,hx,hj,hql,hqt,hs⟩:=HX.out
   clear HX
   have HX:=za hx
   have HQL:=za hql
   have HQT:=za hqt
   have HS2:=za hs
   have HJ:=za hj
   have z1:wr.cell? ⟨k.b,1,none⟩=some (.int .i64 CI):=(blk_cell hs.cB 1).trans rfl
   have z2:wr.cell? ⟨k.g,0,none⟩=some (.bool true):=(blk_cell hs.cG 0).trans rfl
   have z3:wr.cell? ⟨k.b,0,none⟩=some (.int .i64 RI):=(blk_cell hs.cB 0).trans rfl
   have z4:wr.cell? ⟨k.b,2,none⟩=some (.slice A0 l.length c0):=(blk_cell hs.cB 2).trans rfl
   clear hx hj hql hqt hs
   by_cases c1:x9 < CI
   ·
    have c1b:decide (x9 < CI)=true:=decide_eq_true c1
    cases gk with
   |zero=>exact absurd c1 (by have:=HX.out;have:=HJ.out;have:=HCI.out;omega)
   |succ k1 =>
     have EW:=za (show wrap64 (x9 + 1)=-1 + ((j + 1:Nat):Int) by have:=HX.out;have:=HJ.out;have:=HC6.out;rw [w64 (by omega) (by omega)];omega)
     have EJ:=za (show j + 1 + k1=C + 1 by have:=HJ.out;omega)
     have ES:=za (show (iota (-1) (j + 1)).flatMap (colWays l r t pre (waysFrom l C d (r + 1)))=(iota (-1) j).flatMap (colWays l r t pre (waysFrom l C d (r + 1))) ++ colWays l r t pre (waysFrom l C d (r + 1)) x9 by rw [iota_snoc,List.flatMap_append,HX.out];simp)
     have C1:=za c1
     clear c1
     by_cases c2:0≤x9
     ·
      have c2b:decide (0≤x9)=true:=decide_eq_true c2
      have c2e:=eq_true c2
      obtain ⟨xn,hxn⟩:∃ xn:Nat,x9=xn:=⟨x9.toNat,by omega⟩
      have HXN:=za hxn
      have HX6:=za (show xn < 6 by have:=C1.out;have:=HCI.out;have:=HC6.out;omega)
      have A1:=za (show impl_Board_has.f RI CI l rI x9=some (cell l r xn) by rw [HR.out,hxn];exact HASF.out xn (by have:=HX6.out;omega))
      obtain ⟨sh,hsh⟩:∃ s:Int,shr .i64 tI x9=s:=⟨_,rfl⟩
      have hsh1:(tI / 2 ^ min x9.toNat 64)=sh:=hsh
      have BT:Go.bits .and .i64 sh 1=if t.testBit xn then 1 else 0:=by rw [← hsh,HT.out,hxn];exact bit_and t xn (by have:=HT6.out;omega) (by have:=HX6.out;omega)
      clear c2 hxn
      by_cases c3:cell l r xn=true
      ·
       rw [c3] at A1
       by_cases c4:t.testBit xn=true
       ·
        have c4b:(Go.bits .and .i64 sh 1 == 1)=true:=by rw [BT,if_pos c4];rfl
        have NIL:=za (show colWays l r t pre (waysFrom l C d (r + 1)) x9=[] by have:=HXN.out;unfold colWays;rw [if_neg (by omega),if_neg (by rw [HXN.out];simp [c4])])
        clear c3 c4 BT hsh
        go_wp2_with (first|(go_at_call 83;(refine (impl_Board_has.calls RI CI _ _ l rI x9 true _ ?side1 ?side2 A1.out).mono ?_);(case side1=>exact HL.out _ _ _ HS2.out);(case side2=>exact HC0.out);rintro e w2 ⟨rfl,hb2⟩;have HS3:=za (MVB.out _ _ _ _ HS2.out hb2);clear hb2))
        go_roundg k1
        case measure=>omega
        case rel=>exact ⟨wrap64 (x9 + 1),(by first|rfl|(simp;done)),⟨j + 1,qs,EW.out,EJ.out,HQL.out,HQT.out,by rw [ES.out,NIL.out,List.append_nil];exact HS3.out⟩⟩
       ·
        have c4b:(Go.bits .and .i64 sh 1 == 1)=false:=by rw [BT,if_neg c4];rfl
        have c4f:t.testBit xn=false:=by simpa using c4
        have ONE:=za (show colWays l r t pre (waysFrom l C d (r + 1)) x9=waysFrom l C d (r + 1) (t ||| 2 ^ xn) (pre ++ [x9]) by have:=HXN.out;unfold colWays;rw [if_neg (by omega),HXN.out,Int.toNat_natCast,if_pos (by rw [c3,c4f];rfl)])
        obtain ⟨ji,hji⟩:∃ s:Int,shl .i64 1 x9=s:=⟨_,rfl⟩
        have hji_:(IntKind.i64.wrap (1 * 2 ^ min x9.toNat 64))=ji:=hji
        have hjiu:(IntKind.i64.wrap (2 ^ min x9.toNat 64))=ji:=by have h_:=hji_;rw [Int.one_mul] at h_;exact h_
        have p2x:=Nat.pow_le_pow_right (show 0 < 2 by decide) (show xn≤5 by have:=HX6.out;omega)
        have OR:=za (show Go.bits .or .i64 tI ji=((t ||| 2 ^ xn:Nat):Int) by rw [← hji,HT.out,HXN.out,shl_one xn (by have:=HX6.out;omega)];exact or_nat _ _ (by have:=HT6.out;omega) (by omega))
        have OR6:=za (show t ||| 2 ^ xn < 64 from Nat.or_lt_two_pow (n:=6) HT6.out (by omega))
        clear c3 c4 c4f BT hsh hji p2x
        have HRT:=za (show rI.toNat=r by rw [HR.out];rfl)
        have HPT:=za (show (qs.set rI.toNat x9).take (r + 1)=pre ++ [x9] by have hrl:r < qs.length:=(by have:=HQL.out;have:=HRD.out;omega);rw [HRT.out,List.take_add_one,List.take_set_of_le (Nat.le_refl _),HQT.out];simp [hrl])
        have NXT:=za (show ∀ a q b,waysFrom l C d (r + 1) (t ||| 2 ^ xn) ((qs.set rI.toNat x9).take (r + 1))=a ++ q :: b→P ((vis ++ (iota (-1) j).flatMap (colWays l r t pre (waysFrom l C d (r + 1)))) ++ a) q from fun a q b hq=>by rw [HPT.out,← ONE.out] at hq;rw [List.append_assoc];exact HPP.out _ q (b ++ (iota (x9 + 1) (C + 1 - j - 1)).flatMap (colWays l r t pre (waysFrom l C d (r + 1)))) (by rw [ways_cut l C d r t pre j (by have:=HX.out;have:=C1.out;have:=HCI.out;omega) HX.out,hq,List.append_assoc,List.append_assoc];rfl))
        go_wp2_with (first|(go_at_call 83;(refine (impl_Board_has.calls RI CI _ _ l rI x9 true _ ?side1 ?side2 A1.out).mono ?_);(case side1=>exact HL.out _ _ _ HS2.out);(case side2=>exact HC0.out);rintro e w2 ⟨rfl,hb2⟩;have HS3:=za (MVB.out _ _ _ _ HS2.out hb2);clear hb2;have z5:w2.cell? ⟨k.p,0,none⟩=some (.slice (some ⟨k.a,0,none⟩) R cp):=(blk_cell HS3.out.cP 0).trans rfl;obtain ⟨z6,f6⟩:=Kd.R_celln 0 HS3.out.cA rI (of_eq_true plt) (of_eq_true plt2))|((with_reducible refine gate_store (t:=3) (p:=46) rfl ?_);refine store_event (t:=3) (p:=46) (v:=?vo) (w1:=(w2.setCell ⟨k.a,rI.toNat,none⟩ (.int .i64 x9))) ?hg ?ho ?hn ?hr ?_;(case ho=>rfl);(case hg=>rfl);(case hn=>rfl);(case hr=>first|(go_simp;done)|(go_simp;rfl));intro w4 hw;have HS4:=za (by rw [hw];exact MVA.out _ _ _ HS3.out rI x9:WSt k Inv RI CI R cp l A0 c0 (.func (.func 76) #[] #[cc1,cc2]) (vis ++ (iota (-1) j).flatMap (colWays l r t pre (waysFrom l C d (r + 1)))) (qs.set rI.toNat x9) w4);clear hw;have z7:w4.cell? ⟨k.r,0,none⟩=_:=(blk_cell HS4.out.cR 0).trans rfl)|(go_at_call 82;(refine (IH.out (t ||| 2 ^ xn) _ OR.out OR6.out _ (qs.set rI.toNat x9) _ (by rw [List.length_set];exact HQL.out) NXT.out HS4.out).mono ?_);rintro e w5 ⟨rfl,hex⟩;have HE:=za hex;clear hex))
        go_roundg k1
        case measure=>omega
        case rel =>
         obtain ⟨qs2,hl2,ht2,hs5⟩:=HE.out
         have hrt:=HRT.out
         have hrl:r < qs.length:=by have:=HQL.out;have:=HRD.out;omega
         have hpt:=HPT.out
         refine ⟨wrap64 (x9 + 1),(by first|rfl|(simp;done)),⟨j + 1,qs2,EW.out,EJ.out,hl2,?_,?_⟩⟩
         ·
          have h3:=congrArg (List.take r) ht2
          rw [List.take_take,List.take_take,Nat.min_eq_left (by omega),hrt,List.take_set_of_le (Nat.le_refl _),HQT.out] at h3
          exact h3
         ·
          rw [hpt,List.append_assoc] at hs5
          rw [ES.out,ONE.out]
          exact hs5
      ·
       have c3f:cell l r xn=false:=by simpa using c3
       rw [c3f] at A1
       have NIL:=za (show colWays l r t pre (waysFrom l C d (r + 1)) x9=[] by have:=HXN.out;unfold colWays;rw [if_neg (by omega),if_neg (by rw [HXN.out];simp [c3f])])
       clear c3 c3f BT hsh
       go_wp2_with (first|(go_at_call 83;(refine (impl_Board_has.calls RI CI _ _ l rI x9 false _ ?side1 ?side2 A1.out).mono ?_);(case side1=>exact HL.out _ _ _ HS2.out);(case side2=>exact HC0.out);rintro e w2 ⟨rfl,hb2⟩;have HS3:=za (MVB.out _ _ _ _ HS2.out hb2);clear hb2))
       go_roundg k1
       case measure=>omega
       case rel=>exact ⟨wrap64 (x9 + 1),(by first|rfl|(simp;done)),⟨j + 1,qs,EW.out,EJ.out,HQL.out,HQT.out,by rw [ES.out,NIL.out,List.append_nil];exact HS3.out⟩⟩
     ·
      have c2b:decide (0≤x9)=false:=decide_eq_false c2
      have ONE:=za (show colWays l r t pre (waysFrom l C d (r + 1)) x9=waysFrom l C d (r + 1) t (pre ++ [x9]) by unfold colWays;rw [if_pos (by omega)])
      clear c2
      have z5:wr.cell? ⟨k.p,0,none⟩=some (.slice (some ⟨k.a,0,none⟩) R cp):=(blk_cell HS2.out.cP 0).trans rfl
      obtain ⟨z6,f6⟩:=Kd.R_celln 0 HS2.out.cA rI (of_eq_true plt) (of_eq_true plt2)
      have HRT:=za (show rI.toNat=r by rw [HR.out];rfl)
      have HPT:=za (show (qs.set rI.toNat x9).take (r + 1)=pre ++ [x9] by have hrl:r < qs.length:=(by have:=HQL.out;have:=HRD.out;omega);rw [HRT.out,List.take_add_one,List.take_set_of_le (Nat.le_refl _),HQT.out];simp [hrl])
      have NXT:=za (show ∀ a q b,waysFrom l C d (r + 1) t ((qs.set rI.toNat x9).take (r + 1))=a ++ q :: b→P ((vis ++ (iota (-1) j).flatMap (colWays l r t pre (waysFrom l C d (r + 1)))) ++ a) q from fun a q b hq=>by rw [HPT.out,← ONE.out] at hq;rw [List.append_assoc];exact HPP.out _ q (b ++ (iota (x9 + 1) (C + 1 - j - 1)).flatMap (colWays l r t pre (waysFrom l C d (r + 1)))) (by rw [ways_cut l C d r t pre j (by have:=HX.out;have:=C1.out;have:=HCI.out;omega) HX.out,hq,List.append_assoc,List.append_assoc];rfl))
      go_wp2_with (first|((with_reducible refine gate_store (t:=3) (p:=46) rfl ?_);refine store_event (t:=3) (p:=46) (v:=?vo) (w1:=(wr.setCell ⟨k.a,rI.toNat,none⟩ (.int .i64 x9))) ?hg ?ho ?hn ?hr ?_;(case ho=>rfl);(case hg=>rfl);(case hn=>rfl);(case hr=>first|(go_simp;done)|(go_simp;rfl));intro w4 hw;have HS4:=za (by rw [hw];exact MVA.out _ _ _ HS2.out rI x9:WSt k Inv RI CI R cp l A0 c0 (.func (.func 76) #[] #[cc1,cc2]) (vis ++ (iota (-1) j).flatMap (colWays l r t pre (waysFrom l C d (r + 1)))) (qs.set rI.toNat x9) w4);clear hw;have z7:w4.cell? ⟨k.r,0,none⟩=_:=(blk_cell HS4.out.cR 0).trans rfl)|(go_at_call 82;(refine (IH.out t _ HT.out HT6.out _ (qs.set rI.toNat x9) _ (by rw [List.length_set];exact HQL.out) NXT.out HS4.out).mono ?_);rintro e w5 ⟨rfl,hex⟩;have HE:=za hex;clear hex))
      go_roundg k1
      case measure=>omega
      case rel =>
       obtain ⟨qs2,hl2,ht2,hs5⟩:=HE.out
       have hrt:=HRT.out
       have hrl:r < qs.length:=by have:=HQL.out;have:=HRD.out;omega
       have hpt:=HPT.out
       refine ⟨wrap64 (x9 + 1),(by first|rfl|(simp;done)),⟨j + 1,qs2,EW.out,EJ.out,hl2,?_,?_⟩⟩
       ·
        have h3:=congrArg (List.take r) ht2
        rw [List.take_take,List.take_take,Nat.min_eq_left (by omega),hrt,List.take_set_of_le (Nat.le_refl _),HQT.out] at h3
        exact h3
       ·
        rw [hpt,List.append_assoc] at hs5
        rw [ES.out,ONE.out]
        exact hs5
   ·
    have c1b:decide (x9 < CI)=false:=decide_eq_false c1
    have FIN:=za (show j=C + 1 by have:=HX.out;have:=HJ.out;have:=HCI.out;omega)
    clear c1
    go_wp2
    first|go_end0|((try simp only [Exit.inBlock,Exit.then]);refine bodyPost_ret (results_none rfl _ _ _) rfl ?_)
    exact ⟨rfl,qs,HQL.out,HQT.out,by have:=HS2.out;rw [FIN.out] at this;exact this⟩
end
section
variable (Inv : (Nat → Prop) → List (List Int) → World → Prop) (hI : ∀ S vis w w', Inv S vis w → Still S w w' → Inv S vis w') (R C : Nat) (RI CI : Int) (hRI : RI = R) (hCI : CI = C) (l : List Int) (A0 : Option Addr) (c0 : Nat) (hc0 : l.length ≤ c0) (cc1 cc2 : Value)
  (hL : ∀ S vis w, Inv S vis w → Kd.C (Kd.int .i64) w A0 l.length l)
  (hl : l.length = R) (h1R : 1 ≤ R) (hR : R ≤ 6) (hC : C ≤ 6) (hb : ∀ i (hi : i < l.length), 0 ≤ l[i] ∧ l[i] < 2 ^ C) (w0 : World)
  (h0 : ∀ S w, (∀ i, S i → w0.heap.size ≤ i) → Below w0.heap.size w0 w → Inv S [] w)
  (hdo : ∀ S vis ps w a cp, (∀ i, S i → w0.heap.size ≤ i) → (∀ i, S i → i < w.heap.size) → ps.length = R → (∃ b, waysFrom l C R 0 0 [] = vis ++ ps :: b) → S a → Kd.C (Kd.int .i64) w (some ⟨a, 0, none⟩) R ps → R ≤ cp → Inv S vis w →
    Calls Try.prog 76 #[.slice (some ⟨a, 0, none⟩) R cp, cc1, cc2] w fun e w' => e = .returned (.bool true) ∧ Inv S (vis ++ [ps]) w' ∧ (∀ i, S i → i < w.heap.size → w'.heap[i]? = w.heap[i]?))
include hI hRI hCI hc0 hL hl h1R hR hC hb h0 hdo
set_option maxHeartbeats 4000000 in
set_option maxRecDepth 100000 in
theorem walk_calls:Calls Try.prog 75 #[.agg #[.int .i64 RI,.int .i64 CI,.slice A0 l.length c0],.func (.func 76) #[] #[cc1,cc2]] w0 fun e w'=>e=.returned (.tuple #[])∧∃ S,(∀ i,S i→w0.heap.size≤i)∧Inv S (waysFrom l C R 0 0 []) w':=by
 have KEY:∀ (k:Blks) (cp:Nat) W,k.Apart→(∀ i,k.has i→w0.heap.size≤i)→R≤cp→WSt k (Inv k.has) RI CI R cp l A0 c0 (.func (.func 76) #[] #[cc1,cc2]) [] (List.replicate R 0) W →
   Calls Try.prog 82 #[.int .i64 0,.int .i64 0,.pointer (some ⟨k.b,0,none⟩),.pointer (some ⟨k.d,0,none⟩),.pointer (some ⟨k.p,0,none⟩),.pointer (some ⟨k.g,0,none⟩),.pointer (some ⟨k.r,0,none⟩)] W fun e w'=>e=.returned (.tuple #[])∧∃ S,(∀ i,S i→w0.heap.size≤i)∧Inv S (waysFrom l C R 0 0 []) w':=by
  intro k cp W hk hS hcp hst
  have:=row_calls k hk (Inv k.has) (hI k.has) R C RI CI hRI hCI l A0 c0 cp hc0 cc1 cc2 (hL k.has) hl hR hC hb (fun vis q=>∃ b,waysFrom l C R 0 0 []=vis ++ q :: b) (fun vis ps w hps hmem hs=>by
   obtain ⟨_,_,hC'⟩:=zl hs.cA
   rw [hps] at hC'
   have hlt:k.a < w.heap.size:=by obtain ⟨cells,hc⟩:=Kd.R_typed hs.cA k.a rfl;exact blk_lt hc
   have hSlt:∀ i,k.has i→i < w.heap.size:=by
    rintro i (rfl|rfl|rfl|rfl|rfl|rfl)
    ·
     exact blk_lt hs.cB
    ·
     exact blk_lt hs.cD
    ·
     exact hlt
    ·
     exact blk_lt hs.cP
    ·
     exact blk_lt hs.cG
    ·
     exact blk_lt hs.cR
   refine (hdo k.has vis ps w k.a cp hS hSlt hps hmem (.inr (.inr (.inl rfl))) hC' hcp hs.inv).mono ?_
   rintro e w' ⟨rfl,hi,hkeep⟩
   refine ⟨rfl,(hkeep _ (.inl rfl) (blk_lt hs.cB)).trans hs.cB,(hkeep _ (.inr (.inl rfl)) (blk_lt hs.cD)).trans hs.cD,Kd.R_step hs.cA (fun i hi _=>by subst hi;exact hkeep _ (.inr (.inr (.inl rfl))) hlt),(hkeep _ (.inr (.inr (.inr (.inl rfl)))) (blk_lt hs.cP)).trans hs.cP,(hkeep _ (.inr (.inr (.inr (.inr (.inl rfl))))) (blk_lt hs.cG)).trans hs.cG,(hkeep _ (.inr (.inr (.inr (.inr (.inr rfl))))) (blk_lt hs.cR)).trans hs.cR,hi⟩)
   R 0 0 0 0 rfl rfl (by omega) (by omega) [] (List.replicate R 0) W (by simp) (fun a q b hq=>⟨b,by simpa using hq⟩) hst
  refine this.mono ?_
  rintro e w' ⟨rfl,ps',_,_,hw⟩
  exact ⟨rfl,k.has,hS,by simpa using hw.inv⟩
 have KX:=Lib.hid KEY;have H0:=Lib.hid h0;have hu24:=Try.underlying73;have p1:=za (show 0≤RI by omega);have p2:=za (show RI.toNat * 8≤281474976710656 by omega);have p3:=za (show RI.toNat=R by omega);have p4:=za h1R;clear KEY h0 hdo hb hC hR hl hL hc0 hCI hRI hI h1R;go_enter Try.func75,Try.ntmps75
 go_wp2_with (first
 |((with_reducible refine gate_dst (N:=2) rfl ?_);refine box_event ?hg (N:=2) ?hd (cs:=#[.int .i64 RI,.int .i64 CI,.slice A0 l.length c0]) (t:=73) ?hr ?_;(case hd=>rfl);(case hg=>rfl);(case hr=>first|(go_simp;done)|(go_simp;rfl));intro gb hg w1 hbox hb;have G1:=za hg;have K1:=za hbox;have B1:=za hb;clear hg hbox hb;have z1:w1.cell? ⟨gb,0,none⟩=some (.int .i64 RI):=(blk_cell K1.out 0).trans rfl)
 |((with_reducible refine gate_dst (N:=3) rfl ?_);refine box_event ?hg (N:=3) ?hd (cs:=#[.func (.func 76) #[] #[cc1,cc2]]) (t:=62) ?hr ?_;(case hd=>rfl);(case hg=>rfl);(case hr=>first|(go_simp;done)|(go_simp;rfl));intro gd hg w2 hbox hb;have G2:=za hg;have K2:=za hbox;have B2:=za hb;clear hg hbox hb;have z2:w2.cell? ⟨gb,0,none⟩=some (.int .i64 RI):=(blk_cell (blk_below K1.out B2.out) 0).trans rfl)
 |((with_reducible refine gate_dst (N:=9) rfl ?_);refine Kd.R_make (Kd.int .i64) (w0:=w2) w2.heap.size 3 rfl (N:=9) rfl 29 _ _ rfl RI rfl rfl Try.underlying29 (.int .i64 0) 8 info3 rfl (by decide) (by omega) 0 (ok:=fun _=>True) (okp:=fun _=>True) rfl (fun _ hk=>hk) trivial p1.out p2.out (Below.refl _ _) (Nat.le_refl _) ?_;intro v3 w3 ho3 hb hg_ hnew_;clear hg_ hnew_;rw [p3.out] at ho3;obtain ⟨ga,cp,hv3,hga,hga2,cells3,hc3⟩:=Kd.R_form ho3 (by rw [List.length_replicate];exact p4.out);rw [List.length_replicate] at hv3;subst hv3;have G3:=za (And.intro hga hga2);have K3:=za hc3;clear hga hga2 hc3;have B3:=za hb;have O3:=za ho3;clear hb ho3)
 |((with_reducible refine gate_dst (N:=4) rfl ?_);refine box_event ?hg (N:=4) ?hd (cs:=#[.slice none 0 0]) (t:=29) ?hr ?_;(case hd=>rfl);(case hg=>rfl);(case hr=>first|(go_simp;done)|(go_simp;rfl));intro gp hg w4 hbox hb;have G4:=za hg;have K4:=za hbox;have B4:=za hb;clear hg hbox hb)
 |((with_reducible refine gate_dst (N:=5) rfl ?_);refine box_event ?hg (N:=5) ?hd (cs:=#[.bool false]) (t:=4) ?hr ?_;(case hd=>rfl);(case hg=>rfl);(case hr=>first|(go_simp;done)|(go_simp;rfl));intro gg hg w5 hbox hb;have G5:=za hg;have K5:=za hbox;have B5:=za hb;clear hg hbox hb;have y1:w5.cell? ⟨gp,0,none⟩=some (.slice none 0 0):=(blk_cell (blk_below K4.out B5.out) 0).trans rfl;have f1:w5.frozen? ⟨gp,0,none⟩=false:=blk_frozen (blk_below K4.out B5.out) 0)
 |((with_reducible refine gate_store (t:=29) (p:=4) rfl ?_);refine store_event (t:=29) (p:=4) (v:=?vo) (w1:=(w5.setCell ⟨gp,0,none⟩ (.slice (some ⟨ga,0,none⟩) R cp))) ?hg ?ho ?hn ?hr ?_;(case ho=>rfl);(case hg=>rfl);(case hn=>rfl);(case hr=>first|(go_simp;done)|(go_simp;rfl));intro w6 hw;have E6:=za hw;clear hw;have N65:=za (show gg ≠ gp by rw [G5.out];exact Nat.ne_of_gt (blk_lt K4.out));have K56:=za (show w6.heap[gg]?=some (.cells #[.bool false] 4 (0,0)) by rw [E6.out];exact blk_far K5.out N65.out _);have y2:w6.cell? ⟨gg,0,none⟩=some (.bool false):=(blk_cell K56.out 0).trans rfl;have f2:w6.frozen? ⟨gg,0,none⟩=false:=blk_frozen K56.out 0)
 |((with_reducible refine gate_dst (N:=6) rfl ?_);refine box_event ?hg (N:=6) ?hd (cs:=#[.nilFunc]) (t:=81) ?hr ?_;(case hd=>rfl);(case hg=>rfl);(case hr=>first|(go_simp;done)|(go_simp;rfl));intro gr hg w8 hbox hb;have G8:=za hg;have K8:=za hbox;have B8:=za hb;clear hg hbox hb;have y3:w8.cell? ⟨gr,0,none⟩=some .nilFunc:=(blk_cell K8.out 0).trans rfl;have f3:w8.frozen? ⟨gr,0,none⟩=false:=blk_frozen K8.out 0)
 |(go_at_call 82;(refine (KX.out ⟨gb,gd,ga,gp,gg,gr⟩ cp _ ?sa ?ss ?sc ?sw).mono ?_);(case sa=>(have o1:=blk_lt K1.out;have o2:=G2.out;have o3:=blk_lt K2.out;have o4:=G3.out;have o5:=G4.out;have o6:=blk_lt K4.out;have o7:=G5.out;have o8:=blk_lt K5.out;have o9:w6.heap.size=w5.heap.size:=(by rw [E6.out];simp [World.setCell]);have o10:(w6.setCell ⟨gg,0,none⟩ (.bool true)).heap.size=w6.heap.size:=(by simp [World.setCell]);have o11:=G8.out;have o12:=G1.out;constructor <;> (try simp only []) <;> omega));(case ss=>(have o1:=blk_lt K1.out;have o2:=G2.out;have o3:=blk_lt K2.out;have o4:=G3.out;have o5:=G4.out;have o6:=blk_lt K4.out;have o7:=G5.out;have o8:=blk_lt K5.out;have o9:w6.heap.size=w5.heap.size:=(by rw [E6.out];simp [World.setCell]);have o10:(w6.setCell ⟨gg,0,none⟩ (.bool true)).heap.size=w6.heap.size:=(by simp [World.setCell]);have o11:=G8.out;have o12:=G1.out;rintro i (rfl|rfl|rfl|rfl|rfl|rfl) <;> (try simp only []) <;> omega));(case sc=>exact (zl O3.out).2.1);(case sw=>(have o1:=blk_lt K1.out;have o2:=G2.out;have o3:=blk_lt K2.out;have o4:=G3.out;have o5:=G4.out;have o6:=blk_lt K4.out;have o7:=G5.out;have o8:=blk_lt K5.out;have o9:w6.heap.size=w5.heap.size:=(by rw [E6.out];simp [World.setCell]);have o10:(w6.setCell ⟨gg,0,none⟩ (.bool true)).heap.size=w6.heap.size:=(by simp [World.setCell]);have o11:=G8.out;have o12:=G1.out;have q1:=blk_below (blk_below (blk_below (blk_below K1.out B2.out) B3.out) B4.out) B5.out;have q2:=blk_below (blk_below (blk_below K2.out B3.out) B4.out) B5.out;have q3:=Kd.R_below (Kd.R_below (Kd.R_mono (Kd.R_lower (Kd.R_tight rfl O3.out) (Nat.zero_le _)) (fun i hi=>(by simpa [Value.ownBlock] using hi:i=ga))) B4.out) B5.out;have q4:=blk_below K4.out B5.out;have e1:gb ≠ gp:=(by omega);have e2:gd ≠ gp:=(by omega);have e3:ga ≠ gp:=(by omega);have e4:gb ≠ gg:=(by omega);have e5:gd ≠ gg:=(by omega);have e6:ga ≠ gg:=(by omega);have e7:gp ≠ gg:=(by omega);have e8:gb ≠ gr:=(by omega);have e9:gd ≠ gr:=(by omega);have e10:ga ≠ gr:=(by omega);have e11:gp ≠ gr:=(by omega);have e12:gg ≠ gr:=(by omega);have b5:Below w0.heap.size w0 w5:=(((B1.out.trans (B2.out.mono (by omega))).trans (B3.out.mono (by omega))).trans (B4.out.mono (by omega))).trans (B5.out.mono (by omega));have b7:Below w0.heap.size w0 (w6.setCell ⟨gg,0,none⟩ (.bool true)):=(by refine Below.setCell ?_ (by (try simp only []);omega) _;rw [E6.out];exact Below.setCell b5 (by (try simp only []);omega) _);have b9:Below w0.heap.size w0 (w8.setCell ⟨gr,0,none⟩ (.func (.func 82) #[] #[.pointer (some ⟨gb,0,none⟩),.pointer (some ⟨gd,0,none⟩),.pointer (some ⟨gp,0,none⟩),.pointer (some ⟨gg,0,none⟩),.pointer (some ⟨gr,0,none⟩)])):=(by exact Below.setCell (b7.trans (B8.out.mono (by omega))) (by (try simp only []);omega) _);exact ⟨(by refine blk_far (blk_below ?_ B8.out) e8 _;rw [E6.out];exact blk_far (blk_far q1 e1 _) e4 _),(by refine blk_far (blk_below ?_ B8.out) e9 _;rw [E6.out];exact blk_far (blk_far q2 e2 _) e5 _),(by refine Kd.R_far (Kd.R_below ?_ B8.out) (fun i hi=>(by rw [hi];exact e10)) _;rw [E6.out];exact Kd.R_far (Kd.R_far q3 (fun i hi=>(by rw [hi];exact e3)) _) (fun i hi=>(by rw [hi];exact e6)) _),(by refine blk_far (blk_below ?_ B8.out) e11 _;rw [E6.out];exact blk_far (blk_put q4 0 _ rfl) e7 _),(by refine blk_far (blk_below ?_ B8.out) e12 _;rw [E6.out];exact blk_put (blk_far K5.out e7.symm _) 0 _ rfl),(by exact blk_put K8.out 0 _ rfl),H0.out _ _ (by rintro i (rfl|rfl|rfl|rfl|rfl|rfl) <;> (try simp only []) <;> omega) b9⟩));rintro e w10 ⟨rfl,hfin⟩))
 (first|go_end0|((try simp only [Exit.inBlock,Exit.then]);refine bodyPost_ret (results_none rfl _ _ _) rfl ?_));exact ⟨rfl,hfin⟩
end
end Go.Proofs.Ytadkkcdhgepbkaa.WalkW
end
section
namespace Go.Proofs.Ytadkkcdhgepbkaa.Q
open Go.RowKit Go.Proofs.YtadkkcdhgepbkaaW.PrintWords Go.Proofs.YtadkkcdhgepbkaaW.PrintLast Go.Proofs.YtadkkcdhgepbkaaW.PrintMore
attribute [local go_sem] max2_int min2_int max_two min_two max_three min_three max_four min_four   -- for this text's walks alone
set_option linter.unusedVariables false
set_option linter.unusedSimpArgs false
def slices_Index_int_int.l0:Nat→List Int→Int→Int→Int→Option (Int)
|0,_,_,_,_=>none
|k + 1,x0,x1,x7,x8=>if x8 < x7 then (if 0≤x8 then (if x8 < (x0.length:Int) then (if x1=(rd x0 x8) then (some x8) else (slices_Index_int_int.l0 k x0 x1 x7 (wrap64 (x8 + 1)))) else (none)) else (none)) else (some (-1))
def slices_Index_int_int.f (k:Nat) (l0:List Int) (a1:Int):Option (Int):=slices_Index_int_int.l0 k l0 a1 (l0.length:Int) 0
set_option maxHeartbeats 8000000 in
set_option maxRecDepth 100000 in
theorem slices_Index_int_int.calls (k:Nat) (A0:Option Addr) (c0:Nat) (l0:List Int) (a1:Int) (r:Int) (w:World) (hr0:Kd.C (Kd.int .i64) w A0 l0.length l0) (hc0:l0.length≤c0) (h:slices_Index_int_int.f k l0 a1=some r) :
  Calls Try.prog 86 #[.slice A0 l0.length c0,.int .i64 a1] w fun e w'=>e=.returned (.int .i64 r)∧Drawn0 w w':=by
 have HR0:=za hr0;have HC0:=za hc0;clear hr0 hc0;have H:(slices_Index_int_int.l0 k l0 a1 (l0.length:Int) 0)=some r:=h;clear h;have H':=za H;clear H;(go_enter Try.func86,Try.ntmps86);(go_wp2);(go_loopg [8] k (fun kq v8 w'=>∃ (x8_1:Int),v8=.int .i64 x8_1∧Aside0 (slices_Index_int_int.l0 kq l0 a1 (l0.length:Int) x8_1=some r)∧Aside0 (kq≤k)∧Drawn0 w w'));case atStart=>exact ⟨(0),(by first|rfl|(simp;done)|(simp [*];done)),H',⟨Nat.le_refl _⟩,by repeat (first|exact Drawn0.refl _|apply Drawn0.step)⟩
 case round =>
  clear H';(try clear p2);obtain ⟨x8_1,rfl,HA,HK1,⟨m1,rfl⟩⟩:=hrel
  cases gk with
 |zero=>exact absurd HA.out (by simp [slices_Index_int_int.l0])
 |succ k1 =>
   have H:=HA.out;clear HA;simp only [slices_Index_int_int.l0] at H;by_cases c3:x8_1 < (l0.length:Int)
   ·
    rw [if_pos c3] at H;have c3b0:decide (x8_1 < (l0.length:Int))=true:=decide_eq_true c3;clear c3;by_cases c4:0≤x8_1
    ·
     rw [if_pos c4] at H;have c4b0:decide (0≤x8_1)=true:=decide_eq_true c4;clear c4;by_cases c5:x8_1 < (l0.length:Int)
     ·
      rw [if_pos c5] at H;have c5b0:decide (x8_1 < (l0.length:Int))=true:=decide_eq_true c5;clear c5;by_cases c6:a1=(rd l0 x8_1)
      · rw [if_pos c6] at H;have c6b0:(a1 == (rd l0 x8_1))=true:=beq_iff_eq.mpr c6;have c6b1:(a1 != (rd l0 x8_1))=false:=bne_eq_false_iff_eq.mpr c6;clear c6;obtain rfl:=Option.some.inj H;have p101:0≤(x8_1:Int):=of_decide_eq_true ‹_›;have q101:x8_1 < (l0.length:Int):=of_decide_eq_true ‹_›;obtain ⟨ad101,e101,hx101_0⟩:=Kd.at_int HR0.out x8_1 p101 q101;cases e101;replace p101:=eq_true p101;replace q101:=eq_true q101;(go_wp2);(go_ret);exact ⟨by first|rfl|(simp;done)|(simp [*];done),by repeat (first|exact Drawn0.refl _|apply Drawn0.step)⟩
      · rw [if_neg c6] at H;have c6b0:(a1 == (rd l0 x8_1))=false:=beq_eq_false_iff_ne.mpr c6;have c6b1:(a1 != (rd l0 x8_1))=true:=bne_iff_ne.mpr c6;have H':=za H;clear H;have p101:0≤(x8_1:Int):=of_decide_eq_true ‹_›;have q101:x8_1 < (l0.length:Int):=of_decide_eq_true ‹_›;obtain ⟨ad101,e101,hx101_0⟩:=Kd.at_int HR0.out x8_1 p101 q101;cases e101;replace p101:=eq_true p101;replace q101:=eq_true q101;(go_wp2);(go_roundg k1);(case measure=>have:=HK1.out;omega);case rel=>exact ⟨(wrap64 (x8_1 + 1)),(by first|rfl|(simp;done)|(simp [*];done)),H',⟨by have:=HK1.out;omega⟩,by repeat (first|exact Drawn0.refl _|apply Drawn0.step)⟩
     · rw [if_neg c5] at H;exact absurd H (by simp)
    · rw [if_neg c4] at H;exact absurd H (by simp)
   · rw [if_neg c3] at H;have c3b0:decide (x8_1 < (l0.length:Int))=false:=decide_eq_false c3;clear c3;obtain rfl:=Option.some.inj H;(go_wp2);(go_ret);exact ⟨by first|rfl|(simp;done)|(simp [*];done),by repeat (first|exact Drawn0.refl _|apply Drawn0.step)⟩
end Go.Proofs.Ytadkkcdhgepbkaa.Q
end
section
namespace Go.Proofs.Ytadkkcdhgepbkaa.Q
open Go.RowKit Go.Proofs.YtadkkcdhgepbkaaW.PrintWords Go.Proofs.YtadkkcdhgepbkaaW.PrintLast Go.Proofs.YtadkkcdhgepbkaaW.PrintMore
attribute [local go_sem] max2_int min2_int max_two min_two max_three min_three max_four min_four   -- for this text's walks alone
set_option linter.unusedVariables false
set_option linter.unusedSimpArgs false
def slices_Contains_int_int.f (k:Nat) (l0:List Int) (a1:Int):Option (Bool):=(slices_Index_int_int.f k l0 a1).bind fun t101=>(some (decide (t101 ≥ 0)))
set_option maxHeartbeats 8000000 in
set_option maxRecDepth 100000 in
theorem slices_Contains_int_int.calls (k:Nat) (A0:Option Addr) (c0:Nat) (l0:List Int) (a1:Int) (r:Bool) (w:World) (hr0:Kd.C (Kd.int .i64) w A0 l0.length l0) (hc0:l0.length≤c0) (h:slices_Contains_int_int.f k l0 a1=some r) :
  Calls Try.prog 84 #[.slice A0 l0.length c0,.int .i64 a1] w fun e w'=>e=.returned (.bool r)∧Drawn0 w w':=by
 have HR0:=za hr0;have HC0:=za hc0;clear hr0 hc0;have H:((slices_Index_int_int.f k l0 a1).bind fun t101=>(some (decide (t101 ≥ 0))))=some r:=h;clear h;obtain ⟨t101,A3,H⟩:=bindAside H;(try dsimp only at H);obtain rfl:=Option.some.inj H;(go_enter Try.func84,Try.ntmps84);(go_wp2_with (first|((with_reducible refine zh (f:=86) rfl ?_);refine goesL_ (some 7) rfl rfl Try.func86 (by kernel_rfl) rfl #[.slice A0 l0.length c0,.int .i64 a1] rfl (by first|rfl|simp only [z3_,z4_,z5_];try rfl) ?_;(with_reducible refine (slices_Index_int_int.calls k _ _ l0 a1 t101 _ ?side1 ?side2 A3.out).mono ?_);(case side1=>repeat (first|exact HR0.out|(with_reducible refine zi ?_ _)|(with_reducible refine zj ?_ _)|(with_reducible refine zk ?_)));(case side2=>exact HC0.out);rintro e w' ⟨rfl,⟨nd,rfl⟩⟩;refine ⟨_,rfl,?_⟩)));(go_ret);exact ⟨by first|rfl|(simp;done)|(simp [*];done),by repeat (first|exact Drawn0.refl _|apply Drawn0.step)⟩
end Go.Proofs.Ytadkkcdhgepbkaa.Q
end
section
namespace Go.Proofs.Ytadkkcdhgepbkaa.Q
open Go.RowKit Go.Proofs.YtadkkcdhgepbkaaW.PrintWords Go.Proofs.YtadkkcdhgepbkaaW.PrintLast Go.Proofs.YtadkkcdhgepbkaaW.PrintMore
attribute [local go_sem] max2_int min2_int max_two min_two max_three min_three max_four min_four   -- for this text's walks alone
set_option linter.unusedVariables false
set_option linter.unusedSimpArgs false
mutual
def impl_free.l0:Nat→List Int→Int→List Int→Int→Int→Option (Int)
|0,_,_,_,_,_=>none
|k + 1,x1,x5,x9,x10,x11=>if x11 < x10 then (if 0≤x11 then (if x11 < (x9.length:Int) then (impl_free.l1 k x1 x5 x11 x9 x10 x11 (rd x9 x11) 0) else (none)) else (none)) else (some x5)
def impl_free.l1:Nat→List Int→Int→Int→List Int→Int→Int→Int→Int→Option (Int)
|0,_,_,_,_,_,_,_,_=>none
|k + 1,x1,x5,x6,x9,x10,x11,x16,x17=>if x17 < x16 then (if 0≤x6 then (if x6 < (x1.length:Int) then (if (rd x1 x6)=(-1) then (if x6≤(x1.length:Int) then ((slices_Contains_int_int.f k (x1.take (x6:Int).toNat) x17).bind fun t104=>(if t104=true then (impl_free.l1 k x1 x5 x6 x9 x10 x11 x16 (wrap64 (x17 + 1))) else (impl_free.l1 k x1 (wrap64 (x5 + 1)) x6 x9 x10 x11 x16 (wrap64 (x17 + 1))))) else (none)) else (if (rd x1 x6)≤x17 then (impl_free.l1 k x1 x5 x6 x9 x10 x11 x16 (wrap64 (x17 + 1))) else (if x6≤(x1.length:Int) then ((slices_Contains_int_int.f k (x1.take (x6:Int).toNat) x17).bind fun t107=>(if t107=true then (impl_free.l1 k x1 x5 x6 x9 x10 x11 x16 (wrap64 (x17 + 1))) else (impl_free.l1 k x1 (wrap64 (x5 + 1)) x6 x9 x10 x11 x16 (wrap64 (x17 + 1))))) else (none)))) else (none)) else (none)) else (impl_free.l0 k x1 x5 x9 x10 (wrap64 (x11 + 1)))
end
def impl_free.f (k:Nat) (l0:List Int) (l1:List Int):Option (Int):=impl_free.l0 k l1 0 l0 (l0.length:Int) 0
set_option maxHeartbeats 8000000 in
set_option maxRecDepth 100000 in
theorem impl_free.calls (k:Nat) (A0:Option Addr) (c0:Nat) (l0:List Int) (A1:Option Addr) (c1:Nat) (l1:List Int) (r:Int) (w:World) (hr0:Kd.C (Kd.int .i64) w A0 l0.length l0) (hc0:l0.length≤c0) (hr1:Kd.C (Kd.int .i64) w A1 l1.length l1) (hc1:l1.length≤c1) (h:impl_free.f k l0 l1=some r) :
  Calls Try.prog 77 #[.slice A0 l0.length c0,.slice A1 l1.length c1] w fun e w'=>e=.returned (.int .i64 r)∧Drawn0 w w':=by
 have HR0:=za hr0;have HC0:=za hc0;clear hr0 hc0;have HR1:=za hr1;have HC1:=za hc1;clear hr1 hc1;have H:(impl_free.l0 k l1 0 l0 (l0.length:Int) 0)=some r:=h;clear h;have H':=za H;clear H;(go_enter Try.func77,Try.ntmps77);(go_wp2);(go_loopg [5,11] k (fun kq v5 v11 w'=>∃ (x5_1:Int) (x11_1:Int),v5=.int .i64 x5_1∧v11=.int .i64 x11_1∧Aside0 (impl_free.l0 kq l1 x5_1 l0 (l0.length:Int) x11_1=some r)∧Aside0 (kq≤k)∧Drawn0 w w'));case atStart=>exact ⟨(0),(0),(by first|rfl|(simp;done)|(simp [*];done)),(by first|rfl|(simp;done)|(simp [*];done)),H',⟨Nat.le_refl _⟩,by repeat (first|exact Drawn0.refl _|apply Drawn0.step)⟩
 case round =>
  clear H';(try clear c1);(try clear p2);obtain ⟨x5_1,x11_1,rfl,rfl,HA,HK1,⟨m1,rfl⟩⟩:=hrel
  cases gk with
 |zero=>exact absurd HA.out (by simp [impl_free.l0])
 |succ k1 =>
   have H:=HA.out;clear HA;simp only [impl_free.l0] at H;by_cases c3:x11_1 < (l0.length:Int)
   ·
    rw [if_pos c3] at H;have c3b0:decide (x11_1 < (l0.length:Int))=true:=decide_eq_true c3;clear c3;by_cases c4:0≤x11_1
    ·
     rw [if_pos c4] at H;have c4b0:decide (0≤x11_1)=true:=decide_eq_true c4;clear c4;by_cases c5:x11_1 < (l0.length:Int)
     ·
      rw [if_pos c5] at H;have c5b0:decide (x11_1 < (l0.length:Int))=true:=decide_eq_true c5;clear c5;have H':=za H;clear H;have p101:0≤(x11_1:Int):=of_decide_eq_true ‹_›;have q101:x11_1 < (l0.length:Int):=of_decide_eq_true ‹_›;obtain ⟨ad101,e101,hx101_0⟩:=Kd.at_int HR0.out x11_1 p101 q101;cases e101;replace p101:=eq_true p101;replace q101:=eq_true q101;(go_wp2);(go_loopg [5,17] k1 (fun kq v5 v17 w'=>∃ (x5_2:Int) (x17_2:Int),v5=.int .i64 x5_2∧v17=.int .i64 x17_2∧Aside0 (impl_free.l1 kq l1 x5_2 x11_1 l0 (l0.length:Int) x11_1 (rd l0 x11_1) x17_2=some r)∧Aside0 (kq≤k1)∧Drawn0 w w'));case atStart=>exact ⟨(x5_1),(0),(by first|rfl|(simp;done)|(simp [*];done)),(by first|rfl|(simp;done)|(simp [*];done)),H',⟨Nat.le_refl _⟩,by repeat (first|exact Drawn0.refl _|apply Drawn0.step)⟩
      case round =>
       clear H';(try clear c1);(try clear p1);(try clear q1);(try clear hx1);(try clear p2);(try clear c3);(try clear c3b0);(try clear c4);(try clear c4b0);(try clear c5);(try clear c5b0);(try clear hx101_0);(try clear p101);(try clear p2);(try clear q101);obtain ⟨x5_2,x17_2,rfl,rfl,HA,HK2,⟨m2,rfl⟩⟩:=hrel
       cases gk with
      |zero=>exact absurd HA.out (by simp [impl_free.l1])
      |succ k2 =>
        have H:=HA.out;clear HA;simp only [impl_free.l1] at H;by_cases c6:x17_2 < (rd l0 x11_1)
        ·
         rw [if_pos c6] at H;have c6b0:decide (x17_2 < (rd l0 x11_1))=true:=decide_eq_true c6;clear c6;by_cases c7:0≤x11_1
         ·
          rw [if_pos c7] at H;have c7b0:decide (0≤x11_1)=true:=decide_eq_true c7;clear c7;by_cases c8:x11_1 < (l1.length:Int)
          ·
           rw [if_pos c8] at H;have c8b0:decide (x11_1 < (l1.length:Int))=true:=decide_eq_true c8;clear c8;by_cases c9:(rd l1 x11_1)=(-1)
           ·
            rw [if_pos c9] at H;have c9b0:((rd l1 x11_1) == (-1))=true:=beq_iff_eq.mpr c9;have c9b1:((rd l1 x11_1) != (-1))=false:=bne_eq_false_iff_eq.mpr c9;clear c9;have c10b0:=eq_true (of_decide_eq_true ‹_›:0≤x11_1);by_cases c11:x11_1≤(l1.length:Int)
            ·
             rw [if_pos c11] at H;have c11b0:=eq_true c11;have c11b1:decide (x11_1≤(l1.length:Int))=true:=decide_eq_true c11;clear c11;obtain ⟨t104,A12,H⟩:=bindAside H;(try dsimp only at H);by_cases c13:t104=true
             · subst c13;(have H1:(impl_free.l1 k2 l1 x5_2 x11_1 l0 (l0.length:Int) x11_1 (rd l0 x11_1) (wrap64 (x17_2 + 1)))=some r:=by rw [if_pos rfl] at H;exact H);clear H;have H:=H1;clear H1;have H':=za H;clear H;have p102:0≤(x11_1:Int):=of_decide_eq_true ‹_›;have q102:x11_1 < (l1.length:Int):=of_decide_eq_true ‹_›;obtain ⟨ad102,e102,hx102_0⟩:=Kd.at_int HR1.out x11_1 p102 q102;cases e102;replace p102:=eq_true p102;replace q102:=eq_true q102;obtain ⟨i014,hi014,_,hsz14,_⟩:=info_parts info3;obtain ⟨hcut14,hA14,hC14⟩:=print_take_of (P:=Try.prog) (Value.int .i64) 0 29 3 .i64 Try.underlying29 hi014 hsz14 (some ad102) c1 l1 x11_1 (of_decide_eq_true ‹_›) (of_decide_eq_true ‹_›) HC1.out;have HR103:=za (Kd.C_of_reads (h1:=fun _=>rfl) (hA14 _ (Kd.reads_of_C HR1.out)));have HC103:=za hC14;clear hA14 hC14 hi014 hsz14;(go_wp2_with (first|(go_at_call 84;refine calls_of_args (args':=#[.slice (some ad102) (l1.take (x11_1:Int).toNat).length c1,.int .i64 x17_2]) (by first|(rw [show (l1.take (x11_1:Int).toNat).length=x11_1.toNat from (by rw [List.length_take];have h_:(x11_1:Int)≤(l1.length:Int):=of_decide_eq_true ‹_›;omega)] <;> rfl)|rfl) ?_;(with_reducible refine (slices_Contains_int_int.calls k2 _ _ (l1.take (x11_1:Int).toNat) x17_2 true _ ?side1 ?side2 A12.out).mono ?_);(case side1=>repeat (first|exact HR103.out|(with_reducible refine zi ?_ _)|(with_reducible refine zj ?_ _)|(with_reducible refine zk ?_)));(case side2=>exact HC103.out);rintro e w' ⟨rfl,⟨nd,rfl⟩⟩)));(go_roundg k2);(case measure=>have:=HK1.out;have:=HK2.out;omega);case rel=>exact ⟨(x5_2),(wrap64 (x17_2 + 1)),(by first|rfl|(simp;done)|(simp [*];done)),(by first|rfl|(simp;done)|(simp [*];done)),H',⟨by have:=HK1.out;have:=HK2.out;omega⟩,by repeat (first|exact Drawn0.refl _|apply Drawn0.step)⟩
             · replace c13:=Bool.eq_false_iff.mpr c13;subst c13;(have H1:(impl_free.l1 k2 l1 (wrap64 (x5_2 + 1)) x11_1 l0 (l0.length:Int) x11_1 (rd l0 x11_1) (wrap64 (x17_2 + 1)))=some r:=by rw [if_neg (show ¬ (false=true) by decide)] at H;exact H);clear H;have H:=H1;clear H1;have H':=za H;clear H;have p102:0≤(x11_1:Int):=of_decide_eq_true ‹_›;have q102:x11_1 < (l1.length:Int):=of_decide_eq_true ‹_›;obtain ⟨ad102,e102,hx102_0⟩:=Kd.at_int HR1.out x11_1 p102 q102;cases e102;replace p102:=eq_true p102;replace q102:=eq_true q102;obtain ⟨i015,hi015,_,hsz15,_⟩:=info_parts info3;obtain ⟨hcut15,hA15,hC15⟩:=print_take_of (P:=Try.prog) (Value.int .i64) 0 29 3 .i64 Try.underlying29 hi015 hsz15 (some ad102) c1 l1 x11_1 (of_decide_eq_true ‹_›) (of_decide_eq_true ‹_›) HC1.out;have HR103:=za (Kd.C_of_reads (h1:=fun _=>rfl) (hA15 _ (Kd.reads_of_C HR1.out)));have HC103:=za hC15;clear hA15 hC15 hi015 hsz15;(go_wp2_with (first|(go_at_call 84;refine calls_of_args (args':=#[.slice (some ad102) (l1.take (x11_1:Int).toNat).length c1,.int .i64 x17_2]) (by first|(rw [show (l1.take (x11_1:Int).toNat).length=x11_1.toNat from (by rw [List.length_take];have h_:(x11_1:Int)≤(l1.length:Int):=of_decide_eq_true ‹_›;omega)] <;> rfl)|rfl) ?_;(with_reducible refine (slices_Contains_int_int.calls k2 _ _ (l1.take (x11_1:Int).toNat) x17_2 false _ ?side1 ?side2 A12.out).mono ?_);(case side1=>repeat (first|exact HR103.out|(with_reducible refine zi ?_ _)|(with_reducible refine zj ?_ _)|(with_reducible refine zk ?_)));(case side2=>exact HC103.out);rintro e w' ⟨rfl,⟨nd,rfl⟩⟩)));(go_roundg k2);(case measure=>have:=HK1.out;have:=HK2.out;omega);case rel=>exact ⟨(wrap64 (x5_2 + 1)),(wrap64 (x17_2 + 1)),(by first|rfl|(simp;done)|(simp [*];done)),(by first|rfl|(simp;done)|(simp [*];done)),H',⟨by have:=HK1.out;have:=HK2.out;omega⟩,by repeat (first|exact Drawn0.refl _|apply Drawn0.step)⟩
            · rw [if_neg c11] at H;exact absurd H (by simp)
           ·
            rw [if_neg c9] at H;have c9b0:((rd l1 x11_1) == (-1))=false:=beq_eq_false_iff_ne.mpr c9;have c9b1:((rd l1 x11_1) != (-1))=true:=bne_iff_ne.mpr c9;by_cases c16:(rd l1 x11_1)≤x17_2
            · rw [if_pos c16] at H;have c16b0:decide ((rd l1 x11_1)≤x17_2)=true:=decide_eq_true c16;clear c16;have H':=za H;clear H;have p102:0≤(x11_1:Int):=of_decide_eq_true ‹_›;have q102:x11_1 < (l1.length:Int):=of_decide_eq_true ‹_›;obtain ⟨ad102,e102,hx102_0⟩:=Kd.at_int HR1.out x11_1 p102 q102;cases e102;replace p102:=eq_true p102;replace q102:=eq_true q102;have p105:0≤(x11_1:Int):=of_decide_eq_true ‹_›;have q105:x11_1 < (l1.length:Int):=of_decide_eq_true ‹_›;obtain ⟨ad105,e105,hx105_0⟩:=Kd.at_int HR1.out x11_1 p105 q105;obtain rfl:ad102=ad105:=(by injection e105);replace p105:=eq_true p105;replace q105:=eq_true q105;(go_wp2);(go_roundg k2);(case measure=>have:=HK1.out;have:=HK2.out;omega);case rel=>exact ⟨(x5_2),(wrap64 (x17_2 + 1)),(by first|rfl|(simp;done)|(simp [*];done)),(by first|rfl|(simp;done)|(simp [*];done)),H',⟨by have:=HK1.out;have:=HK2.out;omega⟩,by repeat (first|exact Drawn0.refl _|apply Drawn0.step)⟩
            ·
             rw [if_neg c16] at H;have c16b0:decide ((rd l1 x11_1)≤x17_2)=false:=decide_eq_false c16;clear c16;have c17b0:=eq_true (of_decide_eq_true ‹_›:0≤x11_1);by_cases c18:x11_1≤(l1.length:Int)
             ·
              rw [if_pos c18] at H;have c18b0:=eq_true c18;have c18b1:decide (x11_1≤(l1.length:Int))=true:=decide_eq_true c18;clear c18;obtain ⟨t107,A19,H⟩:=bindAside H;(try dsimp only at H);by_cases c20:t107=true
              · subst c20;(have H1:(impl_free.l1 k2 l1 x5_2 x11_1 l0 (l0.length:Int) x11_1 (rd l0 x11_1) (wrap64 (x17_2 + 1)))=some r:=by rw [if_pos rfl] at H;exact H);clear H;have H:=H1;clear H1;have H':=za H;clear H;have p102:0≤(x11_1:Int):=of_decide_eq_true ‹_›;have q102:x11_1 < (l1.length:Int):=of_decide_eq_true ‹_›;obtain ⟨ad102,e102,hx102_0⟩:=Kd.at_int HR1.out x11_1 p102 q102;cases e102;replace p102:=eq_true p102;replace q102:=eq_true q102;have p105:0≤(x11_1:Int):=of_decide_eq_true ‹_›;have q105:x11_1 < (l1.length:Int):=of_decide_eq_true ‹_›;obtain ⟨ad105,e105,hx105_0⟩:=Kd.at_int HR1.out x11_1 p105 q105;obtain rfl:ad102=ad105:=(by injection e105);replace p105:=eq_true p105;replace q105:=eq_true q105;obtain ⟨i021,hi021,_,hsz21,_⟩:=info_parts info3;obtain ⟨hcut21,hA21,hC21⟩:=print_take_of (P:=Try.prog) (Value.int .i64) 0 29 3 .i64 Try.underlying29 hi021 hsz21 (some ad102) c1 l1 x11_1 (of_decide_eq_true ‹_›) (of_decide_eq_true ‹_›) HC1.out;have HR106:=za (Kd.C_of_reads (h1:=fun _=>rfl) (hA21 _ (Kd.reads_of_C HR1.out)));have HC106:=za hC21;clear hA21 hC21 hi021 hsz21;(go_wp2_with (first|(go_at_call 84;refine calls_of_args (args':=#[.slice (some ad102) (l1.take (x11_1:Int).toNat).length c1,.int .i64 x17_2]) (by first|(rw [show (l1.take (x11_1:Int).toNat).length=x11_1.toNat from (by rw [List.length_take];have h_:(x11_1:Int)≤(l1.length:Int):=of_decide_eq_true ‹_›;omega)] <;> rfl)|rfl) ?_;(with_reducible refine (slices_Contains_int_int.calls k2 _ _ (l1.take (x11_1:Int).toNat) x17_2 true _ ?side1 ?side2 A19.out).mono ?_);(case side1=>repeat (first|exact HR106.out|(with_reducible refine zi ?_ _)|(with_reducible refine zj ?_ _)|(with_reducible refine zk ?_)));(case side2=>exact HC106.out);rintro e w' ⟨rfl,⟨nd,rfl⟩⟩)));(go_roundg k2);(case measure=>have:=HK1.out;have:=HK2.out;omega);case rel=>exact ⟨(x5_2),(wrap64 (x17_2 + 1)),(by first|rfl|(simp;done)|(simp [*];done)),(by first|rfl|(simp;done)|(simp [*];done)),H',⟨by have:=HK1.out;have:=HK2.out;omega⟩,by repeat (first|exact Drawn0.refl _|apply Drawn0.step)⟩
              · replace c20:=Bool.eq_false_iff.mpr c20;subst c20;(have H1:(impl_free.l1 k2 l1 (wrap64 (x5_2 + 1)) x11_1 l0 (l0.length:Int) x11_1 (rd l0 x11_1) (wrap64 (x17_2 + 1)))=some r:=by rw [if_neg (show ¬ (false=true) by decide)] at H;exact H);clear H;have H:=H1;clear H1;have H':=za H;clear H;have p102:0≤(x11_1:Int):=of_decide_eq_true ‹_›;have q102:x11_1 < (l1.length:Int):=of_decide_eq_true ‹_›;obtain ⟨ad102,e102,hx102_0⟩:=Kd.at_int HR1.out x11_1 p102 q102;cases e102;replace p102:=eq_true p102;replace q102:=eq_true q102;have p105:0≤(x11_1:Int):=of_decide_eq_true ‹_›;have q105:x11_1 < (l1.length:Int):=of_decide_eq_true ‹_›;obtain ⟨ad105,e105,hx105_0⟩:=Kd.at_int HR1.out x11_1 p105 q105;obtain rfl:ad102=ad105:=(by injection e105);replace p105:=eq_true p105;replace q105:=eq_true q105;obtain ⟨i022,hi022,_,hsz22,_⟩:=info_parts info3;obtain ⟨hcut22,hA22,hC22⟩:=print_take_of (P:=Try.prog) (Value.int .i64) 0 29 3 .i64 Try.underlying29 hi022 hsz22 (some ad102) c1 l1 x11_1 (of_decide_eq_true ‹_›) (of_decide_eq_true ‹_›) HC1.out;have HR106:=za (Kd.C_of_reads (h1:=fun _=>rfl) (hA22 _ (Kd.reads_of_C HR1.out)));have HC106:=za hC22;clear hA22 hC22 hi022 hsz22;(go_wp2_with (first|(go_at_call 84;refine calls_of_args (args':=#[.slice (some ad102) (l1.take (x11_1:Int).toNat).length c1,.int .i64 x17_2]) (by first|(rw [show (l1.take (x11_1:Int).toNat).length=x11_1.toNat from (by rw [List.length_take];have h_:(x11_1:Int)≤(l1.length:Int):=of_decide_eq_true ‹_›;omega)] <;> rfl)|rfl) ?_;(with_reducible refine (slices_Contains_int_int.calls k2 _ _ (l1.take (x11_1:Int).toNat) x17_2 false _ ?side1 ?side2 A19.out).mono ?_);(case side1=>repeat (first|exact HR106.out|(with_reducible refine zi ?_ _)|(with_reducible refine zj ?_ _)|(with_reducible refine zk ?_)));(case side2=>exact HC106.out);rintro e w' ⟨rfl,⟨nd,rfl⟩⟩)));(go_roundg k2);(case measure=>have:=HK1.out;have:=HK2.out;omega);case rel=>exact ⟨(wrap64 (x5_2 + 1)),(wrap64 (x17_2 + 1)),(by first|rfl|(simp;done)|(simp [*];done)),(by first|rfl|(simp;done)|(simp [*];done)),H',⟨by have:=HK1.out;have:=HK2.out;omega⟩,by repeat (first|exact Drawn0.refl _|apply Drawn0.step)⟩
             · rw [if_neg c18] at H;exact absurd H (by simp)
          · rw [if_neg c8] at H;exact absurd H (by simp)
         · rw [if_neg c7] at H;exact absurd H (by simp)
        · rw [if_neg c6] at H;have c6b0:decide (x17_2 < (rd l0 x11_1))=false:=decide_eq_false c6;clear c6;have H':=za H;clear H;(go_wp2);(go_roundg k2);(case measure=>have:=HK1.out;have:=HK2.out;omega);case rel=>exact ⟨(x5_2),(wrap64 (x11_1 + 1)),(by first|rfl|(simp;done)|(simp [*];done)),(by first|rfl|(simp;done)|(simp [*];done)),H',⟨by have:=HK1.out;have:=HK2.out;omega⟩,by repeat (first|exact Drawn0.refl _|apply Drawn0.step)⟩
     · rw [if_neg c5] at H;exact absurd H (by simp)
    · rw [if_neg c4] at H;exact absurd H (by simp)
   · rw [if_neg c3] at H;have c3b0:decide (x11_1 < (l0.length:Int))=false:=decide_eq_false c3;clear c3;obtain rfl:=Option.some.inj H;(go_wp2);(go_ret);exact ⟨by first|rfl|(simp;done)|(simp [*];done),by repeat (first|exact Drawn0.refl _|apply Drawn0.step)⟩
end Go.Proofs.Ytadkkcdhgepbkaa.Q
end
section
namespace Go.Proofs.Ytadkkcdhgepbkaa.W1
set_option linter.unusedVariables false
set_option linter.unusedSectionVars false
open Go.RowKit Go.Proofs.YtadkkcdhgepbkaaW.PrintWords Go.Proofs.YtadkkcdhgepbkaaW.PrintLast Go.Proofs.YtadkkcdhgepbkaaW.PrintMore
open Go.Proofs.YtadkkcdhgepbkaaL Go.Proofs.Ytadkkcdhgepbkaa.LawK Go.Proofs.Ytadkkcdhgepbkaa.Q
def pad (row : List Int) (e : Nat) : List Int := row ++ List.replicate (e + 1 - row.length) 0
def bump (row : List Int) (e : Nat) : List Int := (pad row e).set e (wrap64 (rd (pad row e) (e : Int) + 1))
theorem set_self {α : Type} {l : List α} {i : Nat} {x : α} (h : l[i]? = some x) : l.set i x = l := by
  obtain ⟨h1, h2⟩ := List.getElem?_eq_some_iff.1 h
  rw [← h2, List.set_getElem_self]
theorem put_row {W : World} {base g n cap : Nat} {ok oki okp : Nat → Prop} {xs : List (List Int)} {i : Int} {vi v' : Value} {row' : List Int} (h : Kd.H (Kd.slice 3 (Kd.int .i64)) 29 W base ok (.slice (some ⟨g, 0, none⟩) n cap) xs i oki [vi]) (h0 : 0 ≤ i) (h1 : i < n)
    (hR : Kd.R (Kd.int .i64) 3 W base okp v' row') (hp : ∀ k, okp k → oki k) (hng : ∀ k, okp k → k ≠ g) : Kd.S (Kd.slice 3 (Kd.int .i64)) 29 (W.setCell ⟨g, i.toNat, none⟩ v') base ok (.slice (some ⟨g, 0, none⟩) n cap) (xs.set i.toNat row') := by
  obtain ⟨A, c, rfl⟩ := Kd.R_slice hR
  obtain ⟨h2, _⟩ := Kd.H_seg (seg := [.slice A row'.length c]) (j := 0) h h0 h1 (Nat.le_refl _) (by intro q hq; rw [List.mem_singleton] at hq; subst hq; rfl)
  have e1 : W.setCells g (i.toNat * (Kd.slice 3 (Kd.int .i64)).sz + 0) [.slice A row'.length c] = W.setCell ⟨g, i.toNat, none⟩ (.slice A row'.length c) := by
    show W.setCell ⟨g, i.toNat * 1 + 0, none⟩ _ = _
    rw [Nat.mul_one, Nat.add_zero]
  rw [e1] at h2
  exact Kd.H_back (okp := okp) h2 ⟨_, rfl, Kd.R_far hR (fun k hk => hng k hk) _⟩ hp
section
variable (kI eI : Nat) (R cp a gl go bs kk g c1 : Nat) (l ps : List Int) (out : List (List Int)) (A0 : Option Addr) (c0 : Nat) (row : List Int) (OKP : Nat → Prop) (w : World)
  (hps : ps.length = R) (hcp : R ≤ cp) (hc0 : l.length ≤ c0) (hr : Kd.C (Kd.int .i64) w (some ⟨a, 0, none⟩) R ps) (hL : Kd.C (Kd.int .i64) w A0 l.length l)
  (hgl : w.heap[gl]? = some (.cells #[.slice A0 l.length c0] 29 (0, 0))) (hgo : w.heap[go]? = some (.cells #[.slice (some ⟨g, 0, none⟩) out.length c1] 24 (0, 0))) (hng : ∀ k, OKP k → k ≠ go) (hbs : bs ≤ w.heap.size) (hnew : ∀ k, w.heap.size ≤ k → OKP k)
  (ho : Kd.S (Kd.slice 3 (Kd.int .i64)) 29 w bs OKP (.slice (some ⟨g, 0, none⟩) out.length c1) out)
  (hk : kI < out.length) (he : eI ≤ 1000) (hrow : out[kI]? = some row) (hrl : row.length ≤ 1000) (hol : out.length ≤ 1000)
  (hh : impl_rooks.f kk ps = some (kI : Int)) (hf : impl_free.f kk l ps = some (eI : Int))
include hps hcp hc0 hr hL hgl hgo hng hbs hnew ho hk he hrow hrl hol hh hf
set_option maxHeartbeats 8000000 in
set_option maxRecDepth 100000 in
theorem w1_calls : Calls Try.prog 76 #[.slice (some ⟨a, 0, none⟩) R cp, .pointer (some ⟨gl, 0, none⟩), .pointer (some ⟨go, 0, none⟩)] w
    fun e w' => e = .returned (.bool true) ∧ Kd.S (Kd.slice 3 (Kd.int .i64)) 29 w' bs OKP (.slice (some ⟨g, 0, none⟩) out.length c1) (out.set kI (bump row eI)) ∧ Kept w w' OKP ∧ Below bs w w' := by
  have CR := Lib.hid (fun (W : World) (hb : Below w.heap.size w W) => by
    have := impl_rooks.calls kk (some ⟨a, 0, none⟩) cp ps (kI : Int) W (by rw [hps]; exact Kd.C_below hr hb) (by rw [hps]; exact hcp) hh
    rw [hps] at this
    have h2 : Calls Try.prog 64 #[.slice (some ⟨a, 0, none⟩) R cp] W fun e w' => e = .returned (.int .i64 (kI : Int)) ∧ Below w.heap.size w w' := this.mono (by rintro e w' ⟨rfl, h3⟩; exact ⟨rfl, hb.trans (h3.below.mono hb.size)⟩)
    exact h2)
  have CF := Lib.hid (fun (W : World) (hb : Below w.heap.size w W) => by
    have := impl_free.calls kk A0 c0 l (some ⟨a, 0, none⟩) cp ps (eI : Int) W (Kd.C_below hL hb) hc0 (by rw [hps]; exact Kd.C_below hr hb) (by rw [hps]; exact hcp) hf
    rw [hps] at this
    have h2 : Calls Try.prog 77 #[.slice A0 l.length c0, .slice (some ⟨a, 0, none⟩) R cp] W fun e w' => e = .returned (.int .i64 (eI : Int)) ∧ Below w.heap.size w w' := this.mono (by rintro e w' ⟨rfl, h3⟩; exact ⟨rfl, hb.trans (h3.below.mono hb.size)⟩)
    exact h2)
  have BL := Aside0.mk hgl
  have BO := Aside0.mk hgo
  have HS := Aside0.mk ho
  have HN := Lib.hid hnew
  have HBS := Aside0.mk hbs
  have HGL := Lib.hid hng
  have HW := Aside0.mk (And.intro hk (And.intro he (And.intro hrl hol)))
  have HR0 := Aside0.mk hrow
  have hz1 : w.cell? ⟨gl, 0, none⟩ = some (.slice A0 l.length c0) := (blk_cell hgl 0).trans rfl
  clear hps hcp hc0 hr hL hgl hgo hng hbs hnew ho hk he hrow hrl hol hh hf
  go_enter Try.func76, Try.ntmps76
  go_wp2
  go_region_with (first | (go_at_call 64; refine (CR.out _ (by repeat (first | exact Below.refl _ _ | apply below_drew1 | apply pw_below_drewN))).mono ?_; rintro e w2 ⟨rfl, hb⟩; have hb2 := Aside0.mk hb; have hz2 : w2.cell? ⟨gl, 0, none⟩ = some (.slice A0 l.length c0) := (blk_cell (blk_below BL.out hb) 0).trans rfl; clear hb) | (go_at_call 77; refine (CF.out _ hb2.out).mono ?_; rintro e w3 ⟨rfl, hb⟩; have hb3 := Aside0.mk hb; clear hb))
  all_goals clear hz1 hz2
  all_goals have S3 := Aside0.mk (Kd.S_below HS.out hb3.out)
  all_goals have O3 := Aside0.mk (blk_below BO.out hb3.out)
  all_goals have K3 := Aside0.mk (Kept.of_below hb3.out OKP)
  all_goals have B3 := Aside0.mk (hb3.out.mono HBS.out)
  all_goals clear hb2 hb3
  all_goals go_simp
  all_goals go_wp2
  all_goals (
    go_loopg [18] (max row.length (eI + 1) - row.length) (fun kq v18 w' => ∃ (j : Nat), Aside0 (row.length + j + kq = max row.length (eI + 1)) ∧ Aside0 (Kd.S (Kd.slice 3 (Kd.int .i64)) 29 w' bs OKP (.slice (some ⟨g, 0, none⟩) out.length c1) (out.set kI (row ++ List.replicate j 0))) ∧ Aside0 (Kept w w' OKP) ∧ Aside0 (Below bs w w'))
    case atStart => exact ⟨0, ⟨by have := HW.out; omega⟩, ⟨by rw [List.replicate_zero, List.append_nil, set_self HR0.out]; exact S3.out⟩, K3, B3⟩
    case round =>
      obtain ⟨j, HJ, HS2, HK, HB2⟩ := hrel
      have hW := HW.out
      have hj := HJ.out
      obtain ⟨rj, hrj⟩ : ∃ rj, rj = row ++ List.replicate j (0 : Int) := ⟨_, rfl⟩
      have hrjl : rj.length = row.length + j := by rw [hrj, List.length_append, List.length_replicate]
      rw [← hrj] at HS2
      obtain ⟨oki, cs, hcl, hM, hcell, hoki, hH⟩ := Kd.S_lend HS2.out [] (kI : Int) (by omega) (by omega)
      have hrow : (out.set kI rj).getD ((kI : Nat) : Int).toNat [] = rj := by
        rw [Int.toNat_natCast, List.getD_eq_getElem?_getD, List.getElem?_set_self (by omega)]; rfl
      rw [hrow] at hM
      obtain ⟨vi, rfl, hR⟩ := hM
      obtain ⟨Ai, ci, hvi⟩ := Kd.R_slice hR
      subst hvi
      have hzi : wr.cell? ⟨g, kI, none⟩ = some (.slice Ai rj.length ci) := by
        have := hcell 0 _ rfl
        simpa [Kd.slice, Nat.mul_one] using this
      have OW := Aside0.mk (show wr.heap[go]? = some (Obj.cells #[.slice (some ⟨g, 0, none⟩) out.length c1] 24 (0, 0)) from blk_kept BO.out HK.out (fun h => HGL.out go h rfl))
      have hzo : wr.cell? ⟨go, 0, none⟩ = some (.slice (some ⟨g, 0, none⟩) out.length c1) := (blk_cell OW.out 0).trans rfl
      have hHat := Kd.H_at hH (by omega) (by omega)
      have hfi : wr.frozen? ⟨g, kI, none⟩ = false := by
        have := hHat.2 0
        simpa [Kd.slice, Nat.mul_one] using this
      have p2 := eq_true (show (0 : Int) ≤ (kI : Int) by omega)
      have p3 := eq_true (show (kI : Int) < (out.length : Int) by omega)
      have HH := Aside0.mk hH
      have HO := Aside0.mk hoki
      have HR := Aside0.mk hR
      have HX := Aside0.mk (And.intro hrj hrjl)
      by_cases hlt : row.length + j ≤ eI
      · have p1 : decide (rj.length ≤ eI) = true := decide_eq_true (by omega)
        have HLT := Aside0.mk hlt
        have hat5 := Kd.H_at (Kd.H_drew (Kd.H_alloc hH (Obj.cells #[Value.int .i64 0] 3))) (by omega) (by omega)
        have hzi5 : ((wr.alloc (Obj.cells #[Value.int .i64 0] 3)).drew).cell? ⟨g, kI, none⟩ = some (.slice Ai rj.length ci) := by
          have := hat5.1 0 _ rfl
          simpa [Kd.slice, Nat.mul_one] using this
        have hzo5 : ((wr.alloc (Obj.cells #[Value.int .i64 0] 3)).drew).cell? ⟨go, 0, none⟩ = some (.slice (some ⟨g, 0, none⟩) out.length c1) := (blk_cell (blk_drew (blk_alloc OW.out _)) 0).trans rfl
        clear hW hj hrjl hcl hcell hrow hHat hoki hH hR hlt hrj hat5
        go_wp2
        go_region_law (first | ((try rw [show (wr.alloc (Obj.cells #[Value.int .i64 0] 3)).drew = (wr.drew).alloc (Obj.cells #[Value.int .i64 0] 3) from rfl]); refine Kd.R_append_step (Kd.int .i64) (w0 := w) bs (by kernel_rfl) (.tmp 24) (.tmp 25) 29 3 (.int .i64 0) 8 (by rfl) Try.underlying29 info3 rfl (by decide) (by decide) (.slice Ai rj.length ci) rj 0 [.int .i64 0] (fun k => oki k ∨ (OKP k ∧ wr.heap.size ≤ k)) (fun _ => False) (by rfl) (by rfl) ?x1 (fun _ hk => hk.elim) ?x3 ?x4 ?x5 ?x6 ?x7 ?_; (case x1 => exact rfl); (case x3 => exact fun k hk => .inr ⟨HN.out k (Nat.le_trans HK.out.1 hk), hk⟩); (case x4 => (((with_reducible repeat (first | apply Kd.R_alloc | apply Kd.R_drewN | apply Kd.R_drew))); exact Kd.R_mono HR.out (fun k hk => .inl hk))); (case x5 => exact (by repeat (first | (with_reducible first | exact HB2.out | apply pw_below_drewN | apply below_drew1) | exact HB2.out))); (case x6 => exact Nat.le_trans HBS.out HK.out.1); (case x7 => (have h1 := HX.out.2; have h2 := HLT.out; have h3 := HW.out; omega)); intro v4 w4 hr4 hb4 hg4 hat4; obtain ⟨A4, c4, hv4⟩ := Kd.R_slice hr4; subst hv4; have H4 := Aside0.mk (Kd.H_grown (Kd.H_widen (by ((with_reducible repeat (first | apply Kd.H_alloc | apply Kd.H_drewN | apply Kd.H_drew))); exact HH.out)) hg4 (fun k hk => .inl (HR.out.1 k hk))); have hat := Kd.H_at H4.out (by have := HW.out; omega) (by have := HW.out; omega); have hz4 : w4.cell? ⟨g, kI, none⟩ = some (.slice Ai rj.length ci) := (by have := hat.1 0 _ rfl; simpa [Kd.slice, Nat.mul_one] using this); have hf4 : w4.frozen? ⟨g, kI, none⟩ = false := (by have := hat.2 0; simpa [Kd.slice, Nat.mul_one] using this); have O4 := Aside0.mk (blk_grown (g := go) (o := .cells #[.slice (some ⟨g, 0, none⟩) out.length c1] 24 (0, 0)) (by (with_reducible repeat (first | refine blk_drewN ?_ _ | refine blk_drew ?_ | refine blk_alloc ?_ _)); exact OW.out) hg4 (fun he => HGL.out go (HO.out go (HR.out.1 go he.symm)).1 rfl)); have hzo4 : w4.cell? ⟨go, 0, none⟩ = some (.slice (some ⟨g, 0, none⟩) out.length c1) := (blk_cell O4.out 0).trans rfl; have R4 := Aside0.mk hr4; have B4 := Aside0.mk hb4; have G4 := Aside0.mk hg4; clear hat hr4 hb4 hg4 hat4))
        all_goals go_wp2
        all_goals (
          have hg0 : OKP g := (Kd.S_R HS2.out).1 g rfl
          have hg1 : bs ≤ g := Kd.R_base (Kd.S_R HS2.out) g rfl
          have hg2 : g < wr.heap.size := Kd.S_lt HS2.out g rfl
          have S5 := put_row H4.out (by omega) (by have := HW.out; omega) R4.out (fun k hk => hk) (fun k hk => hk.elim (fun h => (HO.out k h).2) (fun h he => by have := h.2; omega))
          have e5 : (rj ++ [(0 : Int)]).length = rj.length + 1 := by simp
          rw [Int.toNat_natCast, List.set_set, e5] at S5
          cases gk with
          | zero => exact absurd HJ.out (by have := HLT.out; omega)
          | succ k1 =>
            go_roundg k1
            case measure => omega
            case rel => exact ⟨j + 1, ⟨by have := HJ.out; omega⟩, ⟨by rw [List.replicate_succ', ← List.append_assoc, ← HX.out.1]; exact S5⟩, ⟨Kept.setCell (Kept.of_grown G4.out (Kept.drew HK.out) (fun k hk => .inl (HO.out k (HR.out.1 k hk)).1)) (.inl hg0) _⟩, ⟨B4.out.setCell hg1 _⟩⟩)
      · have p1 : decide (rj.length ≤ eI) = false := decide_eq_false (by omega)
        obtain ⟨gi, ci2, ei, _, _, _, _⟩ := Kd.R_form hR (by omega)
        cases ei
        obtain ⟨hxe, hfe⟩ := Kd.R_celln (0 : Int) hR (eI : Int) (by omega) (by omega)
        rw [Int.toNat_natCast] at hxe hfe
        have hpad : rj = pad row eI := by rw [hrj, pad, show j = eI + 1 - row.length by omega]
        have R6 := Kd.R_putn hR (eI : Int) (wrap64 (rd rj (eI : Int) + 1))
        rw [Int.toNat_natCast] at R6
        have hgi : oki gi := hR.1 gi rfl
        have H6 := Kd.H_step hH (w1 := wr.setCell ⟨gi, eI, none⟩ (.int .i64 (wrap64 (rd rj (eI : Int) + 1)))) (fun k _ hn _ => Below.heap_setCell wr ⟨gi, eI, none⟩ _ k (fun he => hn (by rw [he]; exact hgi)))
        have S6 := Kd.H_back H6 (okp := oki) (x' := rj.set eI (wrap64 (rd rj (eI : Int) + 1))) ⟨_, rfl, by first | exact R6 | simpa using R6⟩ (fun k hk => hk)
        rw [Int.toNat_natCast, List.set_set, hpad] at S6
        have SS := Aside0.mk S6
        have HP := Aside0.mk hpad
        have hb6 := Aside0.mk (show bs ≤ gi from Kd.R_base hR gi rfl)
        have ho6 := Aside0.mk (hoki gi hgi).1
        have p4 := eq_true (show (0 : Int) ≤ (eI : Int) by omega)
        have p5 := eq_true (show eI < rj.length by omega)
        clear hW hj hrjl hcl hcell hrow hHat hoki hH hR hlt hrj R6 H6 S6 hpad hgi
        go_wp2
        go_ret
        exact ⟨rfl, by rw [HP.out]; exact SS.out, Kept.setCell HK.out (.inl ho6.out) _, HB2.out.setCell hb6.out _⟩)
end
end Go.Proofs.Ytadkkcdhgepbkaa.W1
end
section
namespace Go.Proofs.Ytadkkcdhgepbkaa.Walk
set_option linter.unusedVariables false
open Go.RowKit Go.Proofs.YtadkkcdhgepbkaaW.PrintWords Go.Proofs.YtadkkcdhgepbkaaW.PrintLast Go.Proofs.YtadkkcdhgepbkaaW.PrintMore
open Go.Proofs.YtadkkcdhgepbkaaL Go.Proofs.Ytadkkcdhgepbkaa.LawK Go.Proofs.Ytadkkcdhgepbkaa.BoardK Go.Proofs.Ytadkkcdhgepbkaa.Q
def rooksN (l : List Int) : Nat := l.countP (fun x => x != -1)
theorem rooks_l0 {l : List Int} (hl : l.length ≤ 1048576) : ∀ (d i n : Nat), i + d = l.length → n ≤ i → Ev (fun k => impl_rooks.l0 k n l (l.length : Int) i) ((n + rooksN (l.drop i) : Nat) : Int)
  | 0, i, n, hi, hn => by
    refine Ev.step (f := fun _ => some ((n + rooksN (l.drop i) : Nat) : Int)) (fun k => ?_) (Ev.now _)
    rw [impl_rooks.l0, if_neg (by omega), List.drop_eq_nil_of_le (by omega)]; rfl
  | d + 1, i, n, hi, hn => by
    have h1 : wrap64 ((i : Int) + 1) = ((i + 1 : Nat) : Int) := by rw [w64 (by omega) (by omega)]; rfl
    have h2 : wrap64 ((n : Int) + 1) = ((n + 1 : Nat) : Int) := by rw [w64 (by omega) (by omega)]; rfl
    have hi2 : i < l.length := by omega
    rw [List.drop_eq_getElem_cons hi2, rooksN, List.countP_cons]
    by_cases hx : l[i] = -1
    · have ih := rooks_l0 hl d (i + 1) n (by omega) (by omega)
      rw [rooksN] at ih
      rw [if_neg (by simp [hx]), Nat.add_zero]
      refine Ev.step (fun k => ?_) ih
      rw [impl_rooks.l0, if_pos (by omega), if_pos (by omega), if_pos (by omega), rd_lt _ _ hi2, if_pos hx, h1]
    · have ih := rooks_l0 hl d (i + 1) (n + 1) (by omega) (by omega)
      rw [rooksN] at ih
      rw [if_pos (by simpa using hx)]
      rw [show n + (List.countP (fun x => x != -1) (List.drop (i + 1) l) + 1) = n + 1 + List.countP (fun x => x != -1) (List.drop (i + 1) l) by omega]
      refine Ev.step (fun k => ?_) ih
      rw [impl_rooks.l0, if_pos (by omega), if_pos (by omega), if_pos (by omega), rd_lt _ _ hi2, if_neg hx, h1, h2]
end Go.Proofs.Ytadkkcdhgepbkaa.Walk
end
