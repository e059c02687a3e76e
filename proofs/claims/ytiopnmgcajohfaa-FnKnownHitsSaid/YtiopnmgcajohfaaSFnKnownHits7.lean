/- Texts of this claim put together (7): words, what the functions compute, and plain facts. No conditions. -/
import Derived.Test.YtiopnmgcajohfaaSFnKnownHits4
import Derived.Test.YtiopnmgcajohfaaSFnKnownHits5
import Derived.Test.YtiopnmgcajohfaaSFnKnownHits0
section
namespace Go.Proofs.Ytiopnmgcajohfaa.Q
open Go.RowKit Go.Proofs.YtiopnmgcajohfaaW.PrintWords Go.Proofs.YtiopnmgcajohfaaW.PrintLast Go.Proofs.YtiopnmgcajohfaaW.PrintMore
attribute [local go_sem] max2_int min2_int max_two min_two max_three min_three max_four min_four   -- for this text's walks alone
set_option linter.unusedVariables false
set_option linter.unusedSimpArgs false
def laws_kBoard.f (k:Nat) (a0_0:Int) (a0_1:Int) (l0_2:List Int) (a1_0:Int) (a1_1:Int) (l1_2:List Int):Option (Bool):=if a0_0=a1_0 then (if a0_1=a1_1 then ((laws_kSame.f k l0_2 l1_2).bind fun t103=>(some t103)) else (some false)) else (some false)
theorem laws_kBoard.mono:∀ a0 a1 a2 a3 a4 a5 k,LeO (laws_kBoard.f k a0 a1 a2 a3 a4 a5) (laws_kBoard.f (k + 1) a0 a1 a2 a3 a4 a5):=by
 intro a0 a1 a2 a3 a4 a5 k;unfold laws_kBoard.f
 repeat' first
  |(with_reducible exact laws_kSame.mono _ _ _)
  |(with_reducible exact LeO.refl _)
  |(with_reducible exact LeO.none _)
  |(with_reducible refine LeO.ite ?_ ?_)
  |(with_reducible refine LeO.bind ?_ (fun _=>?_))
  |exact laws_kSame.mono _ _ _
  |exact LeO.none _
  |refine LeO.ite ?_ ?_
  |refine LeO.bind ?_ (fun _=>?_)
set_option maxHeartbeats 8000000 in
set_option maxRecDepth 100000 in
theorem laws_kBoard.calls (k:Nat) (a0_0:Int) (a0_1:Int) (A0_2:Option Addr) (c0_2:Nat) (l0_2:List Int) (a1_0:Int) (a1_1:Int) (A1_2:Option Addr) (c1_2:Nat) (l1_2:List Int) (r:Bool) (w:World) (hr0_2:Kd.C (Kd.int .i64) w A0_2 l0_2.length l0_2) (hc0_2:l0_2.length≤c0_2) (hr1_2:Kd.C (Kd.int .i64) w A1_2 l1_2.length l1_2) (hc1_2:l1_2.length≤c1_2) (h:laws_kBoard.f k a0_0 a0_1 l0_2 a1_0 a1_1 l1_2=some r) :
  Calls Try.prog 48 #[.agg #[.int .i64 a0_0,.int .i64 a0_1,.slice A0_2 l0_2.length c0_2],.agg #[.int .i64 a1_0,.int .i64 a1_1,.slice A1_2 l1_2.length c1_2]] w fun e w'=>e=.returned (.bool r)∧Below w.heap.size w w':=by
 have hu43:=Try.underlying43;have HR0_2:=za hr0_2;have HC0_2:=za hc0_2;clear hr0_2 hc0_2;have HR1_2:=za hr1_2;have HC1_2:=za hc1_2;clear hr1_2 hc1_2;have HB:=za (Below.refl w.heap.size w);have H:(if a0_0=a1_0 then (if a0_1=a1_1 then ((laws_kSame.f k l0_2 l1_2).bind fun t103=>(some t103)) else (some false)) else (some false))=some r:=h;clear h;by_cases c3:a0_0=a1_0
 ·
  rw [if_pos c3] at H;have c3b0:(a0_0 == a1_0)=true:=beq_iff_eq.mpr c3;have c3b1:(a0_0 != a1_0)=false:=bne_eq_false_iff_eq.mpr c3;clear c3;by_cases c4:a0_1=a1_1
  · rw [if_pos c4] at H;have c4b0:(a0_1 == a1_1)=true:=beq_iff_eq.mpr c4;have c4b1:(a0_1 != a1_1)=false:=bne_eq_false_iff_eq.mpr c4;clear c4;obtain ⟨t103,A5,H⟩:=bindAside H;(try dsimp only at H);obtain rfl:=Option.some.inj H;(go_enter Try.func48,Try.ntmps48);(go_wp2_with (first|((with_reducible refine gate_dst (N:=2) rfl ?_);refine box_event ?hg (N:=2) ?hd (cs:=#[.int .i64 a0_0,.int .i64 a0_1,.slice A0_2 l0_2.length c0_2]) (t:=43) ?hr ?_;(case hd=>rfl);(case hg=>rfl);(case hr=>first|(go_simp;done)|(go_simp;rfl));intro gb101 hg w6 hbox hb;have BK101:=za (hbox);have GW101:=za ((by rw [hg];exact (zq (by repeat (first|(with_reducible first|exact HB.out|apply zj|apply zk|apply zi)|exact HB.out))):w.heap.size≤gb101));have GE101:=za ((by rw [hg];exact (zq (by repeat (first|(with_reducible first|exact HB.out|apply zj|apply zk|apply zi)|exact HB.out))):w.heap.size≤gb101));replace HB:=za (zu (by repeat (first|(with_reducible first|exact HB.out|apply zj|apply zk|apply zi)|exact HB.out)) hb);clear hb hbox hg)|((with_reducible refine gate_dst (N:=3) rfl ?_);refine box_event ?hg (N:=3) ?hd (cs:=#[.int .i64 a1_0,.int .i64 a1_1,.slice A1_2 l1_2.length c1_2]) (t:=43) ?hr ?_;(case hd=>rfl);(case hg=>rfl);(case hr=>first|(go_simp;done)|(go_simp;rfl));intro gb102 hg w7 hbox hb;have BK102:=za (hbox);have GW102:=za ((by rw [hg];exact (zq (by repeat (first|(with_reducible first|exact HB.out|apply zj|apply zk|apply zi|refine zc ?_ GE101.out)|exact HB.out))):w.heap.size≤gb102));have GE102:=za ((by rw [hg];exact (zq (by repeat (first|(with_reducible first|exact HB.out|apply zj|apply zk|apply zi|refine zc ?_ GE101.out)|exact HB.out))):w.heap.size≤gb102));replace HB:=za (zu (by repeat (first|(with_reducible first|exact HB.out|apply zj|apply zk|apply zi|refine zc ?_ GE101.out)|exact HB.out)) hb);have NB101_102:=za ((by rw [hg];exact Nat.ne_of_lt (blk_lt (g:=gb101) (o:=.cells #[.int .i64 a0_0,.int .i64 a0_1,.slice A0_2 l0_2.length c0_2] 43 (0,0)) (by apply_rules only [BK101.out,zd,zb,ze])):gb101 ≠ gb102));have NB102_101:=za ((by rw [hg];exact Nat.ne_of_gt (blk_lt (g:=gb101) (o:=.cells #[.int .i64 a0_0,.int .i64 a0_1,.slice A0_2 l0_2.length c0_2] 43 (0,0)) (by apply_rules only [BK101.out,zd,zb,ze])):gb102 ≠ gb101));replace BK101:=za (zo (g:=gb101) (o:=.cells #[.int .i64 a0_0,.int .i64 a0_1,.slice A0_2 l0_2.length c0_2] 43 (0,0)) (by apply_rules only [BK101.out,zd,zb,ze]) hb);clear hb hbox hg;have hnb8:=NB101_102.out;have hnc8:=NB102_101.out;have hcz9_0:w7.cell? ⟨gb101,0,none⟩=some (.int .i64 a0_0):=(zl BK101.out 0).trans rfl;have hcz9_1:w7.cell? ⟨gb101,1,none⟩=some (.int .i64 a0_1):=(zl BK101.out 1).trans rfl;have hcz9_2:w7.cell? ⟨gb101,2,none⟩=some (.slice A0_2 l0_2.length c0_2):=(zl BK101.out 2).trans rfl;have hfz9_0:=zm BK101.out 0;have hfz9_1:=zm BK101.out 1;have hfz9_2:=zm BK101.out 2;have hcz10_0:w7.cell? ⟨gb102,0,none⟩=some (.int .i64 a1_0):=(zl BK102.out 0).trans rfl;have hcz10_1:w7.cell? ⟨gb102,1,none⟩=some (.int .i64 a1_1):=(zl BK102.out 1).trans rfl;have hcz10_2:w7.cell? ⟨gb102,2,none⟩=some (.slice A1_2 l1_2.length c1_2):=(zl BK102.out 2).trans rfl;have hfz10_0:=zm BK102.out 0;have hfz10_1:=zm BK102.out 1;have hfz10_2:=zm BK102.out 2)|(go_at_call 35;(with_reducible refine (laws_kSame.calls k _ _ l0_2 _ _ l1_2 t103 _ ?side1 ?side2 ?side3 ?side4 A5.out).mono ?_);(case side1=>repeat (first|exact (Kd.C_below HR0_2.out HB.out)|(with_reducible refine Kd.C_alloc ?_ _)|(with_reducible refine Kd.C_drewN ?_ _)|(with_reducible refine Kd.C_drew ?_)));(case side2=>exact HC0_2.out);(case side3=>repeat (first|exact (Kd.C_below HR1_2.out HB.out)|(with_reducible refine Kd.C_alloc ?_ _)|(with_reducible refine Kd.C_drewN ?_ _)|(with_reducible refine Kd.C_drew ?_)));(case side4=>exact HC1_2.out);rintro e w' ⟨rfl,⟨nd,rfl⟩⟩)));(go_ret);exact ⟨by first|rfl|simp [*,errW_none,errW_some] <;> rfl,by repeat (first|(with_reducible first|exact HB.out|apply zj|apply zk|apply zi|refine zc ?_ GE101.out|refine zc ?_ GE102.out)|exact HB.out)⟩
  · rw [if_neg c4] at H;have c4b0:(a0_1 == a1_1)=false:=beq_eq_false_iff_ne.mpr c4;have c4b1:(a0_1 != a1_1)=true:=bne_iff_ne.mpr c4;obtain rfl:=Option.some.inj H;(go_enter Try.func48,Try.ntmps48);(go_wp2_with (first|((with_reducible refine gate_dst (N:=2) rfl ?_);refine box_event ?hg (N:=2) ?hd (cs:=#[.int .i64 a0_0,.int .i64 a0_1,.slice A0_2 l0_2.length c0_2]) (t:=43) ?hr ?_;(case hd=>rfl);(case hg=>rfl);(case hr=>first|(go_simp;done)|(go_simp;rfl));intro gb101 hg w11 hbox hb;have BK101:=za (hbox);have GW101:=za ((by rw [hg];exact (zq (by repeat (first|(with_reducible first|exact HB.out|apply zj|apply zk|apply zi)|exact HB.out))):w.heap.size≤gb101));have GE101:=za ((by rw [hg];exact (zq (by repeat (first|(with_reducible first|exact HB.out|apply zj|apply zk|apply zi)|exact HB.out))):w.heap.size≤gb101));replace HB:=za (zu (by repeat (first|(with_reducible first|exact HB.out|apply zj|apply zk|apply zi)|exact HB.out)) hb);clear hb hbox hg)|((with_reducible refine gate_dst (N:=3) rfl ?_);refine box_event ?hg (N:=3) ?hd (cs:=#[.int .i64 a1_0,.int .i64 a1_1,.slice A1_2 l1_2.length c1_2]) (t:=43) ?hr ?_;(case hd=>rfl);(case hg=>rfl);(case hr=>first|(go_simp;done)|(go_simp;rfl));intro gb102 hg w12 hbox hb;have BK102:=za (hbox);have GW102:=za ((by rw [hg];exact (zq (by repeat (first|(with_reducible first|exact HB.out|apply zj|apply zk|apply zi|refine zc ?_ GE101.out)|exact HB.out))):w.heap.size≤gb102));have GE102:=za ((by rw [hg];exact (zq (by repeat (first|(with_reducible first|exact HB.out|apply zj|apply zk|apply zi|refine zc ?_ GE101.out)|exact HB.out))):w.heap.size≤gb102));replace HB:=za (zu (by repeat (first|(with_reducible first|exact HB.out|apply zj|apply zk|apply zi|refine zc ?_ GE101.out)|exact HB.out)) hb);have NB101_102:=za ((by rw [hg];exact Nat.ne_of_lt (blk_lt (g:=gb101) (o:=.cells #[.int .i64 a0_0,.int .i64 a0_1,.slice A0_2 l0_2.length c0_2] 43 (0,0)) (by apply_rules only [BK101.out,zd,zb,ze])):gb101 ≠ gb102));have NB102_101:=za ((by rw [hg];exact Nat.ne_of_gt (blk_lt (g:=gb101) (o:=.cells #[.int .i64 a0_0,.int .i64 a0_1,.slice A0_2 l0_2.length c0_2] 43 (0,0)) (by apply_rules only [BK101.out,zd,zb,ze])):gb102 ≠ gb101));replace BK101:=za (zo (g:=gb101) (o:=.cells #[.int .i64 a0_0,.int .i64 a0_1,.slice A0_2 l0_2.length c0_2] 43 (0,0)) (by apply_rules only [BK101.out,zd,zb,ze]) hb);clear hb hbox hg;have hnb13:=NB101_102.out;have hnc13:=NB102_101.out;have hcz14_0:w12.cell? ⟨gb101,0,none⟩=some (.int .i64 a0_0):=(zl BK101.out 0).trans rfl;have hcz14_1:w12.cell? ⟨gb101,1,none⟩=some (.int .i64 a0_1):=(zl BK101.out 1).trans rfl;have hcz14_2:w12.cell? ⟨gb101,2,none⟩=some (.slice A0_2 l0_2.length c0_2):=(zl BK101.out 2).trans rfl;have hfz14_0:=zm BK101.out 0;have hfz14_1:=zm BK101.out 1;have hfz14_2:=zm BK101.out 2;have hcz15_0:w12.cell? ⟨gb102,0,none⟩=some (.int .i64 a1_0):=(zl BK102.out 0).trans rfl;have hcz15_1:w12.cell? ⟨gb102,1,none⟩=some (.int .i64 a1_1):=(zl BK102.out 1).trans rfl;have hcz15_2:w12.cell? ⟨gb102,2,none⟩=some (.slice A1_2 l1_2.length c1_2):=(zl BK102.out 2).trans rfl;have hfz15_0:=zm BK102.out 0;have hfz15_1:=zm BK102.out 1;have hfz15_2:=zm BK102.out 2)));(go_ret);exact ⟨by first|rfl|simp [*,errW_none,errW_some] <;> rfl,by repeat (first|(with_reducible first|exact HB.out|apply zj|apply zk|apply zi|refine zc ?_ GE101.out|refine zc ?_ GE102.out)|exact HB.out)⟩
 · rw [if_neg c3] at H;have c3b0:(a0_0 == a1_0)=false:=beq_eq_false_iff_ne.mpr c3;have c3b1:(a0_0 != a1_0)=true:=bne_iff_ne.mpr c3;obtain rfl:=Option.some.inj H;(go_enter Try.func48,Try.ntmps48);(go_wp2_with (first|((with_reducible refine gate_dst (N:=2) rfl ?_);refine box_event ?hg (N:=2) ?hd (cs:=#[.int .i64 a0_0,.int .i64 a0_1,.slice A0_2 l0_2.length c0_2]) (t:=43) ?hr ?_;(case hd=>rfl);(case hg=>rfl);(case hr=>first|(go_simp;done)|(go_simp;rfl));intro gb101 hg w16 hbox hb;have BK101:=za (hbox);have GW101:=za ((by rw [hg];exact (zq (by repeat (first|(with_reducible first|exact HB.out|apply zj|apply zk|apply zi)|exact HB.out))):w.heap.size≤gb101));have GE101:=za ((by rw [hg];exact (zq (by repeat (first|(with_reducible first|exact HB.out|apply zj|apply zk|apply zi)|exact HB.out))):w.heap.size≤gb101));replace HB:=za (zu (by repeat (first|(with_reducible first|exact HB.out|apply zj|apply zk|apply zi)|exact HB.out)) hb);clear hb hbox hg)|((with_reducible refine gate_dst (N:=3) rfl ?_);refine box_event ?hg (N:=3) ?hd (cs:=#[.int .i64 a1_0,.int .i64 a1_1,.slice A1_2 l1_2.length c1_2]) (t:=43) ?hr ?_;(case hd=>rfl);(case hg=>rfl);(case hr=>first|(go_simp;done)|(go_simp;rfl));intro gb102 hg w17 hbox hb;have BK102:=za (hbox);have GW102:=za ((by rw [hg];exact (zq (by repeat (first|(with_reducible first|exact HB.out|apply zj|apply zk|apply zi|refine zc ?_ GE101.out)|exact HB.out))):w.heap.size≤gb102));have GE102:=za ((by rw [hg];exact (zq (by repeat (first|(with_reducible first|exact HB.out|apply zj|apply zk|apply zi|refine zc ?_ GE101.out)|exact HB.out))):w.heap.size≤gb102));replace HB:=za (zu (by repeat (first|(with_reducible first|exact HB.out|apply zj|apply zk|apply zi|refine zc ?_ GE101.out)|exact HB.out)) hb);have NB101_102:=za ((by rw [hg];exact Nat.ne_of_lt (blk_lt (g:=gb101) (o:=.cells #[.int .i64 a0_0,.int .i64 a0_1,.slice A0_2 l0_2.length c0_2] 43 (0,0)) (by apply_rules only [BK101.out,zd,zb,ze])):gb101 ≠ gb102));have NB102_101:=za ((by rw [hg];exact Nat.ne_of_gt (blk_lt (g:=gb101) (o:=.cells #[.int .i64 a0_0,.int .i64 a0_1,.slice A0_2 l0_2.length c0_2] 43 (0,0)) (by apply_rules only [BK101.out,zd,zb,ze])):gb102 ≠ gb101));replace BK101:=za (zo (g:=gb101) (o:=.cells #[.int .i64 a0_0,.int .i64 a0_1,.slice A0_2 l0_2.length c0_2] 43 (0,0)) (by apply_rules only [BK101.out,zd,zb,ze]) hb);clear hb hbox hg;have hnb18:=NB101_102.out;have hnc18:=NB102_101.out;have hcz19_0:w17.cell? ⟨gb101,0,none⟩=some (.int .i64 a0_0):=(zl BK101.out 0).trans rfl;have hcz19_1:w17.cell? ⟨gb101,1,none⟩=some (.int .i64 a0_1):=(zl BK101.out 1).trans rfl;have hcz19_2:w17.cell? ⟨gb101,2,none⟩=some (.slice A0_2 l0_2.length c0_2):=(zl BK101.out 2).trans rfl;have hfz19_0:=zm BK101.out 0;have hfz19_1:=zm BK101.out 1;have hfz19_2:=zm BK101.out 2;have hcz20_0:w17.cell? ⟨gb102,0,none⟩=some (.int .i64 a1_0):=(zl BK102.out 0).trans rfl;have hcz20_1:w17.cell? ⟨gb102,1,none⟩=some (.int .i64 a1_1):=(zl BK102.out 1).trans rfl;have hcz20_2:w17.cell? ⟨gb102,2,none⟩=some (.slice A1_2 l1_2.length c1_2):=(zl BK102.out 2).trans rfl;have hfz20_0:=zm BK102.out 0;have hfz20_1:=zm BK102.out 1;have hfz20_2:=zm BK102.out 2)));(go_ret);exact ⟨by first|rfl|simp [*,errW_none,errW_some] <;> rfl,by repeat (first|(with_reducible first|exact HB.out|apply zj|apply zk|apply zi|refine zc ?_ GE101.out|refine zc ?_ GE102.out)|exact HB.out)⟩
end Go.Proofs.Ytiopnmgcajohfaa.Q
end
section
namespace Go.Proofs.Ytiopnmgcajohfaa.Q
open Go.RowKit Go.Proofs.YtiopnmgcajohfaaW.PrintWords Go.Proofs.YtiopnmgcajohfaaW.PrintLast Go.Proofs.YtiopnmgcajohfaaW.PrintMore
attribute [local go_sem] max2_int min2_int max_two min_two max_three min_three max_four min_four   -- for this text's walks alone
set_option linter.unusedVariables false
set_option linter.unusedSimpArgs false
def impl_deranged.l0:Nat→Int→Int→Int→Option (Int)
|0,_,_,_=>none
|k + 1,x0,x3,x4=>if x4≤x0 then (if (Int.tmod x4 2)=0 then (impl_deranged.l0 k x0 (wrap64 ((wrap64 (x3 * x4)) + 1)) (wrap64 (x4 + 1))) else (impl_deranged.l0 k x0 (wrap64 ((wrap64 (x3 * x4)) - 1)) (wrap64 (x4 + 1)))) else (some x3)
def impl_deranged.f (k:Nat) (a0:Int):Option (Int):=impl_deranged.l0 k a0 1 1
theorem impl_deranged.mono_l:∀ k,(∀ y0 y1 y2,LeO (impl_deranged.l0 k y0 y1 y2) (impl_deranged.l0 (k + 1) y0 y1 y2))
|0=>fun _ _ _ r h=>by simp [impl_deranged.l0] at h
|k + 1=>by
  have ih0:=impl_deranged.mono_l k
  ·
   intro y0 y1 y2
   unfold impl_deranged.l0
   repeat' first
  |(with_reducible exact ih0 _ _ _)
  |(with_reducible exact LeO.refl _)
  |(with_reducible exact LeO.none _)
  |(with_reducible refine LeO.ite ?_ ?_)
  |(with_reducible refine LeO.bind ?_ (fun _=>?_))
  |exact ih0 _ _ _
  |exact LeO.none _
  |refine LeO.ite ?_ ?_
  |refine LeO.bind ?_ (fun _=>?_)
theorem impl_deranged.mono:∀ a0 k,LeO (impl_deranged.f k a0) (impl_deranged.f (k + 1) a0):=by
 intro a0 k;have ih0:=impl_deranged.mono_l k;unfold impl_deranged.f
 repeat' first
  |(with_reducible exact ih0 _ _ _)
  |(with_reducible exact LeO.refl _)
  |(with_reducible exact LeO.none _)
  |(with_reducible refine LeO.ite ?_ ?_)
  |(with_reducible refine LeO.bind ?_ (fun _=>?_))
  |exact ih0 _ _ _
  |exact LeO.none _
  |refine LeO.ite ?_ ?_
  |refine LeO.bind ?_ (fun _=>?_)
set_option maxHeartbeats 8000000 in
set_option maxRecDepth 100000 in
theorem impl_deranged.calls (k:Nat) (a0:Int) (r:Int) (w:World) (h:impl_deranged.f k a0=some r) :
  Calls Try.prog 111 #[.int .i64 a0] w fun e w'=>e=.returned (.int .i64 r)∧Drawn0 w w':=by
 have H:(impl_deranged.l0 k a0 1 1)=some r:=h;clear h;have H':=za H;clear H;(go_enter Try.func111,Try.ntmps111);(go_wp2);(go_loopg [3,4] k (fun kq v3 v4 w'=>∃ (x3_1:Int) (x4_1:Int),v3=.int .i64 x3_1∧v4=.int .i64 x4_1∧Aside0 (impl_deranged.l0 kq a0 x3_1 x4_1=some r)∧Aside0 (kq≤k)∧Drawn0 w w'));case atStart=>exact ⟨(1),(1),(by first|rfl|(simp;done)|(simp [*];done)),(by first|rfl|(simp;done)|(simp [*];done)),H',⟨Nat.le_refl _⟩,by repeat (first|exact Drawn0.refl _|apply Drawn0.step)⟩
 case round =>
  clear H';(try clear c1);obtain ⟨x3_1,x4_1,rfl,rfl,HA,HK1,⟨m1,rfl⟩⟩:=hrel
  cases gk with
 |zero=>exact absurd HA.out (by simp [impl_deranged.l0])
 |succ k1 =>
   have H:=HA.out;clear HA;simp only [impl_deranged.l0] at H;by_cases c2:x4_1≤a0
   ·
    rw [if_pos c2] at H;have c2b0:decide (x4_1≤a0)=true:=decide_eq_true c2;clear c2;by_cases c3:(Int.tmod x4_1 2)=0
    · rw [if_pos c3] at H;have c3b0:((Int.tmod x4_1 2) == 0)=true:=beq_iff_eq.mpr c3;have c3b1:((Int.tmod x4_1 2) != 0)=false:=bne_eq_false_iff_eq.mpr c3;clear c3;have H':=za H;clear H;(go_wp2);(go_roundg k1);(case measure=>have:=HK1.out;omega);case rel=>exact ⟨(wrap64 ((wrap64 (x3_1 * x4_1)) + 1)),(wrap64 (x4_1 + 1)),(by first|rfl|(simp;done)|(simp [*];done)),(by first|rfl|(simp;done)|(simp [*];done)),H',⟨by have:=HK1.out;omega⟩,by repeat (first|exact Drawn0.refl _|apply Drawn0.step)⟩
    · rw [if_neg c3] at H;have c3b0:((Int.tmod x4_1 2) == 0)=false:=beq_eq_false_iff_ne.mpr c3;have c3b1:((Int.tmod x4_1 2) != 0)=true:=bne_iff_ne.mpr c3;have H':=za H;clear H;(go_wp2);(go_roundg k1);(case measure=>have:=HK1.out;omega);case rel=>exact ⟨(wrap64 ((wrap64 (x3_1 * x4_1)) - 1)),(wrap64 (x4_1 + 1)),(by first|rfl|(simp;done)|(simp [*];done)),(by first|rfl|(simp;done)|(simp [*];done)),H',⟨by have:=HK1.out;omega⟩,by repeat (first|exact Drawn0.refl _|apply Drawn0.step)⟩
   · rw [if_neg c2] at H;have c2b0:decide (x4_1≤a0)=false:=decide_eq_false c2;clear c2;obtain rfl:=Option.some.inj H;(go_wp2);(go_ret);exact ⟨by first|rfl|(simp;done)|(simp [*];done),by repeat (first|exact Drawn0.refl _|apply Drawn0.step)⟩
end Go.Proofs.Ytiopnmgcajohfaa.Q
end
section
namespace Go.Proofs.Ytiopnmgcajohfaa.Q
open Go.RowKit Go.Proofs.YtiopnmgcajohfaaW.PrintWords Go.Proofs.YtiopnmgcajohfaaW.PrintLast Go.Proofs.YtiopnmgcajohfaaW.PrintMore
attribute [local go_sem] max2_int min2_int max_two min_two max_three min_three max_four min_four   -- for this text's walks alone
set_option linter.unusedVariables false
set_option linter.unusedSimpArgs false
def impl_Derangements.f (k:Nat) (a0:Int):Option (Int × Bool):=(impl_within.f a0 0 12).bind fun t101=>(if t101=true then ((impl_deranged.f k a0).bind fun t102=>(some (t102,true))) else (some (0,false)))
theorem impl_Derangements.mono:∀ a0 k,LeO (impl_Derangements.f k a0) (impl_Derangements.f (k + 1) a0):=by
 intro a0 k;unfold impl_Derangements.f
 repeat' first
  |(with_reducible exact impl_deranged.mono _ _)
  |(with_reducible exact LeO.refl _)
  |(with_reducible exact LeO.none _)
  |(with_reducible refine LeO.ite ?_ ?_)
  |(with_reducible refine LeO.bind ?_ (fun _=>?_))
  |exact impl_deranged.mono _ _
  |exact LeO.none _
  |refine LeO.ite ?_ ?_
  |refine LeO.bind ?_ (fun _=>?_)
set_option maxHeartbeats 8000000 in
set_option maxRecDepth 100000 in
theorem impl_Derangements.calls (k:Nat) (a0:Int) (r1:Int) (r2:Bool) (w:World) (h:impl_Derangements.f k a0=some (r1,r2)) :
  Calls Try.prog 49 #[.int .i64 a0] w fun e w'=>e=.returned (.tuple #[.int .i64 r1,.bool r2])∧Drawn0 w w':=by
 have H:((impl_within.f a0 0 12).bind fun t101=>(if t101=true then ((impl_deranged.f k a0).bind fun t102=>(some (t102,true))) else (some (0,false))))=some (r1,r2):=h;clear h;obtain ⟨t101,A2,H⟩:=bindAside H;(try dsimp only at H);by_cases c3:t101=true
 · subst c3;(have H1:((impl_deranged.f k a0).bind fun t102=>(some (t102,true)))=some (r1,r2):=by rw [if_pos rfl] at H;exact H);clear H;have H:=H1;clear H1;obtain ⟨t102,A4,H⟩:=bindAside H;(try dsimp only at H);simp only [Option.some.injEq,Prod.mk.injEq] at H;obtain ⟨rfl,rfl⟩:=H;(go_enter Try.func49,Try.ntmps49);(go_wp2_with (first|((with_reducible refine zt (f:=79) rfl ?_);refine goesL_ (some 5) rfl rfl Try.func79 (by kernel_rfl) rfl #[.int .i64 a0,.int .i64 0,.int .i64 12] rfl (by first|rfl|simp only [z3_,z4_,z5_];try rfl) ?_;(with_reducible refine (impl_within.calls a0 0 12 true _ A2.out).mono ?_);rintro e w' ⟨rfl,⟨nd,rfl⟩⟩;refine ⟨_,rfl,?_⟩)|((with_reducible refine zt (f:=111) rfl ?_);refine goesL_ (some 8) rfl rfl Try.func111 (by kernel_rfl) rfl #[.int .i64 a0] rfl (by first|rfl|simp only [z3_,z4_,z5_];try rfl) ?_;(with_reducible refine (impl_deranged.calls k a0 t102 _ A4.out).mono ?_);rintro e w' ⟨rfl,⟨nd,rfl⟩⟩;refine ⟨_,rfl,?_⟩)));(go_ret2);exact ⟨by first|rfl|(simp;done)|(simp [*];done),by repeat (first|exact Drawn0.refl _|apply Drawn0.step)⟩
 · replace c3:=Bool.eq_false_iff.mpr c3;subst c3;(have H1:(some (0,false))=some (r1,r2):=by rw [if_neg (show ¬ (false=true) by decide)] at H;exact H);clear H;have H:=H1;clear H1;simp only [Option.some.injEq,Prod.mk.injEq] at H;obtain ⟨rfl,rfl⟩:=H;(go_enter Try.func49,Try.ntmps49);(go_wp2_with (first|((with_reducible refine zt (f:=79) rfl ?_);refine goesL_ (some 5) rfl rfl Try.func79 (by kernel_rfl) rfl #[.int .i64 a0,.int .i64 0,.int .i64 12] rfl (by first|rfl|simp only [z3_,z4_,z5_];try rfl) ?_;(with_reducible refine (impl_within.calls a0 0 12 false _ A2.out).mono ?_);rintro e w' ⟨rfl,⟨nd,rfl⟩⟩;refine ⟨_,rfl,?_⟩)));(go_ret2);exact ⟨by first|rfl|(simp;done)|(simp [*];done),by repeat (first|exact Drawn0.refl _|apply Drawn0.step)⟩
end Go.Proofs.Ytiopnmgcajohfaa.Q
end
section
namespace Go.Proofs.Ytiopnmgcajohfaa.Q
open Go.RowKit Go.Proofs.YtiopnmgcajohfaaW.PrintWords Go.Proofs.YtiopnmgcajohfaaW.PrintLast Go.Proofs.YtiopnmgcajohfaaW.PrintMore
attribute [local go_sem] max2_int min2_int max_two min_two max_three min_three max_four min_four   -- for this text's walks alone
set_option linter.unusedVariables false
set_option linter.unusedSimpArgs false
mutual
def impl_EulerNumbers.l0:Nat→Int→List Int→Int→Option (List Int × Bool)
|0,_,_,_=>none
|k + 1,x0,x4,x5=>if x5≤x0 then (if 0≤x5 then (if (x5:Int).toNat≤35184372088832 then (impl_EulerNumbers.l1 k x0 x5 (List.replicate (x5:Int).toNat 0) x4 (x4.length:Int) 0) else (none)) else (none)) else (some (x4,true))
def impl_EulerNumbers.l1:Nat→Int→Int→List Int→List Int→Int→Int→Option (List Int × Bool)
|0,_,_,_,_,_,_=>none
|k + 1,x0,x5,x6,x20,x21,x22=>if x22 < x21 then (if 0≤x22 then (if x22 < (x20.length:Int) then (if x22 < (x6.length:Int) then ((some (x6.set (x22:Int).toNat (wrap64 ((rd x6 x22) + (wrap64 ((wrap64 (x22 + 1)) * (rd x20 x22))))):List Int)).bind fun y110=>(if 0≤(wrap64 (x22 + 1)) then (if (wrap64 (x22 + 1)) < (x6.length:Int) then (impl_EulerNumbers.l1 k x0 x5 (y110.set ((wrap64 (x22 + 1)):Int).toNat (wrap64 ((rd y110 (wrap64 (x22 + 1))) + (wrap64 ((wrap64 ((wrap64 (x5 - 1)) - x22)) * (rd x20 x22)))))) x20 x21 (wrap64 (x22 + 1))) else (none)) else (none))) else (none)) else (none)) else (none)) else (impl_EulerNumbers.l0 k x0 x6 (wrap64 (x5 + 1)))
end
def impl_EulerNumbers.f (k:Nat) (a0:Int):Option (List Int × Bool):=(impl_within.f a0 1 10).bind fun t101=>(if t101=true then (impl_EulerNumbers.l0 k a0 (([1]:List Int)) 2) else (some (([]:List Int),false)))
theorem impl_EulerNumbers.mono_l:∀ k,(∀ y0 y1 y2,LeO (impl_EulerNumbers.l0 k y0 y1 y2) (impl_EulerNumbers.l0 (k + 1) y0 y1 y2))∧(∀ y0 y1 y2 y3 y4 y5,LeO (impl_EulerNumbers.l1 k y0 y1 y2 y3 y4 y5) (impl_EulerNumbers.l1 (k + 1) y0 y1 y2 y3 y4 y5))
|0=>⟨fun _ _ _ r h=>by simp [impl_EulerNumbers.l0] at h,fun _ _ _ _ _ _ r h=>by simp [impl_EulerNumbers.l1] at h⟩
|k + 1=>by
  obtain ⟨ih0,ih1⟩:=impl_EulerNumbers.mono_l k
  refine ⟨?_,?_⟩
  ·
   intro y0 y1 y2
   unfold impl_EulerNumbers.l0
   repeat' first
  |(with_reducible exact ih0 _ _ _)
  |(with_reducible exact ih1 _ _ _ _ _ _)
  |(with_reducible exact LeO.refl _)
  |(with_reducible exact LeO.none _)
  |(with_reducible refine LeO.ite ?_ ?_)
  |(with_reducible refine LeO.bind ?_ (fun _=>?_))
  |exact ih0 _ _ _
  |exact ih1 _ _ _ _ _ _
  |exact LeO.none _
  |refine LeO.ite ?_ ?_
  |refine LeO.bind ?_ (fun _=>?_)
  ·
   intro y0 y1 y2 y3 y4 y5
   unfold impl_EulerNumbers.l1
   repeat' first
  |(with_reducible exact ih0 _ _ _)
  |(with_reducible exact ih1 _ _ _ _ _ _)
  |(with_reducible exact LeO.refl _)
  |(with_reducible exact LeO.none _)
  |(with_reducible refine LeO.ite ?_ ?_)
  |(with_reducible refine LeO.bind ?_ (fun _=>?_))
  |exact ih0 _ _ _
  |exact ih1 _ _ _ _ _ _
  |exact LeO.none _
  |refine LeO.ite ?_ ?_
  |refine LeO.bind ?_ (fun _=>?_)
theorem impl_EulerNumbers.mono:∀ a0 k,LeO (impl_EulerNumbers.f k a0) (impl_EulerNumbers.f (k + 1) a0):=by
 intro a0 k;obtain ⟨ih0,ih1⟩:=impl_EulerNumbers.mono_l k;unfold impl_EulerNumbers.f
 repeat' first
  |(with_reducible exact ih0 _ _ _)
  |(with_reducible exact ih1 _ _ _ _ _ _)
  |(with_reducible exact LeO.refl _)
  |(with_reducible exact LeO.none _)
  |(with_reducible refine LeO.ite ?_ ?_)
  |(with_reducible refine LeO.bind ?_ (fun _=>?_))
  |exact ih0 _ _ _
  |exact ih1 _ _ _ _ _ _
  |exact LeO.none _
  |refine LeO.ite ?_ ?_
  |refine LeO.bind ?_ (fun _=>?_)
set_option maxHeartbeats 8000000 in
set_option maxRecDepth 100000 in
theorem impl_EulerNumbers.calls (k:Nat) (a0:Int) (r1:List Int) (r2:Bool) (w:World) (h:impl_EulerNumbers.f k a0=some (r1,r2)) :
  Calls Try.prog 50 #[.int .i64 a0] w fun e w'=>∃ v0_:Value,e=.returned (.tuple #[v0_,.bool r2])∧Kd.R (Kd.int .i64) 3 w' w.heap.size (fun _=>True) v0_ r1∧Below w.heap.size w w':=by
 have HB:=za (Below.refl w.heap.size w);have H:((impl_within.f a0 1 10).bind fun t101=>(if t101=true then (impl_EulerNumbers.l0 k a0 (([1]:List Int)) 2) else (some (([]:List Int),false))))=some (r1,r2):=h;clear h;obtain ⟨t101,A2,H⟩:=bindAside H;(try dsimp only at H);by_cases c3:t101=true
 ·
  subst c3;(have H1:(impl_EulerNumbers.l0 k a0 (([1]:List Int)) 2)=some (r1,r2):=by rw [if_pos rfl] at H;exact H);clear H;have H:=H1;clear H1;obtain ⟨y102,hy102⟩:∃ y_:List Int,y_=(([1]:List Int)):=⟨_,rfl⟩;(replace H:(impl_EulerNumbers.l0 k a0 y102 2)=some (r1,r2):=by first|(rw [hy102];with_reducible exact H)|(have H2_:=(Option.bind_some _ _).symm.trans H;rw [hy102];with_reducible exact H2_)|(have H2_:=(Option.bind_some _ _).symm.trans H;with_reducible exact H2_)|with_reducible exact H|(rw [hy102];exact H)|exact H);have Ny102:=za hy102;clear hy102;have H':=za H;clear H;(go_enter Try.func50,Try.ntmps50);(go_wp2_with (first|((with_reducible refine zt (f:=79) rfl ?_);refine goesL_ (some 10) rfl rfl Try.func79 (by kernel_rfl) rfl #[.int .i64 a0,.int .i64 1,.int .i64 10] rfl (by first|rfl|simp only [z3_,z4_,z5_];try rfl) ?_;(with_reducible refine (impl_within.calls a0 1 10 true _ A2.out).mono ?_);rintro e w' ⟨rfl,⟨nd,rfl⟩⟩;refine ⟨_,rfl,?_⟩)|((with_reducible refine gate_dst (N:=12) rfl ?_);refine Kd.R_lit (Kd.int .i64) _ 3 ?hg (N:=12) ?hd (xs:=([1]:List Int)) (inner:=[.int .i64 1]) (ok:=fun _=>True) (okp:=fun _=>True) ?hr ?hp (fun _ hk=>hk) trivial (Below.refl _ _) (Nat.le_refl _) (by simp) ?_;(case hd=>rfl);(case hg=>rfl);(case hr=>first|(go_simp;done)|(go_simp;rfl));(case hp=>exact (Reps.one (show Kd.M (Kd.int .i64) _ _ _ 1 [.int .i64 1] from rfl) (Reps.none _ _)));intro v103 w4 ho5 hb hg_ hnew_;clear hg_ hnew_;(first|rw [← Ny102.out] at ho5|(simp only [Int.reduceToNat] at ho5;rw [← Ny102.out] at ho5));have HO104:=za (Kd.R_lower ho5 (zq (by repeat (first|(with_reducible first|exact HB.out|apply zj|apply zk|apply zi)|exact HB.out))));replace HB:=za (zu (by repeat (first|(with_reducible first|exact HB.out|apply zj|apply zk|apply zi)|exact HB.out)) hb);clear hb ho5)));(go_loopg [4,5] k (fun kq v4 v5 w'=>∃ (x4_1:List Int) (x5_1:Int),v5=.int .i64 x5_1∧Aside0 (impl_EulerNumbers.l0 kq a0 x4_1 x5_1=some (r1,r2))∧Aside0 (kq≤k)∧Aside0 (Kd.R (Kd.int .i64) 3 w' w.heap.size (fun _=>True) v4 x4_1)∧Aside0 (Below w.heap.size w w')));case atStart=>exact ⟨(y102),(2),(by first|rfl|(simp;done)|(simp [*];done)),H',⟨Nat.le_refl _⟩,⟨by (with_reducible repeat (first|apply zg|apply zh|apply zf));exact HO104.out⟩,⟨by repeat (first|(with_reducible first|exact HB.out|apply zj|apply zk|apply zi)|exact HB.out)⟩⟩
  case round =>
   clear H';(try clear p2);(try clear c3);(try clear c5);obtain ⟨x4_1,x5_1,rfl,HA,HK1,HO_4,HB⟩:=hrel
   cases gk with
  |zero=>exact absurd HA.out (by simp [impl_EulerNumbers.l0])
  |succ k1 =>
    have H:=HA.out;clear HA;simp only [impl_EulerNumbers.l0] at H;by_cases c6:x5_1≤a0
    ·
     rw [if_pos c6] at H;have c6b0:decide (x5_1≤a0)=true:=decide_eq_true c6;clear c6;by_cases c7:0≤x5_1
     ·
      rw [if_pos c7] at H;have c7b0:=eq_true c7;have c7b1:decide (0≤x5_1)=true:=decide_eq_true c7;clear c7;by_cases c8:(x5_1:Int).toNat≤35184372088832
      ·
       rw [if_pos c8] at H;have c8b0:=eq_true c8;have c8b1:decide ((x5_1:Int).toNat≤35184372088832)=true:=decide_eq_true c8;clear c8;obtain ⟨y105,hy105⟩:∃ y_:List Int,y_=(List.replicate (x5_1:Int).toNat 0):=⟨_,rfl⟩;(replace H:(impl_EulerNumbers.l1 k1 a0 x5_1 y105 x4_1 (x4_1.length:Int) 0)=some (r1,r2):=by first|(rw [hy105];with_reducible exact H)|(have H2_:=(Option.bind_some _ _).symm.trans H;rw [hy105];with_reducible exact H2_)|(have H2_:=(Option.bind_some _ _).symm.trans H;with_reducible exact H2_)|with_reducible exact H|(rw [hy105];exact H)|exact H);have Ny105:=za hy105;clear hy105;have H':=za H;clear H;(go_wp2_with (first|((with_reducible refine gate_dst (N:=19) rfl ?_);refine Kd.R_make (Kd.int .i64) _ 3 rfl (N:=19) rfl 28 _ _ rfl x5_1 rfl rfl Try.underlying28 (.int .i64 0) 8 info3 rfl (by decide) (by omega) 0 (ok:=fun _=>True) (okp:=fun _=>True) rfl (fun _ hk=>hk) trivial (of_decide_eq_true ‹_›) (Nat.le_trans (Nat.mul_le_mul_right _ (of_decide_eq_true ‹_›:x5_1.toNat≤35184372088832)) (by omega)) (Below.refl _ _) (Nat.le_refl _) ?_;intro v106 w9 ho10 hb hg_ hnew_;clear hg_ hnew_;(first|rw [← Ny105.out] at ho10|(simp only [Int.reduceToNat] at ho10;rw [← Ny105.out] at ho10));have HO107:=za (Kd.R_lower (Kd.R_new' ho10 (Kd.R_lt (by (with_reducible repeat (first|apply zg|apply zh|apply zf));exact HO_4.out))) (zq (by repeat (first|(with_reducible first|exact HB.out|apply zj|apply zk|apply zi)|exact HB.out))));replace HO_4:=za (zx (by (with_reducible repeat (first|apply zg|apply zh|apply zf));exact HO_4.out) (Kd.R_base ho10) hb);replace HB:=za (zu (by repeat (first|(with_reducible first|exact HB.out|apply zj|apply zk|apply zi)|exact HB.out)) hb);clear hb ho10;obtain ⟨Ao11,co11,eo11⟩:=Kd.R_slice HO_4.out;subst eo11)));(go_loopg [22] k1 (fun kq v22 w'=>∃ (x6_2:List Int) (x22_2:Int),v22=.int .i64 x22_2∧Aside0 (impl_EulerNumbers.l1 kq a0 x5_1 x6_2 x4_1 (x4_1.length:Int) x22_2=some (r1,r2))∧Aside0 (kq≤k1)∧Aside0 (Kd.R (Kd.int .i64) 3 w' w.heap.size (fun k_=>some k_ ≠ ((.slice Ao11 x4_1.length co11):Value).ownBlock) v106 x6_2)∧Aside0 (Kd.R (Kd.int .i64) 3 w' w.heap.size (fun k_=>some k_ ≠ (v106:Value).ownBlock) (.slice Ao11 x4_1.length co11) x4_1)∧Aside0 (Below w.heap.size w w')));case atStart=>exact ⟨(y105),(0),(by first|rfl|(simp;done)|(simp [*];done)),H',⟨Nat.le_refl _⟩,⟨by (with_reducible repeat (first|apply zg|apply zh|apply zf));exact zp HO107.out (fun _ hk=>hk.2)⟩,⟨by (with_reducible repeat (first|apply zg|apply zh|apply zf));exact zp HO_4.out (fun _ hk=>hk.2)⟩,⟨by repeat (first|(with_reducible first|exact HB.out|apply zj|apply zk|apply zi)|exact HB.out)⟩⟩
       case round =>
        clear H';(try clear p2);(try clear c3);(try clear c5);(try clear c6);(try clear c6b0);(try clear c7);(try clear c7b0);(try clear c7b1);(try clear c8);(try clear c8b0);(try clear c8b1);(try clear p2);obtain ⟨x6_2,x22_2,rfl,HA,HK2,HO_6,HO_20,HB⟩:=hrel
        cases gk with
       |zero=>exact absurd HA.out (by simp [impl_EulerNumbers.l1])
       |succ k2 =>
         have H:=HA.out;clear HA;simp only [impl_EulerNumbers.l1] at H;by_cases c12:x22_2 < (x4_1.length:Int)
         ·
          rw [if_pos c12] at H;have c12b0:decide (x22_2 < (x4_1.length:Int))=true:=decide_eq_true c12;clear c12;by_cases c13:0≤x22_2
          ·
           rw [if_pos c13] at H;have c13b0:decide (0≤x22_2)=true:=decide_eq_true c13;clear c13;by_cases c14:x22_2 < (x4_1.length:Int)
           ·
            rw [if_pos c14] at H;have c14b0:decide (x22_2 < (x4_1.length:Int))=true:=decide_eq_true c14;clear c14;by_cases c15:x22_2 < (x6_2.length:Int)
            ·
             rw [if_pos c15] at H;have c15b0:decide (x22_2 < (x6_2.length:Int))=true:=decide_eq_true c15;clear c15;obtain ⟨y110,hy110⟩:∃ y_:List Int,y_=(x6_2.set (x22_2:Int).toNat (wrap64 ((rd x6_2 x22_2) + (wrap64 ((wrap64 (x22_2 + 1)) * (rd x4_1 x22_2)))))):=⟨_,rfl⟩;(replace H:(if 0≤(wrap64 (x22_2 + 1)) then (if (wrap64 (x22_2 + 1)) < (x6_2.length:Int) then (impl_EulerNumbers.l1 k2 a0 x5_1 (y110.set ((wrap64 (x22_2 + 1)):Int).toNat (wrap64 ((rd y110 (wrap64 (x22_2 + 1))) + (wrap64 ((wrap64 ((wrap64 (x5_1 - 1)) - x22_2)) * (rd x4_1 x22_2)))))) x4_1 (x4_1.length:Int) (wrap64 (x22_2 + 1))) else (none)) else (none))=some (r1,r2):=by first|(rw [hy110];with_reducible exact H)|(have H2_:=(Option.bind_some _ _).symm.trans H;rw [hy110];with_reducible exact H2_)|(have H2_:=(Option.bind_some _ _).symm.trans H;with_reducible exact H2_)|with_reducible exact H|(rw [hy110];exact H)|exact H);have Ny110:=za hy110;clear hy110;obtain ⟨ji17,hji17⟩:∃ j_:Int,(wrap64 (x22_2 + 1))=j_:=⟨_,rfl⟩;(replace H:(if 0≤(ji17) then (if (ji17) < (x6_2.length:Int) then (impl_EulerNumbers.l1 k2 a0 x5_1 (y110.set ((ji17):Int).toNat (wrap64 ((rd y110 (ji17)) + (wrap64 ((wrap64 ((wrap64 (x5_1 - 1)) - x22_2)) * (rd x4_1 x22_2)))))) x4_1 (x4_1.length:Int) ji17) else (none)) else (none))=some (r1,r2):=by first|(rw [hji17] at H;exact H)|(simp only [hji17] at H ⊢;exact H));(try rw [hji17] at Ny110);have hji17w:(IntKind.i64.wrap (x22_2 + 1))=ji17:=(i64_w _).trans hji17;by_cases c18:0≤(ji17)
             ·
              rw [if_pos c18] at H;have c18b0:decide (0≤(ji17))=true:=decide_eq_true c18;clear c18;by_cases c19:(ji17) < (x6_2.length:Int)
              · rw [if_pos c19] at H;have c19b0:decide ((ji17) < (x6_2.length:Int))=true:=decide_eq_true c19;clear c19;obtain ⟨y112,hy112⟩:∃ y_:List Int,y_=(y110.set ((ji17):Int).toNat (wrap64 ((rd y110 (ji17)) + (wrap64 ((wrap64 ((wrap64 (x5_1 - 1)) - x22_2)) * (rd x4_1 x22_2)))))):=⟨_,rfl⟩;(replace H:(impl_EulerNumbers.l1 k2 a0 x5_1 y112 x4_1 (x4_1.length:Int) ji17)=some (r1,r2):=by first|(rw [hy112];with_reducible exact H)|(have H2_:=(Option.bind_some _ _).symm.trans H;rw [hy112];with_reducible exact H2_)|(have H2_:=(Option.bind_some _ _).symm.trans H;with_reducible exact H2_)|with_reducible exact H|(rw [hy112];exact H)|exact H);have Ny112:=za hy112;clear hy112;have H':=za H;clear H;have p108:0≤(x22_2:Int):=of_decide_eq_true ‹_›;have q108:x22_2 < (x4_1.length:Int):=of_decide_eq_true ‹_›;obtain ⟨ad108,e108,hx108_0⟩:=Kd.at_int (zv HO_20.out).2.2 x22_2 p108 q108;cases e108;replace p108:=eq_true p108;replace q108:=eq_true q108;obtain ⟨Ao21,co21,eo21⟩:=Kd.R_slice HO_6.out;subst eo21;have p109:0≤(x22_2:Int):=of_decide_eq_true ‹_›;have q109:x22_2 < (x6_2.length:Int):=of_decide_eq_true ‹_›;obtain ⟨ad109,e109,hx109_0⟩:=Kd.at_int (zv HO_6.out).2.2 x22_2 p109 q109;cases e109;replace p109:=eq_true p109;replace q109:=eq_true q109;have p16:0≤(x22_2:Int):=of_decide_eq_true ‹_›;have q16:(x22_2:Int) < ((x6_2.length:Int):Int):=of_decide_eq_true ‹_›;obtain ⟨go16,co16,eo16,gb16,gl16,cl16,HG16⟩:=Kd.R_form HO_6.out (by omega);(first|cases eo16|(injection eo16 with ea_ en_ ec_;(first|subst ea_|(injection ea_ with ea_;subst ea_));subst ec_;clear en_));have GB16:=za gb16;have GG16:=za HG16;clear gb16 gl16 HG16;(first|simp only [add_plain] at hx109_0|skip);obtain ⟨hx16_0,hf16_0⟩:=Kd.R_celln 0 HO_6.out (x22_2:Int) p16 q16;replace p16:=eq_true p16;replace q16:=eq_true q16;have HP22:=Kd.R_putg HO_6.out (x22_2:Int) (wrap64 ((rd x6_2 x22_2) + (wrap64 ((ji17) * (rd x4_1 x22_2)))));(go_wp2_with (first|((with_reducible refine gate_store (t:=3) (p:=36) rfl ?_);refine store_event (t:=3) (p:=36) (v:=?vo_w23) (w1:=(wr.setCell ⟨go16,(x22_2:Int).toNat,none⟩ (.int .i64 (wrap64 ((rd x6_2 x22_2) + (wrap64 ((ji17) * (rd x4_1 x22_2)))))))) ?hg ?ho ?hn ?hr ?_;(case ho=>rfl);(case hg=>rfl);(case hn=>rfl);(case hr=>first|(go_simp;done)|(go_simp;rfl));intro w23 hw;have hg:wr.grownBy w23 (some go16):=(by rw [hw];exact HP22.2);have hp_:Kd.R (Kd.int .i64) 3 w23 w.heap.size (fun k_=>some k_ ≠ (.slice (some ad108) x4_1.length co11:Value).ownBlock) (.slice (some ⟨go16,0,none⟩) x6_2.length co21) y110:=(by rw [hw,Ny110.out];exact HP22.1);clear HP22;replace HO_6:=za (hp_);replace HO_20:=za (Kd.R_after (v:=(.slice (some ⟨go16,0,none⟩) x6_2.length co21)) (v1:=(.slice (some ⟨go16,0,none⟩) x6_2.length co21)) (ok:=(fun _=>True)) (by (with_reducible repeat (first|apply zg|apply zh|apply zf));exact zp HO_20.out (fun _ hk=>⟨trivial,hk⟩)) hg (.inl rfl));replace HB:=za ((by rw [hw];exact zc (HB.out) GB16.out:Below w.heap.size w w23));clear hg hw hp_;have p111:0≤((ji17):Int):=of_decide_eq_true ‹_›;have q111:(ji17) < (y110.length:Int):=(by have h_:((ji17):Int) < ((x6_2.length:Int):Int):=of_decide_eq_true ‹_›;first|(have e_:=(zv HO_6.out).1;omega)|simpa only [Ny110.out,List.length_set] using h_);have ql111:(((ji17):Int) < ((x6_2.length:Int):Int))=True:=eq_true (of_decide_eq_true ‹_›);obtain ⟨ad111,e111,hx111_0⟩:=Kd.at_int (zv HO_6.out).2.2 (ji17) p111 q111;obtain rfl:(⟨go16,0,none⟩:Addr)=ad111:=(by injection e111);(first|simp only [add_plain] at hx111_0|simp only [add_at] at hx111_0|simp only [Addr.add,Nat.zero_add] at hx111_0|skip);replace p111:=eq_true p111;replace q111:=eq_true q111;have p20:0≤((ji17):Int):=of_decide_eq_true ‹_›;have q20:((ji17):Int) < ((x6_2.length:Int):Int):=of_decide_eq_true ‹_›;obtain ⟨hx20_0,hf20_0⟩:=Kd.R_celln 0 HO_6.out ((ji17):Int) p20 q20;replace p20:=eq_true p20;replace q20:=eq_true q20;obtain ⟨hy24_,hz24_⟩:=Kd.R_celln 0 HO_6.out ((ji17):Int) (of_decide_eq_true ‹_›) (of_decide_eq_true ‹_›);have HP24:=Kd.R_putg HO_6.out ((ji17):Int) (wrap64 ((rd y110 (ji17)) + (wrap64 ((wrap64 ((wrap64 (x5_1 - 1)) - x22_2)) * (rd x4_1 x22_2))))))|((with_reducible refine gate_store (t:=3) (p:=49) rfl ?_);refine store_event (t:=3) (p:=49) (v:=?vo_w25) (w1:=(w23.setCell ⟨go16,((ji17):Int).toNat,none⟩ (.int .i64 (wrap64 ((rd y110 (ji17)) + (wrap64 ((wrap64 ((wrap64 (x5_1 - 1)) - x22_2)) * (rd x4_1 x22_2)))))))) ?hg ?ho ?hn ?hr ?_;(case ho=>rfl);(case hg=>rfl);(case hn=>rfl);(case hr=>first|(go_simp;done)|(go_simp;rfl));intro w25 hw;have hg:w23.grownBy w25 (some go16):=(by rw [hw];exact HP24.2);have hp_:Kd.R (Kd.int .i64) 3 w25 w.heap.size (fun k_=>some k_ ≠ (.slice (some ad108) x4_1.length co11:Value).ownBlock) (.slice (some ⟨go16,0,none⟩) x6_2.length co21) y112:=(by rw [hw,Ny112.out];exact HP24.1);clear HP24;replace HO_6:=za (hp_);replace HO_20:=za (Kd.R_after (v:=(.slice (some ⟨go16,0,none⟩) x6_2.length co21)) (v1:=(.slice (some ⟨go16,0,none⟩) x6_2.length co21)) (ok:=(fun _=>True)) (by (with_reducible repeat (first|apply zg|apply zh|apply zf));exact HO_20.out) hg (.inl rfl));replace HB:=za ((by rw [hw];exact zc (HB.out) GB16.out:Below w.heap.size w w25));clear hg hw hp_)));(go_roundg k2);(case measure=>have:=HK1.out;have:=HK2.out;omega);case rel=>exact ⟨(y112),(ji17),(by first|rfl|(simp;done)|(simp only [← hji17] <;> (first|rfl|simp))|(simp [*];done)),H',⟨by have:=HK1.out;have:=HK2.out;omega⟩,⟨by (with_reducible repeat (first|apply zg|apply zh|apply zf));exact HO_6.out⟩,⟨by (with_reducible repeat (first|apply zg|apply zh|apply zf));exact zp HO_20.out (fun _ hk=>hk.2)⟩,⟨by repeat (first|(with_reducible first|exact HB.out|apply zj|apply zk|apply zi)|exact HB.out)⟩⟩
              · rw [if_neg c19] at H;exact absurd H (by simp)
             · rw [if_neg c18] at H;exact absurd H (by simp)
            · rw [if_neg c15] at H;exact absurd H (by simp)
           · rw [if_neg c14] at H;exact absurd H (by simp)
          · rw [if_neg c13] at H;exact absurd H (by simp)
         · rw [if_neg c12] at H;have c12b0:decide (x22_2 < (x4_1.length:Int))=false:=decide_eq_false c12;clear c12;have H':=za H;clear H;(go_wp2);(go_roundg k2);(case measure=>have:=HK1.out;have:=HK2.out;omega);case rel=>exact ⟨(x6_2),(wrap64 (x5_1 + 1)),(by first|rfl|(simp;done)|(simp [*];done)),H',⟨by have:=HK1.out;have:=HK2.out;omega⟩,⟨by (with_reducible repeat (first|apply zg|apply zh|apply zf));exact zp HO_6.out (fun _ hk=>trivial)⟩,⟨by repeat (first|(with_reducible first|exact HB.out|apply zj|apply zk|apply zi)|exact HB.out)⟩⟩
      · rw [if_neg c8] at H;exact absurd H (by simp)
     · rw [if_neg c7] at H;exact absurd H (by simp)
    · rw [if_neg c6] at H;have c6b0:decide (x5_1≤a0)=false:=decide_eq_false c6;clear c6;simp only [Option.some.injEq,Prod.mk.injEq] at H;obtain ⟨rfl,rfl⟩:=H;(go_wp2);(go_ret2);exact ⟨_,by first|rfl|simp [*,errW_none,errW_some] <;> rfl,by (with_reducible repeat (first|apply zg|apply zh|apply zf));exact HO_4.out,by repeat (first|(with_reducible first|exact HB.out|apply zj|apply zk|apply zi)|exact HB.out)⟩
 · replace c3:=Bool.eq_false_iff.mpr c3;subst c3;(have H1:(some (([]:List Int),false))=some (r1,r2):=by rw [if_neg (show ¬ (false=true) by decide)] at H;exact H);clear H;have H:=H1;clear H1;simp only [Option.some.injEq,Prod.mk.injEq] at H;obtain ⟨rfl,rfl⟩:=H;(go_enter Try.func50,Try.ntmps50);(go_wp2_with (first|((with_reducible refine zt (f:=79) rfl ?_);refine goesL_ (some 10) rfl rfl Try.func79 (by kernel_rfl) rfl #[.int .i64 a0,.int .i64 1,.int .i64 10] rfl (by first|rfl|simp only [z3_,z4_,z5_];try rfl) ?_;(with_reducible refine (impl_within.calls a0 1 10 false _ A2.out).mono ?_);rintro e w' ⟨rfl,⟨nd,rfl⟩⟩;refine ⟨_,rfl,?_⟩)));(go_ret2);exact ⟨_,by first|rfl|simp [*,errW_none,errW_some] <;> rfl,by first|exact Kd.R_nil _ _ _ _ _|exact Kd.N_nil _ _ _ _ _|exact Kd.V_nil _ _ _ _ _|exact Kd.Q_nil _ _ _ _ _|exact Kd.S_nil _ _ _ _ _,by repeat (first|(with_reducible first|exact HB.out|apply zj|apply zk|apply zi)|exact HB.out)⟩
end Go.Proofs.Ytiopnmgcajohfaa.Q
end
section
namespace Go.Proofs.Ytiopnmgcajohfaa.Q
open Go.RowKit Go.Proofs.YtiopnmgcajohfaaW.PrintWords Go.Proofs.YtiopnmgcajohfaaW.PrintLast Go.Proofs.YtiopnmgcajohfaaW.PrintMore
attribute [local go_sem] max2_int min2_int max_two min_two max_three min_three max_four min_four   -- for this text's walks alone
set_option linter.unusedVariables false
set_option linter.unusedSimpArgs false
def impl_falling.l0:Nat→Int→Int→Int→Int→Option (Int)
|0,_,_,_,_=>none
|k + 1,x0,x5,x7,x8=>if x8 < x7 then (impl_falling.l0 k x0 (wrap64 (x5 * (wrap64 (x0 - x8)))) x7 (wrap64 (x8 + 1))) else (some x5)
def impl_falling.f (k:Nat) (a0:Int) (a1:Int):Option (Int):=impl_falling.l0 k a0 1 a1 0
theorem impl_falling.mono_l:∀ k,(∀ y0 y1 y2 y3,LeO (impl_falling.l0 k y0 y1 y2 y3) (impl_falling.l0 (k + 1) y0 y1 y2 y3))
|0=>fun _ _ _ _ r h=>by simp [impl_falling.l0] at h
|k + 1=>by
  have ih0:=impl_falling.mono_l k
  ·
   intro y0 y1 y2 y3
   unfold impl_falling.l0
   repeat' first
  |(with_reducible exact ih0 _ _ _ _)
  |(with_reducible exact LeO.refl _)
  |(with_reducible exact LeO.none _)
  |(with_reducible refine LeO.ite ?_ ?_)
  |(with_reducible refine LeO.bind ?_ (fun _=>?_))
  |exact ih0 _ _ _ _
  |exact LeO.none _
  |refine LeO.ite ?_ ?_
  |refine LeO.bind ?_ (fun _=>?_)
theorem impl_falling.mono:∀ a0 a1 k,LeO (impl_falling.f k a0 a1) (impl_falling.f (k + 1) a0 a1):=by
 intro a0 a1 k;have ih0:=impl_falling.mono_l k;unfold impl_falling.f
 repeat' first
  |(with_reducible exact ih0 _ _ _ _)
  |(with_reducible exact LeO.refl _)
  |(with_reducible exact LeO.none _)
  |(with_reducible refine LeO.ite ?_ ?_)
  |(with_reducible refine LeO.bind ?_ (fun _=>?_))
  |exact ih0 _ _ _ _
  |exact LeO.none _
  |refine LeO.ite ?_ ?_
  |refine LeO.bind ?_ (fun _=>?_)
set_option maxHeartbeats 8000000 in
set_option maxRecDepth 100000 in
theorem impl_falling.calls (k:Nat) (a0:Int) (a1:Int) (r:Int) (w:World) (h:impl_falling.f k a0 a1=some r) :
  Calls Try.prog 146 #[.int .i64 a0,.int .i64 a1] w fun e w'=>e=.returned (.int .i64 r)∧Drawn0 w w':=by
 have H:(impl_falling.l0 k a0 1 a1 0)=some r:=h;clear h;have H':=za H;clear H;(go_enter Try.func146,Try.ntmps146);(go_wp2);(go_loopg [5,8] k (fun kq v5 v8 w'=>∃ (x5_1:Int) (x8_1:Int),v5=.int .i64 x5_1∧v8=.int .i64 x8_1∧Aside0 (impl_falling.l0 kq a0 x5_1 a1 x8_1=some r)∧Aside0 (kq≤k)∧Drawn0 w w'));case atStart=>exact ⟨(1),(0),(by first|rfl|(simp;done)|(simp [*];done)),(by first|rfl|(simp;done)|(simp [*];done)),H',⟨Nat.le_refl _⟩,by repeat (first|exact Drawn0.refl _|apply Drawn0.step)⟩
 case round =>
  clear H';(try clear c1);(try clear p2);obtain ⟨x5_1,x8_1,rfl,rfl,HA,HK1,⟨m1,rfl⟩⟩:=hrel
  cases gk with
 |zero=>exact absurd HA.out (by simp [impl_falling.l0])
 |succ k1 =>
   have H:=HA.out;clear HA;simp only [impl_falling.l0] at H;by_cases c3:x8_1 < a1
   · rw [if_pos c3] at H;have c3b0:decide (x8_1 < a1)=true:=decide_eq_true c3;clear c3;have H':=za H;clear H;(go_wp2);(go_roundg k1);(case measure=>have:=HK1.out;omega);case rel=>exact ⟨(wrap64 (x5_1 * (wrap64 (a0 - x8_1)))),(wrap64 (x8_1 + 1)),(by first|rfl|(simp;done)|(simp [*];done)),(by first|rfl|(simp;done)|(simp [*];done)),H',⟨by have:=HK1.out;omega⟩,by repeat (first|exact Drawn0.refl _|apply Drawn0.step)⟩
   · rw [if_neg c3] at H;have c3b0:decide (x8_1 < a1)=false:=decide_eq_false c3;clear c3;obtain rfl:=Option.some.inj H;(go_wp2);(go_ret);exact ⟨by first|rfl|(simp;done)|(simp [*];done),by repeat (first|exact Drawn0.refl _|apply Drawn0.step)⟩
end Go.Proofs.Ytiopnmgcajohfaa.Q
end
section
namespace Go.Proofs.Ytiopnmgcajohfaa.Q
open Go.RowKit Go.Proofs.YtiopnmgcajohfaaW.PrintWords Go.Proofs.YtiopnmgcajohfaaW.PrintLast Go.Proofs.YtiopnmgcajohfaaW.PrintMore
attribute [local go_sem] max2_int min2_int max_two min_two max_three min_three max_four min_four   -- for this text's walks alone
set_option linter.unusedVariables false
set_option linter.unusedSimpArgs false
def impl_factorial.f (k:Nat) (a0:Int):Option (Int):=(impl_falling.f k a0 a0).bind fun t101=>(some t101)
theorem impl_factorial.mono:∀ a0 k,LeO (impl_factorial.f k a0) (impl_factorial.f (k + 1) a0):=by
 intro a0 k;unfold impl_factorial.f
 repeat' first
  |(with_reducible exact impl_falling.mono _ _ _)
  |(with_reducible exact LeO.refl _)
  |(with_reducible exact LeO.none _)
  |(with_reducible refine LeO.ite ?_ ?_)
  |(with_reducible refine LeO.bind ?_ (fun _=>?_))
  |exact impl_falling.mono _ _ _
  |exact LeO.none _
  |refine LeO.ite ?_ ?_
  |refine LeO.bind ?_ (fun _=>?_)
set_option maxHeartbeats 8000000 in
set_option maxRecDepth 100000 in
theorem impl_factorial.calls (k:Nat) (a0:Int) (r:Int) (w:World) (h:impl_factorial.f k a0=some r) :
  Calls Try.prog 120 #[.int .i64 a0] w fun e w'=>e=.returned (.int .i64 r)∧Drawn0 w w':=by
 have H:((impl_falling.f k a0 a0).bind fun t101=>(some t101))=some r:=h;clear h;obtain ⟨t101,A2,H⟩:=bindAside H;(try dsimp only at H);obtain rfl:=Option.some.inj H;(go_enter Try.func120,Try.ntmps120);(go_wp2_with (first|((with_reducible refine zt (f:=146) rfl ?_);refine goesL_ (some 5) rfl rfl Try.func146 (by kernel_rfl) rfl #[.int .i64 a0,.int .i64 a0] rfl (by first|rfl|simp only [z3_,z4_,z5_];try rfl) ?_;(with_reducible refine (impl_falling.calls k a0 a0 t101 _ A2.out).mono ?_);rintro e w' ⟨rfl,⟨nd,rfl⟩⟩;refine ⟨_,rfl,?_⟩)));(go_ret);exact ⟨by first|rfl|(simp;done)|(simp [*];done),by repeat (first|exact Drawn0.refl _|apply Drawn0.step)⟩
end Go.Proofs.Ytiopnmgcajohfaa.Q
end
section
namespace Go.Proofs.Ytiopnmgcajohfaa.Q
open Go.RowKit Go.Proofs.YtiopnmgcajohfaaW.PrintWords Go.Proofs.YtiopnmgcajohfaaW.PrintLast Go.Proofs.YtiopnmgcajohfaaW.PrintMore
attribute [local go_sem] max2_int min2_int max_two min_two max_three min_three max_four min_four   -- for this text's walks alone
set_option linter.unusedVariables false
set_option linter.unusedSimpArgs false
def impl_choose.f (k:Nat) (a0:Int) (a1:Int):Option (Int):=(impl_within.f a1 0 a0).bind fun t101=>(if t101=true then ((impl_falling.f k a0 a1).bind fun t102=>((impl_factorial.f k a1).bind fun t103=>(if t103=0 then (none) else (some (wrap64 (Int.tdiv t102 t103)))))) else (some 0))
theorem impl_choose.mono:∀ a0 a1 k,LeO (impl_choose.f k a0 a1) (impl_choose.f (k + 1) a0 a1):=by
 intro a0 a1 k;unfold impl_choose.f
 repeat' first
  |(with_reducible exact impl_factorial.mono _ _)
  |(with_reducible exact impl_falling.mono _ _ _)
  |(with_reducible exact LeO.refl _)
  |(with_reducible exact LeO.none _)
  |(with_reducible refine LeO.ite ?_ ?_)
  |(with_reducible refine LeO.bind ?_ (fun _=>?_))
  |exact impl_factorial.mono _ _
  |exact impl_falling.mono _ _ _
  |exact LeO.none _
  |refine LeO.ite ?_ ?_
  |refine LeO.bind ?_ (fun _=>?_)
set_option maxHeartbeats 8000000 in
set_option maxRecDepth 100000 in
theorem impl_choose.calls (k:Nat) (a0:Int) (a1:Int) (r:Int) (w:World) (h:impl_choose.f k a0 a1=some r) :
  Calls Try.prog 112 #[.int .i64 a0,.int .i64 a1] w fun e w'=>e=.returned (.int .i64 r)∧Drawn0 w w':=by
 have H:((impl_within.f a1 0 a0).bind fun t101=>(if t101=true then ((impl_falling.f k a0 a1).bind fun t102=>((impl_factorial.f k a1).bind fun t103=>(if t103=0 then (none) else (some (wrap64 (Int.tdiv t102 t103)))))) else (some 0)))=some r:=h;clear h;obtain ⟨t101,A3,H⟩:=bindAside H;(try dsimp only at H);by_cases c4:t101=true
 ·
  subst c4;(have H1:((impl_falling.f k a0 a1).bind fun t102=>((impl_factorial.f k a1).bind fun t103=>(if t103=0 then (none) else (some (wrap64 (Int.tdiv t102 t103))))))=some r:=by rw [if_pos rfl] at H;exact H);clear H;have H:=H1;clear H1;obtain ⟨t102,A5,H⟩:=bindAside H;(try dsimp only at H);obtain ⟨t103,A6,H⟩:=bindAside H;(try dsimp only at H);by_cases c7:t103=0
  · rw [if_pos c7] at H;exact absurd H (by simp)
  · rw [if_neg c7] at H;have c7b0:(t103 == 0)=false:=beq_eq_false_iff_ne.mpr c7;have c7b1:(t103 != 0)=true:=bne_iff_ne.mpr c7;obtain rfl:=Option.some.inj H;(go_enter Try.func112,Try.ntmps112);(go_wp2_with (first|((with_reducible refine zt (f:=79) rfl ?_);refine goesL_ (some 7) rfl rfl Try.func79 (by kernel_rfl) rfl #[.int .i64 a1,.int .i64 0,.int .i64 a0] rfl (by first|rfl|simp only [z3_,z4_,z5_];try rfl) ?_;(with_reducible refine (impl_within.calls a1 0 a0 true _ A3.out).mono ?_);rintro e w' ⟨rfl,⟨nd,rfl⟩⟩;refine ⟨_,rfl,?_⟩)|((with_reducible refine zt (f:=146) rfl ?_);refine goesL_ (some 11) rfl rfl Try.func146 (by kernel_rfl) rfl #[.int .i64 a0,.int .i64 a1] rfl (by first|rfl|simp only [z3_,z4_,z5_];try rfl) ?_;(with_reducible refine (impl_falling.calls k a0 a1 t102 _ A5.out).mono ?_);rintro e w' ⟨rfl,⟨nd,rfl⟩⟩;refine ⟨_,rfl,?_⟩)|((with_reducible refine zt (f:=120) rfl ?_);refine goesL_ (some 13) rfl rfl Try.func120 (by kernel_rfl) rfl #[.int .i64 a1] rfl (by first|rfl|simp only [z3_,z4_,z5_];try rfl) ?_;(with_reducible refine (impl_factorial.calls k a1 t103 _ A6.out).mono ?_);rintro e w' ⟨rfl,⟨nd,rfl⟩⟩;refine ⟨_,rfl,?_⟩)));(go_ret);exact ⟨by first|rfl|(simp;done)|(simp [*];done),by repeat (first|exact Drawn0.refl _|apply Drawn0.step)⟩
 · replace c4:=Bool.eq_false_iff.mpr c4;subst c4;(have H1:(some 0)=some r:=by rw [if_neg (show ¬ (false=true) by decide)] at H;exact H);clear H;have H:=H1;clear H1;obtain rfl:=Option.some.inj H;(go_enter Try.func112,Try.ntmps112);(go_wp2_with (first|((with_reducible refine zt (f:=79) rfl ?_);refine goesL_ (some 7) rfl rfl Try.func79 (by kernel_rfl) rfl #[.int .i64 a1,.int .i64 0,.int .i64 a0] rfl (by first|rfl|simp only [z3_,z4_,z5_];try rfl) ?_;(with_reducible refine (impl_within.calls a1 0 a0 false _ A3.out).mono ?_);rintro e w' ⟨rfl,⟨nd,rfl⟩⟩;refine ⟨_,rfl,?_⟩)));(go_ret);exact ⟨by first|rfl|(simp;done)|(simp [*];done),by repeat (first|exact Drawn0.refl _|apply Drawn0.step)⟩
end Go.Proofs.Ytiopnmgcajohfaa.Q
end
section
namespace Go.Proofs.Ytiopnmgcajohfaa.Q
open Go.RowKit Go.Proofs.YtiopnmgcajohfaaW.PrintWords Go.Proofs.YtiopnmgcajohfaaW.PrintLast Go.Proofs.YtiopnmgcajohfaaW.PrintMore
attribute [local go_sem] max2_int min2_int max_two min_two max_three min_three max_four min_four   -- for this text's walks alone
set_option linter.unusedVariables false
set_option linter.unusedSimpArgs false
def impl_DerangementsWith.j0:Nat→Int→Int→Bool→Option (Int × Bool)
|0,_,_,_=>none
|k + 1,x0,x1,x14=>if x14=true then (some (0,false)) else ((impl_choose.f k x0 x1).bind fun t103=>((impl_deranged.f k (wrap64 (x0 - x1))).bind fun t104=>(some (wrap64 (t103 * t104),true))))
def impl_DerangementsWith.f (k:Nat) (a0:Int) (a1:Int):Option (Int × Bool):=(impl_within.f a0 0 12).bind fun t101=>(if t101=true then ((impl_within.f a1 0 a0).bind fun t102=>(impl_DerangementsWith.j0 k a0 a1 (!t102))) else (impl_DerangementsWith.j0 k a0 a1 true))
theorem impl_DerangementsWith.mono_l:∀ k,(∀ y0 y1 y2,LeO (impl_DerangementsWith.j0 k y0 y1 y2) (impl_DerangementsWith.j0 (k + 1) y0 y1 y2))
|0=>fun _ _ _ r h=>by simp [impl_DerangementsWith.j0] at h
|k + 1=>by
  have ih0:=impl_DerangementsWith.mono_l k
  ·
   intro y0 y1 y2
   unfold impl_DerangementsWith.j0
   repeat' first
  |(with_reducible exact ih0 _ _ _)
  |(with_reducible exact impl_choose.mono _ _ _)
  |(with_reducible exact impl_deranged.mono _ _)
  |(with_reducible exact LeO.refl _)
  |(with_reducible exact LeO.none _)
  |(with_reducible refine LeO.ite ?_ ?_)
  |(with_reducible refine LeO.bind ?_ (fun _=>?_))
  |exact ih0 _ _ _
  |exact impl_choose.mono _ _ _
  |exact impl_deranged.mono _ _
  |exact LeO.none _
  |refine LeO.ite ?_ ?_
  |refine LeO.bind ?_ (fun _=>?_)
theorem impl_DerangementsWith.mono:∀ a0 a1 k,LeO (impl_DerangementsWith.f k a0 a1) (impl_DerangementsWith.f (k + 1) a0 a1):=by
 intro a0 a1 k;have ih0:=impl_DerangementsWith.mono_l k;unfold impl_DerangementsWith.f
 repeat' first
  |(with_reducible exact ih0 _ _ _)
  |(with_reducible exact impl_choose.mono _ _ _)
  |(with_reducible exact impl_deranged.mono _ _)
  |(with_reducible exact LeO.refl _)
  |(with_reducible exact LeO.none _)
  |(with_reducible refine LeO.ite ?_ ?_)
  |(with_reducible refine LeO.bind ?_ (fun _=>?_))
  |exact ih0 _ _ _
  |exact impl_choose.mono _ _ _
  |exact impl_deranged.mono _ _
  |exact LeO.none _
  |refine LeO.ite ?_ ?_
  |refine LeO.bind ?_ (fun _=>?_)
set_option maxHeartbeats 8000000 in
set_option maxRecDepth 100000 in
theorem impl_DerangementsWith.calls (k:Nat) (a0:Int) (a1:Int) (r1:Int) (r2:Bool) (w:World) (h:impl_DerangementsWith.f k a0 a1=some (r1,r2)) :
  Calls Try.prog 51 #[.int .i64 a0,.int .i64 a1] w fun e w'=>e=.returned (.tuple #[.int .i64 r1,.bool r2])∧Drawn0 w w':=by
 have H:((impl_within.f a0 0 12).bind fun t101=>(if t101=true then ((impl_within.f a1 0 a0).bind fun t102=>(impl_DerangementsWith.j0 k a0 a1 (!t102))) else (impl_DerangementsWith.j0 k a0 a1 true)))=some (r1,r2):=h;clear h;have HC3:=za H;clear H;(go_enter Try.func51,Try.ntmps51);(go_upto_region 1 with (fail));go_cut [14] (fun v14 wc=>∃ (kq:Nat) (x14_2:Bool),v14=.bool x14_2∧Aside0 (impl_DerangementsWith.j0 kq a0 a1 x14_2=some (r1,r2))∧Aside0 (kq≤k)∧Drawn0 w wc)
 case first =>
  have H:=HC3.out;clear HC3;obtain ⟨t101,A4,H⟩:=bindAside H;(try dsimp only at H);by_cases c5:t101=true
  · subst c5;(have H1:((impl_within.f a1 0 a0).bind fun t102=>(impl_DerangementsWith.j0 k a0 a1 (!t102)))=some (r1,r2):=by rw [if_pos rfl] at H;exact H);clear H;have H:=H1;clear H1;obtain ⟨t102,A6,H⟩:=bindAside H;(try dsimp only at H);have H':=za H;clear H;(go_wp2_with (first|((with_reducible refine zt (f:=79) rfl ?_);refine goesL_ (some 7) rfl rfl Try.func79 (by kernel_rfl) rfl #[.int .i64 a0,.int .i64 0,.int .i64 12] rfl (by first|rfl|simp only [z3_,z4_,z5_];try rfl) ?_;(with_reducible refine (impl_within.calls a0 0 12 true _ A4.out).mono ?_);rintro e w' ⟨rfl,⟨nd,rfl⟩⟩;refine ⟨_,rfl,?_⟩)|(go_at_call 79;(with_reducible refine (impl_within.calls a1 0 a0 t102 _ A6.out).mono ?_);rintro e w' ⟨rfl,⟨nd,rfl⟩⟩)));(go_meet);case rel=>exact ⟨_,(!t102),(by first|rfl|(simp;done)|(simp [*];done)),H',⟨by first|omega|exact Nat.le_refl _⟩,by repeat (first|exact Drawn0.refl _|apply Drawn0.step)⟩
  · replace c5:=Bool.eq_false_iff.mpr c5;subst c5;(have H1:(impl_DerangementsWith.j0 k a0 a1 true)=some (r1,r2):=by rw [if_neg (show ¬ (false=true) by decide)] at H;exact H);clear H;have H:=H1;clear H1;have H':=za H;clear H;(go_wp2_with (first|((with_reducible refine zt (f:=79) rfl ?_);refine goesL_ (some 7) rfl rfl Try.func79 (by kernel_rfl) rfl #[.int .i64 a0,.int .i64 0,.int .i64 12] rfl (by first|rfl|simp only [z3_,z4_,z5_];try rfl) ?_;(with_reducible refine (impl_within.calls a0 0 12 false _ A4.out).mono ?_);rintro e w' ⟨rfl,⟨nd,rfl⟩⟩;refine ⟨_,rfl,?_⟩)));(go_meet);case rel=>exact ⟨_,(true),(by first|rfl|(simp;done)|(simp [*];done)),H',⟨by first|omega|exact Nat.le_refl _⟩,by repeat (first|exact Drawn0.refl _|apply Drawn0.step)⟩
 case rest =>
  clear HC3;(try clear p2);(try clear c5);obtain ⟨kq,x14_2,rfl,HA,HJ2,⟨mc2,rfl⟩⟩:=hcut
  cases kq with
 |zero=>exact absurd HA.out (by simp [impl_DerangementsWith.j0])
 |succ kj2 =>
   have H:=HA.out;clear HA;simp only [impl_DerangementsWith.j0] at H;by_cases c7:x14_2=true
   · subst c7;(have H1:(some (0,false))=some (r1,r2):=by rw [if_pos rfl] at H;exact H);clear H;have H:=H1;clear H1;simp only [Option.some.injEq,Prod.mk.injEq] at H;obtain ⟨rfl,rfl⟩:=H;(go_wp2);(go_ret2);exact ⟨by first|rfl|(simp;done)|(simp [*];done),by repeat (first|exact Drawn0.refl _|apply Drawn0.step)⟩
   · replace c7:=Bool.eq_false_iff.mpr c7;subst c7;(have H1:((impl_choose.f kj2 a0 a1).bind fun t103=>((impl_deranged.f kj2 (wrap64 (a0 - a1))).bind fun t104=>(some (wrap64 (t103 * t104),true))))=some (r1,r2):=by rw [if_neg (show ¬ (false=true) by decide)] at H;exact H);clear H;have H:=H1;clear H1;obtain ⟨t103,A8,H⟩:=bindAside H;(try dsimp only at H);obtain ⟨t104,A9,H⟩:=bindAside H;(try dsimp only at H);simp only [Option.some.injEq,Prod.mk.injEq] at H;obtain ⟨rfl,rfl⟩:=H;(go_wp2_with (first|((with_reducible refine zt (f:=112) rfl ?_);refine goesL_ (some 17) rfl rfl Try.func112 (by kernel_rfl) rfl #[.int .i64 a0,.int .i64 a1] rfl (by first|rfl|simp only [z3_,z4_,z5_];try rfl) ?_;(with_reducible refine (impl_choose.calls kj2 a0 a1 t103 _ A8.out).mono ?_);rintro e w' ⟨rfl,⟨nd,rfl⟩⟩;refine ⟨_,rfl,?_⟩)|((with_reducible refine zt (f:=111) rfl ?_);refine goesL_ (some 21) rfl rfl Try.func111 (by kernel_rfl) rfl #[.int .i64 (wrap64 (a0 - a1))] rfl (by first|rfl|simp only [z3_,z4_,z5_];try rfl) ?_;(with_reducible refine (impl_deranged.calls kj2 (wrap64 (a0 - a1)) t104 _ A9.out).mono ?_);rintro e w' ⟨rfl,⟨nd,rfl⟩⟩;refine ⟨_,rfl,?_⟩)));(go_ret2);exact ⟨by first|rfl|(simp;done)|(simp [*];done),by repeat (first|exact Drawn0.refl _|apply Drawn0.step)⟩
end Go.Proofs.Ytiopnmgcajohfaa.Q
end
section
namespace Go.Proofs.Ytiopnmgcajohfaa.Q
open Go.RowKit Go.Proofs.YtiopnmgcajohfaaW.PrintWords Go.Proofs.YtiopnmgcajohfaaW.PrintLast Go.Proofs.YtiopnmgcajohfaaW.PrintMore
attribute [local go_sem] max2_int min2_int max_two min_two max_three min_three max_four min_four   -- for this text's walks alone
set_option linter.unusedVariables false
set_option linter.unusedSimpArgs false
mutual
def impl_CountCouples.l0:Nat→Int→List Int→Int→Int→Option (Int × Bool)
|0,_,_,_,_=>none
|k + 1,x0,x4,x18,x19=>if x19 < x18 then (if 0≤x0 then (if 0≤(shl .i64 1 x0) then (if (shl .i64 1 x0:Int).toNat≤35184372088832 then (impl_CountCouples.l1 k x0 x19 (List.replicate (shl .i64 1 x0:Int).toNat 0) x18 x19 x4 (x4.length:Int) 0) else (none)) else (none)) else (none)) else (if 0≤x0 then (if 0≤(wrap64 ((shl .i64 1 x0) - 1)) then (if (wrap64 ((shl .i64 1 x0) - 1)) < (x4.length:Int) then (some (rd x4 (wrap64 ((shl .i64 1 x0) - 1)),true)) else (none)) else (none)) else (none))
def impl_CountCouples.l1:Nat→Int→Int→List Int→Int→Int→List Int→Int→Int→Option (Int × Bool)
|0,_,_,_,_,_,_,_,_=>none
|k + 1,x0,x5,x6,x18,x19,x25,x26,x27=>if x27 < x26 then (if 0≤x27 then (if x27 < (x25.length:Int) then (impl_CountCouples.l2 k x0 x5 x6 x27 (rd x25 x27) x18 x19 x25 x26 x27 x0 0) else (none)) else (none)) else (impl_CountCouples.l0 k x0 x6 x18 (wrap64 (x19 + 1)))
def impl_CountCouples.l2:Nat→Int→Int→List Int→Int→Int→Int→Int→List Int→Int→Int→Int→Int→Option (Int × Bool)
|0,_,_,_,_,_,_,_,_,_,_,_,_=>none
|k + 1,x0,x5,x6,x7,x8,x18,x19,x25,x26,x27,x32,x33=>if x33 < x32 then (if x8 > 0 then (if 0≤x33 then (if (Go.bits .and .i64 (shr .i64 x7 x33) 1)=0 then (if x33=x5 then (impl_CountCouples.l2 k x0 x5 x6 x7 x8 x18 x19 x25 x26 x27 x32 (wrap64 (x33 + 1))) else (if x0=0 then (none) else (if x33=(Int.tmod (wrap64 (x5 + 1)) x0) then (impl_CountCouples.l2 k x0 x5 x6 x7 x8 x18 x19 x25 x26 x27 x32 (wrap64 (x33 + 1))) else (if 0≤(Go.bits .or .i64 x7 (shl .i64 1 x33)) then (if (Go.bits .or .i64 x7 (shl .i64 1 x33)) < (x6.length:Int) then (impl_CountCouples.l2 k x0 x5 (x6.set ((Go.bits .or .i64 x7 (shl .i64 1 x33)):Int).toNat (wrap64 ((rd x6 (Go.bits .or .i64 x7 (shl .i64 1 x33))) + x8))) x7 x8 x18 x19 x25 x26 x27 x32 (wrap64 (x33 + 1))) else (none)) else (none))))) else (impl_CountCouples.l2 k x0 x5 x6 x7 x8 x18 x19 x25 x26 x27 x32 (wrap64 (x33 + 1)))) else (none)) else (impl_CountCouples.l2 k x0 x5 x6 x7 x8 x18 x19 x25 x26 x27 x32 (wrap64 (x33 + 1)))) else (impl_CountCouples.l1 k x0 x5 x6 x18 x19 x25 x26 (wrap64 (x27 + 1)))
end
def impl_CountCouples.f (k:Nat) (a0:Int):Option (Int × Bool):=(impl_within.f a0 2 10).bind fun t101=>(if t101=true then (if 0≤a0 then (if 0≤(shl .i64 1 a0) then (if (shl .i64 1 a0:Int).toNat≤35184372088832 then ((some (List.replicate (shl .i64 1 a0:Int).toNat 0:List Int)).bind fun y102=>(if 0 < (y102.length:Int) then (impl_CountCouples.l0 k a0 (y102.set (0:Int).toNat 1) a0 0) else (none))) else (none)) else (none)) else (none)) else (some (0,false)))
theorem impl_CountCouples.mono_l:∀ k,(∀ y0 y1 y2 y3,LeO (impl_CountCouples.l0 k y0 y1 y2 y3) (impl_CountCouples.l0 (k + 1) y0 y1 y2 y3))∧(∀ y0 y1 y2 y3 y4 y5 y6 y7,LeO (impl_CountCouples.l1 k y0 y1 y2 y3 y4 y5 y6 y7) (impl_CountCouples.l1 (k + 1) y0 y1 y2 y3 y4 y5 y6 y7))∧(∀ y0 y1 y2 y3 y4 y5 y6 y7 y8 y9 y10 y11,LeO (impl_CountCouples.l2 k y0 y1 y2 y3 y4 y5 y6 y7 y8 y9 y10 y11) (impl_CountCouples.l2 (k + 1) y0 y1 y2 y3 y4 y5 y6 y7 y8 y9 y10 y11))
|0=>⟨fun _ _ _ _ r h=>by simp [impl_CountCouples.l0] at h,fun _ _ _ _ _ _ _ _ r h=>by simp [impl_CountCouples.l1] at h,fun _ _ _ _ _ _ _ _ _ _ _ _ r h=>by simp [impl_CountCouples.l2] at h⟩
|k + 1=>by
  obtain ⟨ih0,ih1,ih2⟩:=impl_CountCouples.mono_l k
  refine ⟨?_,?_,?_⟩
  ·
   intro y0 y1 y2 y3
   unfold impl_CountCouples.l0
   repeat' first
  |(with_reducible exact ih0 _ _ _ _)
  |(with_reducible exact ih1 _ _ _ _ _ _ _ _)
  |(with_reducible exact ih2 _ _ _ _ _ _ _ _ _ _ _ _)
  |(with_reducible exact LeO.refl _)
  |(with_reducible exact LeO.none _)
  |(with_reducible refine LeO.ite ?_ ?_)
  |(with_reducible refine LeO.bind ?_ (fun _=>?_))
  |exact ih0 _ _ _ _
  |exact ih1 _ _ _ _ _ _ _ _
  |exact ih2 _ _ _ _ _ _ _ _ _ _ _ _
  |exact LeO.none _
  |refine LeO.ite ?_ ?_
  |refine LeO.bind ?_ (fun _=>?_)
  ·
   intro y0 y1 y2 y3 y4 y5 y6 y7
   unfold impl_CountCouples.l1
   repeat' first
  |(with_reducible exact ih0 _ _ _ _)
  |(with_reducible exact ih1 _ _ _ _ _ _ _ _)
  |(with_reducible exact ih2 _ _ _ _ _ _ _ _ _ _ _ _)
  |(with_reducible exact LeO.refl _)
  |(with_reducible exact LeO.none _)
  |(with_reducible refine LeO.ite ?_ ?_)
  |(with_reducible refine LeO.bind ?_ (fun _=>?_))
  |exact ih0 _ _ _ _
  |exact ih1 _ _ _ _ _ _ _ _
  |exact ih2 _ _ _ _ _ _ _ _ _ _ _ _
  |exact LeO.none _
  |refine LeO.ite ?_ ?_
  |refine LeO.bind ?_ (fun _=>?_)
  ·
   intro y0 y1 y2 y3 y4 y5 y6 y7 y8 y9 y10 y11
   unfold impl_CountCouples.l2
   repeat' first
  |(with_reducible exact ih0 _ _ _ _)
  |(with_reducible exact ih1 _ _ _ _ _ _ _ _)
  |(with_reducible exact ih2 _ _ _ _ _ _ _ _ _ _ _ _)
  |(with_reducible exact LeO.refl _)
  |(with_reducible exact LeO.none _)
  |(with_reducible refine LeO.ite ?_ ?_)
  |(with_reducible refine LeO.bind ?_ (fun _=>?_))
  |exact ih0 _ _ _ _
  |exact ih1 _ _ _ _ _ _ _ _
  |exact ih2 _ _ _ _ _ _ _ _ _ _ _ _
  |exact LeO.none _
  |refine LeO.ite ?_ ?_
  |refine LeO.bind ?_ (fun _=>?_)
theorem impl_CountCouples.mono:∀ a0 k,LeO (impl_CountCouples.f k a0) (impl_CountCouples.f (k + 1) a0):=by
 intro a0 k;obtain ⟨ih0,ih1,ih2⟩:=impl_CountCouples.mono_l k;unfold impl_CountCouples.f
 repeat' first
  |(with_reducible exact ih0 _ _ _ _)
  |(with_reducible exact ih1 _ _ _ _ _ _ _ _)
  |(with_reducible exact ih2 _ _ _ _ _ _ _ _ _ _ _ _)
  |(with_reducible exact LeO.refl _)
  |(with_reducible exact LeO.none _)
  |(with_reducible refine LeO.ite ?_ ?_)
  |(with_reducible refine LeO.bind ?_ (fun _=>?_))
  |exact ih0 _ _ _ _
  |exact ih1 _ _ _ _ _ _ _ _
  |exact ih2 _ _ _ _ _ _ _ _ _ _ _ _
  |exact LeO.none _
  |refine LeO.ite ?_ ?_
  |refine LeO.bind ?_ (fun _=>?_)
set_option maxHeartbeats 8000000 in
set_option maxRecDepth 100000 in
theorem impl_CountCouples.calls (k:Nat) (a0:Int) (r1:Int) (r2:Bool) (w:World) (h:impl_CountCouples.f k a0=some (r1,r2)) :
  Calls Try.prog 52 #[.int .i64 a0] w fun e w'=>e=.returned (.tuple #[.int .i64 r1,.bool r2])∧Below w.heap.size w w':=by
 have HB:=za (Below.refl w.heap.size w);have H:((impl_within.f a0 2 10).bind fun t101=>(if t101=true then (if 0≤a0 then (if 0≤(shl .i64 1 a0) then (if (shl .i64 1 a0:Int).toNat≤35184372088832 then ((some (List.replicate (shl .i64 1 a0:Int).toNat 0:List Int)).bind fun y102=>(if 0 < (y102.length:Int) then (impl_CountCouples.l0 k a0 (y102.set (0:Int).toNat 1) a0 0) else (none))) else (none)) else (none)) else (none)) else (some (0,false))))=some (r1,r2):=h;clear h;obtain ⟨t101,A2,H⟩:=bindAside H;(try dsimp only at H);by_cases c3:t101=true
 ·
  subst c3;(have H1:(if 0≤a0 then (if 0≤(shl .i64 1 a0) then (if (shl .i64 1 a0:Int).toNat≤35184372088832 then ((some (List.replicate (shl .i64 1 a0:Int).toNat 0:List Int)).bind fun y102=>(if 0 < (y102.length:Int) then (impl_CountCouples.l0 k a0 (y102.set (0:Int).toNat 1) a0 0) else (none))) else (none)) else (none)) else (none))=some (r1,r2):=by rw [if_pos rfl] at H;exact H);clear H;have H:=H1;clear H1;by_cases c4:0≤a0
  ·
   rw [if_pos c4] at H;have c4b0:=eq_true c4;have c4b1:decide (0≤a0)=true:=decide_eq_true c4;clear c4;obtain ⟨ji5,hji5⟩:∃ j_:Int,(shl .i64 1 a0)=j_:=⟨_,rfl⟩;(replace H:(if 0≤(ji5) then (if (ji5:Int).toNat≤35184372088832 then ((some (List.replicate (ji5:Int).toNat 0:List Int)).bind fun y102=>(if 0 < (y102.length:Int) then (impl_CountCouples.l0 k a0 (y102.set (0:Int).toNat 1) a0 0) else (none))) else (none)) else (none))=some (r1,r2):=by first|(rw [hji5] at H;exact H)|(simp only [hji5] at H ⊢;exact H));(try rw [hji5] at A2);have hji5_:(IntKind.i64.wrap (1 * 2 ^ min a0.toNat 64))=ji5:=hji5;have hji5z:a0≤64→(IntKind.i64.wrap (1 * 2 ^ a0.toNat))=ji5:=shl_small hji5;(have hji5u:(IntKind.i64.wrap (2 ^ min a0.toNat 64))=ji5:=by have h_:=hji5_;rw [Int.one_mul] at h_;exact h_);(have hji5v:a0≤64→(IntKind.i64.wrap (2 ^ a0.toNat))=ji5:=fun hle_=>by have h_:=hji5z hle_;rw [Int.one_mul] at h_;exact h_);have hji5y:(wrap64 (1 * 2 ^ min a0.toNat 64))=ji5:=(i64_w _).symm.trans hji5_;(have hji5x:a0≤64→(wrap64 (1 * 2 ^ a0.toNat))=ji5:=fun h_=>(i64_w _).symm.trans (hji5z h_));by_cases c6:0≤(ji5)
   ·
    rw [if_pos c6] at H;have c6b0:=eq_true c6;have c6b1:decide (0≤(ji5))=true:=decide_eq_true c6;clear c6;by_cases c7:(ji5:Int).toNat≤35184372088832
    ·
     rw [if_pos c7] at H;have c7b0:=eq_true c7;have c7b1:decide ((ji5:Int).toNat≤35184372088832)=true:=decide_eq_true c7;clear c7;obtain ⟨y102,hy102⟩:∃ y_:List Int,y_=(List.replicate (ji5:Int).toNat 0):=⟨_,rfl⟩;(replace H:(if 0 < (y102.length:Int) then (impl_CountCouples.l0 k a0 (y102.set (0:Int).toNat 1) a0 0) else (none))=some (r1,r2):=by first|(rw [hy102];with_reducible exact H)|(have H2_:=(Option.bind_some _ _).symm.trans H;rw [hy102];with_reducible exact H2_)|(have H2_:=(Option.bind_some _ _).symm.trans H;with_reducible exact H2_)|with_reducible exact H|(rw [hy102];exact H)|exact H);have Ny102:=za hy102;clear hy102;by_cases c8:0 < (y102.length:Int)
     ·
      rw [if_pos c8] at H;have c8b0:decide (0 < (y102.length:Int))=true:=decide_eq_true c8;have c8b1:decide (0 < y102.length)=true:=decide_eq_true (by omega);clear c8;obtain ⟨y105,hy105⟩:∃ y_:List Int,y_=(y102.set (0:Int).toNat 1):=⟨_,rfl⟩;(replace H:(impl_CountCouples.l0 k a0 y105 a0 0)=some (r1,r2):=by first|(rw [hy105];with_reducible exact H)|(have H2_:=(Option.bind_some _ _).symm.trans H;rw [hy105];with_reducible exact H2_)|(have H2_:=(Option.bind_some _ _).symm.trans H;with_reducible exact H2_)|with_reducible exact H|(rw [hy105];exact H)|exact H);have Ny105:=za hy105;clear hy105;have H':=za H;clear H;(go_enter Try.func52,Try.ntmps52);(go_wp2_with (first|((with_reducible refine zt (f:=79) rfl ?_);refine goesL_ (some 11) rfl rfl Try.func79 (by kernel_rfl) rfl #[.int .i64 a0,.int .i64 2,.int .i64 10] rfl (by first|rfl|simp only [z3_,z4_,z5_];try rfl) ?_;(with_reducible refine (impl_within.calls a0 2 10 true _ A2.out).mono ?_);rintro e w' ⟨rfl,⟨nd,rfl⟩⟩;refine ⟨_,rfl,?_⟩)|((with_reducible refine gate_dst (N:=15) rfl ?_);refine Kd.R_make (Kd.int .i64) _ 3 rfl (N:=15) rfl 28 _ _ rfl ji5 rfl rfl Try.underlying28 (.int .i64 0) 8 info3 rfl (by decide) (by omega) 0 (ok:=fun _=>True) (okp:=fun _=>True) rfl (fun _ hk=>hk) trivial (of_decide_eq_true ‹_›) (Nat.le_trans (Nat.mul_le_mul_right _ (of_decide_eq_true ‹_›:ji5.toNat≤35184372088832)) (by omega)) (Below.refl _ _) (Nat.le_refl _) ?_;intro v103 w10 ho11 hb hg_ hnew_;clear hg_ hnew_;(first|rw [← Ny102.out] at ho11|(simp only [Int.reduceToNat] at ho11;rw [← Ny102.out] at ho11));have HO104:=za (Kd.R_lower ho11 (zq (by repeat (first|(with_reducible first|exact HB.out|apply zj|apply zk|apply zi)|exact HB.out))));replace HB:=za (zu (by repeat (first|(with_reducible first|exact HB.out|apply zj|apply zk|apply zi)|exact HB.out)) hb);clear hb ho11;have p9:0≤(0:Int):=(by omega);have q9:(0:Int) < ((y102.length:Int):Int):=of_decide_eq_true ‹_›;have qi9:(0 < y102.length)=True:=eq_true (by omega);obtain ⟨go9,co9,eo9,gb9,gl9,cl9,HG9⟩:=Kd.R_form HO104.out (by omega);(first|cases eo9|(injection eo9 with ea_ en_ ec_;(first|subst ea_|(injection ea_ with ea_;subst ea_));subst ec_;clear en_));have GB9:=za gb9;have GG9:=za HG9;clear gb9 gl9 HG9;obtain ⟨hx9_0,hf9_0⟩:=Kd.R_celln 0 HO104.out (0:Int) p9 q9;(try rw [show ((0:Int)).toNat=0 from rfl] at hx9_0);(try simp only [Nat.reduceMul,Nat.zero_mul,Nat.zero_add,Nat.reduceAdd] at hx9_0);(try rw [show ((0:Int)).toNat=0 from rfl] at hf9_0);(try simp only [Nat.reduceMul,Nat.zero_mul,Nat.zero_add,Nat.reduceAdd] at hf9_0);replace p9:=eq_true p9;replace q9:=eq_true q9;obtain ⟨hy12_,hz12_⟩:=Kd.R_celln 0 HO104.out (0:Int) (by omega) (of_decide_eq_true ‹_›);(try simp only [Int.reduceToNat,Int.toNat_zero,Int.toNat_ofNat,Nat.reduceMul,Nat.zero_mul,Nat.zero_add] at hy12_ hz12_);(try rw [show ((0:Int)).toNat=0 from rfl] at hy12_);(try rw [show ((0:Int)).toNat=0 from rfl] at hz12_);have HP12:=Kd.R_putg HO104.out (0:Int) 1)|((with_reducible refine gate_store (t:=3) (p:=17) rfl ?_);refine store_event (t:=3) (p:=17) (v:=?vo_w13) (w1:=(w10.setCell ⟨go9,(0:Int).toNat,none⟩ (.int .i64 1))) ?hg ?ho ?hn ?hr ?_;(case ho=>rfl);(case hg=>rfl);(case hn=>rfl);(case hr=>first|(go_simp;done)|(go_simp;rfl));intro w13 hw;have hg:w10.grownBy w13 (some go9):=(by rw [hw];exact HP12.2);have hp_:Kd.R (Kd.int .i64) 3 w13 w.heap.size (fun _=>True) (.slice (some ⟨go9,0,none⟩) y102.length co9) y105:=(by rw [hw,Ny105.out];exact HP12.1);clear HP12;replace HO104:=za (hp_);replace HB:=za ((by rw [hw];exact zc (HB.out) GB9.out:Below w.heap.size w w13));clear hg hw hp_)));(go_loopg [4,19] k (fun kq v4 v19 w'=>∃ (x4_1:List Int) (x19_1:Int),v19=.int .i64 x19_1∧Aside0 (impl_CountCouples.l0 kq a0 x4_1 a0 x19_1=some (r1,r2))∧Aside0 (kq≤k)∧Aside0 (Kd.R (Kd.int .i64) 3 w' w.heap.size (fun _=>True) v4 x4_1)∧Aside0 (Below w.heap.size w w')));case atStart=>exact ⟨(y105),(0),(by first|rfl|(simp;done)|(simp [*];done)),H',⟨Nat.le_refl _⟩,⟨by (with_reducible repeat (first|apply zg|apply zh|apply zf));exact HO104.out⟩,⟨by repeat (first|(with_reducible first|exact HB.out|apply zj|apply zk|apply zi)|exact HB.out)⟩⟩
      case round =>
       clear H';(try clear p2);(try clear c3);(try clear c4);(try clear c4b0);(try clear c4b1);(try clear c5);(try clear c6);(try clear c6b0);(try clear c6b1);(try clear p6);(try clear c7);(try clear c7b0);(try clear c7b1);(try clear c8);(try clear c8b0);(try clear c8b1);(try clear p9);(try clear q9);(try clear hx9);(try clear qi9);(try clear hf9);(try clear hx9_0);(try clear p9);(try clear q9);obtain ⟨x4_1,x19_1,rfl,HA,HK1,HO_4,HB⟩:=hrel
       cases gk with
      |zero=>exact absurd HA.out (by simp [impl_CountCouples.l0])
      |succ k1 =>
        have H:=HA.out;clear HA;simp only [impl_CountCouples.l0] at H;by_cases c14:x19_1 < a0
        ·
         rw [if_pos c14] at H;have c14b0:decide (x19_1 < a0)=true:=decide_eq_true c14;clear c14;by_cases c15:0≤a0
         ·
          rw [if_pos c15] at H;have c15b0:=eq_true c15;have c15b1:decide (0≤a0)=true:=decide_eq_true c15;clear c15;((try clear hji5_);(try clear hji5z);(try clear hji5u);(try clear hji5v);(try clear hji5y);(try clear hji5x);(try clear hji5p);(try clear hji5q);(try clear hji5r);(try clear hji5s);(try clear hji5w);(try clear hji5));obtain ⟨ji16,hji16⟩:∃ j_:Int,(shl .i64 1 a0)=j_:=⟨_,rfl⟩;(replace H:(if 0≤(ji16) then (if (ji16:Int).toNat≤35184372088832 then (impl_CountCouples.l1 k1 a0 x19_1 (List.replicate (ji16:Int).toNat 0) a0 x19_1 x4_1 (x4_1.length:Int) 0) else (none)) else (none))=some (r1,r2):=by first|(rw [hji16] at H;exact H)|(simp only [hji16] at H ⊢;exact H));have hji16_:(IntKind.i64.wrap (1 * 2 ^ min a0.toNat 64))=ji16:=hji16;have hji16z:a0≤64→(IntKind.i64.wrap (1 * 2 ^ a0.toNat))=ji16:=shl_small hji16;(have hji16u:(IntKind.i64.wrap (2 ^ min a0.toNat 64))=ji16:=by have h_:=hji16_;rw [Int.one_mul] at h_;exact h_);(have hji16v:a0≤64→(IntKind.i64.wrap (2 ^ a0.toNat))=ji16:=fun hle_=>by have h_:=hji16z hle_;rw [Int.one_mul] at h_;exact h_);have hji16y:(wrap64 (1 * 2 ^ min a0.toNat 64))=ji16:=(i64_w _).symm.trans hji16_;(have hji16x:a0≤64→(wrap64 (1 * 2 ^ a0.toNat))=ji16:=fun h_=>(i64_w _).symm.trans (hji16z h_));by_cases c17:0≤(ji16)
          ·
           rw [if_pos c17] at H;have c17b0:=eq_true c17;have c17b1:decide (0≤(ji16))=true:=decide_eq_true c17;clear c17;by_cases c18:(ji16:Int).toNat≤35184372088832
           ·
            rw [if_pos c18] at H;have c18b0:=eq_true c18;have c18b1:decide ((ji16:Int).toNat≤35184372088832)=true:=decide_eq_true c18;clear c18;obtain ⟨y107,hy107⟩:∃ y_:List Int,y_=(List.replicate (ji16:Int).toNat 0):=⟨_,rfl⟩;(replace H:(impl_CountCouples.l1 k1 a0 x19_1 y107 a0 x19_1 x4_1 (x4_1.length:Int) 0)=some (r1,r2):=by first|(rw [hy107];with_reducible exact H)|(have H2_:=(Option.bind_some _ _).symm.trans H;rw [hy107];with_reducible exact H2_)|(have H2_:=(Option.bind_some _ _).symm.trans H;with_reducible exact H2_)|with_reducible exact H|(rw [hy107];exact H)|exact H);have Ny107:=za hy107;clear hy107;have H':=za H;clear H;(go_wp2_with (first|((with_reducible refine gate_dst (N:=24) rfl ?_);refine Kd.R_make (Kd.int .i64) _ 3 rfl (N:=24) rfl 28 _ _ rfl ji16 rfl rfl Try.underlying28 (.int .i64 0) 8 info3 rfl (by decide) (by omega) 0 (ok:=fun _=>True) (okp:=fun _=>True) rfl (fun _ hk=>hk) trivial (of_decide_eq_true ‹_›) (Nat.le_trans (Nat.mul_le_mul_right _ (of_decide_eq_true ‹_›:ji16.toNat≤35184372088832)) (by omega)) (Below.refl _ _) (Nat.le_refl _) ?_;intro v108 w19 ho20 hb hg_ hnew_;clear hg_ hnew_;(first|rw [← Ny107.out] at ho20|(simp only [Int.reduceToNat] at ho20;rw [← Ny107.out] at ho20));have HO109:=za (Kd.R_lower (Kd.R_new' ho20 (Kd.R_lt (by (with_reducible repeat (first|apply zg|apply zh|apply zf));exact HO_4.out))) (zq (by repeat (first|(with_reducible first|exact HB.out|apply zj|apply zk|apply zi)|exact HB.out))));replace HO_4:=za (zx (by (with_reducible repeat (first|apply zg|apply zh|apply zf));exact HO_4.out) (Kd.R_base ho20) hb);replace HB:=za (zu (by repeat (first|(with_reducible first|exact HB.out|apply zj|apply zk|apply zi)|exact HB.out)) hb);clear hb ho20;obtain ⟨Ao21,co21,eo21⟩:=Kd.R_slice HO_4.out;subst eo21)));(go_loopg [27] k1 (fun kq v27 w'=>∃ (x6_2:List Int) (x27_2:Int),v27=.int .i64 x27_2∧Aside0 (impl_CountCouples.l1 kq a0 x19_1 x6_2 a0 x19_1 x4_1 (x4_1.length:Int) x27_2=some (r1,r2))∧Aside0 (kq≤k1)∧Aside0 (Kd.R (Kd.int .i64) 3 w' w.heap.size (fun k_=>some k_ ≠ ((.slice Ao21 x4_1.length co21):Value).ownBlock) v108 x6_2)∧Aside0 (Kd.R (Kd.int .i64) 3 w' w.heap.size (fun k_=>some k_ ≠ (v108:Value).ownBlock) (.slice Ao21 x4_1.length co21) x4_1)∧Aside0 (Below w.heap.size w w')));case atStart=>exact ⟨(y107),(0),(by first|rfl|(simp;done)|(simp [*];done)),H',⟨Nat.le_refl _⟩,⟨by (with_reducible repeat (first|apply zg|apply zh|apply zf));exact zp HO109.out (fun _ hk=>hk.2)⟩,⟨by (with_reducible repeat (first|apply zg|apply zh|apply zf));exact zp HO_4.out (fun _ hk=>hk.2)⟩,⟨by repeat (first|(with_reducible first|exact HB.out|apply zj|apply zk|apply zi)|exact HB.out)⟩⟩
            case round =>
             clear H';(try clear c1);(try clear p2);(try clear c3);(try clear c4);(try clear c4b0);(try clear c4b1);(try clear c5);(try clear c6);(try clear c6b0);(try clear c6b1);(try clear p6);(try clear c7);(try clear c7b0);(try clear c7b1);(try clear c8);(try clear c8b0);(try clear c8b1);(try clear p9);(try clear q9);(try clear hx9);(try clear qi9);(try clear hf9);(try clear c14);(try clear c14b0);(try clear c15);(try clear c15b0);(try clear c15b1);(try clear c17);(try clear c17b0);(try clear c17b1);(try clear c18);(try clear c18b0);(try clear c18b1);(try clear hx9_0);(try clear p2);(try clear p6);(try clear p9);(try clear q9);obtain ⟨x6_2,x27_2,rfl,HA,HK2,HO_6,HO_25,HB⟩:=hrel
             cases gk with
            |zero=>exact absurd HA.out (by simp [impl_CountCouples.l1])
            |succ k2 =>
              have H:=HA.out;clear HA;simp only [impl_CountCouples.l1] at H;by_cases c22:x27_2 < (x4_1.length:Int)
              ·
               rw [if_pos c22] at H;have c22b0:decide (x27_2 < (x4_1.length:Int))=true:=decide_eq_true c22;clear c22;by_cases c23:0≤x27_2
               ·
                rw [if_pos c23] at H;have c23b0:decide (0≤x27_2)=true:=decide_eq_true c23;clear c23;by_cases c24:x27_2 < (x4_1.length:Int)
                ·
                 rw [if_pos c24] at H;have c24b0:decide (x27_2 < (x4_1.length:Int))=true:=decide_eq_true c24;clear c24;have H':=za H;clear H;have p110:0≤(x27_2:Int):=of_decide_eq_true ‹_›;have q110:x27_2 < (x4_1.length:Int):=of_decide_eq_true ‹_›;obtain ⟨ad110,e110,hx110_0⟩:=Kd.at_int (zv HO_25.out).2.2 x27_2 p110 q110;cases e110;replace p110:=eq_true p110;replace q110:=eq_true q110;(go_wp2);(go_loopg [33] k2 (fun kq v33 w'=>∃ (x6_3:List Int) (x33_3:Int),v33=.int .i64 x33_3∧Aside0 (impl_CountCouples.l2 kq a0 x19_1 x6_3 x27_2 (rd x4_1 x27_2) a0 x19_1 x4_1 (x4_1.length:Int) x27_2 a0 x33_3=some (r1,r2))∧Aside0 (kq≤k2)∧Aside0 (Kd.R (Kd.int .i64) 3 w' w.heap.size (fun k_=>some k_ ≠ ((.slice (some ad110) x4_1.length co21):Value).ownBlock) v108 x6_3)∧Aside0 (Kd.R (Kd.int .i64) 3 w' w.heap.size (fun k_=>some k_ ≠ (v108:Value).ownBlock) (.slice (some ad110) x4_1.length co21) x4_1)∧Aside0 (Below w.heap.size w w')));case atStart=>exact ⟨(x6_2),(0),(by first|rfl|(simp;done)|(simp [*];done)),H',⟨Nat.le_refl _⟩,⟨by (with_reducible repeat (first|apply zg|apply zh|apply zf));exact HO_6.out⟩,⟨by (with_reducible repeat (first|apply zg|apply zh|apply zf));exact HO_25.out⟩,⟨by repeat (first|(with_reducible first|exact HB.out|apply zj|apply zk|apply zi)|exact HB.out)⟩⟩
                 case round =>
                  clear H';(try clear c1);(try clear p1);(try clear q1);(try clear hx1);(try clear c2);(try clear p2);(try clear c3);(try clear c4);(try clear c4b0);(try clear c4b1);(try clear c5);(try clear c6);(try clear c6b0);(try clear c6b1);(try clear p6);(try clear c7);(try clear c7b0);(try clear c7b1);(try clear c8);(try clear c8b0);(try clear c8b1);(try clear p9);(try clear q9);(try clear hx9);(try clear qi9);(try clear hf9);(try clear p11);(try clear q11);(try clear hx11);(try clear c14);(try clear c14b0);(try clear c15);(try clear c15b0);(try clear c15b1);(try clear c17);(try clear c17b0);(try clear c17b1);(try clear c18);(try clear c18b0);(try clear c18b1);(try clear c22);(try clear c22b0);(try clear c23);(try clear c23b0);(try clear c24);(try clear c24b0);(try clear hx110_0);(try clear hx9_0);(try clear p110);(try clear p2);(try clear p6);(try clear p9);(try clear q110);(try clear q9);obtain ⟨x6_3,x33_3,rfl,HA,HK3,HO_6,HO_25,HB⟩:=hrel
                  cases gk with
                 |zero=>exact absurd HA.out (by simp [impl_CountCouples.l2])
                 |succ k3 =>
                   have H:=HA.out;clear HA;simp only [impl_CountCouples.l2] at H;by_cases c25:x33_3 < a0
                   ·
                    rw [if_pos c25] at H;have c25b0:decide (x33_3 < a0)=true:=decide_eq_true c25;clear c25;by_cases c26:(rd x4_1 x27_2) > 0
                    ·
                     rw [if_pos c26] at H;have c26b0:decide (0 < (rd x4_1 x27_2))=true:=decide_eq_true c26;clear c26;by_cases c27:0≤x33_3
                     ·
                      rw [if_pos c27] at H;have c27b0:=eq_true c27;have c27b1:decide (0≤x33_3)=true:=decide_eq_true c27;clear c27;obtain ⟨ji28,hji28⟩:∃ j_:Int,(shr .i64 x27_2 x33_3)=j_:=⟨_,rfl⟩;(replace H:(if (Go.bits .and .i64 (ji28) 1)=0 then (if x33_3=x19_1 then (impl_CountCouples.l2 k3 a0 x19_1 x6_3 x27_2 (rd x4_1 x27_2) a0 x19_1 x4_1 (x4_1.length:Int) x27_2 a0 (wrap64 (x33_3 + 1))) else (if a0=0 then (none) else (if x33_3=(Int.tmod (wrap64 (x19_1 + 1)) a0) then (impl_CountCouples.l2 k3 a0 x19_1 x6_3 x27_2 (rd x4_1 x27_2) a0 x19_1 x4_1 (x4_1.length:Int) x27_2 a0 (wrap64 (x33_3 + 1))) else (if 0≤(Go.bits .or .i64 x27_2 (shl .i64 1 x33_3)) then (if (Go.bits .or .i64 x27_2 (shl .i64 1 x33_3)) < (x6_3.length:Int) then (impl_CountCouples.l2 k3 a0 x19_1 (x6_3.set ((Go.bits .or .i64 x27_2 (shl .i64 1 x33_3)):Int).toNat (wrap64 ((rd x6_3 (Go.bits .or .i64 x27_2 (shl .i64 1 x33_3))) + (rd x4_1 x27_2)))) x27_2 (rd x4_1 x27_2) a0 x19_1 x4_1 (x4_1.length:Int) x27_2 a0 (wrap64 (x33_3 + 1))) else (none)) else (none))))) else (impl_CountCouples.l2 k3 a0 x19_1 x6_3 x27_2 (rd x4_1 x27_2) a0 x19_1 x4_1 (x4_1.length:Int) x27_2 a0 (wrap64 (x33_3 + 1))))=some (r1,r2):=by first|(rw [hji28] at H;exact H)|(simp only [hji28] at H ⊢;exact H));have hji28_:(x27_2 / 2 ^ min x33_3.toNat 64)=ji28:=hji28;have hji28z:x33_3≤64→(x27_2 / 2 ^ x33_3.toNat)=ji28:=shr_small hji28;by_cases c29:(Go.bits .and .i64 (ji28) 1)=0
                      ·
                       rw [if_pos c29] at H;have c29b0:((Go.bits .and .i64 (ji28) 1) == 0)=true:=beq_iff_eq.mpr c29;have c29b1:((Go.bits .and .i64 (ji28) 1) != 0)=false:=bne_eq_false_iff_eq.mpr c29;clear c29;by_cases c30:x33_3=x19_1
                       · rw [if_pos c30] at H;have c30b0:(x33_3 == x19_1)=true:=beq_iff_eq.mpr c30;have c30b1:(x33_3 != x19_1)=false:=bne_eq_false_iff_eq.mpr c30;clear c30;have H':=za H;clear H;(go_wp2);(go_roundg k3);(case measure=>have:=HK1.out;have:=HK2.out;have:=HK3.out;omega);case rel=>exact ⟨(x6_3),(wrap64 (x33_3 + 1)),(by first|rfl|(simp;done)|(simp [*];done)),H',⟨by have:=HK1.out;have:=HK2.out;have:=HK3.out;omega⟩,⟨by (with_reducible repeat (first|apply zg|apply zh|apply zf));exact HO_6.out⟩,⟨by (with_reducible repeat (first|apply zg|apply zh|apply zf));exact HO_25.out⟩,⟨by repeat (first|(with_reducible first|exact HB.out|apply zj|apply zk|apply zi)|exact HB.out)⟩⟩
                       ·
                        rw [if_neg c30] at H;have c30b0:(x33_3 == x19_1)=false:=beq_eq_false_iff_ne.mpr c30;have c30b1:(x33_3 != x19_1)=true:=bne_iff_ne.mpr c30;by_cases c31:a0=0
                        · rw [if_pos c31] at H;exact absurd H (by simp)
                        ·
                         rw [if_neg c31] at H;have c31b0:(a0 == 0)=false:=beq_eq_false_iff_ne.mpr c31;have c31b1:(a0 != 0)=true:=bne_iff_ne.mpr c31;by_cases c32:x33_3=(Int.tmod (wrap64 (x19_1 + 1)) a0)
                         · rw [if_pos c32] at H;have c32b0:(x33_3 == (Int.tmod (wrap64 (x19_1 + 1)) a0))=true:=beq_iff_eq.mpr c32;have c32b1:(x33_3 != (Int.tmod (wrap64 (x19_1 + 1)) a0))=false:=bne_eq_false_iff_eq.mpr c32;clear c32;have H':=za H;clear H;(go_wp2);(go_roundg k3);(case measure=>have:=HK1.out;have:=HK2.out;have:=HK3.out;omega);case rel=>exact ⟨(x6_3),(wrap64 (x33_3 + 1)),(by first|rfl|(simp;done)|(simp [*];done)),H',⟨by have:=HK1.out;have:=HK2.out;have:=HK3.out;omega⟩,⟨by (with_reducible repeat (first|apply zg|apply zh|apply zf));exact HO_6.out⟩,⟨by (with_reducible repeat (first|apply zg|apply zh|apply zf));exact HO_25.out⟩,⟨by repeat (first|(with_reducible first|exact HB.out|apply zj|apply zk|apply zi)|exact HB.out)⟩⟩
                         ·
                          rw [if_neg c32] at H;have c32b0:(x33_3 == (Int.tmod (wrap64 (x19_1 + 1)) a0))=false:=beq_eq_false_iff_ne.mpr c32;have c32b1:(x33_3 != (Int.tmod (wrap64 (x19_1 + 1)) a0))=true:=bne_iff_ne.mpr c32;have c33b0:=eq_true (of_decide_eq_true ‹_›:0≤x33_3);obtain ⟨ji34,hji34⟩:∃ j_:Int,(shl .i64 1 x33_3)=j_:=⟨_,rfl⟩;(replace H:(if 0≤(Go.bits .or .i64 x27_2 (ji34)) then (if (Go.bits .or .i64 x27_2 (ji34)) < (x6_3.length:Int) then (impl_CountCouples.l2 k3 a0 x19_1 (x6_3.set ((Go.bits .or .i64 x27_2 (ji34)):Int).toNat (wrap64 ((rd x6_3 (Go.bits .or .i64 x27_2 (ji34))) + (rd x4_1 x27_2)))) x27_2 (rd x4_1 x27_2) a0 x19_1 x4_1 (x4_1.length:Int) x27_2 a0 (wrap64 (x33_3 + 1))) else (none)) else (none))=some (r1,r2):=by first|(rw [hji34] at H;exact H)|(simp only [hji34] at H ⊢;exact H));have hji34_:(IntKind.i64.wrap (1 * 2 ^ min x33_3.toNat 64))=ji34:=hji34;have hji34z:x33_3≤64→(IntKind.i64.wrap (1 * 2 ^ x33_3.toNat))=ji34:=shl_small hji34;(have hji34u:(IntKind.i64.wrap (2 ^ min x33_3.toNat 64))=ji34:=by have h_:=hji34_;rw [Int.one_mul] at h_;exact h_);(have hji34v:x33_3≤64→(IntKind.i64.wrap (2 ^ x33_3.toNat))=ji34:=fun hle_=>by have h_:=hji34z hle_;rw [Int.one_mul] at h_;exact h_);have hji34y:(wrap64 (1 * 2 ^ min x33_3.toNat 64))=ji34:=(i64_w _).symm.trans hji34_;(have hji34x:x33_3≤64→(wrap64 (1 * 2 ^ x33_3.toNat))=ji34:=fun h_=>(i64_w _).symm.trans (hji34z h_));by_cases c35:0≤(Go.bits .or .i64 x27_2 (ji34))
                          ·
                           rw [if_pos c35] at H;have c35b0:decide (0≤(Go.bits .or .i64 x27_2 (ji34)))=true:=decide_eq_true c35;clear c35;by_cases c36:(Go.bits .or .i64 x27_2 (ji34)) < (x6_3.length:Int)
                           · rw [if_pos c36] at H;have c36b0:decide ((Go.bits .or .i64 x27_2 (ji34)) < (x6_3.length:Int))=true:=decide_eq_true c36;clear c36;obtain ⟨y112,hy112⟩:∃ y_:List Int,y_=(x6_3.set ((Go.bits .or .i64 x27_2 (ji34)):Int).toNat (wrap64 ((rd x6_3 (Go.bits .or .i64 x27_2 (ji34))) + (rd x4_1 x27_2)))):=⟨_,rfl⟩;(replace H:(impl_CountCouples.l2 k3 a0 x19_1 y112 x27_2 (rd x4_1 x27_2) a0 x19_1 x4_1 (x4_1.length:Int) x27_2 a0 (wrap64 (x33_3 + 1)))=some (r1,r2):=by first|(rw [hy112];with_reducible exact H)|(have H2_:=(Option.bind_some _ _).symm.trans H;rw [hy112];with_reducible exact H2_)|(have H2_:=(Option.bind_some _ _).symm.trans H;with_reducible exact H2_)|with_reducible exact H|(rw [hy112];exact H)|exact H);have Ny112:=za hy112;clear hy112;have H':=za H;clear H;obtain ⟨Ao38,co38,eo38⟩:=Kd.R_slice HO_6.out;subst eo38;have p111:0≤((Go.bits .or .i64 x27_2 (ji34)):Int):=of_decide_eq_true ‹_›;have q111:(Go.bits .or .i64 x27_2 (ji34)) < (x6_3.length:Int):=of_decide_eq_true ‹_›;obtain ⟨ad111,e111,hx111_0⟩:=Kd.at_int (zv HO_6.out).2.2 (Go.bits .or .i64 x27_2 (ji34)) p111 q111;cases e111;replace p111:=eq_true p111;replace q111:=eq_true q111;have p37:0≤((Go.bits .or .i64 x27_2 (ji34)):Int):=of_decide_eq_true ‹_›;have q37:((Go.bits .or .i64 x27_2 (ji34)):Int) < ((x6_3.length:Int):Int):=of_decide_eq_true ‹_›;obtain ⟨go37,co37,eo37,gb37,gl37,cl37,HG37⟩:=Kd.R_form HO_6.out (by omega);(first|cases eo37|(injection eo37 with ea_ en_ ec_;(first|subst ea_|(injection ea_ with ea_;subst ea_));subst ec_;clear en_));have GB37:=za gb37;have GG37:=za HG37;clear gb37 gl37 HG37;(first|simp only [add_plain] at hx111_0|skip);obtain ⟨hx37_0,hf37_0⟩:=Kd.R_celln 0 HO_6.out ((Go.bits .or .i64 x27_2 (ji34)):Int) p37 q37;replace p37:=eq_true p37;replace q37:=eq_true q37;have HP39:=Kd.R_putg HO_6.out ((Go.bits .or .i64 x27_2 (ji34)):Int) (wrap64 ((rd x6_3 (Go.bits .or .i64 x27_2 (ji34))) + (rd x4_1 x27_2)));(go_wp2_with (first|((with_reducible refine gate_store (t:=3) (p:=67) rfl ?_);refine store_event (t:=3) (p:=67) (v:=?vo_w40) (w1:=(wr.setCell ⟨go37,((Go.bits .or .i64 x27_2 (ji34)):Int).toNat,none⟩ (.int .i64 (wrap64 ((rd x6_3 (Go.bits .or .i64 x27_2 (ji34))) + (rd x4_1 x27_2)))))) ?hg ?ho ?hn ?hr ?_;(case ho=>rfl);(case hg=>rfl);(case hn=>rfl);(case hr=>first|(go_simp;done)|(go_simp;rfl));intro w40 hw;have hg:wr.grownBy w40 (some go37):=(by rw [hw];exact HP39.2);have hp_:Kd.R (Kd.int .i64) 3 w40 w.heap.size (fun k_=>some k_ ≠ (.slice (some ad110) x4_1.length co21:Value).ownBlock) (.slice (some ⟨go37,0,none⟩) x6_3.length co38) y112:=(by rw [hw,Ny112.out];exact HP39.1);clear HP39;replace HO_6:=za (hp_);replace HO_25:=za (Kd.R_after (v:=(.slice (some ⟨go37,0,none⟩) x6_3.length co38)) (v1:=(.slice (some ⟨go37,0,none⟩) x6_3.length co38)) (ok:=(fun _=>True)) (by (with_reducible repeat (first|apply zg|apply zh|apply zf));exact zp HO_25.out (fun _ hk=>⟨trivial,hk⟩)) hg (.inl rfl));replace HB:=za ((by rw [hw];exact zc (HB.out) GB37.out:Below w.heap.size w w40));clear hg hw hp_)));(go_roundg k3);(case measure=>have:=HK1.out;have:=HK2.out;have:=HK3.out;omega);case rel=>exact ⟨(y112),(wrap64 (x33_3 + 1)),(by first|rfl|(simp;done)|(simp [*];done)),H',⟨by have:=HK1.out;have:=HK2.out;have:=HK3.out;omega⟩,⟨by (with_reducible repeat (first|apply zg|apply zh|apply zf));exact HO_6.out⟩,⟨by (with_reducible repeat (first|apply zg|apply zh|apply zf));exact zp HO_25.out (fun _ hk=>hk.2)⟩,⟨by repeat (first|(with_reducible first|exact HB.out|apply zj|apply zk|apply zi)|exact HB.out)⟩⟩
                           · rw [if_neg c36] at H;exact absurd H (by simp)
                          · rw [if_neg c35] at H;exact absurd H (by simp)
                      · rw [if_neg c29] at H;have c29b0:((Go.bits .and .i64 (ji28) 1) == 0)=false:=beq_eq_false_iff_ne.mpr c29;have c29b1:((Go.bits .and .i64 (ji28) 1) != 0)=true:=bne_iff_ne.mpr c29;have H':=za H;clear H;(go_wp2);(go_roundg k3);(case measure=>have:=HK1.out;have:=HK2.out;have:=HK3.out;omega);case rel=>exact ⟨(x6_3),(wrap64 (x33_3 + 1)),(by first|rfl|(simp;done)|(simp [*];done)),H',⟨by have:=HK1.out;have:=HK2.out;have:=HK3.out;omega⟩,⟨by (with_reducible repeat (first|apply zg|apply zh|apply zf));exact HO_6.out⟩,⟨by (with_reducible repeat (first|apply zg|apply zh|apply zf));exact HO_25.out⟩,⟨by repeat (first|(with_reducible first|exact HB.out|apply zj|apply zk|apply zi)|exact HB.out)⟩⟩
                     · rw [if_neg c27] at H;exact absurd H (by simp)
                    · rw [if_neg c26] at H;have c26b0:decide (0 < (rd x4_1 x27_2))=false:=decide_eq_false c26;clear c26;have H':=za H;clear H;(go_wp2);(go_roundg k3);(case measure=>have:=HK1.out;have:=HK2.out;have:=HK3.out;omega);case rel=>exact ⟨(x6_3),(wrap64 (x33_3 + 1)),(by first|rfl|(simp;done)|(simp [*];done)),H',⟨by have:=HK1.out;have:=HK2.out;have:=HK3.out;omega⟩,⟨by (with_reducible repeat (first|apply zg|apply zh|apply zf));exact HO_6.out⟩,⟨by (with_reducible repeat (first|apply zg|apply zh|apply zf));exact HO_25.out⟩,⟨by repeat (first|(with_reducible first|exact HB.out|apply zj|apply zk|apply zi)|exact HB.out)⟩⟩
                   · rw [if_neg c25] at H;have c25b0:decide (x33_3 < a0)=false:=decide_eq_false c25;clear c25;have H':=za H;clear H;(go_wp2);(go_roundg k3);(case measure=>have:=HK1.out;have:=HK2.out;have:=HK3.out;omega);case rel=>exact ⟨(x6_3),(wrap64 (x27_2 + 1)),(by first|rfl|(simp;done)|(simp [*];done)),H',⟨by have:=HK1.out;have:=HK2.out;have:=HK3.out;omega⟩,⟨by (with_reducible repeat (first|apply zg|apply zh|apply zf));exact HO_6.out⟩,⟨by (with_reducible repeat (first|apply zg|apply zh|apply zf));exact HO_25.out⟩,⟨by repeat (first|(with_reducible first|exact HB.out|apply zj|apply zk|apply zi)|exact HB.out)⟩⟩
                · rw [if_neg c24] at H;exact absurd H (by simp)
               · rw [if_neg c23] at H;exact absurd H (by simp)
              · rw [if_neg c22] at H;have c22b0:decide (x27_2 < (x4_1.length:Int))=false:=decide_eq_false c22;clear c22;have H':=za H;clear H;(go_wp2);(go_roundg k2);(case measure=>have:=HK1.out;have:=HK2.out;omega);case rel=>exact ⟨(x6_2),(wrap64 (x19_1 + 1)),(by first|rfl|(simp;done)|(simp [*];done)),H',⟨by have:=HK1.out;have:=HK2.out;omega⟩,⟨by (with_reducible repeat (first|apply zg|apply zh|apply zf));exact zp HO_6.out (fun _ hk=>trivial)⟩,⟨by repeat (first|(with_reducible first|exact HB.out|apply zj|apply zk|apply zi)|exact HB.out)⟩⟩
           · rw [if_neg c18] at H;exact absurd H (by simp)
          · rw [if_neg c17] at H;exact absurd H (by simp)
         · rw [if_neg c15] at H;exact absurd H (by simp)
        ·
         rw [if_neg c14] at H;have c14b0:decide (x19_1 < a0)=false:=decide_eq_false c14;clear c14;by_cases c41:0≤a0
         ·
          rw [if_pos c41] at H;have c41b0:=eq_true c41;have c41b1:decide (0≤a0)=true:=decide_eq_true c41;clear c41;((try clear hji5_);(try clear hji5z);(try clear hji5u);(try clear hji5v);(try clear hji5y);(try clear hji5x);(try clear hji5p);(try clear hji5q);(try clear hji5r);(try clear hji5s);(try clear hji5w);(try clear hji5));obtain ⟨ji42,hji42⟩:∃ j_:Int,(shl .i64 1 a0)=j_:=⟨_,rfl⟩;(replace H:(if 0≤(wrap64 ((ji42) - 1)) then (if (wrap64 ((ji42) - 1)) < (x4_1.length:Int) then (some (rd x4_1 (wrap64 ((ji42) - 1)),true)) else (none)) else (none))=some (r1,r2):=by first|(rw [hji42] at H;exact H)|(simp only [hji42] at H ⊢;exact H));have hji42_:(IntKind.i64.wrap (1 * 2 ^ min a0.toNat 64))=ji42:=hji42;have hji42z:a0≤64→(IntKind.i64.wrap (1 * 2 ^ a0.toNat))=ji42:=shl_small hji42;(have hji42u:(IntKind.i64.wrap (2 ^ min a0.toNat 64))=ji42:=by have h_:=hji42_;rw [Int.one_mul] at h_;exact h_);(have hji42v:a0≤64→(IntKind.i64.wrap (2 ^ a0.toNat))=ji42:=fun hle_=>by have h_:=hji42z hle_;rw [Int.one_mul] at h_;exact h_);have hji42y:(wrap64 (1 * 2 ^ min a0.toNat 64))=ji42:=(i64_w _).symm.trans hji42_;(have hji42x:a0≤64→(wrap64 (1 * 2 ^ a0.toNat))=ji42:=fun h_=>(i64_w _).symm.trans (hji42z h_));obtain ⟨ji43,hji43⟩:∃ j_:Int,(wrap64 ((ji42) - 1))=j_:=⟨_,rfl⟩;(replace H:(if 0≤(ji43) then (if (ji43) < (x4_1.length:Int) then (some (rd x4_1 (ji43),true)) else (none)) else (none))=some (r1,r2):=by first|(rw [hji43] at H;exact H)|(simp only [hji43] at H ⊢;exact H));have hji43w:(IntKind.i64.wrap ((ji42) - 1))=ji43:=(i64_w _).trans hji43;by_cases c44:0≤(ji43)
          ·
           rw [if_pos c44] at H;have c44b0:decide (0≤(ji43))=true:=decide_eq_true c44;clear c44;by_cases c45:(ji43) < (x4_1.length:Int)
           · rw [if_pos c45] at H;have c45b0:decide ((ji43) < (x4_1.length:Int))=true:=decide_eq_true c45;clear c45;simp only [Option.some.injEq,Prod.mk.injEq] at H;obtain ⟨rfl,rfl⟩:=H;obtain ⟨Ao46,co46,eo46⟩:=Kd.R_slice HO_4.out;subst eo46;have p106:0≤((ji43):Int):=of_decide_eq_true ‹_›;have q106:(ji43) < (x4_1.length:Int):=of_decide_eq_true ‹_›;obtain ⟨ad106,e106,hx106_0⟩:=Kd.at_int (zv HO_4.out).2.2 (ji43) p106 q106;cases e106;replace p106:=eq_true p106;replace q106:=eq_true q106;(go_wp2);(go_ret2);exact ⟨by first|rfl|(simp [errW_none,errW_some] <;> rfl)|(simp only [← hji5,← hji42,← hji43];first|rfl|(simp [errW_none,errW_some] <;> rfl))|(simp [*,errW_none,errW_some] <;> rfl),by repeat (first|(with_reducible first|exact HB.out|apply zj|apply zk|apply zi)|exact HB.out)⟩
           · rw [if_neg c45] at H;exact absurd H (by simp)
          · rw [if_neg c44] at H;exact absurd H (by simp)
         · rw [if_neg c41] at H;exact absurd H (by simp)
     · rw [if_neg c8] at H;exact absurd H (by simp)
    · rw [if_neg c7] at H;exact absurd H (by simp)
   · rw [if_neg c6] at H;exact absurd H (by simp)
  · rw [if_neg c4] at H;exact absurd H (by simp)
 · replace c3:=Bool.eq_false_iff.mpr c3;subst c3;(have H1:(some (0,false))=some (r1,r2):=by rw [if_neg (show ¬ (false=true) by decide)] at H;exact H);clear H;have H:=H1;clear H1;simp only [Option.some.injEq,Prod.mk.injEq] at H;obtain ⟨rfl,rfl⟩:=H;(go_enter Try.func52,Try.ntmps52);(go_wp2_with (first|((with_reducible refine zt (f:=79) rfl ?_);refine goesL_ (some 11) rfl rfl Try.func79 (by kernel_rfl) rfl #[.int .i64 a0,.int .i64 2,.int .i64 10] rfl (by first|rfl|simp only [z3_,z4_,z5_];try rfl) ?_;(with_reducible refine (impl_within.calls a0 2 10 false _ A2.out).mono ?_);rintro e w' ⟨rfl,⟨nd,rfl⟩⟩;refine ⟨_,rfl,?_⟩)));(go_ret2);exact ⟨by first|rfl|simp [*,errW_none,errW_some] <;> rfl,by repeat (first|(with_reducible first|exact HB.out|apply zj|apply zk|apply zi)|exact HB.out)⟩
end Go.Proofs.Ytiopnmgcajohfaa.Q
end
section
namespace Go.Proofs.Ytiopnmgcajohfaa.Q
open Go.RowKit Go.Proofs.YtiopnmgcajohfaaW.PrintWords Go.Proofs.YtiopnmgcajohfaaW.PrintLast Go.Proofs.YtiopnmgcajohfaaW.PrintMore
attribute [local go_sem] max2_int min2_int max_two min_two max_three min_three max_four min_four   -- for this text's walks alone
set_option linter.unusedVariables false
set_option linter.unusedSimpArgs false
def spec_DrawDerangements.f (l0:List Int):Option (Int):=(spec_l1Cur_among.f l0 0 0 (([0,1,2,3,5,8,12,13,(-1)]:List Int))).bind fun bt105=>(some bt105.1)
set_option maxHeartbeats 8000000 in
set_option maxRecDepth 100000 in
theorem spec_DrawDerangements.calls (A0:Option Addr) (c0:Nat) (l0:List Int) (r:Int) (w:World) (hr0:Kd.C (Kd.int .u8) w A0 l0.length l0) (hc0:l0.length≤c0) (h:spec_DrawDerangements.f l0=some r) :
  Calls Try.prog 53 #[.slice A0 l0.length c0] w fun e w'=>e=.returned (.int .i64 r)∧Below w.heap.size w w':=by
 have hu88:=Try.underlying88;have HR0:=za hr0;have HC0:=za hc0;clear hr0 hc0;have HB:=za (Below.refl w.heap.size w);have H:((spec_l1Cur_among.f l0 0 0 (([0,1,2,3,5,8,12,13,(-1)]:List Int))).bind fun bt105=>(some bt105.1))=some r:=h;clear h;obtain ⟨y102,hy102⟩:∃ y_:List Int,y_=(([0,1,2,3,5,8,12,13,(-1)]:List Int)):=⟨_,rfl⟩;(replace H:((spec_l1Cur_among.f l0 0 0 y102).bind fun bt105=>(some bt105.1))=some r:=by first|(rw [hy102];with_reducible exact H)|(have H2_:=(Option.bind_some _ _).symm.trans H;rw [hy102];with_reducible exact H2_)|(have H2_:=(Option.bind_some _ _).symm.trans H;with_reducible exact H2_)|with_reducible exact H|(rw [hy102];exact H)|exact H);have Ny102:=za hy102;clear hy102;obtain ⟨⟨t105,t106,t107⟩,A2,H⟩:=bindAside H;(try dsimp only at H);obtain rfl:=Option.some.inj H;(go_enter Try.func53,Try.ntmps53);(go_wp2_with (first|((with_reducible refine gate_dst (N:=6) rfl ?_);refine box_event ?hg (N:=6) ?hd (cs:=#[.slice A0 l0.length c0,.int .i64 0,.int .u64 0]) (t:=88) ?hr ?_;(case hd=>rfl);(case hg=>rfl);(case hr=>first|(go_simp;done)|(go_simp;rfl));intro gb101 hg w3 hbox hb;have BK101:=za (hbox);have GW101:=za ((by rw [hg];exact (zq (by repeat (first|(with_reducible first|exact HB.out|apply zj|apply zk|apply zi)|exact HB.out))):w.heap.size≤gb101));have GE101:=za ((by rw [hg];exact (zq (by repeat (first|(with_reducible first|exact HB.out|apply zj|apply zk|apply zi)|exact HB.out))):w.heap.size≤gb101));replace HB:=za (zu (by repeat (first|(with_reducible first|exact HB.out|apply zj|apply zk|apply zi)|exact HB.out)) hb);clear hb hbox hg;have HI101:=za (show IsS88 w _ gb101 l0 0 0 from ⟨_,_,BK101.out,GE101.out,HR0.out⟩))|((with_reducible refine gate_dst (N:=8) rfl ?_);refine Kd.R_lit (Kd.int .i64) _ 3 ?hg (N:=8) ?hd (xs:=([0,1,2,3,5,8,12,13,(-1)]:List Int)) (inner:=[.int .i64 0,.int .i64 1,.int .i64 2,.int .i64 3,.int .i64 5,.int .i64 8,.int .i64 12,.int .i64 13,.int .i64 (-1)]) (ok:=fun _=>True) (okp:=fun _=>True) ?hr ?hp (fun _ hk=>hk) trivial (Below.refl _ _) (Nat.le_refl _) (by simp) ?_;(case hd=>rfl);(case hg=>rfl);(case hr=>first|(go_simp;done)|(go_simp;rfl));(case hp=>exact (Reps.one (show Kd.M (Kd.int .i64) _ _ _ 0 [.int .i64 0] from rfl) (Reps.one (show Kd.M (Kd.int .i64) _ _ _ 1 [.int .i64 1] from rfl) (Reps.one (show Kd.M (Kd.int .i64) _ _ _ 2 [.int .i64 2] from rfl) (Reps.one (show Kd.M (Kd.int .i64) _ _ _ 3 [.int .i64 3] from rfl) (Reps.one (show Kd.M (Kd.int .i64) _ _ _ 5 [.int .i64 5] from rfl) (Reps.one (show Kd.M (Kd.int .i64) _ _ _ 8 [.int .i64 8] from rfl) (Reps.one (show Kd.M (Kd.int .i64) _ _ _ 12 [.int .i64 12] from rfl) (Reps.one (show Kd.M (Kd.int .i64) _ _ _ 13 [.int .i64 13] from rfl) (Reps.one (show Kd.M (Kd.int .i64) _ _ _ (-1) [.int .i64 (-1)] from rfl) (Reps.none _ _)))))))))));intro v103 w4 ho5 hb hg_ hnew_;clear hg_ hnew_;(first|rw [← Ny102.out] at ho5|(simp only [Int.reduceToNat] at ho5;rw [← Ny102.out] at ho5));have HO104:=za (Kd.R_lower ho5 (zq (by repeat (first|(with_reducible first|exact HB.out|apply zj|apply zk|apply zi|refine zc ?_ (IsS88.ge HI101.out))|exact HB.out))));replace HB:=za (zu (by repeat (first|(with_reducible first|exact HB.out|apply zj|apply zk|apply zi|refine zc ?_ (IsS88.ge HI101.out))|exact HB.out)) hb);replace HI101:=za (IsS88.below (by repeat (first|(with_reducible first|exact HI101.out|apply IsS88.alloc|apply IsS88.drewN|apply IsS88.drew|apply IsS88.set_1|apply IsS88.set_2)|exact HI101.out)) hb);clear hb ho5;obtain ⟨Ao6,co6,eo6⟩:=Kd.R_slice HO104.out;subst eo6)|((with_reducible refine zt (f:=98) rfl ?_);refine goesL_ (some 9) rfl rfl Try.func98 (by kernel_rfl) rfl #[.pointer (some ⟨gb101,0,none⟩),.slice Ao6 y102.length co6] rfl (by first|rfl|simp only [z3_,z4_,z5_];try rfl) ?_;(with_reducible refine (spec_l1Cur_among.calls gb101 l0 0 0 _ _ y102 t105 t106 t107 w _ ?side1 ?side2 ?side3 ?side4 ?side5 A2.out).mono ?_);(case side1=>repeat (first|(with_reducible first|exact HI101.out|apply IsS88.alloc|apply IsS88.drewN|apply IsS88.drew|apply IsS88.set_1|apply IsS88.set_2)|exact HI101.out));(case side2=>repeat (first|(with_reducible first|exact HB.out|apply zj|apply zk|apply zi|refine zc ?_ (IsS88.ge HI101.out))|exact HB.out));(case side3=>repeat (first|exact (zv HO104.out).2.2|(with_reducible refine Kd.C_alloc ?_ _)|(with_reducible refine Kd.C_drewN ?_ _)|(with_reducible refine Kd.C_drew ?_)));(case side4=>exact (zv HO104.out).2.1);(case side5=>exact far_slice (IsS88.own_ne HI101.out HO104.out (by decide)));rintro e w7 ⟨rfl,hi,hb,hk⟩;refine ⟨_,rfl,?_⟩;replace HO104:=za (zp (Kd.R_keep (IsS88.apart (show IsS88 w _ gb101 l0 0 0 from by repeat (first|(with_reducible first|exact HI101.out|apply IsS88.alloc|apply IsS88.drewN|apply IsS88.drew|apply IsS88.set_1|apply IsS88.set_2)|exact HI101.out)) (by (with_reducible repeat (first|apply zg|apply zh|apply zf));exact HO104.out) (by decide)) hk (fun _ h=>h.2)) (fun _ h=>h.1));replace HB:=za (hb);replace HI101:=za (hi))));(go_ret);exact ⟨by first|rfl|simp [*,errW_none,errW_some] <;> rfl,by repeat (first|(with_reducible first|exact HB.out|apply zj|apply zk|apply zi|refine zc ?_ (IsS88.ge HI101.out))|exact HB.out)⟩
end Go.Proofs.Ytiopnmgcajohfaa.Q
end
section
namespace Go.Proofs.Ytiopnmgcajohfaa.Q
open Go.RowKit Go.Proofs.YtiopnmgcajohfaaW.PrintWords Go.Proofs.YtiopnmgcajohfaaW.PrintLast Go.Proofs.YtiopnmgcajohfaaW.PrintMore
attribute [local go_sem] max2_int min2_int max_two min_two max_three min_three max_four min_four   -- for this text's walks alone
set_option linter.unusedVariables false
set_option linter.unusedSimpArgs false
def spec_hiDeranged.l0:Nat→Int→Int→Int→Int→Option (Int)
|0,_,_,_,_=>none
|k + 1,x0,x3,x4,x5=>if x5≤x0 then (spec_hiDeranged.l0 k x0 x4 (wrap64 ((wrap64 (x5 - 1)) * (wrap64 (x3 + x4)))) (wrap64 (x5 + 1))) else (if x0=0 then (some 1) else (some x4))
def spec_hiDeranged.f (k:Nat) (a0:Int):Option (Int):=spec_hiDeranged.l0 k a0 1 0 2
theorem spec_hiDeranged.mono_l:∀ k,(∀ y0 y1 y2 y3,LeO (spec_hiDeranged.l0 k y0 y1 y2 y3) (spec_hiDeranged.l0 (k + 1) y0 y1 y2 y3))
|0=>fun _ _ _ _ r h=>by simp [spec_hiDeranged.l0] at h
|k + 1=>by
  have ih0:=spec_hiDeranged.mono_l k
  ·
   intro y0 y1 y2 y3
   unfold spec_hiDeranged.l0
   repeat' first
  |(with_reducible exact ih0 _ _ _ _)
  |(with_reducible exact LeO.refl _)
  |(with_reducible exact LeO.none _)
  |(with_reducible refine LeO.ite ?_ ?_)
  |(with_reducible refine LeO.bind ?_ (fun _=>?_))
  |exact ih0 _ _ _ _
  |exact LeO.none _
  |refine LeO.ite ?_ ?_
  |refine LeO.bind ?_ (fun _=>?_)
theorem spec_hiDeranged.mono:∀ a0 k,LeO (spec_hiDeranged.f k a0) (spec_hiDeranged.f (k + 1) a0):=by
 intro a0 k;have ih0:=spec_hiDeranged.mono_l k;unfold spec_hiDeranged.f
 repeat' first
  |(with_reducible exact ih0 _ _ _ _)
  |(with_reducible exact LeO.refl _)
  |(with_reducible exact LeO.none _)
  |(with_reducible refine LeO.ite ?_ ?_)
  |(with_reducible refine LeO.bind ?_ (fun _=>?_))
  |exact ih0 _ _ _ _
  |exact LeO.none _
  |refine LeO.ite ?_ ?_
  |refine LeO.bind ?_ (fun _=>?_)
set_option maxHeartbeats 8000000 in
set_option maxRecDepth 100000 in
theorem spec_hiDeranged.calls (k:Nat) (a0:Int) (r:Int) (w:World) (h:spec_hiDeranged.f k a0=some r) :
  Calls Try.prog 113 #[.int .i64 a0] w fun e w'=>e=.returned (.int .i64 r)∧Drawn0 w w':=by
 have H:(spec_hiDeranged.l0 k a0 1 0 2)=some r:=h;clear h;have H':=za H;clear H;(go_enter Try.func113,Try.ntmps113);(go_wp2);(go_loopg [3,4,5] k (fun kq v3 v4 v5 w'=>∃ (x3_1:Int) (x4_1:Int) (x5_1:Int),v3=.int .i64 x3_1∧v4=.int .i64 x4_1∧v5=.int .i64 x5_1∧Aside0 (spec_hiDeranged.l0 kq a0 x3_1 x4_1 x5_1=some r)∧Aside0 (kq≤k)∧Drawn0 w w'));case atStart=>exact ⟨(1),(0),(2),(by first|rfl|(simp;done)|(simp [*];done)),(by first|rfl|(simp;done)|(simp [*];done)),(by first|rfl|(simp;done)|(simp [*];done)),H',⟨Nat.le_refl _⟩,by repeat (first|exact Drawn0.refl _|apply Drawn0.step)⟩
 case round =>
  clear H';(try clear c1);obtain ⟨x3_1,x4_1,x5_1,rfl,rfl,rfl,HA,HK1,⟨m1,rfl⟩⟩:=hrel
  cases gk with
 |zero=>exact absurd HA.out (by simp [spec_hiDeranged.l0])
 |succ k1 =>
   have H:=HA.out;clear HA;simp only [spec_hiDeranged.l0] at H;by_cases c2:x5_1≤a0
   · rw [if_pos c2] at H;have c2b0:decide (x5_1≤a0)=true:=decide_eq_true c2;clear c2;have H':=za H;clear H;(go_wp2);(go_roundg k1);(case measure=>have:=HK1.out;omega);case rel=>exact ⟨(x4_1),(wrap64 ((wrap64 (x5_1 - 1)) * (wrap64 (x3_1 + x4_1)))),(wrap64 (x5_1 + 1)),(by first|rfl|(simp;done)|(simp [*];done)),(by first|rfl|(simp;done)|(simp [*];done)),(by first|rfl|(simp;done)|(simp [*];done)),H',⟨by have:=HK1.out;omega⟩,by repeat (first|exact Drawn0.refl _|apply Drawn0.step)⟩
   ·
    rw [if_neg c2] at H;have c2b0:decide (x5_1≤a0)=false:=decide_eq_false c2;clear c2;by_cases c3:a0=0
    · rw [if_pos c3] at H;have c3b0:(a0 == 0)=true:=beq_iff_eq.mpr c3;have c3b1:(a0 != 0)=false:=bne_eq_false_iff_eq.mpr c3;clear c3;obtain rfl:=Option.some.inj H;(go_wp2);(go_ret);exact ⟨by first|rfl|(simp;done)|(simp [*];done),by repeat (first|exact Drawn0.refl _|apply Drawn0.step)⟩
    · rw [if_neg c3] at H;have c3b0:(a0 == 0)=false:=beq_eq_false_iff_ne.mpr c3;have c3b1:(a0 != 0)=true:=bne_iff_ne.mpr c3;obtain rfl:=Option.some.inj H;(go_wp2);(go_ret);exact ⟨by first|rfl|(simp;done)|(simp [*];done),by repeat (first|exact Drawn0.refl _|apply Drawn0.step)⟩
end Go.Proofs.Ytiopnmgcajohfaa.Q
end
section
namespace Go.Proofs.Ytiopnmgcajohfaa.Q
open Go.RowKit Go.Proofs.YtiopnmgcajohfaaW.PrintWords Go.Proofs.YtiopnmgcajohfaaW.PrintLast Go.Proofs.YtiopnmgcajohfaaW.PrintMore
attribute [local go_sem] max2_int min2_int max_two min_two max_three min_three max_four min_four   -- for this text's walks alone
set_option linter.unusedVariables false
set_option linter.unusedSimpArgs false
def spec_Derangements.f (k:Nat) (a0:Int):Option (Int × Bool):=(spec_l1In.f a0 0 12).bind fun t101=>(if t101=true then ((spec_hiDeranged.f k a0).bind fun t102=>(some (t102,true))) else (some (0,false)))
theorem spec_Derangements.mono:∀ a0 k,LeO (spec_Derangements.f k a0) (spec_Derangements.f (k + 1) a0):=by
 intro a0 k;unfold spec_Derangements.f
 repeat' first
  |(with_reducible exact spec_hiDeranged.mono _ _)
  |(with_reducible exact LeO.refl _)
  |(with_reducible exact LeO.none _)
  |(with_reducible refine LeO.ite ?_ ?_)
  |(with_reducible refine LeO.bind ?_ (fun _=>?_))
  |exact spec_hiDeranged.mono _ _
  |exact LeO.none _
  |refine LeO.ite ?_ ?_
  |refine LeO.bind ?_ (fun _=>?_)
set_option maxHeartbeats 8000000 in
set_option maxRecDepth 100000 in
theorem spec_Derangements.calls (k:Nat) (a0:Int) (r1:Int) (r2:Bool) (w:World) (h:spec_Derangements.f k a0=some (r1,r2)) :
  Calls Try.prog 54 #[.int .i64 a0] w fun e w'=>e=.returned (.tuple #[.int .i64 r1,.bool r2])∧Drawn0 w w':=by
 have H:((spec_l1In.f a0 0 12).bind fun t101=>(if t101=true then ((spec_hiDeranged.f k a0).bind fun t102=>(some (t102,true))) else (some (0,false))))=some (r1,r2):=h;clear h;obtain ⟨t101,A2,H⟩:=bindAside H;(try dsimp only at H);by_cases c3:t101=true
 · subst c3;(have H1:((spec_hiDeranged.f k a0).bind fun t102=>(some (t102,true)))=some (r1,r2):=by rw [if_pos rfl] at H;exact H);clear H;have H:=H1;clear H1;obtain ⟨t102,A4,H⟩:=bindAside H;(try dsimp only at H);simp only [Option.some.injEq,Prod.mk.injEq] at H;obtain ⟨rfl,rfl⟩:=H;(go_enter Try.func54,Try.ntmps54);(go_wp2_with (first|((with_reducible refine zt (f:=77) rfl ?_);refine goesL_ (some 5) rfl rfl Try.func77 (by kernel_rfl) rfl #[.int .i64 a0,.int .i64 0,.int .i64 12] rfl (by first|rfl|simp only [z3_,z4_,z5_];try rfl) ?_;(with_reducible refine (spec_l1In.calls a0 0 12 true _ A2.out).mono ?_);rintro e w' ⟨rfl,⟨nd,rfl⟩⟩;refine ⟨_,rfl,?_⟩)|((with_reducible refine zt (f:=113) rfl ?_);refine goesL_ (some 8) rfl rfl Try.func113 (by kernel_rfl) rfl #[.int .i64 a0] rfl (by first|rfl|simp only [z3_,z4_,z5_];try rfl) ?_;(with_reducible refine (spec_hiDeranged.calls k a0 t102 _ A4.out).mono ?_);rintro e w' ⟨rfl,⟨nd,rfl⟩⟩;refine ⟨_,rfl,?_⟩)));(go_ret2);exact ⟨by first|rfl|(simp;done)|(simp [*];done),by repeat (first|exact Drawn0.refl _|apply Drawn0.step)⟩
 · replace c3:=Bool.eq_false_iff.mpr c3;subst c3;(have H1:(some (0,false))=some (r1,r2):=by rw [if_neg (show ¬ (false=true) by decide)] at H;exact H);clear H;have H:=H1;clear H1;simp only [Option.some.injEq,Prod.mk.injEq] at H;obtain ⟨rfl,rfl⟩:=H;(go_enter Try.func54,Try.ntmps54);(go_wp2_with (first|((with_reducible refine zt (f:=77) rfl ?_);refine goesL_ (some 5) rfl rfl Try.func77 (by kernel_rfl) rfl #[.int .i64 a0,.int .i64 0,.int .i64 12] rfl (by first|rfl|simp only [z3_,z4_,z5_];try rfl) ?_;(with_reducible refine (spec_l1In.calls a0 0 12 false _ A2.out).mono ?_);rintro e w' ⟨rfl,⟨nd,rfl⟩⟩;refine ⟨_,rfl,?_⟩)));(go_ret2);exact ⟨by first|rfl|(simp;done)|(simp [*];done),by repeat (first|exact Drawn0.refl _|apply Drawn0.step)⟩
end Go.Proofs.Ytiopnmgcajohfaa.Q
end
section
namespace Go.Proofs.Ytiopnmgcajohfaa.Q
open Go.RowKit Go.Proofs.YtiopnmgcajohfaaW.PrintWords Go.Proofs.YtiopnmgcajohfaaW.PrintLast Go.Proofs.YtiopnmgcajohfaaW.PrintMore
attribute [local go_sem] max2_int min2_int max_two min_two max_three min_three max_four min_four   -- for this text's walks alone
set_option linter.unusedVariables false
set_option linter.unusedSimpArgs false
def spec_DrawCountCouples.f (l0:List Int):Option (Int):=(spec_l1Cur_among.f l0 0 0 (([2,3,4,5,6,10,11,1,0]:List Int))).bind fun bt105=>(some bt105.1)
set_option maxHeartbeats 8000000 in
set_option maxRecDepth 100000 in
theorem spec_DrawCountCouples.calls (A0:Option Addr) (c0:Nat) (l0:List Int) (r:Int) (w:World) (hr0:Kd.C (Kd.int .u8) w A0 l0.length l0) (hc0:l0.length≤c0) (h:spec_DrawCountCouples.f l0=some r) :
  Calls Try.prog 55 #[.slice A0 l0.length c0] w fun e w'=>e=.returned (.int .i64 r)∧Below w.heap.size w w':=by
 have hu88:=Try.underlying88;have HR0:=za hr0;have HC0:=za hc0;clear hr0 hc0;have HB:=za (Below.refl w.heap.size w);have H:((spec_l1Cur_among.f l0 0 0 (([2,3,4,5,6,10,11,1,0]:List Int))).bind fun bt105=>(some bt105.1))=some r:=h;clear h;obtain ⟨y102,hy102⟩:∃ y_:List Int,y_=(([2,3,4,5,6,10,11,1,0]:List Int)):=⟨_,rfl⟩;(replace H:((spec_l1Cur_among.f l0 0 0 y102).bind fun bt105=>(some bt105.1))=some r:=by first|(rw [hy102];with_reducible exact H)|(have H2_:=(Option.bind_some _ _).symm.trans H;rw [hy102];with_reducible exact H2_)|(have H2_:=(Option.bind_some _ _).symm.trans H;with_reducible exact H2_)|with_reducible exact H|(rw [hy102];exact H)|exact H);have Ny102:=za hy102;clear hy102;obtain ⟨⟨t105,t106,t107⟩,A2,H⟩:=bindAside H;(try dsimp only at H);obtain rfl:=Option.some.inj H;(go_enter Try.func55,Try.ntmps55);(go_wp2_with (first|((with_reducible refine gate_dst (N:=6) rfl ?_);refine box_event ?hg (N:=6) ?hd (cs:=#[.slice A0 l0.length c0,.int .i64 0,.int .u64 0]) (t:=88) ?hr ?_;(case hd=>rfl);(case hg=>rfl);(case hr=>first|(go_simp;done)|(go_simp;rfl));intro gb101 hg w3 hbox hb;have BK101:=za (hbox);have GW101:=za ((by rw [hg];exact (zq (by repeat (first|(with_reducible first|exact HB.out|apply zj|apply zk|apply zi)|exact HB.out))):w.heap.size≤gb101));have GE101:=za ((by rw [hg];exact (zq (by repeat (first|(with_reducible first|exact HB.out|apply zj|apply zk|apply zi)|exact HB.out))):w.heap.size≤gb101));replace HB:=za (zu (by repeat (first|(with_reducible first|exact HB.out|apply zj|apply zk|apply zi)|exact HB.out)) hb);clear hb hbox hg;have HI101:=za (show IsS88 w _ gb101 l0 0 0 from ⟨_,_,BK101.out,GE101.out,HR0.out⟩))|((with_reducible refine gate_dst (N:=8) rfl ?_);refine Kd.R_lit (Kd.int .i64) _ 3 ?hg (N:=8) ?hd (xs:=([2,3,4,5,6,10,11,1,0]:List Int)) (inner:=[.int .i64 2,.int .i64 3,.int .i64 4,.int .i64 5,.int .i64 6,.int .i64 10,.int .i64 11,.int .i64 1,.int .i64 0]) (ok:=fun _=>True) (okp:=fun _=>True) ?hr ?hp (fun _ hk=>hk) trivial (Below.refl _ _) (Nat.le_refl _) (by simp) ?_;(case hd=>rfl);(case hg=>rfl);(case hr=>first|(go_simp;done)|(go_simp;rfl));(case hp=>exact (Reps.one (show Kd.M (Kd.int .i64) _ _ _ 2 [.int .i64 2] from rfl) (Reps.one (show Kd.M (Kd.int .i64) _ _ _ 3 [.int .i64 3] from rfl) (Reps.one (show Kd.M (Kd.int .i64) _ _ _ 4 [.int .i64 4] from rfl) (Reps.one (show Kd.M (Kd.int .i64) _ _ _ 5 [.int .i64 5] from rfl) (Reps.one (show Kd.M (Kd.int .i64) _ _ _ 6 [.int .i64 6] from rfl) (Reps.one (show Kd.M (Kd.int .i64) _ _ _ 10 [.int .i64 10] from rfl) (Reps.one (show Kd.M (Kd.int .i64) _ _ _ 11 [.int .i64 11] from rfl) (Reps.one (show Kd.M (Kd.int .i64) _ _ _ 1 [.int .i64 1] from rfl) (Reps.one (show Kd.M (Kd.int .i64) _ _ _ 0 [.int .i64 0] from rfl) (Reps.none _ _)))))))))));intro v103 w4 ho5 hb hg_ hnew_;clear hg_ hnew_;(first|rw [← Ny102.out] at ho5|(simp only [Int.reduceToNat] at ho5;rw [← Ny102.out] at ho5));have HO104:=za (Kd.R_lower ho5 (zq (by repeat (first|(with_reducible first|exact HB.out|apply zj|apply zk|apply zi|refine zc ?_ (IsS88.ge HI101.out))|exact HB.out))));replace HB:=za (zu (by repeat (first|(with_reducible first|exact HB.out|apply zj|apply zk|apply zi|refine zc ?_ (IsS88.ge HI101.out))|exact HB.out)) hb);replace HI101:=za (IsS88.below (by repeat (first|(with_reducible first|exact HI101.out|apply IsS88.alloc|apply IsS88.drewN|apply IsS88.drew|apply IsS88.set_1|apply IsS88.set_2)|exact HI101.out)) hb);clear hb ho5;obtain ⟨Ao6,co6,eo6⟩:=Kd.R_slice HO104.out;subst eo6)|((with_reducible refine zt (f:=98) rfl ?_);refine goesL_ (some 9) rfl rfl Try.func98 (by kernel_rfl) rfl #[.pointer (some ⟨gb101,0,none⟩),.slice Ao6 y102.length co6] rfl (by first|rfl|simp only [z3_,z4_,z5_];try rfl) ?_;(with_reducible refine (spec_l1Cur_among.calls gb101 l0 0 0 _ _ y102 t105 t106 t107 w _ ?side1 ?side2 ?side3 ?side4 ?side5 A2.out).mono ?_);(case side1=>repeat (first|(with_reducible first|exact HI101.out|apply IsS88.alloc|apply IsS88.drewN|apply IsS88.drew|apply IsS88.set_1|apply IsS88.set_2)|exact HI101.out));(case side2=>repeat (first|(with_reducible first|exact HB.out|apply zj|apply zk|apply zi|refine zc ?_ (IsS88.ge HI101.out))|exact HB.out));(case side3=>repeat (first|exact (zv HO104.out).2.2|(with_reducible refine Kd.C_alloc ?_ _)|(with_reducible refine Kd.C_drewN ?_ _)|(with_reducible refine Kd.C_drew ?_)));(case side4=>exact (zv HO104.out).2.1);(case side5=>exact far_slice (IsS88.own_ne HI101.out HO104.out (by decide)));rintro e w7 ⟨rfl,hi,hb,hk⟩;refine ⟨_,rfl,?_⟩;replace HO104:=za (zp (Kd.R_keep (IsS88.apart (show IsS88 w _ gb101 l0 0 0 from by repeat (first|(with_reducible first|exact HI101.out|apply IsS88.alloc|apply IsS88.drewN|apply IsS88.drew|apply IsS88.set_1|apply IsS88.set_2)|exact HI101.out)) (by (with_reducible repeat (first|apply zg|apply zh|apply zf));exact HO104.out) (by decide)) hk (fun _ h=>h.2)) (fun _ h=>h.1));replace HB:=za (hb);replace HI101:=za (hi))));(go_ret);exact ⟨by first|rfl|simp [*,errW_none,errW_some] <;> rfl,by repeat (first|(with_reducible first|exact HB.out|apply zj|apply zk|apply zi|refine zc ?_ (IsS88.ge HI101.out))|exact HB.out)⟩
end Go.Proofs.Ytiopnmgcajohfaa.Q
end
section
namespace Go.Proofs.Ytiopnmgcajohfaa.Q
open Go.RowKit Go.Proofs.YtiopnmgcajohfaaW.PrintWords Go.Proofs.YtiopnmgcajohfaaW.PrintLast Go.Proofs.YtiopnmgcajohfaaW.PrintMore
attribute [local go_sem] max2_int min2_int max_two min_two max_three min_three max_four min_four   -- for this text's walks alone
set_option linter.unusedVariables false
set_option linter.unusedSimpArgs false
mutual
def spec_hiChoose.j0:Nat→Int→Int→Bool→Option (Int)
|0,_,_,_=>none
|k + 1,x0,x1,x13=>if x13=true then (some 0) else (spec_hiChoose.l0 k x0 x1 1 0)
def spec_hiChoose.l0:Nat→Int→Int→Int→Int→Option (Int)
|0,_,_,_,_=>none
|k + 1,x0,x1,x5,x6=>if x6 < x1 then (if (wrap64 (x6 + 1))=0 then (none) else (spec_hiChoose.l0 k x0 x1 (wrap64 (Int.tdiv (wrap64 (x5 * (wrap64 (x0 - x6)))) (wrap64 (x6 + 1)))) (wrap64 (x6 + 1)))) else (some x5)
end
def spec_hiChoose.f (k:Nat) (a0:Int) (a1:Int):Option (Int):=if a1 < 0 then (spec_hiChoose.j0 k a0 a1 true) else (spec_hiChoose.j0 k a0 a1 (decide (a1 > a0)))
theorem spec_hiChoose.mono_l:∀ k,(∀ y0 y1 y2,LeO (spec_hiChoose.j0 k y0 y1 y2) (spec_hiChoose.j0 (k + 1) y0 y1 y2))∧(∀ y0 y1 y2 y3,LeO (spec_hiChoose.l0 k y0 y1 y2 y3) (spec_hiChoose.l0 (k + 1) y0 y1 y2 y3))
|0=>⟨fun _ _ _ r h=>by simp [spec_hiChoose.j0] at h,fun _ _ _ _ r h=>by simp [spec_hiChoose.l0] at h⟩
|k + 1=>by
  obtain ⟨ih0,ih1⟩:=spec_hiChoose.mono_l k
  refine ⟨?_,?_⟩
  ·
   intro y0 y1 y2
   unfold spec_hiChoose.j0
   repeat' first
  |(with_reducible exact ih0 _ _ _)
  |(with_reducible exact ih1 _ _ _ _)
  |(with_reducible exact LeO.refl _)
  |(with_reducible exact LeO.none _)
  |(with_reducible refine LeO.ite ?_ ?_)
  |(with_reducible refine LeO.bind ?_ (fun _=>?_))
  |exact ih0 _ _ _
  |exact ih1 _ _ _ _
  |exact LeO.none _
  |refine LeO.ite ?_ ?_
  |refine LeO.bind ?_ (fun _=>?_)
  ·
   intro y0 y1 y2 y3
   unfold spec_hiChoose.l0
   repeat' first
  |(with_reducible exact ih0 _ _ _)
  |(with_reducible exact ih1 _ _ _ _)
  |(with_reducible exact LeO.refl _)
  |(with_reducible exact LeO.none _)
  |(with_reducible refine LeO.ite ?_ ?_)
  |(with_reducible refine LeO.bind ?_ (fun _=>?_))
  |exact ih0 _ _ _
  |exact ih1 _ _ _ _
  |exact LeO.none _
  |refine LeO.ite ?_ ?_
  |refine LeO.bind ?_ (fun _=>?_)
theorem spec_hiChoose.mono:∀ a0 a1 k,LeO (spec_hiChoose.f k a0 a1) (spec_hiChoose.f (k + 1) a0 a1):=by
 intro a0 a1 k;obtain ⟨ih0,ih1⟩:=spec_hiChoose.mono_l k;unfold spec_hiChoose.f
 repeat' first
  |(with_reducible exact ih0 _ _ _)
  |(with_reducible exact ih1 _ _ _ _)
  |(with_reducible exact LeO.refl _)
  |(with_reducible exact LeO.none _)
  |(with_reducible refine LeO.ite ?_ ?_)
  |(with_reducible refine LeO.bind ?_ (fun _=>?_))
  |exact ih0 _ _ _
  |exact ih1 _ _ _ _
  |exact LeO.none _
  |refine LeO.ite ?_ ?_
  |refine LeO.bind ?_ (fun _=>?_)
set_option maxHeartbeats 8000000 in
set_option maxRecDepth 100000 in
theorem spec_hiChoose.calls (k:Nat) (a0:Int) (a1:Int) (r:Int) (w:World) (h:spec_hiChoose.f k a0 a1=some r) :
  Calls Try.prog 114 #[.int .i64 a0,.int .i64 a1] w fun e w'=>e=.returned (.int .i64 r)∧Drawn0 w w':=by
 have H:(if a1 < 0 then (spec_hiChoose.j0 k a0 a1 true) else (spec_hiChoose.j0 k a0 a1 (decide (a1 > a0))))=some r:=h;clear h;have HC3:=za H;clear H;(go_enter Try.func114,Try.ntmps114);(go_upto_region 1 with (fail));go_cut [13] (fun v13 wc=>∃ (kq:Nat) (x13_2:Bool),v13=.bool x13_2∧Aside0 (spec_hiChoose.j0 kq a0 a1 x13_2=some r)∧Aside0 (kq≤k)∧Drawn0 w wc)
 case first =>
  have H:=HC3.out;clear HC3;by_cases c4:a1 < 0
  · rw [if_pos c4] at H;have c4b0:decide (a1 < 0)=true:=decide_eq_true c4;clear c4;(first|rw [c4b0]|(simp only [i64_w,i32_w];rw [c4b0])|skip);have H':=za H;clear H;(go_wp2);(go_meet);case rel=>exact ⟨_,(true),(by first|rfl|(simp;done)|(simp [*];done)),H',⟨by first|omega|exact Nat.le_refl _⟩,by repeat (first|exact Drawn0.refl _|apply Drawn0.step)⟩
  · rw [if_neg c4] at H;have c4b0:decide (a1 < 0)=false:=decide_eq_false c4;clear c4;(first|rw [c4b0]|(simp only [i64_w,i32_w];rw [c4b0])|skip);have H':=za H;clear H;(go_wp2);(go_meet);case rel=>exact ⟨_,(decide (a1 > a0)),(by first|rfl|(simp;done)|(simp [*];done)),H',⟨by first|omega|exact Nat.le_refl _⟩,by repeat (first|exact Drawn0.refl _|apply Drawn0.step)⟩
 case rest =>
  clear HC3;(try clear c1);(try clear p2);(try clear c4);(try clear c4b0);obtain ⟨kq,x13_2,rfl,HA,HJ2,⟨mc2,rfl⟩⟩:=hcut
  cases kq with
 |zero=>exact absurd HA.out (by simp [spec_hiChoose.j0])
 |succ kj2 =>
   have H:=HA.out;clear HA;simp only [spec_hiChoose.j0] at H;by_cases c5:x13_2=true
   · subst c5;(have H1:(some 0)=some r:=by rw [if_pos rfl] at H;exact H);clear H;have H:=H1;clear H1;obtain rfl:=Option.some.inj H;(go_wp2);(go_ret);exact ⟨by first|rfl|(simp;done)|(simp [*];done),by repeat (first|exact Drawn0.refl _|apply Drawn0.step)⟩
   ·
    replace c5:=Bool.eq_false_iff.mpr c5;subst c5;(have H1:(spec_hiChoose.l0 kj2 a0 a1 1 0)=some r:=by rw [if_neg (show ¬ (false=true) by decide)] at H;exact H);clear H;have H:=H1;clear H1;have H':=za H;clear H;(go_wp2);(go_loopg [5,6] kj2 (fun kq v5 v6 w'=>∃ (x5_2:Int) (x6_2:Int),v5=.int .i64 x5_2∧v6=.int .i64 x6_2∧Aside0 (spec_hiChoose.l0 kq a0 a1 x5_2 x6_2=some r)∧Aside0 (kq≤kj2)∧Drawn0 w w'));case atStart=>exact ⟨(1),(0),(by first|rfl|(simp;done)|(simp [*];done)),(by first|rfl|(simp;done)|(simp [*];done)),H',⟨Nat.le_refl _⟩,by repeat (first|exact Drawn0.refl _|apply Drawn0.step)⟩
    case round =>
     clear H';(try clear c1);(try clear c2);(try clear p2);(try clear c4);(try clear c4b0);(try clear c5);(try clear p2);obtain ⟨x5_2,x6_2,rfl,rfl,HA,HK2,⟨m2,rfl⟩⟩:=hrel
     cases gk with
    |zero=>exact absurd HA.out (by simp [spec_hiChoose.l0])
    |succ k2 =>
      have H:=HA.out;clear HA;simp only [spec_hiChoose.l0] at H;by_cases c6:x6_2 < a1
      ·
       rw [if_pos c6] at H;have c6b0:decide (x6_2 < a1)=true:=decide_eq_true c6;clear c6;by_cases c7:(wrap64 (x6_2 + 1))=0
       · rw [if_pos c7] at H;exact absurd H (by simp)
       · rw [if_neg c7] at H;have c7b0:((wrap64 (x6_2 + 1)) == 0)=false:=beq_eq_false_iff_ne.mpr c7;have c7b1:((wrap64 (x6_2 + 1)) != 0)=true:=bne_iff_ne.mpr c7;have H':=za H;clear H;(go_wp2);(go_roundg k2);(case measure=>have:=HJ2.out;have:=HK2.out;omega);case rel=>exact ⟨(wrap64 (Int.tdiv (wrap64 (x5_2 * (wrap64 (a0 - x6_2)))) (wrap64 (x6_2 + 1)))),(wrap64 (x6_2 + 1)),(by first|rfl|(simp;done)|(simp [*];done)),(by first|rfl|(simp;done)|(simp [*];done)),H',⟨by have:=HJ2.out;have:=HK2.out;omega⟩,by repeat (first|exact Drawn0.refl _|apply Drawn0.step)⟩
      · rw [if_neg c6] at H;have c6b0:decide (x6_2 < a1)=false:=decide_eq_false c6;clear c6;obtain rfl:=Option.some.inj H;(go_wp2);(go_ret);exact ⟨by first|rfl|(simp;done)|(simp [*];done),by repeat (first|exact Drawn0.refl _|apply Drawn0.step)⟩
end Go.Proofs.Ytiopnmgcajohfaa.Q
end
section
namespace Go.Proofs.Ytiopnmgcajohfaa.Q
open Go.RowKit Go.Proofs.YtiopnmgcajohfaaW.PrintWords Go.Proofs.YtiopnmgcajohfaaW.PrintLast Go.Proofs.YtiopnmgcajohfaaW.PrintMore
attribute [local go_sem] max2_int min2_int max_two min_two max_three min_three max_four min_four   -- for this text's walks alone
set_option linter.unusedVariables false
set_option linter.unusedSimpArgs false
def spec_hiFactorial.l0:Nat→Int→Int→Option (Int)
|0,_,_=>none
|k + 1,x0,x3=>if x0 > 1 then (spec_hiFactorial.l0 k (wrap64 (x0 - 1)) (wrap64 (x3 * x0))) else (some x3)
def spec_hiFactorial.f (k:Nat) (a0:Int):Option (Int):=spec_hiFactorial.l0 k a0 1
theorem spec_hiFactorial.mono_l:∀ k,(∀ y0 y1,LeO (spec_hiFactorial.l0 k y0 y1) (spec_hiFactorial.l0 (k + 1) y0 y1))
|0=>fun _ _ r h=>by simp [spec_hiFactorial.l0] at h
|k + 1=>by
  have ih0:=spec_hiFactorial.mono_l k
  ·
   intro y0 y1
   unfold spec_hiFactorial.l0
   repeat' first
  |(with_reducible exact ih0 _ _)
  |(with_reducible exact LeO.refl _)
  |(with_reducible exact LeO.none _)
  |(with_reducible refine LeO.ite ?_ ?_)
  |(with_reducible refine LeO.bind ?_ (fun _=>?_))
  |exact ih0 _ _
  |exact LeO.none _
  |refine LeO.ite ?_ ?_
  |refine LeO.bind ?_ (fun _=>?_)
theorem spec_hiFactorial.mono:∀ a0 k,LeO (spec_hiFactorial.f k a0) (spec_hiFactorial.f (k + 1) a0):=by
 intro a0 k;have ih0:=spec_hiFactorial.mono_l k;unfold spec_hiFactorial.f
 repeat' first
  |(with_reducible exact ih0 _ _)
  |(with_reducible exact LeO.refl _)
  |(with_reducible exact LeO.none _)
  |(with_reducible refine LeO.ite ?_ ?_)
  |(with_reducible refine LeO.bind ?_ (fun _=>?_))
  |exact ih0 _ _
  |exact LeO.none _
  |refine LeO.ite ?_ ?_
  |refine LeO.bind ?_ (fun _=>?_)
set_option maxHeartbeats 8000000 in
set_option maxRecDepth 100000 in
theorem spec_hiFactorial.calls (k:Nat) (a0:Int) (r:Int) (w:World) (h:spec_hiFactorial.f k a0=some r) :
  Calls Try.prog 115 #[.int .i64 a0] w fun e w'=>e=.returned (.int .i64 r)∧Drawn0 w w':=by
 have H:(spec_hiFactorial.l0 k a0 1)=some r:=h;clear h;have H':=za H;clear H;(go_enter Try.func115,Try.ntmps115);(go_wp2);(go_loopg [0,3] k (fun kq v0 v3 w'=>∃ (x0_1:Int) (x3_1:Int),v0=.int .i64 x0_1∧v3=.int .i64 x3_1∧Aside0 (spec_hiFactorial.l0 kq x0_1 x3_1=some r)∧Aside0 (kq≤k)∧Drawn0 w w'));case atStart=>exact ⟨(a0),(1),(by first|rfl|(simp;done)|(simp [*];done)),(by first|rfl|(simp;done)|(simp [*];done)),H',⟨Nat.le_refl _⟩,by repeat (first|exact Drawn0.refl _|apply Drawn0.step)⟩
 case round =>
  clear H';(try clear c1);obtain ⟨x0_1,x3_1,rfl,rfl,HA,HK1,⟨m1,rfl⟩⟩:=hrel
  cases gk with
 |zero=>exact absurd HA.out (by simp [spec_hiFactorial.l0])
 |succ k1 =>
   have H:=HA.out;clear HA;simp only [spec_hiFactorial.l0] at H;by_cases c2:x0_1 > 1
   · rw [if_pos c2] at H;have c2b0:decide (1 < x0_1)=true:=decide_eq_true c2;clear c2;have H':=za H;clear H;(go_wp2);(go_roundg k1);(case measure=>have:=HK1.out;omega);case rel=>exact ⟨(wrap64 (x0_1 - 1)),(wrap64 (x3_1 * x0_1)),(by first|rfl|(simp;done)|(simp [*];done)),(by first|rfl|(simp;done)|(simp [*];done)),H',⟨by have:=HK1.out;omega⟩,by repeat (first|exact Drawn0.refl _|apply Drawn0.step)⟩
   · rw [if_neg c2] at H;have c2b0:decide (1 < x0_1)=false:=decide_eq_false c2;clear c2;obtain rfl:=Option.some.inj H;(go_wp2);(go_ret);exact ⟨by first|rfl|(simp;done)|(simp [*];done),by repeat (first|exact Drawn0.refl _|apply Drawn0.step)⟩
end Go.Proofs.Ytiopnmgcajohfaa.Q
end
