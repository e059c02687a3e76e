/- Texts of this claim put together (13): words, what the functions compute, and plain facts. No conditions. -/
import Derived.Test.YtpjjeeabpaojnaaGreatSFnLargestHaveCovers4
import Derived.Test.YtpjjeeabpaojnaaGreatSFnLargestHaveCovers12
import Derived.Test.YtpjjeeabpaojnaaGreatSFnLargestHaveCovers8
import Derived.Test.YtpjjeeabpaojnaaGreatSFnLargestHaveCovers9
import Derived.Test.YtpjjeeabpaojnaaGreatSFnLargestHaveCovers10
import Derived.Test.YtpjjeeabpaojnaaGreatSFnLargestHaveCovers5
import Derived.Test.YtpjjeeabpaojnaaGreatSFnLargestHaveCovers0
section
namespace Go.Proofs.YtpjjeeabpaojnaaGreat.Q
open Go.RowKit Go.Proofs.YtpjjeeabpaojnaaGreatW.PrintWords Go.Proofs.YtpjjeeabpaojnaaGreatW.PrintLast Go.Proofs.YtpjjeeabpaojnaaGreatW.PrintMore
attribute [local go_sem] max2_int min2_int max_two min_two max_three min_three max_four min_four   -- for this text's walks alone
set_option linter.unusedVariables false
set_option linter.unusedSimpArgs false
def impl_AllLargest.f (a0_0:Int) (a0_1:Int) (l0_2:List Int):Option ((List (List Int)) × Bool):=(impl_IsBoard.f a0_0 a0_1 l0_2).bind fun t102=>(if t102=true then ((impl_Board_largest.f a0_0 a0_1 l0_2).bind fun t103=>(if (t103.length:Int) > 300 then (some (([]:List (List Int)),false)) else (some (t103,true)))) else (some (([]:List (List Int)),false)))
set_option maxHeartbeats 8000000 in
set_option maxRecDepth 100000 in
theorem impl_AllLargest.calls (a0_0:Int) (a0_1:Int) (A0_2:Option Addr) (c0_2:Nat) (l0_2:List Int) (r1:List (List Int)) (r2:Bool) (w:World) (hr0_2:Kd.C (Kd.int .i64) w A0_2 l0_2.length l0_2) (hc0_2:l0_2.length≤c0_2) (h:impl_AllLargest.f a0_0 a0_1 l0_2=some (r1,r2)) :
  Calls Tryz.prog 6 #[.agg #[.int .i64 a0_0,.int .i64 a0_1,.slice A0_2 l0_2.length c0_2]] w fun e w'=>∃ v0_:Value,e=.returned (.tuple #[v0_,.bool r2])∧Kd.S (Kd.slice 3 (Kd.int .i64)) 24 w' w.heap.size (fun _=>True) v0_ r1∧Below w.heap.size w w':=by
 have hu26:=Tryz.underlying26;have HR0_2:=za hr0_2;have HC0_2:=za hc0_2;clear hr0_2 hc0_2;have HB:=za (Below.refl w.heap.size w);have H:((impl_IsBoard.f a0_0 a0_1 l0_2).bind fun t102=>(if t102=true then ((impl_Board_largest.f a0_0 a0_1 l0_2).bind fun t103=>(if (t103.length:Int) > 300 then (some (([]:List (List Int)),false)) else (some (t103,true)))) else (some (([]:List (List Int)),false))))=some (r1,r2):=h;clear h;obtain ⟨t102,A2,H⟩:=bindAside H;(try dsimp only at H);by_cases c3:t102=true
 ·
  subst c3;(have H1:((impl_Board_largest.f a0_0 a0_1 l0_2).bind fun t103=>(if (t103.length:Int) > 300 then (some (([]:List (List Int)),false)) else (some (t103,true))))=some (r1,r2):=by rw [if_pos rfl] at H;exact H);clear H;have H:=H1;clear H1;obtain ⟨t103,A4,H⟩:=bindAside H;(try dsimp only at H);by_cases c5:(t103.length:Int) > 300
  · rw [if_pos c5] at H;have c5b0:decide (300 < (t103.length:Int))=true:=decide_eq_true c5;have c5b1:decide (300 < t103.length)=true:=decide_eq_true (by omega);clear c5;simp only [Option.some.injEq,Prod.mk.injEq] at H;obtain ⟨rfl,rfl⟩:=H;(go_enter Tryz.func6,Tryz.ntmps6);(go_wp2_with (first|((with_reducible refine zv (N:=1) rfl ?_);refine zw ?hg (N:=1) ?hd (cs:=#[.int .i64 a0_0,.int .i64 a0_1,.slice A0_2 l0_2.length c0_2]) (t:=26) ?hr ?_;(case hd=>rfl);(case hg=>rfl);(case hr=>first|(go_simp;done)|(go_simp;rfl));intro gb101 hg w6 hbox hb;have BK101:=za (hbox);have GW101:=za ((by rw [hg];exact (zi (by apply_rules only [HB.out,zc,zd,zb])):w.heap.size≤gb101));have GE101:=za ((by rw [hg];exact (zi (by apply_rules only [HB.out,zc,zd,zb])):w.heap.size≤gb101));replace HB:=za (zl (by apply_rules only [HB.out,zc,zd,zb]) hb);clear hb hbox hg;have hcz7_0:w6.cell? ⟨gb101,0,none⟩=some (.int .i64 a0_0):=(ze BK101.out 0).trans rfl;have hcz7_1:w6.cell? ⟨gb101,1,none⟩=some (.int .i64 a0_1):=(ze BK101.out 1).trans rfl;have hcz7_2:w6.cell? ⟨gb101,2,none⟩=some (.slice A0_2 l0_2.length c0_2):=(ze BK101.out 2).trans rfl;have hfz7_0:=zf BK101.out 0;have hfz7_1:=zf BK101.out 1;have hfz7_2:=zf BK101.out 2)|((with_reducible refine zu (f:=17) rfl ?_);refine goesL_ (some 6) rfl rfl Tryz.func17 (by kernel_rfl) rfl #[.agg #[.int .i64 a0_0,.int .i64 a0_1,.slice A0_2 l0_2.length c0_2]] rfl (by first|rfl|simp only [z3_,z4_,z5_];try rfl) ?_;(with_reducible refine (impl_IsBoard.calls a0_0 a0_1 _ _ l0_2 true _ ?side1 ?side2 A2.out).mono ?_);(case side1=>apply_rules only [zq HR0_2.out HB.out,zm,zn,zo]);(case side2=>exact HC0_2.out);rintro e w8 ⟨rfl,hb⟩;refine ⟨_,rfl,?_⟩;replace BK101:=za (zp (g:=gb101) (o:=.cells #[.int .i64 a0_0,.int .i64 a0_1,.slice A0_2 l0_2.length c0_2] 26 (0,0)) (by apply_rules only [BK101.out,zj,zh,zk]) hb);replace HB:=za (zl (by apply_rules only [HB.out,zc,zd,zb,zg,GE101.out]) hb);have hcz9_0:w8.cell? ⟨gb101,0,none⟩=some (.int .i64 a0_0):=(ze BK101.out 0).trans rfl;have hcz9_1:w8.cell? ⟨gb101,1,none⟩=some (.int .i64 a0_1):=(ze BK101.out 1).trans rfl;have hcz9_2:w8.cell? ⟨gb101,2,none⟩=some (.slice A0_2 l0_2.length c0_2):=(ze BK101.out 2).trans rfl;have hfz9_0:=zf BK101.out 0;have hfz9_1:=zf BK101.out 1;have hfz9_2:=zf BK101.out 2)|((with_reducible refine zu (f:=25) rfl ?_);refine goesL_ (some 9) rfl rfl Tryz.func25 (by kernel_rfl) rfl #[.agg #[.int .i64 a0_0,.int .i64 a0_1,.slice A0_2 l0_2.length c0_2]] rfl (by first|rfl|simp only [z3_,z4_,z5_];try rfl) ?_;(with_reducible refine (impl_Board_largest.calls a0_0 a0_1 _ _ l0_2 t103 _ ?side1 ?side2 A4.out).mono ?_);(case side1=>apply_rules only [zq HR0_2.out HB.out,zm,zn,zo]);(case side2=>exact HC0_2.out);rintro e w10 ⟨v104,rfl,ho0,hb⟩;refine ⟨_,rfl,?_⟩;have HO105:=za (Kd.S_lower ho0 (zi (by apply_rules only [HB.out,zc,zd,zb,zg,GE101.out])));replace BK101:=za (zp (g:=gb101) (o:=.cells #[.int .i64 a0_0,.int .i64 a0_1,.slice A0_2 l0_2.length c0_2] 26 (0,0)) (by apply_rules only [BK101.out,zj,zh,zk]) hb);replace HB:=za (zl (by apply_rules only [HB.out,zc,zd,zb,zg,GE101.out]) hb);obtain ⟨Ao11,co11,eo11⟩:=Kd.S_slice HO105.out;subst eo11)));(go_ret2);exact ⟨_,by first|rfl|simp [*,errW_none,errW_some] <;> rfl,by first|exact Kd.S_nil _ _ _ _ _|exact Kd.N_nil _ _ _ _ _|exact Kd.V_nil _ _ _ _ _|exact Kd.Q_nil _ _ _ _ _|exact Kd.R_nil _ _ _ _ _,by repeat (first|(with_reducible first|exact HB.out|apply zc|apply zd|apply zb|refine zg ?_ GE101.out)|exact HB.out)⟩
  · rw [if_neg c5] at H;have c5b0:decide (300 < (t103.length:Int))=false:=decide_eq_false c5;have c5b1:decide (300 < t103.length)=false:=decide_eq_false (by omega);clear c5;simp only [Option.some.injEq,Prod.mk.injEq] at H;obtain ⟨rfl,rfl⟩:=H;(go_enter Tryz.func6,Tryz.ntmps6);(go_wp2_with (first|((with_reducible refine zv (N:=1) rfl ?_);refine zw ?hg (N:=1) ?hd (cs:=#[.int .i64 a0_0,.int .i64 a0_1,.slice A0_2 l0_2.length c0_2]) (t:=26) ?hr ?_;(case hd=>rfl);(case hg=>rfl);(case hr=>first|(go_simp;done)|(go_simp;rfl));intro gb101 hg w12 hbox hb;have BK101:=za (hbox);have GW101:=za ((by rw [hg];exact (zi (by apply_rules only [HB.out,zc,zd,zb])):w.heap.size≤gb101));have GE101:=za ((by rw [hg];exact (zi (by apply_rules only [HB.out,zc,zd,zb])):w.heap.size≤gb101));replace HB:=za (zl (by apply_rules only [HB.out,zc,zd,zb]) hb);clear hb hbox hg;have hcz13_0:w12.cell? ⟨gb101,0,none⟩=some (.int .i64 a0_0):=(ze BK101.out 0).trans rfl;have hcz13_1:w12.cell? ⟨gb101,1,none⟩=some (.int .i64 a0_1):=(ze BK101.out 1).trans rfl;have hcz13_2:w12.cell? ⟨gb101,2,none⟩=some (.slice A0_2 l0_2.length c0_2):=(ze BK101.out 2).trans rfl;have hfz13_0:=zf BK101.out 0;have hfz13_1:=zf BK101.out 1;have hfz13_2:=zf BK101.out 2)|((with_reducible refine zu (f:=17) rfl ?_);refine goesL_ (some 6) rfl rfl Tryz.func17 (by kernel_rfl) rfl #[.agg #[.int .i64 a0_0,.int .i64 a0_1,.slice A0_2 l0_2.length c0_2]] rfl (by first|rfl|simp only [z3_,z4_,z5_];try rfl) ?_;(with_reducible refine (impl_IsBoard.calls a0_0 a0_1 _ _ l0_2 true _ ?side1 ?side2 A2.out).mono ?_);(case side1=>apply_rules only [zq HR0_2.out HB.out,zm,zn,zo]);(case side2=>exact HC0_2.out);rintro e w14 ⟨rfl,hb⟩;refine ⟨_,rfl,?_⟩;replace BK101:=za (zp (g:=gb101) (o:=.cells #[.int .i64 a0_0,.int .i64 a0_1,.slice A0_2 l0_2.length c0_2] 26 (0,0)) (by apply_rules only [BK101.out,zj,zh,zk]) hb);replace HB:=za (zl (by apply_rules only [HB.out,zc,zd,zb,zg,GE101.out]) hb);have hcz15_0:w14.cell? ⟨gb101,0,none⟩=some (.int .i64 a0_0):=(ze BK101.out 0).trans rfl;have hcz15_1:w14.cell? ⟨gb101,1,none⟩=some (.int .i64 a0_1):=(ze BK101.out 1).trans rfl;have hcz15_2:w14.cell? ⟨gb101,2,none⟩=some (.slice A0_2 l0_2.length c0_2):=(ze BK101.out 2).trans rfl;have hfz15_0:=zf BK101.out 0;have hfz15_1:=zf BK101.out 1;have hfz15_2:=zf BK101.out 2)|((with_reducible refine zu (f:=25) rfl ?_);refine goesL_ (some 9) rfl rfl Tryz.func25 (by kernel_rfl) rfl #[.agg #[.int .i64 a0_0,.int .i64 a0_1,.slice A0_2 l0_2.length c0_2]] rfl (by first|rfl|simp only [z3_,z4_,z5_];try rfl) ?_;(with_reducible refine (impl_Board_largest.calls a0_0 a0_1 _ _ l0_2 t103 _ ?side1 ?side2 A4.out).mono ?_);(case side1=>apply_rules only [zq HR0_2.out HB.out,zm,zn,zo]);(case side2=>exact HC0_2.out);rintro e w16 ⟨v104,rfl,ho0,hb⟩;refine ⟨_,rfl,?_⟩;have HO105:=za (Kd.S_lower ho0 (zi (by apply_rules only [HB.out,zc,zd,zb,zg,GE101.out])));replace BK101:=za (zp (g:=gb101) (o:=.cells #[.int .i64 a0_0,.int .i64 a0_1,.slice A0_2 l0_2.length c0_2] 26 (0,0)) (by apply_rules only [BK101.out,zj,zh,zk]) hb);replace HB:=za (zl (by apply_rules only [HB.out,zc,zd,zb,zg,GE101.out]) hb);obtain ⟨Ao17,co17,eo17⟩:=Kd.S_slice HO105.out;subst eo17)));(go_ret2);exact ⟨_,by first|rfl|simp [*,errW_none,errW_some] <;> rfl,by (with_reducible repeat (first|apply Kd.S_alloc|apply Kd.S_drewN|apply Kd.S_drew));exact HO105.out,by repeat (first|(with_reducible first|exact HB.out|apply zc|apply zd|apply zb|refine zg ?_ GE101.out)|exact HB.out)⟩
 · replace c3:=Bool.eq_false_iff.mpr c3;subst c3;(have H1:(some (([]:List (List Int)),false))=some (r1,r2):=by rw [if_neg (show ¬ (false=true) by decide)] at H;exact H);clear H;have H:=H1;clear H1;simp only [Option.some.injEq,Prod.mk.injEq] at H;obtain ⟨rfl,rfl⟩:=H;(go_enter Tryz.func6,Tryz.ntmps6);(go_wp2_with (first|((with_reducible refine zv (N:=1) rfl ?_);refine zw ?hg (N:=1) ?hd (cs:=#[.int .i64 a0_0,.int .i64 a0_1,.slice A0_2 l0_2.length c0_2]) (t:=26) ?hr ?_;(case hd=>rfl);(case hg=>rfl);(case hr=>first|(go_simp;done)|(go_simp;rfl));intro gb101 hg w18 hbox hb;have BK101:=za (hbox);have GW101:=za ((by rw [hg];exact (zi (by apply_rules only [HB.out,zc,zd,zb])):w.heap.size≤gb101));have GE101:=za ((by rw [hg];exact (zi (by apply_rules only [HB.out,zc,zd,zb])):w.heap.size≤gb101));replace HB:=za (zl (by apply_rules only [HB.out,zc,zd,zb]) hb);clear hb hbox hg;have hcz19_0:w18.cell? ⟨gb101,0,none⟩=some (.int .i64 a0_0):=(ze BK101.out 0).trans rfl;have hcz19_1:w18.cell? ⟨gb101,1,none⟩=some (.int .i64 a0_1):=(ze BK101.out 1).trans rfl;have hcz19_2:w18.cell? ⟨gb101,2,none⟩=some (.slice A0_2 l0_2.length c0_2):=(ze BK101.out 2).trans rfl;have hfz19_0:=zf BK101.out 0;have hfz19_1:=zf BK101.out 1;have hfz19_2:=zf BK101.out 2)|((with_reducible refine zu (f:=17) rfl ?_);refine goesL_ (some 6) rfl rfl Tryz.func17 (by kernel_rfl) rfl #[.agg #[.int .i64 a0_0,.int .i64 a0_1,.slice A0_2 l0_2.length c0_2]] rfl (by first|rfl|simp only [z3_,z4_,z5_];try rfl) ?_;(with_reducible refine (impl_IsBoard.calls a0_0 a0_1 _ _ l0_2 false _ ?side1 ?side2 A2.out).mono ?_);(case side1=>apply_rules only [zq HR0_2.out HB.out,zm,zn,zo]);(case side2=>exact HC0_2.out);rintro e w20 ⟨rfl,hb⟩;refine ⟨_,rfl,?_⟩;replace BK101:=za (zp (g:=gb101) (o:=.cells #[.int .i64 a0_0,.int .i64 a0_1,.slice A0_2 l0_2.length c0_2] 26 (0,0)) (by apply_rules only [BK101.out,zj,zh,zk]) hb);replace HB:=za (zl (by apply_rules only [HB.out,zc,zd,zb,zg,GE101.out]) hb))));(go_ret2);exact ⟨_,by first|rfl|simp [*,errW_none,errW_some] <;> rfl,by first|exact Kd.S_nil _ _ _ _ _|exact Kd.N_nil _ _ _ _ _|exact Kd.V_nil _ _ _ _ _|exact Kd.Q_nil _ _ _ _ _|exact Kd.R_nil _ _ _ _ _,by repeat (first|(with_reducible first|exact HB.out|apply zc|apply zd|apply zb|refine zg ?_ GE101.out)|exact HB.out)⟩
end Go.Proofs.YtpjjeeabpaojnaaGreat.Q
end
section
namespace Go.Proofs.YtpjjeeabpaojnaaGreat.Q
set_option linter.unusedVariables false
open Go.RowKit Go.Proofs.YtpjjeeabpaojnaaGreatW.PrintWords Go.Proofs.YtpjjeeabpaojnaaGreatW.PrintLast Go.Proofs.YtpjjeeabpaojnaaGreatW.PrintMore
open Go.Proofs.YtpjjeeabpaojnaaGreatL Go.Proofs.YtpjjeeabpaojnaaGreat.LawK Go.Proofs.YtpjjeeabpaojnaaGreat.BoardK Go.Proofs.YtpjjeeabpaojnaaGreat.LinesK Go.Proofs.YtpjjeeabpaojnaaGreat.AllK
theorem ans_AllLargest (r c:Int) (l:List Int) (hl:l.length≤1048576):∃ (rows:List (List Int)) (ok:Bool),rows.length≤1000000∧(∀ x ∈ rows,x.length≤1000)∧(∃ k,spec_AllLargest.f k r c l=some (rows,ok))∧impl_AllLargest.f r c l=some (rows,ok):=by
 by_cases hb:isBoardB r c l=true
 ·
  obtain ⟨R,C,rfl,rfl,hlR,h1R,hR,h1C,hC,hbits⟩:=board_of hb
  have hlen:=largest_len (l:=l) hC hR
  have hrow:=largest_row (l:=l) hC (R:=R)
  have hL:=lcLargest hlR hR hC (fun i hi=>⟨(hbits i hi).1,by have:=(hbits i hi).2;have h3:=two_pow_six hC;omega⟩)
  by_cases h:(((largestS l C R).length:Nat):Int) > 300
  ·
   refine ⟨[],false,by simp,by simp,Ev.rounds ?_,?_⟩
   ·
    unfold spec_AllLargest.f
    refine Ev.bind (boGood R C (by omega)) ?_
    refine Ev.congr (fun k=>by rw [if_pos hb]) ?_
    refine Ev.bind hL ?_
    exact Ev.congr (fun k=>by rw [if_pos h]) (Ev.now _)
   ·
    unfold impl_AllLargest.f
    rw [impl_IsBoard.f,Option.bind_some,if_pos hb,impl_Board_largest.f,if_pos hb,Option.bind_some,Int.toNat_natCast,hlR,if_pos h]
  ·
   refine ⟨largestS l C R,true,by omega,fun x hx=>by have:=hrow x hx;omega,Ev.rounds ?_,?_⟩
   ·
    unfold spec_AllLargest.f
    refine Ev.bind (boGood R C (by omega)) ?_
    refine Ev.congr (fun k=>by rw [if_pos hb]) ?_
    refine Ev.bind hL ?_
    exact Ev.congr (fun k=>by rw [if_neg h]) (Ev.now _)
   ·
    unfold impl_AllLargest.f
    rw [impl_IsBoard.f,Option.bind_some,if_pos hb,impl_Board_largest.f,if_pos hb,Option.bind_some,Int.toNat_natCast,hlR,if_neg h]
 ·
  refine ⟨[],false,by simp,by simp,Ev.rounds ?_,?_⟩
  ·
   unfold spec_AllLargest.f
   refine Ev.bind (boGood r c (by omega)) ?_
   exact Ev.congr (fun k=>by rw [if_neg hb]) (Ev.now _)
  ·
   unfold impl_AllLargest.f
   rw [impl_IsBoard.f,Option.bind_some,if_neg hb]
end Go.Proofs.YtpjjeeabpaojnaaGreat.Q
end
section
namespace Go.Proofs.YtpjjeeabpaojnaaGreat.Q
open Go.RowKit Go.Proofs.YtpjjeeabpaojnaaGreatW.PrintWords Go.Proofs.YtpjjeeabpaojnaaGreatW.PrintLast Go.Proofs.YtpjjeeabpaojnaaGreatW.PrintMore
attribute [local go_sem] max2_int min2_int max_two min_two max_three min_three max_four min_four   -- for this text's walks alone
set_option linter.unusedVariables false
set_option linter.unusedSimpArgs false
def impl_LargestPlacement.f (a0_0:Int) (a0_1:Int) (l0_2:List Int):Option (List Int × Bool):=(impl_IsBoard.f a0_0 a0_1 l0_2).bind fun t102=>(if t102=true then ((impl_Board_largest.f a0_0 a0_1 l0_2).bind fun t103=>(if 0 < (t103.length:Int) then ((slices_Clone_int_int.f (rd_L2 t103 0)).bind fun t107=>(some (t107,true))) else (none))) else (some (([]:List Int),false)))
set_option maxHeartbeats 8000000 in
set_option maxRecDepth 100000 in
theorem impl_LargestPlacement.calls (a0_0:Int) (a0_1:Int) (A0_2:Option Addr) (c0_2:Nat) (l0_2:List Int) (r1:List Int) (r2:Bool) (w:World) (hr0_2:Kd.C (Kd.int .i64) w A0_2 l0_2.length l0_2) (hc0_2:l0_2.length≤c0_2) (h:impl_LargestPlacement.f a0_0 a0_1 l0_2=some (r1,r2)) :
  Calls Tryz.prog 8 #[.agg #[.int .i64 a0_0,.int .i64 a0_1,.slice A0_2 l0_2.length c0_2]] w fun e w'=>∃ v0_:Value,e=.returned (.tuple #[v0_,.bool r2])∧Kd.R (Kd.int .i64) 3 w' w.heap.size (fun _=>True) v0_ r1∧Below w.heap.size w w':=by
 have hu26:=Tryz.underlying26;have HR0_2:=za hr0_2;have HC0_2:=za hc0_2;clear hr0_2 hc0_2;have HB:=za (Below.refl w.heap.size w);have H:((impl_IsBoard.f a0_0 a0_1 l0_2).bind fun t102=>(if t102=true then ((impl_Board_largest.f a0_0 a0_1 l0_2).bind fun t103=>(if 0 < (t103.length:Int) then ((slices_Clone_int_int.f (rd_L2 t103 0)).bind fun t107=>(some (t107,true))) else (none))) else (some (([]:List Int),false))))=some (r1,r2):=h;clear h;obtain ⟨t102,A2,H⟩:=bindAside H;(try dsimp only at H);by_cases c3:t102=true
 ·
  subst c3;(have H1:((impl_Board_largest.f a0_0 a0_1 l0_2).bind fun t103=>(if 0 < (t103.length:Int) then ((slices_Clone_int_int.f (rd_L2 t103 0)).bind fun t107=>(some (t107,true))) else (none)))=some (r1,r2):=by rw [if_pos rfl] at H;exact H);clear H;have H:=H1;clear H1;obtain ⟨t103,A4,H⟩:=bindAside H;(try dsimp only at H);by_cases c5:0 < (t103.length:Int)
  · rw [if_pos c5] at H;have c5b0:decide (0 < (t103.length:Int))=true:=decide_eq_true c5;have c5b1:decide (0 < t103.length)=true:=decide_eq_true (by omega);clear c5;obtain ⟨t107,A6,H⟩:=bindAside H;(try dsimp only at H);simp only [Option.some.injEq,Prod.mk.injEq] at H;obtain ⟨rfl,rfl⟩:=H;(go_enter Tryz.func8,Tryz.ntmps8);(go_wp2_with (first|((with_reducible refine zv (N:=1) rfl ?_);refine zw ?hg (N:=1) ?hd (cs:=#[.int .i64 a0_0,.int .i64 a0_1,.slice A0_2 l0_2.length c0_2]) (t:=26) ?hr ?_;(case hd=>rfl);(case hg=>rfl);(case hr=>first|(go_simp;done)|(go_simp;rfl));intro gb101 hg w7 hbox hb;have BK101:=za (hbox);have GW101:=za ((by rw [hg];exact (zi (by apply_rules only [HB.out,zc,zd,zb])):w.heap.size≤gb101));have GE101:=za ((by rw [hg];exact (zi (by apply_rules only [HB.out,zc,zd,zb])):w.heap.size≤gb101));replace HB:=za (zl (by apply_rules only [HB.out,zc,zd,zb]) hb);clear hb hbox hg;have hcz8_0:w7.cell? ⟨gb101,0,none⟩=some (.int .i64 a0_0):=(ze BK101.out 0).trans rfl;have hcz8_1:w7.cell? ⟨gb101,1,none⟩=some (.int .i64 a0_1):=(ze BK101.out 1).trans rfl;have hcz8_2:w7.cell? ⟨gb101,2,none⟩=some (.slice A0_2 l0_2.length c0_2):=(ze BK101.out 2).trans rfl;have hfz8_0:=zf BK101.out 0;have hfz8_1:=zf BK101.out 1;have hfz8_2:=zf BK101.out 2)|((with_reducible refine zu (f:=17) rfl ?_);refine goesL_ (some 5) rfl rfl Tryz.func17 (by kernel_rfl) rfl #[.agg #[.int .i64 a0_0,.int .i64 a0_1,.slice A0_2 l0_2.length c0_2]] rfl (by first|rfl|simp only [z3_,z4_,z5_];try rfl) ?_;(with_reducible refine (impl_IsBoard.calls a0_0 a0_1 _ _ l0_2 true _ ?side1 ?side2 A2.out).mono ?_);(case side1=>apply_rules only [zq HR0_2.out HB.out,zm,zn,zo]);(case side2=>exact HC0_2.out);rintro e w9 ⟨rfl,hb⟩;refine ⟨_,rfl,?_⟩;replace BK101:=za (zp (g:=gb101) (o:=.cells #[.int .i64 a0_0,.int .i64 a0_1,.slice A0_2 l0_2.length c0_2] 26 (0,0)) (by apply_rules only [BK101.out,zj,zh,zk]) hb);replace HB:=za (zl (by apply_rules only [HB.out,zc,zd,zb,zg,GE101.out]) hb);have hcz10_0:w9.cell? ⟨gb101,0,none⟩=some (.int .i64 a0_0):=(ze BK101.out 0).trans rfl;have hcz10_1:w9.cell? ⟨gb101,1,none⟩=some (.int .i64 a0_1):=(ze BK101.out 1).trans rfl;have hcz10_2:w9.cell? ⟨gb101,2,none⟩=some (.slice A0_2 l0_2.length c0_2):=(ze BK101.out 2).trans rfl;have hfz10_0:=zf BK101.out 0;have hfz10_1:=zf BK101.out 1;have hfz10_2:=zf BK101.out 2)|((with_reducible refine zu (f:=25) rfl ?_);refine goesL_ (some 8) rfl rfl Tryz.func25 (by kernel_rfl) rfl #[.agg #[.int .i64 a0_0,.int .i64 a0_1,.slice A0_2 l0_2.length c0_2]] rfl (by first|rfl|simp only [z3_,z4_,z5_];try rfl) ?_;(with_reducible refine (impl_Board_largest.calls a0_0 a0_1 _ _ l0_2 t103 _ ?side1 ?side2 A4.out).mono ?_);(case side1=>apply_rules only [zq HR0_2.out HB.out,zm,zn,zo]);(case side2=>exact HC0_2.out);rintro e w11 ⟨v104,rfl,ho0,hb⟩;refine ⟨_,rfl,?_⟩;have HO105:=za (Kd.S_lower ho0 (zi (by apply_rules only [HB.out,zc,zd,zb,zg,GE101.out])));replace BK101:=za (zp (g:=gb101) (o:=.cells #[.int .i64 a0_0,.int .i64 a0_1,.slice A0_2 l0_2.length c0_2] 26 (0,0)) (by apply_rules only [BK101.out,zj,zh,zk]) hb);replace HB:=za (zl (by apply_rules only [HB.out,zc,zd,zb,zg,GE101.out]) hb);obtain ⟨Ao12,co12,eo12⟩:=Kd.S_slice HO105.out;subst eo12;have p106:0≤(0:Int):=(by omega);have q106:0 < (t103.length:Int):=of_decide_eq_true ‹_›;obtain ⟨ad106,A106_0,c106_0,e106,hx106_0,hl106_0,hi106_0⟩:=at_L2 (Kd.S_reads' HO105.out).2.2 0 p106 q106;cases e106;obtain ⟨ce106,hce106,hMe106,hcc106⟩:=Kd.S_get HO105.out [] 0 p106 (by first|exact q106|exact of_decide_eq_true ‹_›|(have e_:=(Kd.S_reads' HO105.out).1;omega));obtain ⟨ve106_0,rfl,ge106_0⟩:=hMe106;have hv106_0:=hcc106 0 _ rfl;rw [Nat.add_zero,show ((Kd.slice 3 (Kd.int .i64))).sz=1 from rfl,Nat.mul_one] at hv106_0;replace hv106_0:=Option.some.inj (hv106_0.symm.trans hx106_0);rw [hv106_0] at ge106_0;have HL106_0:=za (show Kd.R (Kd.int .i64) 3 _ _ _ _ (rd_L2 t103 0) from ge106_0);clear hv106_0 ge106_0;clear hcc106 hce106;have qi106:(0 < t103.length)=True:=eq_true (by omega);(try rw [show ((0:Int)).toNat=0 from rfl] at hx106_0);(try rw [Addr.add_zero'] at hx106_0);have HR106_0:=za hi106_0;have HC106_0:=za hl106_0;clear hi106_0 hl106_0;replace p106:=eq_true p106;replace q106:=eq_true q106)|((with_reducible refine zu (f:=28) rfl ?_);refine goesL_ (some 11) rfl rfl Tryz.func28 (by kernel_rfl) rfl #[.slice A106_0 (rd_L2 t103 0).length c106_0] rfl (by first|rfl|simp only [z3_,z4_,z5_];try rfl) ?_;(with_reducible refine (slices_Clone_int_int.calls _ _ (rd_L2 t103 0) t107 _ ?side1 ?side2 A6.out).mono ?_);(case side1=>apply_rules only [HR106_0.out,zm,zn,zo]);(case side2=>exact HC106_0.out);rintro e w13 ⟨v108,rfl,ho0,hb⟩;refine ⟨_,rfl,?_⟩;replace HO105:=za (Kd.S_elder' (by apply_rules only [HO105.out,Kd.S_alloc,Kd.S_drewN,Kd.S_drew]) (Kd.R_base ho0) hb);have HO109:=za (Kd.R_lower (Kd.R_new' ho0 (Kd.R_lt (by apply_rules only [HL106_0.out,zs,zt,zr]))) (zi (by apply_rules only [HB.out,zc,zd,zb,zg,GE101.out])));replace HL106_0:=za (Kd.R_elder' (by apply_rules only [HL106_0.out,zs,zt,zr]) (Kd.R_base ho0) hb);replace BK101:=za (zp (g:=gb101) (o:=.cells #[.int .i64 a0_0,.int .i64 a0_1,.slice A0_2 l0_2.length c0_2] 26 (0,0)) (by apply_rules only [BK101.out,zj,zh,zk]) hb);replace HR106_0:=za (zq (by apply_rules only [HR106_0.out,zm,zn,zo]) hb);replace HB:=za (zl (by apply_rules only [HB.out,zc,zd,zb,zg,GE101.out]) hb))));(go_ret2);exact ⟨_,by first|rfl|simp [*,errW_none,errW_some] <;> rfl,by (with_reducible repeat (first|apply zs|apply zt|apply zr));exact Kd.R_mono HO109.out (fun _ hk=>trivial),by repeat (first|(with_reducible first|exact HB.out|apply zc|apply zd|apply zb|refine zg ?_ GE101.out)|exact HB.out)⟩
  · rw [if_neg c5] at H;exact absurd H (by simp)
 · replace c3:=Bool.eq_false_iff.mpr c3;subst c3;(have H1:(some (([]:List Int),false))=some (r1,r2):=by rw [if_neg (show ¬ (false=true) by decide)] at H;exact H);clear H;have H:=H1;clear H1;simp only [Option.some.injEq,Prod.mk.injEq] at H;obtain ⟨rfl,rfl⟩:=H;(go_enter Tryz.func8,Tryz.ntmps8);(go_wp2_with (first|((with_reducible refine zv (N:=1) rfl ?_);refine zw ?hg (N:=1) ?hd (cs:=#[.int .i64 a0_0,.int .i64 a0_1,.slice A0_2 l0_2.length c0_2]) (t:=26) ?hr ?_;(case hd=>rfl);(case hg=>rfl);(case hr=>first|(go_simp;done)|(go_simp;rfl));intro gb101 hg w14 hbox hb;have BK101:=za (hbox);have GW101:=za ((by rw [hg];exact (zi (by apply_rules only [HB.out,zc,zd,zb])):w.heap.size≤gb101));have GE101:=za ((by rw [hg];exact (zi (by apply_rules only [HB.out,zc,zd,zb])):w.heap.size≤gb101));replace HB:=za (zl (by apply_rules only [HB.out,zc,zd,zb]) hb);clear hb hbox hg;have hcz15_0:w14.cell? ⟨gb101,0,none⟩=some (.int .i64 a0_0):=(ze BK101.out 0).trans rfl;have hcz15_1:w14.cell? ⟨gb101,1,none⟩=some (.int .i64 a0_1):=(ze BK101.out 1).trans rfl;have hcz15_2:w14.cell? ⟨gb101,2,none⟩=some (.slice A0_2 l0_2.length c0_2):=(ze BK101.out 2).trans rfl;have hfz15_0:=zf BK101.out 0;have hfz15_1:=zf BK101.out 1;have hfz15_2:=zf BK101.out 2)|((with_reducible refine zu (f:=17) rfl ?_);refine goesL_ (some 5) rfl rfl Tryz.func17 (by kernel_rfl) rfl #[.agg #[.int .i64 a0_0,.int .i64 a0_1,.slice A0_2 l0_2.length c0_2]] rfl (by first|rfl|simp only [z3_,z4_,z5_];try rfl) ?_;(with_reducible refine (impl_IsBoard.calls a0_0 a0_1 _ _ l0_2 false _ ?side1 ?side2 A2.out).mono ?_);(case side1=>apply_rules only [zq HR0_2.out HB.out,zm,zn,zo]);(case side2=>exact HC0_2.out);rintro e w16 ⟨rfl,hb⟩;refine ⟨_,rfl,?_⟩;replace BK101:=za (zp (g:=gb101) (o:=.cells #[.int .i64 a0_0,.int .i64 a0_1,.slice A0_2 l0_2.length c0_2] 26 (0,0)) (by apply_rules only [BK101.out,zj,zh,zk]) hb);replace HB:=za (zl (by apply_rules only [HB.out,zc,zd,zb,zg,GE101.out]) hb))));(go_ret2);exact ⟨_,by first|rfl|simp [*,errW_none,errW_some] <;> rfl,by first|exact Kd.R_nil _ _ _ _ _|exact Kd.N_nil _ _ _ _ _|exact Kd.V_nil _ _ _ _ _|exact Kd.Q_nil _ _ _ _ _|exact Kd.S_nil _ _ _ _ _,by repeat (first|(with_reducible first|exact HB.out|apply zc|apply zd|apply zb|refine zg ?_ GE101.out)|exact HB.out)⟩
end Go.Proofs.YtpjjeeabpaojnaaGreat.Q
end
section
namespace Go.Proofs.YtpjjeeabpaojnaaGreat.Pure
set_option linter.unusedVariables false
open Go.RowKit Go.Proofs.YtpjjeeabpaojnaaGreat.Q Go.Proofs.YtpjjeeabpaojnaaGreatW.PrintWords Go.Proofs.YtpjjeeabpaojnaaGreatW.PrintLast Go.Proofs.YtpjjeeabpaojnaaGreatW.PrintMore
open Go.Proofs.YtpjjeeabpaojnaaGreatL Go.Proofs.YtpjjeeabpaojnaaGreat.LawK Go.Proofs.YtpjjeeabpaojnaaGreat.BoardK Go.Proofs.YtpjjeeabpaojnaaGreat.LinesK Go.Proofs.YtpjjeeabpaojnaaGreat.AllK
namespace LargestK
def ans (r c:Int) (l:List Int):List Int × Bool:=if isBoardB r c l=true then ((largestS l c.toNat r.toNat).getD 0 [],true) else ([],false)
theorem first_row {l:List Int} {C:Nat} (hC:C≤6) (R:Nat):(largestS l C R).getD 0 [] ∈ largestS l C R:=by
 cases e:largestS l C R with
|nil=>exact absurd e (largest_ne hC R)
|cons x t=>simp
theorem first_eq (xs:List (List Int)):rd_L2 xs 0=xs.getD 0 []:=rfl
theorem impl_answer {r c:Int} {l:List Int}:impl_LargestPlacement.f r c l=some (ans r c l):=by
 unfold impl_LargestPlacement.f ans
 rw [impl_IsBoard.f,Option.bind_some]
 by_cases hb:isBoardB r c l=true
 ·
  obtain ⟨R,C,rfl,rfl,hlR,h1R,hR,h1C,hC,hbits⟩:=board_of hb
  rw [if_pos hb,if_pos hb,Int.toNat_natCast,Int.toNat_natCast]
  have hm:=first_row (l:=l) hC R
  have hp:0 < (largestS l C R).length:=List.length_pos_of_mem hm
  have h6:=largest_row hC _ hm
  rw [impl_Board_largest.f,if_pos hb,Option.bind_some,Int.toNat_natCast,hlR,if_pos (by omega),first_eq,slices_Clone_int_int.f,if_pos (by omega),Option.bind_some]
 ·
  rw [if_neg hb,if_neg hb]
theorem spec_answer {r c:Int} {l:List Int} (hl:l.length≤1048576):Ev (fun k=>spec_LargestPlacement.f k r c l) (ans r c l):=by
 unfold spec_LargestPlacement.f ans
 refine Ev.bind (boGood r c (by omega)) ?_
 by_cases hb:isBoardB r c l=true
 ·
  obtain ⟨R,C,rfl,rfl,hlR,h1R,hR,h1C,hC,hbits⟩:=board_of hb
  refine Ev.congr (fun k=>by rw [if_pos hb]) ?_
  rw [if_pos hb,Int.toNat_natCast,Int.toNat_natCast]
  have hp:0 < (largestS l C R).length:=List.length_pos_of_mem (first_row (l:=l) hC R)
  refine Ev.bind (lcLargest hlR hR hC (fun i hi=>⟨(hbits i hi).1,by have:=(hbits i hi).2;have h3:=two_pow_six hC;omega⟩)) ?_
  exact Ev.congr (fun k=>by rw [if_pos (by omega),first_eq]) (Ev.now _)
 ·
  rw [if_neg hb]
  exact Ev.congr (fun k=>by rw [if_neg hb]) (Ev.now _)
end LargestK
open LargestK
end Go.Proofs.YtpjjeeabpaojnaaGreat.Pure
end
section
namespace Go.Proofs.YtpjjeeabpaojnaaGreat.Q
open Go.RowKit Go.Proofs.YtpjjeeabpaojnaaGreatW.PrintWords Go.Proofs.YtpjjeeabpaojnaaGreatW.PrintLast Go.Proofs.YtpjjeeabpaojnaaGreatW.PrintMore
attribute [local go_sem] max2_int min2_int max_two min_two max_three min_three max_four min_four   -- for this text's walks alone
set_option linter.unusedVariables false
set_option linter.unusedSimpArgs false
def impl_LeastCover.f (k:Nat) (a0_0:Int) (a0_1:Int) (l0_2:List Int):Option (List Int × List Int × Bool):=(impl_IsBoard.f a0_0 a0_1 l0_2).bind fun t103=>(if t103=true then ((impl_Board_covers.f k a0_0 a0_1 l0_2).bind fun t104=>(if 0 < (t104.length:Int) then (some ((rd_T37 t104 0).f0,(rd_T37 t104 0).f1,true)) else (none))) else (some (([]:List Int),([]:List Int),false)))
set_option maxHeartbeats 8000000 in
set_option maxRecDepth 100000 in
theorem impl_LeastCover.calls (k:Nat) (a0_0:Int) (a0_1:Int) (A0_2:Option Addr) (c0_2:Nat) (l0_2:List Int) (r1:List Int) (r2:List Int) (r3:Bool) (w:World) (hr0_2:Kd.C (Kd.int .i64) w A0_2 l0_2.length l0_2) (hc0_2:l0_2.length≤c0_2) (h:impl_LeastCover.f k a0_0 a0_1 l0_2=some (r1,r2,r3)) :
  Calls Tryz.prog 12 #[.agg #[.int .i64 a0_0,.int .i64 a0_1,.slice A0_2 l0_2.length c0_2]] w fun e w'=>∃ v0_ v1_:Value,e=.returned (.tuple #[.agg #[v0_,v1_],.bool r3])∧Kd.V (Kd.int .i64) 3 w' w.heap.size (fun k_=>(w.heap.size≤k_)) v0_ r1∧Kd.V (Kd.int .i64) 3 w' w.heap.size (fun k_=>(w.heap.size≤k_)) v1_ r2∧Below w.heap.size w w':=by
 have hu26:=Tryz.underlying26
 have hu37:=Tryz.underlying37
 have HR0_2:=Aside0.mk hr0_2
 have HC0_2:=Aside0.mk hc0_2
 clear hr0_2 hc0_2
 have HB:=Aside0.mk (Below.refl w.heap.size w)
 have H:((impl_IsBoard.f a0_0 a0_1 l0_2).bind fun t103=>(if t103=true then ((impl_Board_covers.f k a0_0 a0_1 l0_2).bind fun t104=>(if 0 < (t104.length:Int) then (some ((rd_T37 t104 0).f0,(rd_T37 t104 0).f1,true)) else (none))) else (some (([]:List Int),([]:List Int),false))))=some (r1,r2,r3):=h
 clear h
 replace H:=Option.bind_eq_some_iff.mp H
 obtain ⟨t103,A20,H⟩:=H
 replace H:(if t103=true then ((impl_Board_covers.f k a0_0 a0_1 l0_2).bind fun t104=>(if 0 < (t104.length:Int) then (some ((rd_T37 t104 0).f0,(rd_T37 t104 0).f1,true)) else (none))) else (some (([]:List Int),([]:List Int),false)))=some (r1,r2,r3):=H
 have A2:=Aside0.mk A20
 clear A20
 by_cases c3:t103=true
 ·
  subst c3
  have H1:((impl_Board_covers.f k a0_0 a0_1 l0_2).bind fun t104=>(if 0 < (t104.length:Int) then (some ((rd_T37 t104 0).f0,(rd_T37 t104 0).f1,true)) else (none)))=some (r1,r2,r3):=by rw [if_pos rfl] at H;exact H
  clear H
  have H:=H1
  clear H1
  replace H:=Option.bind_eq_some_iff.mp H
  obtain ⟨t104,A40,H⟩:=H
  replace H:(if 0 < (t104.length:Int) then (some ((rd_T37 t104 0).f0,(rd_T37 t104 0).f1,true)) else (none))=some (r1,r2,r3):=H
  have A4:=Aside0.mk A40
  clear A40
  by_cases c5:0 < (t104.length:Int)
  ·
   rw [if_pos c5] at H
   have c5b0:decide (0 < (t104.length:Int))=true:=decide_eq_true c5
   have c5b1:decide (0 < t104.length)=true:=decide_eq_true (by omega)
   clear c5
   simp only [Option.some.injEq,Prod.mk.injEq] at H
   obtain ⟨rfl,rfl,rfl⟩:=H
   go_enter Tryz.func12,Tryz.ntmps12
   go_wp2_with (first|((with_reducible refine gate_dst (N:=1) rfl ?_);refine box_event ?hg (N:=1) ?hd (cs:=#[.int .i64 a0_0,.int .i64 a0_1,.slice A0_2 l0_2.length c0_2]) (t:=26) ?hr ?_;(case hd=>rfl);(case hg=>rfl);(case hr=>first|(go_simp;done)|(go_simp;rfl));intro gb101 hg w6 hbox hb;have n0_:=Aside0.mk (below_step (by repeat (first|(with_reducible first|exact HB.out|apply below_alloc|apply pw_below_drewN|apply below_drew1)|exact HB.out)) hb);have n1_:=Aside0.mk (hbox);have n2_:=Aside0.mk ((by rw [hg];exact (below_size (by repeat (first|(with_reducible first|exact HB.out|apply below_alloc|apply pw_below_drewN|apply below_drew1)|exact HB.out))):w.heap.size≤gb101));have n3_:=Aside0.mk ((by rw [hg];exact (below_size (by repeat (first|(with_reducible first|exact HB.out|apply below_alloc|apply pw_below_drewN|apply below_drew1)|exact HB.out))):w.heap.size≤gb101));clear HB;have HB:=n0_;have BK101:=n1_;have GW101:=n2_;have GE101:=n3_;clear n0_ n1_ n2_ n3_;clear hb hbox hg)|((with_reducible refine gate_dst (N:=2) rfl ?_);refine box_event ?hg (N:=2) ?hd (cs:=#[.slice none 0 0,.slice none 0 0]) (t:=37) ?hr ?_;(case hd=>rfl);(case hg=>rfl);(case hr=>first|(go_simp;done)|(go_simp;rfl));intro gb102 hg w7 hbox hb;have n0_:=Aside0.mk (blk_below (g:=gb101) (o:=.cells #[.int .i64 a0_0,.int .i64 a0_1,.slice A0_2 l0_2.length c0_2] 26 (0,0)) (by (with_reducible repeat (first|refine blk_drewN ?_ _|refine blk_drew ?_|refine blk_alloc ?_ _));exact BK101.out) hb);have n1_:=Aside0.mk (below_step (by repeat (first|(with_reducible first|exact HB.out|apply below_alloc|apply pw_below_drewN|apply below_drew1|refine below_set ?_ GE101.out)|exact HB.out)) hb);have n2_:=Aside0.mk (hbox);have n3_:=Aside0.mk ((by rw [hg];exact (below_size (by repeat (first|(with_reducible first|exact HB.out|apply below_alloc|apply pw_below_drewN|apply below_drew1|refine below_set ?_ GE101.out)|exact HB.out))):w.heap.size≤gb102));have n4_:=Aside0.mk ((by rw [hg];exact (below_size (by repeat (first|(with_reducible first|exact HB.out|apply below_alloc|apply pw_below_drewN|apply below_drew1|refine below_set ?_ GE101.out)|exact HB.out))):w.heap.size≤gb102));have n5_:=Aside0.mk ((by rw [hg];exact Nat.ne_of_lt (blk_lt (g:=gb101) (o:=.cells #[.int .i64 a0_0,.int .i64 a0_1,.slice A0_2 l0_2.length c0_2] 26 (0,0)) (by (with_reducible repeat (first|refine blk_drewN ?_ _|refine blk_drew ?_|refine blk_alloc ?_ _));exact BK101.out)):gb101 ≠ gb102));have n6_:=Aside0.mk ((by rw [hg];exact Nat.ne_of_gt (blk_lt (g:=gb101) (o:=.cells #[.int .i64 a0_0,.int .i64 a0_1,.slice A0_2 l0_2.length c0_2] 26 (0,0)) (by (with_reducible repeat (first|refine blk_drewN ?_ _|refine blk_drew ?_|refine blk_alloc ?_ _));exact BK101.out)):gb102 ≠ gb101));clear BK101;clear HB;have BK101:=n0_;have HB:=n1_;have BK102:=n2_;have GW102:=n3_;have GE102:=n4_;have NB101_102:=n5_;have NB102_101:=n6_;clear n0_ n1_ n2_ n3_ n4_ n5_ n6_;clear hb hbox hg;have hnb8:=NB101_102.out;have hnc8:=NB102_101.out;have hcz9_0:w7.cell? ⟨gb101,0,none⟩=some (.int .i64 a0_0):=(blk_cell BK101.out 0).trans rfl;have hcz9_1:w7.cell? ⟨gb101,1,none⟩=some (.int .i64 a0_1):=(blk_cell BK101.out 1).trans rfl;have hcz9_2:w7.cell? ⟨gb101,2,none⟩=some (.slice A0_2 l0_2.length c0_2):=(blk_cell BK101.out 2).trans rfl;have hfz9_0:=blk_frozen BK101.out 0;have hfz9_1:=blk_frozen BK101.out 1;have hfz9_2:=blk_frozen BK101.out 2)|((with_reducible refine gate_callee (f:=17) rfl ?_);refine goesL_ (some 5) rfl rfl Tryz.func17 (by kernel_rfl) rfl #[.agg #[.int .i64 a0_0,.int .i64 a0_1,.slice A0_2 l0_2.length c0_2]] rfl (by (try simp only [List.map_toArray,List.map_cons,List.map_nil]);first|done|rfl|(simp only [List.length_drop,List.length_take];rfl)) ?_;(with_reducible refine (impl_IsBoard.calls a0_0 a0_1 _ _ l0_2 true _ ?side1 ?side2 A2.out).mono ?_);(case side1=>repeat (first|exact (Kd.C_below HR0_2.out HB.out)|(with_reducible refine Kd.C_alloc ?_ _)|(with_reducible refine Kd.C_drewN ?_ _)|(with_reducible refine Kd.C_drew ?_)));(case side2=>exact HC0_2.out);rintro e w10 ⟨rfl,hb⟩;refine ⟨_,rfl,?_⟩;have n0_:=Aside0.mk (blk_below (g:=gb101) (o:=.cells #[.int .i64 a0_0,.int .i64 a0_1,.slice A0_2 l0_2.length c0_2] 26 (0,0)) (by (with_reducible repeat (first|refine blk_drewN ?_ _|refine blk_drew ?_|refine blk_alloc ?_ _));exact BK101.out) hb);have n1_:=Aside0.mk (blk_below (g:=gb102) (o:=.cells #[.slice none 0 0,.slice none 0 0] 37 (0,0)) (by (with_reducible repeat (first|refine blk_drewN ?_ _|refine blk_drew ?_|refine blk_alloc ?_ _));exact BK102.out) hb);have n2_:=Aside0.mk (below_step (by repeat (first|(with_reducible first|exact HB.out|apply below_alloc|apply pw_below_drewN|apply below_drew1|refine below_set ?_ GE101.out|refine below_set ?_ GE102.out)|exact HB.out)) hb);clear BK101;clear BK102;clear HB;have BK101:=n0_;have BK102:=n1_;have HB:=n2_;clear n0_ n1_ n2_;(try clear hb);(try clear hb2);(try clear hk);(try clear hi);have hcz11_0:w10.cell? ⟨gb101,0,none⟩=some (.int .i64 a0_0):=(blk_cell BK101.out 0).trans rfl;have hcz11_1:w10.cell? ⟨gb101,1,none⟩=some (.int .i64 a0_1):=(blk_cell BK101.out 1).trans rfl;have hcz11_2:w10.cell? ⟨gb101,2,none⟩=some (.slice A0_2 l0_2.length c0_2):=(blk_cell BK101.out 2).trans rfl;have hfz11_0:=blk_frozen BK101.out 0;have hfz11_1:=blk_frozen BK101.out 1;have hfz11_2:=blk_frozen BK101.out 2)|((with_reducible refine gate_callee (f:=29) rfl ?_);refine goesL_ (some 9) rfl rfl Tryz.func29 (by kernel_rfl) rfl #[.agg #[.int .i64 a0_0,.int .i64 a0_1,.slice A0_2 l0_2.length c0_2]] rfl (by (try simp only [List.map_toArray,List.map_cons,List.map_nil]);first|done|rfl|(simp only [List.length_drop,List.length_take];rfl)) ?_;(with_reducible refine (impl_Board_covers.calls k a0_0 a0_1 _ _ l0_2 t104 _ ?side1 ?side2 A4.out).mono ?_);(case side1=>repeat (first|exact (Kd.C_below HR0_2.out HB.out)|(with_reducible refine Kd.C_alloc ?_ _)|(with_reducible refine Kd.C_drewN ?_ _)|(with_reducible refine Kd.C_drew ?_)));(case side2=>exact HC0_2.out);rintro e w12 ⟨v105,rfl,ho0,hb⟩;replace ho0:=Kd.N_mono (Kd.S_N (Kd.S_bound ho0)) (fun _ h_=>h_.2.1);refine ⟨_,rfl,?_⟩;have n0_:=Aside0.mk (Kd.N_lower (Kd.N_mono (ok':=fun k_=>(w.heap.size≤k_)∧k_ ≠ gb101∧k_ ≠ gb102) ho0 (fun k_ hk_=>⟨(Nat.le_trans (below_size (by repeat (first|(with_reducible first|exact HB.out|apply below_alloc|apply pw_below_drewN|apply below_drew1|refine below_set ?_ GE101.out|refine below_set ?_ GE102.out)|exact HB.out))) hk_),(Kd.freshB (g:=gb101) (o:=.cells #[.int .i64 a0_0,.int .i64 a0_1,.slice A0_2 l0_2.length c0_2] 26 (0,0)) (by (with_reducible repeat (first|refine blk_drewN ?_ _|refine blk_drew ?_|refine blk_alloc ?_ _));exact BK101.out) k_ hk_),(Kd.freshB (g:=gb102) (o:=.cells #[.slice none 0 0,.slice none 0 0] 37 (0,0)) (by (with_reducible repeat (first|refine blk_drewN ?_ _|refine blk_drew ?_|refine blk_alloc ?_ _));exact BK102.out) k_ hk_)⟩)) (below_size (by repeat (first|(with_reducible first|exact HB.out|apply below_alloc|apply pw_below_drewN|apply below_drew1|refine below_set ?_ GE101.out|refine below_set ?_ GE102.out)|exact HB.out))));have n1_:=Aside0.mk (blk_below (g:=gb101) (o:=.cells #[.int .i64 a0_0,.int .i64 a0_1,.slice A0_2 l0_2.length c0_2] 26 (0,0)) (by (with_reducible repeat (first|refine blk_drewN ?_ _|refine blk_drew ?_|refine blk_alloc ?_ _));exact BK101.out) hb);have n2_:=Aside0.mk (blk_below (g:=gb102) (o:=.cells #[.slice none 0 0,.slice none 0 0] 37 (0,0)) (by (with_reducible repeat (first|refine blk_drewN ?_ _|refine blk_drew ?_|refine blk_alloc ?_ _));exact BK102.out) hb);have n3_:=Aside0.mk (below_step (by repeat (first|(with_reducible first|exact HB.out|apply below_alloc|apply pw_below_drewN|apply below_drew1|refine below_set ?_ GE101.out|refine below_set ?_ GE102.out)|exact HB.out)) hb);clear BK101;clear BK102;clear HB;have HO106:=n0_;have BK101:=n1_;have BK102:=n2_;have HB:=n3_;clear n0_ n1_ n2_ n3_;(try clear hb);(try clear hb2);(try clear hk);(try clear hi);(try clear ho0);obtain ⟨Ao13,co13,eo13⟩:=Kd.N_slice HO106.out;subst eo13;have p107:0≤(0:Int):=(by omega);have q107:0 < (t104.length:Int):=of_decide_eq_true (by first|(with_reducible assumption)|assumption);obtain ⟨ad107,A107_0,c107_0,A107_1,c107_1,e107,hx107_0,hx107_1,hl107_0,hi107_0,hl107_1,hi107_1⟩:=at_T37 (Kd.N_reads' HO106.out).2.2 0 p107 q107;cases e107;obtain ⟨ce107,hce107,hMe107,hcc107⟩:=Kd.N_get HO106.out z37 0 p107 (by first|exact q107|exact of_decide_eq_true (by first|(with_reducible assumption)|assumption)|(have e_:=(Kd.N_reads' HO106.out).1;omega));obtain ⟨ua107_0,uc107_0,ua107_1,uc107_1,rfl,ul107_0,ge107_0,ul107_1,ge107_1⟩:=k37_openF hMe107;have hv107_0:=hcc107 0 _ rfl;rw [Nat.add_zero] at hv107_0;replace hv107_0:=Option.some.inj (hv107_0.symm.trans hx107_0);injection hv107_0 with hva_ hvn_ hvc_;rw [hva_] at ge107_0;rw [hvc_] at ul107_0;have HL107_0:=Aside0.mk (show Kd.V (Kd.int .i64) 3 _ w.heap.size _ _ ((rd_T37 t104 0).f0) from Kd.V_mk ul107_0 ge107_0);clear hva_ hvn_ hvc_ ge107_0 ul107_0;have hv107_1:=hcc107 1 _ rfl;rw [add_field _ _ 1 (by omega)] at hv107_1;replace hv107_1:=Option.some.inj (hv107_1.symm.trans hx107_1);injection hv107_1 with hva_ hvn_ hvc_;rw [hva_] at ge107_1;rw [hvc_] at ul107_1;have HL107_1:=Aside0.mk (show Kd.V (Kd.int .i64) 3 _ w.heap.size _ _ ((rd_T37 t104 0).f1) from Kd.V_mk ul107_1 ge107_1);clear hva_ hvn_ hvc_ ge107_1 ul107_1;clear hcc107 hce107;have qi107:(0 < t104.length)=True:=eq_true (by omega);(try rw [show ((0:Int)).toNat=0 from rfl] at hx107_0);(try rw [show 0 * 2=0 from rfl] at hx107_0);(try rw [Addr.add_zero'] at hx107_0);(try rw [show ((0:Int)).toNat=0 from rfl] at hx107_1);(try rw [show 0 * 2=0 from rfl] at hx107_1);(try rw [Addr.add_zero'] at hx107_1);have HR107_0:=Aside0.mk hi107_0;have HC107_0:=Aside0.mk hl107_0;clear hi107_0 hl107_0;have HR107_1:=Aside0.mk hi107_1;have HC107_1:=Aside0.mk hl107_1;clear hi107_1 hl107_1;replace p107:=eq_true p107;replace q107:=eq_true q107;have hcz14_0:w12.cell? ⟨gb102,0,none⟩=some (.slice none 0 0):=(blk_cell BK102.out 0).trans rfl;have hcz14_1:w12.cell? ⟨gb102,1,none⟩=some (.slice none 0 0):=(blk_cell BK102.out 1).trans rfl;have hfz14_0:=blk_frozen BK102.out 0;have hfz14_1:=blk_frozen BK102.out 1))
   refine bodyPost_ret (results_ct rfl _ _ gb102 37 #[.slice A107_0 ((rd_T37 t104 0).f0).length c107_0,.slice A107_1 ((rd_T37 t104 0).f1).length c107_1] (0,0) _ rfl (by (with_reducible repeat (first|refine blk_drewN ?_ _|refine blk_drew ?_|refine blk_alloc ?_ _));refine blk_put (cs:=#[.slice A107_0 ((rd_T37 t104 0).f0).length c107_0,.slice none 0 0]) ?_ 1 _ rfl;(with_reducible repeat (first|refine blk_drewN ?_ _|refine blk_drew ?_|refine blk_alloc ?_ _));refine blk_put (cs:=#[.slice none 0 0,.slice none 0 0]) ?_ 0 _ rfl;(with_reducible repeat (first|refine blk_drewN ?_ _|refine blk_drew ?_|refine blk_alloc ?_ _));exact BK102.out) Tryz.underlying37 rfl (by kernel_rfl)) rfl ?_
   exact ⟨_,_,by first|rfl|(simp [errW_none,errW_some] <;> rfl)|(simp [*,errW_none,errW_some] <;> rfl),by (with_reducible repeat (first|apply Kd.V_alloc|apply Kd.V_drewN|apply Kd.V_drew));exact Kd.V_mono (Kd.V_far (p:=⟨gb102,1,none⟩) (Kd.V_far (p:=⟨gb102,0,none⟩) (Kd.V_mono HL107_0.out (fun k_ hk=>(⟨hk,hk.1.2.2⟩:_∧k_ ≠ gb102))) (fun _ hk=>hk.2) (.slice A107_0 ((rd_T37 t104 0).f0).length c107_0)) (fun _ hk=>hk.2) (.slice A107_1 ((rd_T37 t104 0).f1).length c107_1)) (fun _ hk=>hk.1.1.1),by (with_reducible repeat (first|apply Kd.V_alloc|apply Kd.V_drewN|apply Kd.V_drew));exact Kd.V_mono (Kd.V_far (p:=⟨gb102,1,none⟩) (Kd.V_far (p:=⟨gb102,0,none⟩) (Kd.V_mono HL107_1.out (fun k_ hk=>(⟨hk,hk.1.2.2⟩:_∧k_ ≠ gb102))) (fun _ hk=>hk.2) (.slice A107_0 ((rd_T37 t104 0).f0).length c107_0)) (fun _ hk=>hk.2) (.slice A107_1 ((rd_T37 t104 0).f1).length c107_1)) (fun _ hk=>hk.1.1.1),by repeat (first|(with_reducible first|exact HB.out|apply below_alloc|apply pw_below_drewN|apply below_drew1|refine below_set ?_ GE101.out|refine below_set ?_ GE102.out)|exact HB.out)⟩
  ·
   rw [if_neg c5] at H
   exact absurd H (by simp)
 ·
  replace c3:=Bool.eq_false_iff.mpr c3
  subst c3
  have H1:(some (([]:List Int),([]:List Int),false))=some (r1,r2,r3):=by rw [if_neg (show ¬ (false=true) by decide)] at H;exact H
  clear H
  have H:=H1
  clear H1
  simp only [Option.some.injEq,Prod.mk.injEq] at H
  obtain ⟨rfl,rfl,rfl⟩:=H
  go_enter Tryz.func12,Tryz.ntmps12
  go_wp2_with (first|((with_reducible refine gate_dst (N:=1) rfl ?_);refine box_event ?hg (N:=1) ?hd (cs:=#[.int .i64 a0_0,.int .i64 a0_1,.slice A0_2 l0_2.length c0_2]) (t:=26) ?hr ?_;(case hd=>rfl);(case hg=>rfl);(case hr=>first|(go_simp;done)|(go_simp;rfl));intro gb101 hg w15 hbox hb;have n0_:=Aside0.mk (below_step (by repeat (first|(with_reducible first|exact HB.out|apply below_alloc|apply pw_below_drewN|apply below_drew1)|exact HB.out)) hb);have n1_:=Aside0.mk (hbox);have n2_:=Aside0.mk ((by rw [hg];exact (below_size (by repeat (first|(with_reducible first|exact HB.out|apply below_alloc|apply pw_below_drewN|apply below_drew1)|exact HB.out))):w.heap.size≤gb101));have n3_:=Aside0.mk ((by rw [hg];exact (below_size (by repeat (first|(with_reducible first|exact HB.out|apply below_alloc|apply pw_below_drewN|apply below_drew1)|exact HB.out))):w.heap.size≤gb101));clear HB;have HB:=n0_;have BK101:=n1_;have GW101:=n2_;have GE101:=n3_;clear n0_ n1_ n2_ n3_;clear hb hbox hg)|((with_reducible refine gate_dst (N:=2) rfl ?_);refine box_event ?hg (N:=2) ?hd (cs:=#[.slice none 0 0,.slice none 0 0]) (t:=37) ?hr ?_;(case hd=>rfl);(case hg=>rfl);(case hr=>first|(go_simp;done)|(go_simp;rfl));intro gb102 hg w16 hbox hb;have n0_:=Aside0.mk (blk_below (g:=gb101) (o:=.cells #[.int .i64 a0_0,.int .i64 a0_1,.slice A0_2 l0_2.length c0_2] 26 (0,0)) (by (with_reducible repeat (first|refine blk_drewN ?_ _|refine blk_drew ?_|refine blk_alloc ?_ _));exact BK101.out) hb);have n1_:=Aside0.mk (below_step (by repeat (first|(with_reducible first|exact HB.out|apply below_alloc|apply pw_below_drewN|apply below_drew1|refine below_set ?_ GE101.out)|exact HB.out)) hb);have n2_:=Aside0.mk (hbox);have n3_:=Aside0.mk ((by rw [hg];exact (below_size (by repeat (first|(with_reducible first|exact HB.out|apply below_alloc|apply pw_below_drewN|apply below_drew1|refine below_set ?_ GE101.out)|exact HB.out))):w.heap.size≤gb102));have n4_:=Aside0.mk ((by rw [hg];exact (below_size (by repeat (first|(with_reducible first|exact HB.out|apply below_alloc|apply pw_below_drewN|apply below_drew1|refine below_set ?_ GE101.out)|exact HB.out))):w.heap.size≤gb102));have n5_:=Aside0.mk ((by rw [hg];exact Nat.ne_of_lt (blk_lt (g:=gb101) (o:=.cells #[.int .i64 a0_0,.int .i64 a0_1,.slice A0_2 l0_2.length c0_2] 26 (0,0)) (by (with_reducible repeat (first|refine blk_drewN ?_ _|refine blk_drew ?_|refine blk_alloc ?_ _));exact BK101.out)):gb101 ≠ gb102));have n6_:=Aside0.mk ((by rw [hg];exact Nat.ne_of_gt (blk_lt (g:=gb101) (o:=.cells #[.int .i64 a0_0,.int .i64 a0_1,.slice A0_2 l0_2.length c0_2] 26 (0,0)) (by (with_reducible repeat (first|refine blk_drewN ?_ _|refine blk_drew ?_|refine blk_alloc ?_ _));exact BK101.out)):gb102 ≠ gb101));clear BK101;clear HB;have BK101:=n0_;have HB:=n1_;have BK102:=n2_;have GW102:=n3_;have GE102:=n4_;have NB101_102:=n5_;have NB102_101:=n6_;clear n0_ n1_ n2_ n3_ n4_ n5_ n6_;clear hb hbox hg;have hnb17:=NB101_102.out;have hnc17:=NB102_101.out;have hcz18_0:w16.cell? ⟨gb101,0,none⟩=some (.int .i64 a0_0):=(blk_cell BK101.out 0).trans rfl;have hcz18_1:w16.cell? ⟨gb101,1,none⟩=some (.int .i64 a0_1):=(blk_cell BK101.out 1).trans rfl;have hcz18_2:w16.cell? ⟨gb101,2,none⟩=some (.slice A0_2 l0_2.length c0_2):=(blk_cell BK101.out 2).trans rfl;have hfz18_0:=blk_frozen BK101.out 0;have hfz18_1:=blk_frozen BK101.out 1;have hfz18_2:=blk_frozen BK101.out 2)|((with_reducible refine gate_callee (f:=17) rfl ?_);refine goesL_ (some 5) rfl rfl Tryz.func17 (by kernel_rfl) rfl #[.agg #[.int .i64 a0_0,.int .i64 a0_1,.slice A0_2 l0_2.length c0_2]] rfl (by (try simp only [List.map_toArray,List.map_cons,List.map_nil]);first|done|rfl|(simp only [List.length_drop,List.length_take];rfl)) ?_;(with_reducible refine (impl_IsBoard.calls a0_0 a0_1 _ _ l0_2 false _ ?side1 ?side2 A2.out).mono ?_);(case side1=>repeat (first|exact (Kd.C_below HR0_2.out HB.out)|(with_reducible refine Kd.C_alloc ?_ _)|(with_reducible refine Kd.C_drewN ?_ _)|(with_reducible refine Kd.C_drew ?_)));(case side2=>exact HC0_2.out);rintro e w19 ⟨rfl,hb⟩;refine ⟨_,rfl,?_⟩;have n0_:=Aside0.mk (blk_below (g:=gb101) (o:=.cells #[.int .i64 a0_0,.int .i64 a0_1,.slice A0_2 l0_2.length c0_2] 26 (0,0)) (by (with_reducible repeat (first|refine blk_drewN ?_ _|refine blk_drew ?_|refine blk_alloc ?_ _));exact BK101.out) hb);have n1_:=Aside0.mk (blk_below (g:=gb102) (o:=.cells #[.slice none 0 0,.slice none 0 0] 37 (0,0)) (by (with_reducible repeat (first|refine blk_drewN ?_ _|refine blk_drew ?_|refine blk_alloc ?_ _));exact BK102.out) hb);have n2_:=Aside0.mk (below_step (by repeat (first|(with_reducible first|exact HB.out|apply below_alloc|apply pw_below_drewN|apply below_drew1|refine below_set ?_ GE101.out|refine below_set ?_ GE102.out)|exact HB.out)) hb);clear BK101;clear BK102;clear HB;have BK101:=n0_;have BK102:=n1_;have HB:=n2_;clear n0_ n1_ n2_;(try clear hb);(try clear hb2);(try clear hk);(try clear hi);have hcz20_0:w19.cell? ⟨gb102,0,none⟩=some (.slice none 0 0):=(blk_cell BK102.out 0).trans rfl;have hcz20_1:w19.cell? ⟨gb102,1,none⟩=some (.slice none 0 0):=(blk_cell BK102.out 1).trans rfl;have hfz20_0:=blk_frozen BK102.out 0;have hfz20_1:=blk_frozen BK102.out 1))
  refine bodyPost_ret (results_ct rfl _ _ gb102 37 #[.slice none 0 0,.slice none 0 0] (0,0) _ rfl (by (with_reducible repeat (first|refine blk_drewN ?_ _|refine blk_drew ?_|refine blk_alloc ?_ _));refine blk_put (cs:=#[.slice none 0 0,.slice none 0 0]) ?_ 1 _ rfl;(with_reducible repeat (first|refine blk_drewN ?_ _|refine blk_drew ?_|refine blk_alloc ?_ _));refine blk_put (cs:=#[.slice none 0 0,.slice none 0 0]) ?_ 0 _ rfl;(with_reducible repeat (first|refine blk_drewN ?_ _|refine blk_drew ?_|refine blk_alloc ?_ _));exact BK102.out) Tryz.underlying37 rfl (by kernel_rfl)) rfl ?_
  exact ⟨.slice none 0 0,.slice none 0 0,by first|rfl|(simp [errW_none,errW_some] <;> rfl)|(simp [*,errW_none,errW_some] <;> rfl),Kd.V_nil _ _ _ _ _,Kd.V_nil _ _ _ _ _,by repeat (first|(with_reducible first|exact HB.out|apply below_alloc|apply pw_below_drewN|apply below_drew1|refine below_set ?_ GE101.out|refine below_set ?_ GE102.out)|exact HB.out)⟩
end Go.Proofs.YtpjjeeabpaojnaaGreat.Q
end
section
namespace Go.Proofs.YtpjjeeabpaojnaaGreat.Pure
set_option linter.unusedVariables false
open Go.RowKit Go.Proofs.YtpjjeeabpaojnaaGreat.Q Go.Proofs.YtpjjeeabpaojnaaGreatW.PrintWords Go.Proofs.YtpjjeeabpaojnaaGreatW.PrintLast Go.Proofs.YtpjjeeabpaojnaaGreatW.PrintMore
open Go.Proofs.YtpjjeeabpaojnaaGreatL Go.Proofs.YtpjjeeabpaojnaaGreat.LawK Go.Proofs.YtpjjeeabpaojnaaGreat.BoardK Go.Proofs.YtpjjeeabpaojnaaGreat.LinesK Go.Proofs.YtpjjeeabpaojnaaGreat.SortM Go.Proofs.YtpjjeeabpaojnaaGreat.RowSetsK Go.Proofs.YtpjjeeabpaojnaaGreat.CoversK
namespace LeastCoverK
def ans (r c:Int) (l:List Int):List Int × List Int × Bool:=if isBoardB r c l=true then ((rd_T37 (covs l r.toNat c.toNat) 0).f0,(rd_T37 (covs l r.toNat c.toNat) 0).f1,true) else ([],[],false)
theorem covs_short (l:List Int) (R C:Nat) (i:Int):(rd_T37 (covs l R C) i).f0.length≤6∧(rd_T37 (covs l R C) i).f1.length≤6:=by
 unfold rd_T37
 by_cases h:i.toNat < (covs l R C).length
 ·
  rw [gD_lt _ _ h]
  obtain ⟨m,_,hm⟩:=List.mem_map.1 (List.getElem_mem h)
  rw [← hm]
  exact ⟨listM_len _,listM_len _⟩
 ·
  rw [gD_ge _ _ (by omega)]
  exact ⟨by simp [z37],by simp [z37]⟩
theorem impl_answer {r c:Int} {l:List Int}:Ev (fun k=>impl_LeastCover.f k r c l) (ans r c l):=by
 unfold impl_LeastCover.f ans
 refine Ev.congr (fun k=>by rw [impl_IsBoard.f,Option.bind_some]) ?_
 by_cases hb:isBoardB r c l=true
 ·
  obtain ⟨R,C,rfl,rfl,hlR,h1R,hR,h1C,hC,hbits⟩:=board_of hb
  refine Ev.congr (fun k=>by rw [if_pos hb]) ?_
  rw [if_pos hb,Int.toNat_natCast,Int.toNat_natCast]
  have hp:=covs_pos hlR hR hC hbits
  refine Ev.bind (covers hlR hR hC hbits) ?_
  exact Ev.congr (fun k=>by rw [if_pos (by omega)]) (Ev.now _)
 ·
  rw [if_neg hb]
  exact Ev.congr (fun k=>by rw [if_neg hb]) (Ev.now _)
theorem spec_answer {r c:Int} {l:List Int} (hl:l.length≤1048576):Ev (fun k=>spec_LeastCover.f k r c l) (ans r c l):=by
 unfold spec_LeastCover.f ans
 refine Ev.bind (boGood r c (by omega)) ?_
 by_cases hb:isBoardB r c l=true
 ·
  obtain ⟨R,C,rfl,rfl,hlR,h1R,hR,h1C,hC,hbits⟩:=board_of hb
  refine Ev.congr (fun k=>by rw [if_pos hb]) ?_
  rw [if_pos hb,Int.toNat_natCast,Int.toNat_natCast]
  have hp:=covs_pos hlR hR hC hbits
  refine Ev.bind (lcCovers hlR hR hC hbits) ?_
  exact Ev.congr (fun k=>by rw [if_pos (by omega)]) (Ev.now _)
 ·
  rw [if_neg hb]
  exact Ev.congr (fun k=>by rw [if_neg hb]) (Ev.now _)
end LeastCoverK
open LeastCoverK
end Go.Proofs.YtpjjeeabpaojnaaGreat.Pure
end
section
namespace Go.Proofs.YtpjjeeabpaojnaaGreat.Q
open Go.RowKit Go.Proofs.YtpjjeeabpaojnaaGreatW.PrintWords Go.Proofs.YtpjjeeabpaojnaaGreatW.PrintLast Go.Proofs.YtpjjeeabpaojnaaGreatW.PrintMore
attribute [local go_sem] max2_int min2_int max_two min_two max_three min_three max_four min_four   -- for this text's walks alone
set_option linter.unusedVariables false
set_option linter.unusedSimpArgs false
def impl_AllCovers.f (k:Nat) (a0_0:Int) (a0_1:Int) (l0_2:List Int):Option ((List (S37)) × Bool):=(impl_IsBoard.f a0_0 a0_1 l0_2).bind fun t102=>(if t102=true then ((impl_Board_covers.f k a0_0 a0_1 l0_2).bind fun t103=>(some (t103,true))) else (some (([]:List (S37)),false)))
set_option maxHeartbeats 8000000 in
set_option maxRecDepth 100000 in
theorem impl_AllCovers.calls (k:Nat) (a0_0:Int) (a0_1:Int) (A0_2:Option Addr) (c0_2:Nat) (l0_2:List Int) (r1:List (S37)) (r2:Bool) (w:World) (hr0_2:Kd.C (Kd.int .i64) w A0_2 l0_2.length l0_2) (hc0_2:l0_2.length≤c0_2) (h:impl_AllCovers.f k a0_0 a0_1 l0_2=some (r1,r2)) :
  Calls Tryz.prog 10 #[.agg #[.int .i64 a0_0,.int .i64 a0_1,.slice A0_2 l0_2.length c0_2]] w fun e w'=>∃ v0_:Value,e=.returned (.tuple #[v0_,.bool r2])∧Kd.S k37 37 w' w.heap.size (fun _=>True) v0_ r1∧Below w.heap.size w w':=by
 have hu26:=Tryz.underlying26;have HR0_2:=za hr0_2;have HC0_2:=za hc0_2;clear hr0_2 hc0_2;have HB:=za (Below.refl w.heap.size w);have H:((impl_IsBoard.f a0_0 a0_1 l0_2).bind fun t102=>(if t102=true then ((impl_Board_covers.f k a0_0 a0_1 l0_2).bind fun t103=>(some (t103,true))) else (some (([]:List (S37)),false))))=some (r1,r2):=h;clear h;obtain ⟨t102,A2,H⟩:=bindAside H;(try dsimp only at H);by_cases c3:t102=true
 · subst c3;(have H1:((impl_Board_covers.f k a0_0 a0_1 l0_2).bind fun t103=>(some (t103,true)))=some (r1,r2):=by rw [if_pos rfl] at H;exact H);clear H;have H:=H1;clear H1;obtain ⟨t103,A4,H⟩:=bindAside H;(try dsimp only at H);simp only [Option.some.injEq,Prod.mk.injEq] at H;obtain ⟨rfl,rfl⟩:=H;(go_enter Tryz.func10,Tryz.ntmps10);(go_wp2_with (first|((with_reducible refine zv (N:=1) rfl ?_);refine zw ?hg (N:=1) ?hd (cs:=#[.int .i64 a0_0,.int .i64 a0_1,.slice A0_2 l0_2.length c0_2]) (t:=26) ?hr ?_;(case hd=>rfl);(case hg=>rfl);(case hr=>first|(go_simp;done)|(go_simp;rfl));intro gb101 hg w5 hbox hb;have BK101:=za (hbox);have GW101:=za ((by rw [hg];exact (zi (by apply_rules only [HB.out,zc,zd,zb])):w.heap.size≤gb101));have GE101:=za ((by rw [hg];exact (zi (by apply_rules only [HB.out,zc,zd,zb])):w.heap.size≤gb101));replace HB:=za (zl (by apply_rules only [HB.out,zc,zd,zb]) hb);clear hb hbox hg;have hcz6_0:w5.cell? ⟨gb101,0,none⟩=some (.int .i64 a0_0):=(ze BK101.out 0).trans rfl;have hcz6_1:w5.cell? ⟨gb101,1,none⟩=some (.int .i64 a0_1):=(ze BK101.out 1).trans rfl;have hcz6_2:w5.cell? ⟨gb101,2,none⟩=some (.slice A0_2 l0_2.length c0_2):=(ze BK101.out 2).trans rfl;have hfz6_0:=zf BK101.out 0;have hfz6_1:=zf BK101.out 1;have hfz6_2:=zf BK101.out 2)|((with_reducible refine zu (f:=17) rfl ?_);refine goesL_ (some 5) rfl rfl Tryz.func17 (by kernel_rfl) rfl #[.agg #[.int .i64 a0_0,.int .i64 a0_1,.slice A0_2 l0_2.length c0_2]] rfl (by first|rfl|simp only [z3_,z4_,z5_];try rfl) ?_;(with_reducible refine (impl_IsBoard.calls a0_0 a0_1 _ _ l0_2 true _ ?side1 ?side2 A2.out).mono ?_);(case side1=>apply_rules only [zq HR0_2.out HB.out,zm,zn,zo]);(case side2=>exact HC0_2.out);rintro e w7 ⟨rfl,hb⟩;refine ⟨_,rfl,?_⟩;replace BK101:=za (zp (g:=gb101) (o:=.cells #[.int .i64 a0_0,.int .i64 a0_1,.slice A0_2 l0_2.length c0_2] 26 (0,0)) (by apply_rules only [BK101.out,zj,zh,zk]) hb);replace HB:=za (zl (by apply_rules only [HB.out,zc,zd,zb,zg,GE101.out]) hb);have hcz8_0:w7.cell? ⟨gb101,0,none⟩=some (.int .i64 a0_0):=(ze BK101.out 0).trans rfl;have hcz8_1:w7.cell? ⟨gb101,1,none⟩=some (.int .i64 a0_1):=(ze BK101.out 1).trans rfl;have hcz8_2:w7.cell? ⟨gb101,2,none⟩=some (.slice A0_2 l0_2.length c0_2):=(ze BK101.out 2).trans rfl;have hfz8_0:=zf BK101.out 0;have hfz8_1:=zf BK101.out 1;have hfz8_2:=zf BK101.out 2)|((with_reducible refine zu (f:=29) rfl ?_);refine goesL_ (some 8) rfl rfl Tryz.func29 (by kernel_rfl) rfl #[.agg #[.int .i64 a0_0,.int .i64 a0_1,.slice A0_2 l0_2.length c0_2]] rfl (by first|rfl|simp only [z3_,z4_,z5_];try rfl) ?_;(with_reducible refine (impl_Board_covers.calls k a0_0 a0_1 _ _ l0_2 t103 _ ?side1 ?side2 A4.out).mono ?_);(case side1=>apply_rules only [zq HR0_2.out HB.out,zm,zn,zo]);(case side2=>exact HC0_2.out);rintro e w9 ⟨v104,rfl,ho0,hb⟩;refine ⟨_,rfl,?_⟩;have HO105:=za (Kd.S_lower ho0 (zi (by apply_rules only [HB.out,zc,zd,zb,zg,GE101.out])));replace BK101:=za (zp (g:=gb101) (o:=.cells #[.int .i64 a0_0,.int .i64 a0_1,.slice A0_2 l0_2.length c0_2] 26 (0,0)) (by apply_rules only [BK101.out,zj,zh,zk]) hb);replace HB:=za (zl (by apply_rules only [HB.out,zc,zd,zb,zg,GE101.out]) hb))));(go_ret2);exact ⟨_,by first|rfl|simp [*,errW_none,errW_some] <;> rfl,by (with_reducible repeat (first|apply Kd.S_alloc|apply Kd.S_drewN|apply Kd.S_drew));exact HO105.out,by repeat (first|(with_reducible first|exact HB.out|apply zc|apply zd|apply zb|refine zg ?_ GE101.out)|exact HB.out)⟩
 · replace c3:=Bool.eq_false_iff.mpr c3;subst c3;(have H1:(some (([]:List (S37)),false))=some (r1,r2):=by rw [if_neg (show ¬ (false=true) by decide)] at H;exact H);clear H;have H:=H1;clear H1;simp only [Option.some.injEq,Prod.mk.injEq] at H;obtain ⟨rfl,rfl⟩:=H;(go_enter Tryz.func10,Tryz.ntmps10);(go_wp2_with (first|((with_reducible refine zv (N:=1) rfl ?_);refine zw ?hg (N:=1) ?hd (cs:=#[.int .i64 a0_0,.int .i64 a0_1,.slice A0_2 l0_2.length c0_2]) (t:=26) ?hr ?_;(case hd=>rfl);(case hg=>rfl);(case hr=>first|(go_simp;done)|(go_simp;rfl));intro gb101 hg w10 hbox hb;have BK101:=za (hbox);have GW101:=za ((by rw [hg];exact (zi (by apply_rules only [HB.out,zc,zd,zb])):w.heap.size≤gb101));have GE101:=za ((by rw [hg];exact (zi (by apply_rules only [HB.out,zc,zd,zb])):w.heap.size≤gb101));replace HB:=za (zl (by apply_rules only [HB.out,zc,zd,zb]) hb);clear hb hbox hg;have hcz11_0:w10.cell? ⟨gb101,0,none⟩=some (.int .i64 a0_0):=(ze BK101.out 0).trans rfl;have hcz11_1:w10.cell? ⟨gb101,1,none⟩=some (.int .i64 a0_1):=(ze BK101.out 1).trans rfl;have hcz11_2:w10.cell? ⟨gb101,2,none⟩=some (.slice A0_2 l0_2.length c0_2):=(ze BK101.out 2).trans rfl;have hfz11_0:=zf BK101.out 0;have hfz11_1:=zf BK101.out 1;have hfz11_2:=zf BK101.out 2)|((with_reducible refine zu (f:=17) rfl ?_);refine goesL_ (some 5) rfl rfl Tryz.func17 (by kernel_rfl) rfl #[.agg #[.int .i64 a0_0,.int .i64 a0_1,.slice A0_2 l0_2.length c0_2]] rfl (by first|rfl|simp only [z3_,z4_,z5_];try rfl) ?_;(with_reducible refine (impl_IsBoard.calls a0_0 a0_1 _ _ l0_2 false _ ?side1 ?side2 A2.out).mono ?_);(case side1=>apply_rules only [zq HR0_2.out HB.out,zm,zn,zo]);(case side2=>exact HC0_2.out);rintro e w12 ⟨rfl,hb⟩;refine ⟨_,rfl,?_⟩;replace BK101:=za (zp (g:=gb101) (o:=.cells #[.int .i64 a0_0,.int .i64 a0_1,.slice A0_2 l0_2.length c0_2] 26 (0,0)) (by apply_rules only [BK101.out,zj,zh,zk]) hb);replace HB:=za (zl (by apply_rules only [HB.out,zc,zd,zb,zg,GE101.out]) hb))));(go_ret2);exact ⟨_,by first|rfl|simp [*,errW_none,errW_some] <;> rfl,by first|exact Kd.S_nil _ _ _ _ _|exact Kd.N_nil _ _ _ _ _|exact Kd.V_nil _ _ _ _ _|exact Kd.Q_nil _ _ _ _ _|exact Kd.R_nil _ _ _ _ _,by repeat (first|(with_reducible first|exact HB.out|apply zc|apply zd|apply zb|refine zg ?_ GE101.out)|exact HB.out)⟩
end Go.Proofs.YtpjjeeabpaojnaaGreat.Q
end
section
namespace Go.Proofs.YtpjjeeabpaojnaaGreat.CovA
set_option linter.unusedVariables false
open Go.RowKit Go.Proofs.YtpjjeeabpaojnaaGreat.Q Go.Proofs.YtpjjeeabpaojnaaGreatW.PrintWords Go.Proofs.YtpjjeeabpaojnaaGreatW.PrintLast Go.Proofs.YtpjjeeabpaojnaaGreatW.PrintMore
open Go.Proofs.YtpjjeeabpaojnaaGreatL Go.Proofs.YtpjjeeabpaojnaaGreat.LawK Go.Proofs.YtpjjeeabpaojnaaGreat.BoardK Go.Proofs.YtpjjeeabpaojnaaGreat.LinesK Go.Proofs.YtpjjeeabpaojnaaGreat.Walk Go.Proofs.YtpjjeeabpaojnaaGreat.MostK Go.Proofs.YtpjjeeabpaojnaaGreat.AllK Go.Proofs.YtpjjeeabpaojnaaGreat.CoversK Go.Proofs.YtpjjeeabpaojnaaGreat.DrawK Go.Proofs.YtpjjeeabpaojnaaGreat.CoverLaw Go.Proofs.YtpjjeeabpaojnaaGreat.Pure
open Go.Proofs.YtpjjeeabpaojnaaGreat.PlaceK (placeB placeB_ge rk)
theorem mostRooks {R C:Nat} {l:List Int} (hb:isBoardB R C l=true):Ev (fun k=>impl_MostRooks.f k R C l) (((mostN l C R 0 0:Nat):Int),true):=by
 unfold impl_MostRooks.f
 refine Ev.congr (fun k=>by rw [impl_IsBoard.f,Option.bind_some,if_pos hb]) ?_
 exact Ev.bind (most hb) (Ev.now _)
theorem isPlace {R C:Nat} {l p:List Int} (hb:isBoardB R C l=true):Ev (fun k=>impl_IsPlacement.f k R C l p) (placeB l C p,true):=by
 obtain ⟨R',C',e1,e2,hlR,h1R,hR,h1C,hC,hbits⟩:=board_of hb
 obtain rfl:R'=R:=by omega
 obtain rfl:C'=C:=by omega
 unfold impl_IsPlacement.f
 refine Ev.congr (fun k=>by rw [impl_IsBoard.f,Option.bind_some,if_pos hb]) ?_
 exact Ev.bind (PlaceK.isPlacement hlR hR hC (fun i hi=>⟨(hbits i hi).1,by have:=(hbits i hi).2;have h3:=two_pow_six hC;omega⟩) p) (Ev.now _)
theorem noIdx {p:List Int} (hl:p.length≤6) (hp:∀ x ∈ p,-1≤x∧x≤5):∀ (d i:Nat),i + d=p.length→Ev (fun k=>slices_IndexFunc_int_int__at_impl_CountRooks_1.l0 k p (p.length:Int) i) (-1)
|0,i,hi=>Ev.step (f:=fun _=>some (-1)) (fun k=>by rw [slices_IndexFunc_int_int__at_impl_CountRooks_1.l0,if_neg (by omega)]) (Ev.now _)
|d + 1,i,hi=>by
  have h1:wrap64 ((i:Int) + 1)=((i + 1:Nat):Int):=by rw [w64 (by omega) (by omega)];rfl
  have hi2:i < p.length:=by omega
  have hx:=hp _ (List.getElem_mem hi2)
  refine Ev.step (fun k=>?_) (noIdx hl hp d (i + 1) (by omega))
  rw [slices_IndexFunc_int_int__at_impl_CountRooks_1.l0,if_pos (by omega),if_pos (by omega),if_pos (by omega),rd_lt _ _ hi2,impl_CountRooks_1.f,PlaceK.withinR,show inR (-1) 5 p[i]=true from decide_eq_true hx,Option.bind_some,Option.bind_some,if_neg (by simp),h1]
theorem countRooks {p:List Int} (hl:p.length≤6) (hp:∀ x ∈ p,-1≤x∧x≤5):Ev (fun k=>impl_CountRooks.f k p) ((rk p:Int),true):=by
 unfold impl_CountRooks.f slices_ContainsFunc_int_int__at_impl_CountRooks_1.f slices_IndexFunc_int_int__at_impl_CountRooks_1.f
 refine Ev.congr (fun k=>by rw [if_neg (by omega)]) ?_
 refine Ev.bind (Ev.bind (noIdx hl hp p.length 0 (by omega)) (Ev.now _)) ?_
 refine Ev.congr (fun k=>by rw [if_neg (by decide)]) ?_
 exact Ev.bind (PlaceK.rooks (by omega)) (Ev.now _)
theorem kRows_l0 {a:List (List Int)} (hl:a.length≤1000000) (hr:∀ x ∈ a,x.length≤1000):∀ (d i:Nat),i + d=a.length→Ev (fun k=>laws_kRows.l0 k a a (a.length:Int) i) true
|0,i,hi=>Ev.step (f:=fun _=>some true) (fun k=>by rw [laws_kRows.l0,if_neg (by omega)]) (Ev.now _)
|d + 1,i,hi=>by
  have h1:wrap64 ((i:Int) + 1)=((i + 1:Nat):Int):=by rw [w64 (by omega) (by omega)];rfl
  have hi2:i < a.length:=by omega
  have hx:(rd_L2 a i).length≤1000:=by
   show (a.getD ((i:Int)).toNat []).length≤1000
   rw [Int.toNat_natCast,gD_lt _ _ hi2]
   exact hr _ (List.getElem_mem hi2)
  refine Ev.step (f:=fun k=>(laws_kSame.f k (rd_L2 a i) (rd_L2 a i)).bind fun t103=>if t103=true then laws_kRows.l0 k a a (a.length:Int) ((i + 1:Nat):Int) else some false) (fun k=>?_) ?_
  ·
   rw [laws_kRows.l0,if_pos (by omega),if_pos (by omega),if_pos (by omega),if_pos (by omega),h1]
  ·
   exact Ev.bind (kSame_self (by omega)) (Ev.congr (fun k=>by rw [if_pos rfl]) (kRows_l0 hl hr d (i + 1) (by omega)))
theorem kRows {a:List (List Int)} (hl:a.length≤1000000) (hr:∀ x ∈ a,x.length≤1000):Ev (fun k=>laws_kRows.f k a a) true:=by
 unfold laws_kRows.f
 exact Ev.congr (fun k=>if_pos rfl) (kRows_l0 hl hr a.length 0 (by omega))
theorem kLines {a b:List Int} (ha:a.length≤6) (hb:b.length≤6):Ev (fun k=>laws_kLines.f k a b a b) true:=by
 unfold laws_kLines.f
 refine Ev.bind (kSame_self (by omega)) ?_
 refine Ev.congr (fun k=>by rw [if_pos rfl]) ?_
 exact Ev.bind (kSame_self (by omega)) (Ev.now _)
structure Ans (r c:Int) (l:List Int) (rows:List (List Int)) (ok:Bool) (first:List Int) (one:Bool) (cs:List S37) (f0 f1:List Int) (most:Nat):Prop where
 iAL:impl_AllLargest.f r c l=some (rows,ok)
 sAL:∃ k,spec_AllLargest.f k r c l=some (rows,ok)
 iLP:impl_LargestPlacement.f r c l=some (first,one)
 sLP:∃ k,spec_LargestPlacement.f k r c l=some (first,one)
 iAC:∃ k,impl_AllCovers.f k r c l=some (cs,one)
 sAC:∃ k,spec_AllCovers.f k r c l=some (cs,one)
 iLC:∃ k,impl_LeastCover.f k r c l=some (f0,f1,one)
 sLC:∃ k,spec_LeastCover.f k r c l=some (f0,f1,one)
 iB:impl_IsBoard.f r c l=some one
 kR:∃ k,laws_kRows.f k rows rows=some true
 kS:∃ k,laws_kSame.f k first first=some true
 kL:∃ k,laws_kLines.f k f0 f1 f0 f1=some true
 okOne:ok=true→one=true
 mR:one=true→∃ k,impl_MostRooks.f k r c l=some ((most:Int),true)
 cR:one=true→∃ k,impl_CountRooks.f k first=some ((most:Int),true)
 iP:one=true→∃ k,impl_IsPlacement.f k r c l first=some (true,true)
 c0:one=true→0 < cs.length∧(rd_T37 cs 0).f0=f0∧(rd_T37 cs 0).f1=f1
 cov:one=true→∀ i:Nat,i < cs.length→(∃ k,impl_IsCover.f k r c l (rd_T37 cs i).f0 (rd_T37 cs i).f1=some (true,true))∧(∃ k,laws_kLines.f k (rd_T37 cs i).f0 (rd_T37 cs i).f1 (rd_T37 cs i).f0 (rd_T37 cs i).f1=some true)∧(rd_T37 cs i).f0.length + (rd_T37 cs i).f1.length=most
 r0:ok=true→0 < rows.length∧rd_L2 rows 0=first
 row:ok=true→∀ i:Nat,i < rows.length→(∃ k,impl_IsPlacement.f k r c l (rd_L2 rows i)=some (true,true))∧(∃ k,impl_CountRooks.f k (rd_L2 rows i)=some ((most:Int),true))∧∀ j:Nat,j < i→∃ k,laws_kSame.f k (rd_L2 rows j) (rd_L2 rows i)=some false
 csl:cs.length≤64
 rl:rows.length≤1000000
 ml:most≤6
theorem nodup_at {L:List (List Int)} (h:L.Nodup) {i j:Nat} (hij:j < i) (hi:i < L.length):L[j]'(by omega) ≠ L[i]:=fun e=>by
 have:=(List.getElem_inj (h₀:=by omega) (h₁:=hi) h).1 e
 omega
theorem answers (r c:Int) (l:List Int) (hl:l.length≤1048576):∃ rows ok first one cs f0 f1 most,Ans r c l rows ok first one cs f0 f1 most:=by
 obtain ⟨rows,ok,hrl,hrx,hSA,hIA⟩:=ans_AllLargest r c l hl
 by_cases hb:isBoardB r c l=true
 rotate_left
 ·
  have e1:LargestK.ans r c l=([],false):=by unfold LargestK.ans;rw [if_neg hb]
  have e2:LeastCoverK.ans r c l=([],[],false):=by unfold LeastCoverK.ans;rw [if_neg hb]
  have e3:rows=[]∧ok=false:=by
   have:impl_AllLargest.f r c l=some ([],false):=by unfold impl_AllLargest.f;rw [impl_IsBoard.f,Option.bind_some,if_neg hb]
   rw [this] at hIA
   have:=Option.some.inj hIA
   simp only [Prod.mk.injEq] at this
   exact ⟨this.1.symm,this.2.symm⟩
  obtain ⟨rfl,rfl⟩:=e3
  have hi:impl_IsBoard.f r c l=some false:=by rw [impl_IsBoard.f];simp [hb]
  refine ⟨[],false,[],false,[],[],[],0,hIA,hSA,by rw [LargestK.impl_answer,e1],by rw [← e1];exact Ev.rounds (LargestK.spec_answer hl),Ev.rounds ?_,Ev.rounds ?_,by rw [← e2];exact Ev.rounds LeastCoverK.impl_answer,by rw [← e2];exact Ev.rounds (LeastCoverK.spec_answer hl),hi,Ev.rounds (kRows (by simp) (by simp)),Ev.rounds (kSame_self (by simp)),Ev.rounds (kLines (by simp) (by simp)),fun h=>(by simp at h),fun h=>(by simp at h),fun h=>(by simp at h),fun h=>(by simp at h),fun h=>(by simp at h),fun h=>(by simp at h),fun h=>(by simp at h),fun h=>(by simp at h),by simp,by simp,by simp⟩
  ·
   unfold impl_AllCovers.f
   exact Ev.congr (fun k=>by rw [hi,Option.bind_some,if_neg (by simp)]) (Ev.now _)
  ·
   unfold spec_AllCovers.f
   refine Ev.bind (boGood r c (by omega)) ?_
   exact Ev.congr (fun k=>by rw [if_neg hb]) (Ev.now _)
 obtain ⟨R,C,rfl,rfl,hlR,h1R,hR,h1C,hC,hbits⟩:=board_of hb
 have hi:impl_IsBoard.f (R:Int) (C:Int) l=some true:=by rw [impl_IsBoard.f,hb]
 have e1:LargestK.ans R C l=((largestS l C R).getD 0 [],true):=by unfold LargestK.ans;rw [if_pos hb,Int.toNat_natCast,Int.toNat_natCast]
 have e2:LeastCoverK.ans R C l=((rd_T37 (covs l R C) 0).f0,(rd_T37 (covs l R C) 0).f1,true):=by unfold LeastCoverK.ans;rw [if_pos hb,Int.toNat_natCast,Int.toNat_natCast]
 have hfm:=LargestK.first_row (l:=l) hC R
 have hml:mostN l C R 0 0≤6:=Nat.le_trans (mostN_le l C R 0 0) hR
 have place:∀ q ∈ largestS l C R,(∃ k,impl_IsPlacement.f k R C l q=some (true,true))∧∃ k,impl_CountRooks.f k q=some (((mostN l C R 0 0:Nat):Int),true):=by
  intro q hq
  obtain ⟨h1,h2⟩:=all_place hlR hC hq
  have h3:=placeB_ge h1
  refine ⟨?_,?_⟩
  ·
   have:=isPlace (p:=q) hb
   rw [h1] at this
   exact Ev.rounds this
  ·
   rw [← h2]
   exact Ev.rounds (countRooks (by omega) (fun x hx=>by have:=h3.2 x hx;omega))
 have e3:ok=true→rows=largestS l C R:=by
  intro e
  unfold impl_AllLargest.f at hIA
  rw [hi,Option.bind_some,if_pos rfl,impl_Board_largest.f,if_pos hb,Option.bind_some,Int.toNat_natCast,hlR] at hIA
  split at hIA
  ·
   have:=Option.some.inj hIA
   simp only [Prod.mk.injEq] at this
   rw [e] at this
   exact absurd this.2 (by simp)
  ·
   have:=Option.some.inj hIA
   simp only [Prod.mk.injEq] at this
   exact this.1.symm
 have hcl:=covs_len l R C
 have hp:=covs_pos hlR hR hC hbits
 have hcs:=LeastCoverK.covs_short l R C
 refine ⟨rows,ok,(largestS l C R).getD 0 [],true,covs l R C,(rd_T37 (covs l R C) 0).f0,(rd_T37 (covs l R C) 0).f1,mostN l C R 0 0,hIA,hSA,by rw [LargestK.impl_answer,e1],by rw [← e1];exact Ev.rounds (LargestK.spec_answer hl),Ev.rounds ?_,Ev.rounds ?_,by rw [← e2];exact Ev.rounds LeastCoverK.impl_answer,by rw [← e2];exact Ev.rounds (LeastCoverK.spec_answer hl),hi,Ev.rounds (kRows (by omega) hrx),Ev.rounds (kSame_self ?_),Ev.rounds (kLines (hcs 0).1 (hcs 0).2),fun _=>rfl,fun _=>Ev.rounds (mostRooks hb),fun _=>(place _ hfm).2,fun _=>(place _ hfm).1,fun _=>⟨hp,rfl,rfl⟩,fun _ i hi2=>?_,fun h=>?_,fun h i hi2=>?_,hcl,hrl,hml⟩
 ·
  unfold impl_AllCovers.f
  refine Ev.congr (fun k=>by rw [hi,Option.bind_some,if_pos rfl]) ?_
  exact Ev.bind (covers hlR hR hC hbits) (Ev.now _)
 ·
  unfold spec_AllCovers.f
  refine Ev.bind (boGood R C (by omega)) ?_
  refine Ev.congr (fun k=>by rw [if_pos hb]) ?_
  exact Ev.bind (lcCovers hlR hR hC hbits) (Ev.now _)
 ·
  have:=largest_row hC _ hfm
  omega
 ·
  have hm:rd_T37 (covs l R C) (i:Int) ∈ covs l R C:=by
   unfold rd_T37
   rw [Int.toNat_natCast,gD_lt _ _ hi2]
   exact List.getElem_mem hi2
  have h:=cover_ok hlR hR hC hbits hb hm
  have hs:=hcs (i:Int)
  refine ⟨?_,Ev.rounds (kLines hs.1 hs.2),h.2⟩
  rw [← h.1]
  exact Ev.rounds (CoverK.impl_answer (by omega) (by omega))
 ·
  rw [e3 h]
  exact ⟨List.length_pos_of_mem hfm,rfl⟩
 ·
  have e4:=e3 h
  rw [e4] at hi2 ⊢
  have hg:∀ n:Nat,∀ hn:n < (largestS l C R).length,rd_L2 (largestS l C R) (n:Int)=(largestS l C R)[n]:=fun n hn=>by
   show (largestS l C R).getD ((n:Int)).toNat []=_
   rw [Int.toNat_natCast,gD_lt _ _ hn]
  rw [hg i hi2]
  have h1:=place _ (List.getElem_mem hi2)
  refine ⟨h1.1,h1.2,fun j hj=>?_⟩
  rw [hg j (by omega)]
  have hne:=nodup_at (largest_nodup (l:=l) hC R) hj hi2
  have h6:=largest_row hC _ (List.getElem_mem (show j < (largestS l C R).length by omega))
  have:=kSame (a:=(largestS l C R)[j]'(by omega)) (b:=(largestS l C R)[i]) (by omega)
  rw [decide_eq_false hne] at this
  exact Ev.rounds this
theorem lines (r c:Int) (l rows cols:List Int) (hl:l.length≤1048576) (hr:rows.length≤1000) (hc:cols.length≤1000):∃ is fine,(∃ k,impl_IsCover.f k r c l rows cols=some (is,fine))∧(∃ k,spec_IsCover.f k r c l rows cols=some (is,fine))∧(is=true→∃ most:Nat,(∃ k,impl_MostRooks.f k r c l=some ((most:Int),true))∧most≤rows.length + cols.length):=by
 refine ⟨(CoverK.ans r c l rows cols).1,(CoverK.ans r c l rows cols).2,Ev.rounds (CoverK.impl_answer (by omega) (by omega)),Ev.rounds (CoverK.spec_answer (by omega) (by omega) (by omega)),fun h=>?_⟩
 have h0:CoverK.ans r c l rows cols=(true,true):=by
  unfold CoverK.ans at h ⊢
  split
  ·
   rename_i hg
   rw [if_pos hg] at h
   exact Prod.ext h rfl
  ·
   rename_i hg
   rw [if_neg hg] at h
   cases h
 have hb:isBoardB r c l=true:=by
  unfold CoverK.ans at h0
  split at h0
  ·
   rename_i hg
   rw [Bool.and_eq_true] at hg
   exact hg.1
  ·
   cases h0
 obtain ⟨R,C,rfl,rfl,hlR,h1R,hR,h1C,hC,hbits⟩:=board_of hb
 exact ⟨mostN l C R 0 0,Ev.rounds (mostRooks hb),cover_most hlR hR hC hbits h0⟩
end Go.Proofs.YtpjjeeabpaojnaaGreat.CovA
end
section
namespace Go.Proofs.YtpjjeeabpaojnaaGreat.CovW
set_option linter.unusedVariables false
open Go.RowKit Go.Proofs.YtpjjeeabpaojnaaGreat.Q Go.Proofs.YtpjjeeabpaojnaaGreatW.PrintWords Go.Proofs.YtpjjeeabpaojnaaGreatW.PrintLast Go.Proofs.YtpjjeeabpaojnaaGreatW.PrintMore
open Go.Proofs.YtpjjeeabpaojnaaGreatL Go.Proofs.YtpjjeeabpaojnaaGreat.CovA
def CsAt (cs:List S37) (x y:List Int):Prop:=∃ i:Nat,i < cs.length∧x=(rd_T37 cs i).f0∧y=(rd_T37 cs i).f1
def RowAt (rows:List (List Int)) (x:List Int):Prop:=∃ i:Nat,i < rows.length∧x=rd_L2 rows i
def RowsAt (rows:List (List Int)) (x y:List Int):Prop:=∃ i j:Nat,i < rows.length∧j < i∧x=rd_L2 rows j∧y=rd_L2 rows i
structure Rd {α:Type} (d:Kd α) (W:World) (A:Option Addr) (c:Nat) (xs:List α):Prop where
 le:xs.length≤c
 C:Kd.C d W A xs.length xs
section
variable {α : Type} {d : Kd α} {e b : Nat} {ok : Nat → Prop} {W W' : World} {A : Option Addr} {c : Nat} {v : Value} {xs : List α}
theorem Rd.up (h:Rd d W A c xs) (hb:Below W.heap.size W W'):Rd d W' A c xs:=⟨h.le,Kd.C_below h.C hb⟩
theorem rdR (h:Kd.R d e W b ok v xs):∃ A c,v=.slice A xs.length c∧Rd d W A c xs:=by
 obtain ⟨A,c,h1,h2,h3⟩:=Kd.R_reads h
 exact ⟨A,c,h1,h2,h3⟩
theorem rdS (h:Kd.S d e W b ok v xs):∃ A c,v=.slice A xs.length c∧Rd d W A c xs:=by
 obtain ⟨A,c,h1,h2,h3⟩:=Kd.S_reads h
 exact ⟨A,c,h1,h2,h3⟩
theorem rdN (h:Kd.N d e W b ok v xs):∃ A c,v=.slice A xs.length c∧Rd d W A c xs:=by
 obtain ⟨A,c,h1,h2,h3⟩:=Kd.N_reads h
 exact ⟨A,c,h1,h2,h3⟩
theorem rdV (h:Kd.V d e W b ok v xs):∃ A c,v=.slice A xs.length c∧Rd d W A c xs:=by
 obtain ⟨A,c,rfl⟩:=Kd.V_slice h
 have:=Kd.V_reads' h
 exact ⟨A,c,rfl,this.2.1,this.2.2⟩
end
structure Bw (w W:World):Prop where
 b:Below w.heap.size w W
theorem Bw.up {w W W':World} (h:Bw w W) (hb:Below W.heap.size W W'):Bw w W':=⟨h.b.trans (hb.mono h.b.size)⟩
structure Bd (W:World) (g:Nat) (r c:Int) (A:Option Addr) (cp:Nat) (l:List Int):Prop where
 box:W.heap[g]?=some (.cells #[.int .i64 r,.int .i64 c,.slice A l.length cp] 26 (0,0))
 rd:Rd (Kd.int .i64) W A cp l
theorem Bd.up {W W':World} {g:Nat} {r c:Int} {A:Option Addr} {cp:Nat} {l:List Int} (h:Bd W g r c A cp l) (hb:Below W.heap.size W W'):Bd W' g r c A cp l:=⟨blk_below h.box hb,h.rd.up hb⟩
structure Ln (W:World) (g:Nat) (A0:Option Addr) (c0:Nat) (f0:List Int) (A1:Option Addr) (c1:Nat) (f1:List Int):Prop where
 box:W.heap[g]?=some (.cells #[.slice A0 f0.length c0,.slice A1 f1.length c1] 37 (0,0))
 a:Rd (Kd.int .i64) W A0 c0 f0
 b:Rd (Kd.int .i64) W A1 c1 f1
theorem Ln.up {W W':World} {g:Nat} {A0:Option Addr} {c0:Nat} {f0:List Int} {A1:Option Addr} {c1:Nat} {f1:List Int} (h:Ln W g A0 c0 f0 A1 c1 f1) (hb:Below W.heap.size W W'):Ln W' g A0 c0 f0 A1 c1 f1:=⟨blk_below h.box hb,h.a.up hb,h.b.up hb⟩
theorem boxed (W:World) (cs:Array Value) (t:Nat):(W.alloc (Obj.cells cs t)).heap[W.heap.size]?=some (.cells cs t (0,0)):=Array.getElem?_push_size
theorem alloc_up (W:World) (o:Obj):Below W.heap.size W (W.alloc o):=below_alloc (Below.refl _ _) o
section
variable {r c : Int} {l : List Int} {rows : List (List Int)} {ok : Bool} {first : List Int} {one : Bool} {cs : List S37} {f0 f1 : List Int} {most : Nat} (H : Ans r c l rows ok first one cs f0 f1 most)
include H
variable (W : World) {A : Option Addr} {cp : Nat} (h : Rd (Kd.int .i64) W A cp l)
include h
theorem cAL:Calls Tryz.prog 6 #[.agg #[.int .i64 r,.int .i64 c,.slice A l.length cp]] W fun e w'=>∃ A' c',e=.returned (.tuple #[.slice A' rows.length c',.bool ok])∧Rd (Kd.slice 3 (Kd.int .i64)) w' A' c' rows∧Below W.heap.size W w' :=
 (impl_AllLargest.calls r c A cp l rows ok W h.C h.le H.iAL).mono (by rintro e w' ⟨v,rfl,hs,hb⟩;obtain ⟨A',c',rfl,hr⟩:=rdS hs;exact ⟨A',c',rfl,hr,hb⟩)
theorem cSL:Calls Tryz.prog 7 #[.agg #[.int .i64 r,.int .i64 c,.slice A l.length cp]] W fun e w'=>∃ A' c',e=.returned (.tuple #[.slice A' rows.length c',.bool ok])∧Rd (Kd.slice 3 (Kd.int .i64)) w' A' c' rows∧Below W.heap.size W w':=by
 obtain ⟨k,hk⟩:=H.sAL
 exact (spec_AllLargest.calls k r c A cp l rows ok W h.C h.le hk).mono (by rintro e w' ⟨v,rfl,hs,hb⟩;obtain ⟨A',c',rfl,hr⟩:=rdN hs;exact ⟨A',c',rfl,hr,hb⟩)
theorem cLP:Calls Tryz.prog 8 #[.agg #[.int .i64 r,.int .i64 c,.slice A l.length cp]] W fun e w'=>∃ A' c',e=.returned (.tuple #[.slice A' first.length c',.bool one])∧Rd (Kd.int .i64) w' A' c' first∧Below W.heap.size W w' :=
 (impl_LargestPlacement.calls r c A cp l first one W h.C h.le H.iLP).mono (by rintro e w' ⟨v,rfl,hs,hb⟩;obtain ⟨A',c',rfl,hr⟩:=rdR hs;exact ⟨A',c',rfl,hr,hb⟩)
theorem cSP:Calls Tryz.prog 9 #[.agg #[.int .i64 r,.int .i64 c,.slice A l.length cp]] W fun e w'=>∃ A' c',e=.returned (.tuple #[.slice A' first.length c',.bool one])∧Rd (Kd.int .i64) w' A' c' first∧Below W.heap.size W w':=by
 obtain ⟨k,hk⟩:=H.sLP
 exact (spec_LargestPlacement.calls k r c A cp l first one W h.C h.le hk).mono (by rintro e w' ⟨v,rfl,hs,hb⟩;obtain ⟨A',c',rfl,hr⟩:=rdV hs;exact ⟨A',c',rfl,hr,hb⟩)
theorem cAC:Calls Tryz.prog 10 #[.agg #[.int .i64 r,.int .i64 c,.slice A l.length cp]] W fun e w'=>∃ A' c',e=.returned (.tuple #[.slice A' cs.length c',.bool one])∧Rd k37 w' A' c' cs∧Below W.heap.size W w':=by
 obtain ⟨k,hk⟩:=H.iAC
 exact (impl_AllCovers.calls k r c A cp l cs one W h.C h.le hk).mono (by rintro e w' ⟨v,rfl,hs,hb⟩;obtain ⟨A',c',rfl,hr⟩:=rdS hs;exact ⟨A',c',rfl,hr,hb⟩)
theorem cSC:Calls Tryz.prog 11 #[.agg #[.int .i64 r,.int .i64 c,.slice A l.length cp]] W fun e w'=>∃ A' c',e=.returned (.tuple #[.slice A' cs.length c',.bool one])∧Rd k37 w' A' c' cs∧Below W.heap.size W w':=by
 obtain ⟨k,hk⟩:=H.sAC
 exact (spec_AllCovers.calls k r c A cp l cs one W h.C h.le hk).mono (by rintro e w' ⟨v,rfl,hs,hb⟩;obtain ⟨A',c',rfl,hr⟩:=rdN hs;exact ⟨A',c',rfl,hr,hb⟩)
theorem cLC:Calls Tryz.prog 12 #[.agg #[.int .i64 r,.int .i64 c,.slice A l.length cp]] W fun e w'=>∃ A0 c0 A1 c1,e=.returned (.tuple #[.agg #[.slice A0 f0.length c0,.slice A1 f1.length c1],.bool one])∧Rd (Kd.int .i64) w' A0 c0 f0∧Rd (Kd.int .i64) w' A1 c1 f1∧Below W.heap.size W w':=by
 obtain ⟨k,hk⟩:=H.iLC
 exact (impl_LeastCover.calls k r c A cp l f0 f1 one W h.C h.le hk).mono (by rintro e w' ⟨v,v',rfl,hs,hs',hb⟩;obtain ⟨A0,c0,rfl,h0⟩:=rdV hs;obtain ⟨A1,c1,rfl,h1⟩:=rdV hs';exact ⟨A0,c0,A1,c1,rfl,h0,h1,hb⟩)
theorem cSV:Calls Tryz.prog 13 #[.agg #[.int .i64 r,.int .i64 c,.slice A l.length cp]] W fun e w'=>∃ A0 c0 A1 c1,e=.returned (.tuple #[.agg #[.slice A0 f0.length c0,.slice A1 f1.length c1],.bool one])∧Rd (Kd.int .i64) w' A0 c0 f0∧Rd (Kd.int .i64) w' A1 c1 f1∧Below W.heap.size W w':=by
 obtain ⟨k,hk⟩:=H.sLC
 exact (spec_LeastCover.calls k r c A cp l f0 f1 one W h.C h.le hk).mono (by rintro e w' ⟨v,v',rfl,hs,hs',hb⟩;obtain ⟨A0,c0,rfl,h0⟩:=rdV hs;obtain ⟨A1,c1,rfl,h1⟩:=rdV hs';exact ⟨A0,c0,A1,c1,rfl,h0,h1,hb⟩)
theorem cIB:Calls Tryz.prog 17 #[.agg #[.int .i64 r,.int .i64 c,.slice A l.length cp]] W fun e w'=>e=.returned (.bool one)∧Below W.heap.size W w' :=
 impl_IsBoard.calls r c A cp l one W h.C h.le H.iB
theorem cMR (h1:one=true):Calls Tryz.prog 19 #[.agg #[.int .i64 r,.int .i64 c,.slice A l.length cp]] W fun e w'=>e=.returned (.tuple #[.int .i64 (most:Int),.bool true])∧Below W.heap.size W w':=by
 obtain ⟨k,hk⟩:=H.mR h1
 exact impl_MostRooks.calls k r c A cp l (most:Int) true W h.C h.le hk
theorem cIP (h1:one=true) {A2:Option Addr} {c2:Nat} (g:Rd (Kd.int .i64) W A2 c2 first):Calls Tryz.prog 20 #[.agg #[.int .i64 r,.int .i64 c,.slice A l.length cp],.slice A2 first.length c2] W fun e w'=>e=.returned (.tuple #[.bool true,.bool true])∧Below W.heap.size W w':=by
 obtain ⟨k,hk⟩:=H.iP h1
 exact impl_IsPlacement.calls k r c A cp l A2 c2 first true true W h.C h.le g.C g.le hk
theorem cIPi (h1:ok=true) {x:List Int} (hx:RowAt rows x) {A2:Option Addr} {c2:Nat} (g:Rd (Kd.int .i64) W A2 c2 x):Calls Tryz.prog 20 #[.agg #[.int .i64 r,.int .i64 c,.slice A l.length cp],.slice A2 x.length c2] W fun e w'=>e=.returned (.tuple #[.bool true,.bool true])∧Below W.heap.size W w':=by
 obtain ⟨i,hi,rfl⟩:=hx
 obtain ⟨k,hk⟩:=(H.row h1 i hi).1
 exact impl_IsPlacement.calls k r c A cp l A2 c2 (rd_L2 rows i) true true W h.C h.le g.C g.le hk
theorem cIC (h1:one=true) {x y:List Int} (hx:CsAt cs x y) {A0 A1:Option Addr} {c0 c1:Nat} (g0:Rd (Kd.int .i64) W A0 c0 x) (g1:Rd (Kd.int .i64) W A1 c1 y):Calls Tryz.prog 21 #[.agg #[.int .i64 r,.int .i64 c,.slice A l.length cp],.agg #[.slice A0 x.length c0,.slice A1 y.length c1]] W fun e w'=>e=.returned (.tuple #[.bool true,.bool true])∧Below W.heap.size W w':=by
 obtain ⟨i,hi,rfl,rfl⟩:=hx
 obtain ⟨k,hk⟩:=(H.cov h1 i hi).1
 exact impl_IsCover.calls k r c A cp l A0 c0 _ A1 c1 _ true true W h.C h.le g0.C g0.le g1.C g1.le hk
end
section
variable {r c : Int} {l : List Int} {rows : List (List Int)} {ok : Bool} {first : List Int} {one : Bool} {cs : List S37} {f0 f1 : List Int} {most : Nat} (H : Ans r c l rows ok first one cs f0 f1 most) (W : World)
include H
theorem cKR {A A':Option Addr} {c c':Nat} (h:Rd (Kd.slice 3 (Kd.int .i64)) W A c rows) (h':Rd (Kd.slice 3 (Kd.int .i64)) W A' c' rows):Calls Tryz.prog 14 #[.slice A rows.length c,.slice A' rows.length c'] W fun e w'=>e=.returned (.bool true)∧Below W.heap.size W w':=by
 obtain ⟨k,hk⟩:=H.kR
 exact (laws_kRows.calls k A c rows A' c' rows true W h.C h.le h'.C h'.le hk).mono (by rintro e w' ⟨rfl,hd⟩;exact ⟨rfl,hd.below⟩)
theorem cKS {A A':Option Addr} {c c':Nat} (h:Rd (Kd.int .i64) W A c first) (h':Rd (Kd.int .i64) W A' c' first):Calls Tryz.prog 15 #[.slice A first.length c,.slice A' first.length c'] W fun e w'=>e=.returned (.bool true)∧Below W.heap.size W w':=by
 obtain ⟨k,hk⟩:=H.kS
 exact (laws_kSame.calls k A c first A' c' first true W h.C h.le h'.C h'.le hk).mono (by rintro e w' ⟨rfl,hd⟩;exact ⟨rfl,hd.below⟩)
theorem cKN (h1:ok=true) {x y:List Int} (hx:RowsAt rows x y) {A A':Option Addr} {c c':Nat} (h:Rd (Kd.int .i64) W A c x) (h':Rd (Kd.int .i64) W A' c' y):Calls Tryz.prog 15 #[.slice A x.length c,.slice A' y.length c'] W fun e w'=>e=.returned (.bool false)∧Below W.heap.size W w':=by
 obtain ⟨i,j,hi,hj,rfl,rfl⟩:=hx
 obtain ⟨k,hk⟩:=(H.row h1 i hi).2.2 j hj
 exact (laws_kSame.calls k A c _ A' c' _ false W h.C h.le h'.C h'.le hk).mono (by rintro e w' ⟨rfl,hd⟩;exact ⟨rfl,hd.below⟩)
theorem cKL {A0 A1 A2 A3:Option Addr} {c0 c1 c2 c3:Nat} (h0:Rd (Kd.int .i64) W A0 c0 f0) (h1:Rd (Kd.int .i64) W A1 c1 f1) (h2:Rd (Kd.int .i64) W A2 c2 f0) (h3:Rd (Kd.int .i64) W A3 c3 f1):Calls Tryz.prog 16 #[.agg #[.slice A0 f0.length c0,.slice A1 f1.length c1],.agg #[.slice A2 f0.length c2,.slice A3 f1.length c3]] W fun e w'=>e=.returned (.bool true)∧Below W.heap.size W w':=by
 obtain ⟨k,hk⟩:=H.kL
 exact laws_kLines.calls k A0 c0 f0 A1 c1 f1 A2 c2 f0 A3 c3 f1 true W h0.C h0.le h1.C h1.le h2.C h2.le h3.C h3.le hk
theorem cKLi (g:one=true) {x y:List Int} (hx:CsAt cs x y) {A0 A1 A2 A3:Option Addr} {c0 c1 c2 c3:Nat} (h0:Rd (Kd.int .i64) W A0 c0 x) (h1:Rd (Kd.int .i64) W A1 c1 y) (h2:Rd (Kd.int .i64) W A2 c2 x) (h3:Rd (Kd.int .i64) W A3 c3 y):Calls Tryz.prog 16 #[.agg #[.slice A0 x.length c0,.slice A1 y.length c1],.agg #[.slice A2 x.length c2,.slice A3 y.length c3]] W fun e w'=>e=.returned (.bool true)∧Below W.heap.size W w':=by
 obtain ⟨i,hi,rfl,rfl⟩:=hx
 obtain ⟨k,hk⟩:=(H.cov g i hi).2.1
 exact laws_kLines.calls k A0 c0 _ A1 c1 _ A2 c2 _ A3 c3 _ true W h0.C h0.le h1.C h1.le h2.C h2.le h3.C h3.le hk
theorem cCR (g:one=true) {A:Option Addr} {c:Nat} (h:Rd (Kd.int .i64) W A c first):Calls Tryz.prog 18 #[.slice A first.length c] W fun e w'=>e=.returned (.tuple #[.int .i64 (most:Int),.bool true])∧Below W.heap.size W w':=by
 obtain ⟨k,hk⟩:=H.cR g
 exact (impl_CountRooks.calls k A c first (most:Int) true W h.C h.le hk).mono (by rintro e w' ⟨rfl,hd⟩;exact ⟨rfl,hd.below⟩)
theorem cCRi (g:ok=true) {x:List Int} (hx:RowAt rows x) {A:Option Addr} {c:Nat} (h:Rd (Kd.int .i64) W A c x):Calls Tryz.prog 18 #[.slice A x.length c] W fun e w'=>e=.returned (.tuple #[.int .i64 (most:Int),.bool true])∧Below W.heap.size W w':=by
 obtain ⟨i,hi,rfl⟩:=hx
 obtain ⟨k,hk⟩:=(H.row g i hi).2.1
 exact (impl_CountRooks.calls k A c _ (most:Int) true W h.C h.le hk).mono (by rintro e w' ⟨rfl,hd⟩;exact ⟨rfl,hd.below⟩)
end
theorem at_lines {W:World} {A:Option Addr} {c:Nat} {cs:List S37} (h:Rd k37 W A c cs) (x:Int) (h0:0≤x) (h1:x < (cs.length:Int)):∃ ad A0 c0 A1 c1 x0 x1,A=some ad∧W.cell? (ad.add (x.toNat * 2))=some (.slice A0 (x0:List Int).length c0)∧W.cell? ⟨(ad.add (x.toNat * 2)).block,(ad.add (x.toNat * 2)).off + 1,none⟩=some (.slice A1 (x1:List Int).length c1)∧Rd (Kd.int .i64) W A0 c0 x0∧Rd (Kd.int .i64) W A1 c1 x1∧CsAt cs x0 x1∧x0=(rd_T37 cs x).f0∧x1=(rd_T37 cs x).f1:=by
 obtain ⟨ad,A0,c0,A1,c1,e,g1,g2,g3,g4,g5,g6⟩:=at_T37 h.C x h0 h1
 exact ⟨ad,A0,c0,A1,c1,_,_,e,g1,g2,⟨g3,g4⟩,⟨g5,g6⟩,⟨x.toNat,by omega,by rw [Int.toNat_of_nonneg h0],by rw [Int.toNat_of_nonneg h0]⟩,rfl,rfl⟩
theorem at_row {W:World} {A:Option Addr} {c:Nat} {rows:List (List Int)} (h:Rd (Kd.slice 3 (Kd.int .i64)) W A c rows) (x:Int) (h0:0≤x) (h1:x < (rows.length:Int)):∃ ad A0 c0 y,A=some ad∧W.cell? (ad.add x.toNat)=some (.slice A0 (y:List Int).length c0)∧Rd (Kd.int .i64) W A0 c0 y∧RowAt rows y∧y=rd_L2 rows x:=by
 obtain ⟨ad,A0,c0,e,g1,g2,g3⟩:=at_L2 h.C x h0 h1
 exact ⟨ad,A0,c0,_,e,g1,⟨g2,g3⟩,⟨x.toNat,by omega,by rw [Int.toNat_of_nonneg h0]⟩,rfl⟩
theorem cs_sum {r c:Int} {l:List Int} {rows:List (List Int)} {ok:Bool} {first:List Int} {one:Bool} {cs:List S37} {f0 f1:List Int} {most:Nat} (H:Ans r c l rows ok first one cs f0 f1 most) (g:one=true) {x y:List Int} (hx:CsAt cs x y):(wrap64 ((x.length:Int) + (y.length:Int)) != (most:Int))=false:=by
 obtain ⟨i,hi,rfl,rfl⟩:=hx
 have h1:=(H.cov g i hi).2.2
 have h2:=H.ml
 rw [w64 (by omega) (by omega)]
 exact bne_eq_false_iff_eq.mpr (by omega)
theorem cI2 {r c:Int} {l x y:List Int} {is fine:Bool} (h:∃ k,impl_IsCover.f k r c l x y=some (is,fine)) (W:World) {A A0 A1:Option Addr} {cp c0 c1:Nat} (g:Rd (Kd.int .i64) W A cp l) (g0:Rd (Kd.int .i64) W A0 c0 x) (g1:Rd (Kd.int .i64) W A1 c1 y):Calls Tryz.prog 21 #[.agg #[.int .i64 r,.int .i64 c,.slice A l.length cp],.agg #[.slice A0 x.length c0,.slice A1 y.length c1]] W fun e w'=>e=.returned (.tuple #[.bool is,.bool fine])∧Below W.heap.size W w':=by
 obtain ⟨k,hk⟩:=h
 exact impl_IsCover.calls k r c A cp l A0 c0 x A1 c1 y is fine W g.C g.le g0.C g0.le g1.C g1.le hk
theorem cS2 {r c:Int} {l x y:List Int} {is fine:Bool} (h:∃ k,spec_IsCover.f k r c l x y=some (is,fine)) (W:World) {A A0 A1:Option Addr} {cp c0 c1:Nat} (g:Rd (Kd.int .i64) W A cp l) (g0:Rd (Kd.int .i64) W A0 c0 x) (g1:Rd (Kd.int .i64) W A1 c1 y):Calls Tryz.prog 23 #[.agg #[.int .i64 r,.int .i64 c,.slice A l.length cp],.agg #[.slice A0 x.length c0,.slice A1 y.length c1]] W fun e w'=>e=.returned (.tuple #[.bool is,.bool fine])∧Below W.heap.size W w':=by
 obtain ⟨k,hk⟩:=h
 exact spec_IsCover.calls k r c A cp l A0 c0 x A1 c1 y is fine W g.C g.le g0.C g0.le g1.C g1.le hk
theorem cM2 {r c:Int} {l:List Int} {m:Nat} (h:∃ k,impl_MostRooks.f k r c l=some ((m:Int),true)) (W:World) {A:Option Addr} {cp:Nat} (g:Rd (Kd.int .i64) W A cp l):Calls Tryz.prog 19 #[.agg #[.int .i64 r,.int .i64 c,.slice A l.length cp]] W fun e w'=>e=.returned (.tuple #[.int .i64 (m:Int),.bool true])∧Below W.heap.size W w':=by
 obtain ⟨k,hk⟩:=h
 exact impl_MostRooks.calls k r c A cp l (m:Int) true W g.C g.le hk
theorem boxed2 (W:World) (o:Obj) (cs:Array Value) (t:Nat):((W.alloc o).alloc (Obj.cells cs t)).heap[W.heap.size + 1]?=some (.cells cs t (0,0)):=by
 rw [← show (W.alloc o).heap.size=W.heap.size + 1 from Array.size_push _]
 exact boxed _ _ _
structure St (w W:World) (A1:Option Addr) (c1:Nat) (more:List Int) (gb:Nat) (r c:Int) (A:Option Addr) (cp:Nat) (l:List Int) (Aa:Option Addr) (ca:Nat) (rows:List (List Int)) (Af:Option Addr) (cf:Nat) (first:List Int)
  (Ac:Option Addr) (cc:Nat) (Al:Option Addr) (cl:Nat) (cs:List S37) (gl:Nat) (A2:Option Addr) (c2:Nat) (f0:List Int) (A3:Option Addr) (c3:Nat) (f1:List Int):Prop where
 B:Bw w W
 m:Rd (Kd.int .u8) W A1 c1 more
 b:Bd W gb r c A cp l
 al:Rd (Kd.slice 3 (Kd.int .i64)) W Aa ca rows
 fi:Rd (Kd.int .i64) W Af cf first
 co:Rd k37 W Ac cc cs
 li:Rd k37 W Al cl cs
 le:Ln W gl A2 c2 f0 A3 c3 f1
theorem St.up {w W W':World} {A1 c1 more gb r c A cp l Aa ca rows Af cf first Ac cc Al cl cs gl A2 c2 f0 A3 c3 f1} (h:St w W A1 c1 more gb r c A cp l Aa ca rows Af cf first Ac cc Al cl cs gl A2 c2 f0 A3 c3 f1) (hb:Below W.heap.size W W'):St w W' A1 c1 more gb r c A cp l Aa ca rows Af cf first Ac cc Al cl cs gl A2 c2 f0 A3 c3 f1 :=
 ⟨h.B.up hb,h.m.up hb,h.b.up hb,h.al.up hb,h.fi.up hb,h.co.up hb,h.li.up hb,h.le.up hb⟩
end Go.Proofs.YtpjjeeabpaojnaaGreat.CovW
end
