/- Texts of this claim put together (7): words, what the functions compute, and plain facts. No conditions. -/
import Derived.Test.YtpjjeeabpaojnaaGreatSFnLargestHaveCovers4
import Derived.Test.YtpjjeeabpaojnaaGreatSFnLargestHaveCovers6
import Derived.Test.YtpjjeeabpaojnaaGreatSFnLargestHaveCovers5
import Derived.Outline
import Derived.Lib.Hide
import Derived.Test.YtpjjeeabpaojnaaGreatSFnLargestHaveCovers0
section
namespace Go.Proofs.YtpjjeeabpaojnaaGreat.Q
open Go.RowKit Go.Proofs.YtpjjeeabpaojnaaGreatW.PrintWords Go.Proofs.YtpjjeeabpaojnaaGreatW.PrintLast Go.Proofs.YtpjjeeabpaojnaaGreatW.PrintMore
attribute [local go_sem] max2_int min2_int max_two min_two max_three min_three max_four min_four   -- for this text's walks alone
set_option linter.unusedVariables false
set_option linter.unusedSimpArgs false
def spec_lcCovers.l0:Nat→Int→List (S37)→List (List Int)→Int→Int→Int→Int→List Int→Option ((List (S37)))
|0,_,_,_,_,_,_,_,_=>none
|k + 1,x3,x4,x12,x13,x14,x102000,x102001,x102002=>if x14 < x13 then (if 0≤x14 then (if x14 < (x12.length:Int) then ((spec_lcColumns.f k x102000 x102001 x102002 (rd_L2 x12 x14) true).bind fun t107=>(if (wrap64 (((rd_L2 x12 x14).length:Int) + (t107.length:Int)))=x3 then (if x4.length < 2932031007402 then (spec_lcCovers.l0 k x3 (x4 ++ [(⟨rd_L2 x12 x14,t107⟩:S37)]) x12 x13 (wrap64 (x14 + 1)) x102000 x102001 x102002) else (none)) else (spec_lcCovers.l0 k x3 x4 x12 x13 (wrap64 (x14 + 1)) x102000 x102001 x102002))) else (none)) else (none)) else (some x4)
def spec_lcCovers.f (k:Nat) (a0_0:Int) (a0_1:Int) (l0_2:List Int):Option ((List (S37))):=(spec_lcMost.f k a0_0 a0_1 l0_2 0 0).bind fun t102=>((spec_lcSets.f k a0_0).bind fun t103=>(spec_lcCovers.l0 k t102 ([]:List (S37)) t103 (t103.length:Int) 0 a0_0 a0_1 l0_2))
set_option maxHeartbeats 8000000 in
set_option maxRecDepth 100000 in
theorem spec_lcCovers.calls (k:Nat) (a0_0:Int) (a0_1:Int) (A0_2:Option Addr) (c0_2:Nat) (l0_2:List Int) (r:List (S37)) (w:World) (hr0_2:Kd.C (Kd.int .i64) w A0_2 l0_2.length l0_2) (hc0_2:l0_2.length≤c0_2) (h:spec_lcCovers.f k a0_0 a0_1 l0_2=some r) :
  Calls Tryz.prog 30 #[.agg #[.int .i64 a0_0,.int .i64 a0_1,.slice A0_2 l0_2.length c0_2]] w fun e w'=>∃ v0_:Value,e=.returned (v0_)∧Kd.N k37 37 w' w.heap.size (fun k_=>(w.heap.size≤k_)) v0_ r∧Below w.heap.size w w':=by
 have hu26:=Tryz.underlying26;have hu37:=Tryz.underlying37;have HR0_2:=za hr0_2;have HC0_2:=za hc0_2;clear hr0_2 hc0_2;have HB:=za (Below.refl w.heap.size w);have H:((spec_lcMost.f k a0_0 a0_1 l0_2 0 0).bind fun t102=>((spec_lcSets.f k a0_0).bind fun t103=>(spec_lcCovers.l0 k t102 ([]:List (S37)) t103 (t103.length:Int) 0 a0_0 a0_1 l0_2)))=some r:=h;clear h;obtain ⟨t102,A2,H⟩:=bindAside H;(try dsimp only at H);obtain ⟨t103,A3,H⟩:=bindAside H;(try dsimp only at H);have H':=za H;clear H;(go_enter Tryz.func30,Tryz.ntmps30);(go_wp2_with (first|((with_reducible refine zv (N:=1) rfl ?_);refine zw ?hg (N:=1) ?hd (cs:=#[.int .i64 a0_0,.int .i64 a0_1,.slice A0_2 l0_2.length c0_2]) (t:=26) ?hr ?_;(case hd=>rfl);(case hg=>rfl);(case hr=>first|(go_simp;done)|(go_simp;rfl));intro gb101 hg w4 hbox hb;have BK101:=za (hbox);have GW101:=za ((by rw [hg];exact (zi (by apply_rules only [HB.out,zc,zd,zb])):w.heap.size≤gb101));have GE101:=za ((by rw [hg];exact (zi (by apply_rules only [HB.out,zc,zd,zb])):w.heap.size≤gb101));replace HB:=za (zl (by apply_rules only [HB.out,zc,zd,zb]) hb);clear hb hbox hg;have hcz5_0:w4.cell? ⟨gb101,0,none⟩=some (.int .i64 a0_0):=(ze BK101.out 0).trans rfl;have hcz5_1:w4.cell? ⟨gb101,1,none⟩=some (.int .i64 a0_1):=(ze BK101.out 1).trans rfl;have hcz5_2:w4.cell? ⟨gb101,2,none⟩=some (.slice A0_2 l0_2.length c0_2):=(ze BK101.out 2).trans rfl;have hfz5_0:=zf BK101.out 0;have hfz5_1:=zf BK101.out 1;have hfz5_2:=zf BK101.out 2)|((with_reducible refine zu (f:=56) rfl ?_);refine goesL_ (some 9) rfl rfl Tryz.func56 (by kernel_rfl) rfl #[.agg #[.int .i64 a0_0,.int .i64 a0_1,.slice A0_2 l0_2.length c0_2],.int .i64 0,.int .i64 0] rfl (by first|rfl|simp only [z3_,z4_,z5_];try rfl) ?_;(with_reducible refine (spec_lcMost.calls k a0_0 a0_1 _ _ l0_2 0 0 t102 _ ?side1 ?side2 A2.out).mono ?_);(case side1=>apply_rules only [zq HR0_2.out HB.out,zm,zn,zo]);(case side2=>exact HC0_2.out);rintro e w6 ⟨rfl,hb⟩;refine ⟨_,rfl,?_⟩;replace BK101:=za (zp (g:=gb101) (o:=.cells #[.int .i64 a0_0,.int .i64 a0_1,.slice A0_2 l0_2.length c0_2] 26 (0,0)) (by apply_rules only [BK101.out,zj,zh,zk]) hb);replace HB:=za (zl (by apply_rules only [HB.out,zc,zd,zb,zg,GE101.out]) hb);have hcz7_0:w6.cell? ⟨gb101,0,none⟩=some (.int .i64 a0_0):=(ze BK101.out 0).trans rfl;have hcz7_1:w6.cell? ⟨gb101,1,none⟩=some (.int .i64 a0_1):=(ze BK101.out 1).trans rfl;have hcz7_2:w6.cell? ⟨gb101,2,none⟩=some (.slice A0_2 l0_2.length c0_2):=(ze BK101.out 2).trans rfl;have hfz7_0:=zf BK101.out 0;have hfz7_1:=zf BK101.out 1;have hfz7_2:=zf BK101.out 2)|((with_reducible refine zu (f:=60) rfl ?_);refine goesL_ (some 12) rfl rfl Tryz.func60 (by kernel_rfl) rfl #[.int .i64 a0_0] rfl (by first|rfl|simp only [z3_,z4_,z5_];try rfl) ?_;(with_reducible refine (spec_lcSets.calls k a0_0 t103 _ A3.out).mono ?_);rintro e w8 ⟨v104,rfl,ho0,hb⟩;refine ⟨_,rfl,?_⟩;have HO105:=za (Kd.N_lower (Kd.N_mono (ok':=fun k_=>(w.heap.size≤k_)∧k_ ≠ gb101) ho0 (fun k_ hk_=>⟨(Nat.le_trans (zi (by apply_rules only [HB.out,zc,zd,zb,zg,GE101.out])) hk_),(Kd.freshB (g:=gb101) (o:=.cells #[.int .i64 a0_0,.int .i64 a0_1,.slice A0_2 l0_2.length c0_2] 26 (0,0)) (by apply_rules only [BK101.out,zj,zh,zk]) k_ hk_)⟩)) (zi (by apply_rules only [HB.out,zc,zd,zb,zg,GE101.out])));replace BK101:=za (zp (g:=gb101) (o:=.cells #[.int .i64 a0_0,.int .i64 a0_1,.slice A0_2 l0_2.length c0_2] 26 (0,0)) (by apply_rules only [BK101.out,zj,zh,zk]) hb);replace HB:=za (zl (by apply_rules only [HB.out,zc,zd,zb,zg,GE101.out]) hb);obtain ⟨Ao9,co9,eo9⟩:=Kd.N_slice HO105.out;subst eo9)));(go_loopg [4,14] k (fun kq v4 v14 w'=>∃ (x4_1:List (S37)) (x14_1:Int),v14=.int .i64 x14_1∧Aside0 (spec_lcCovers.l0 kq t102 x4_1 t103 (t103.length:Int) x14_1 a0_0 a0_1 l0_2=some r)∧Aside0 (kq≤k)∧Aside0 (Kd.N k37 37 w' w.heap.size (fun k_=>(w.heap.size≤k_)∧some k_ ≠ ((.slice Ao9 t103.length co9):Value).ownBlock∧k_ ≠ gb101) v4 x4_1)∧Aside0 (Kd.N (Kd.slice 3 (Kd.int .i64)) 24 w' w.heap.size (fun k_=>(w.heap.size≤k_)∧some k_ ≠ (v4:Value).ownBlock∧k_ ≠ gb101) (.slice Ao9 t103.length co9) t103)∧Aside0 (w'.heap[gb101]?=some (.cells #[.int .i64 a0_0,.int .i64 a0_1,(.slice A0_2 l0_2.length c0_2)] 26 (0,0)))∧Aside0 (Below w.heap.size w w')));case atStart=>exact ⟨(([]:List (S37))),(0),(by first|rfl|(simp;done)|(simp [*];done)),H',⟨Nat.le_refl _⟩,⟨by first|exact Kd.S_nil _ _ _ _ _|exact Kd.N_nil _ _ _ _ _|exact Kd.V_nil _ _ _ _ _|exact Kd.Q_nil _ _ _ _ _|exact Kd.R_nil _ _ _ _ _⟩,⟨by (with_reducible repeat (first|apply zz|apply zA|apply zy));exact Kd.N_mono HO105.out (fun _ hk=>⟨hk.1,⟨(by simp [Value.ownBlock]),hk.2⟩⟩)⟩,⟨by apply_rules only [BK101.out,zj,zh,zk]⟩,⟨by apply_rules only [HB.out,zc,zd,zb,zg,GE101.out]⟩⟩
 case round =>
  clear H';(try clear p2);(try clear c3);(try clear c5);(try clear c6);(try clear hcz5_0);(try clear hcz5_1);(try clear hcz5_2);(try clear hcz7_0);(try clear hcz7_1);(try clear hcz7_2);(try clear hfz5_0);(try clear hfz5_1);(try clear hfz5_2);(try clear hfz7_0);(try clear hfz7_1);(try clear hfz7_2);obtain ⟨x4_1,x14_1,rfl,HA,HK1,HO_4,HO_12,BK101,HB⟩:=hrel
  cases gk with
 |zero=>exact absurd HA.out (by simp [spec_lcCovers.l0])
 |succ k1 =>
   have H:=HA.out;clear HA;simp only [spec_lcCovers.l0] at H;by_cases c10:x14_1 < (t103.length:Int)
   ·
    rw [if_pos c10] at H;have c10b0:decide (x14_1 < (t103.length:Int))=true:=decide_eq_true c10;clear c10;by_cases c11:0≤x14_1
    ·
     rw [if_pos c11] at H;have c11b0:decide (0≤x14_1)=true:=decide_eq_true c11;clear c11;by_cases c12:x14_1 < (t103.length:Int)
     ·
      rw [if_pos c12] at H;have c12b0:decide (x14_1 < (t103.length:Int))=true:=decide_eq_true c12;clear c12;obtain ⟨t107,A13,H⟩:=bindAside H;(try dsimp only at H);by_cases c14:(wrap64 (((rd_L2 t103 x14_1).length:Int) + (t107.length:Int)))=t102
      ·
       rw [if_pos c14] at H;have c14b0:((wrap64 (((rd_L2 t103 x14_1).length:Int) + (t107.length:Int))) == t102)=true:=beq_iff_eq.mpr c14;have c14b1:((wrap64 (((rd_L2 t103 x14_1).length:Int) + (t107.length:Int))) != t102)=false:=bne_eq_false_iff_eq.mpr c14;clear c14;by_cases c15:x4_1.length < 2932031007402
       · rw [if_pos c15] at H;have LMc15:=za c15;clear c15;obtain ⟨y110,hy110⟩:∃ y_:List (S37),y_=(x4_1 ++ [(⟨rd_L2 t103 x14_1,t107⟩:S37)]):=⟨_,rfl⟩;(replace H:(spec_lcCovers.l0 k1 t102 y110 t103 (t103.length:Int) (wrap64 (x14_1 + 1)) a0_0 a0_1 l0_2)=some r:=by first|(rw [hy110];with_reducible exact H)|(have H2_:=(Option.bind_some _ _).symm.trans H;rw [hy110];with_reducible exact H2_)|(have H2_:=(Option.bind_some _ _).symm.trans H;with_reducible exact H2_)|with_reducible exact H|(rw [hy110];exact H)|exact H);have Ny110:=za hy110;clear hy110;have H':=za H;clear H;have p106:0≤(x14_1:Int):=of_decide_eq_true ‹_›;have q106:x14_1 < (t103.length:Int):=of_decide_eq_true ‹_›;obtain ⟨ad106,A106_0,c106_0,e106,hx106_0,hl106_0,hi106_0⟩:=at_L2 (Kd.N_reads' HO_12.out).2.2 x14_1 p106 q106;cases e106;obtain ⟨ce106,hce106,hMe106,hcc106⟩:=Kd.N_get HO_12.out [] x14_1 p106 (by first|exact q106|exact of_decide_eq_true ‹_›|(have e_:=(Kd.N_reads' HO_12.out).1;omega));obtain ⟨ua106_0,uc106_0,rfl,ul106_0,ge106_0⟩:=Kd.FK_slice_open hMe106;have hv106_0:=hcc106 0 _ rfl;rw [Nat.add_zero,show ((Kd.slice 3 (Kd.int .i64))).sz=1 from rfl,Nat.mul_one] at hv106_0;replace hv106_0:=Option.some.inj (hv106_0.symm.trans hx106_0);(injection hv106_0 with hva_ hvn_ hvc_);rw [hva_] at ge106_0;rw [hvc_] at ul106_0;have HL106_0:=za (show Kd.V (Kd.int .i64) 3 _ w.heap.size _ _ (rd_L2 t103 x14_1) from Kd.V_mk ul106_0 ge106_0);clear hva_ hvn_ hvc_ ge106_0 ul106_0;clear hcc106 hce106;have HR106_0:=za hi106_0;have HC106_0:=za hl106_0;clear hi106_0 hl106_0;replace p106:=eq_true p106;replace q106:=eq_true q106;have hcz16_0:wr.cell? ⟨gb101,0,none⟩=some (.int .i64 a0_0):=(ze BK101.out 0).trans rfl;have hcz16_1:wr.cell? ⟨gb101,1,none⟩=some (.int .i64 a0_1):=(ze BK101.out 1).trans rfl;have hcz16_2:wr.cell? ⟨gb101,2,none⟩=some (.slice A0_2 l0_2.length c0_2):=(ze BK101.out 2).trans rfl;have hfz16_0:=zf BK101.out 0;have hfz16_1:=zf BK101.out 1;have hfz16_2:=zf BK101.out 2;(go_wp2_with (first|((with_reducible refine zu (f:=61) rfl ?_);refine goesL_ (some 20) rfl rfl Tryz.func61 (by kernel_rfl) rfl #[.agg #[.int .i64 a0_0,.int .i64 a0_1,.slice A0_2 l0_2.length c0_2],.slice A106_0 (rd_L2 t103 x14_1).length c106_0,.bool true] rfl (by first|rfl|simp only [z3_,z4_,z5_];try rfl) ?_;(with_reducible refine (spec_lcColumns.calls k1 a0_0 a0_1 _ _ l0_2 _ _ (rd_L2 t103 x14_1) true t107 _ ?side1 ?side2 ?side3 ?side4 A13.out).mono ?_);(case side1=>apply_rules only [zq HR0_2.out HB.out,zm,zn,zo]);(case side2=>exact HC0_2.out);(case side3=>apply_rules only [HR106_0.out,zm,zn,zo]);(case side4=>exact HC106_0.out);rintro e w17 ⟨v108,rfl,ho0,hb⟩;refine ⟨_,rfl,?_⟩;replace HO_4:=za (Kd.N_elder' (by apply_rules only [HO_4.out,zz,zA,zy]) (Kd.R_base ho0) hb);replace HO_12:=za (Kd.N_elder' (by apply_rules only [HO_12.out,zz,zA,zy]) (Kd.R_base ho0) hb);replace HL106_0:=za (Kd.V_elder' (by apply_rules only [HL106_0.out,Kd.V_alloc,Kd.V_drewN,Kd.V_drew]) (Kd.R_base ho0) hb);have HO109:=za (Kd.R_lower (Kd.R_newM (M:=fun k_=>(w.heap.size≤k_)) ho0 (zi (by apply_rules only [HB.out,zc,zd,zb,zg,GE101.out])) (fun k_ h_=>h_)) (zi (by apply_rules only [HB.out,zc,zd,zb,zg,GE101.out])));replace BK101:=za (zp (g:=gb101) (o:=.cells #[.int .i64 a0_0,.int .i64 a0_1,.slice A0_2 l0_2.length c0_2] 26 (0,0)) (by apply_rules only [BK101.out,zj,zh,zk]) hb);replace HR106_0:=za (zq (by apply_rules only [HR106_0.out,zm,zn,zo]) hb);replace HB:=za (zl (by apply_rules only [HB.out,zc,zd,zb,zg,GE101.out]) hb);obtain ⟨Ao18,co18,eo18⟩:=Kd.R_slice HO109.out;subst eo18)|((with_reducible refine gate_builtin (b:=.append) (xs:=#[.tmp 28,.tmp 32]) rfl ?_);at_builtin;refine Kd.N_append k37 (w0:=w) w.heap.size rfl (.tmp 28) (.tmp 32) 33 37 (.agg #[(.slice none 0 0),(.slice none 0 0)]) 48 rfl Tryz.underlying33 info37 rfl (by decide) (by omega) u4 x4_1 (⟨rd_L2 t103 x14_1,t107⟩:S37) [.slice A106_0 (rd_L2 t103 x14_1).length c106_0,.slice Ao18 t107.length co18] (fun k_=>(w.heap.size≤k_)∧some k_ ≠ (.slice (some ad106) t103.length co9:Value).ownBlock∧k_ ≠ gb101) (fun k_=>((fun k_=>(w.heap.size≤k_)∧some k_ ≠ (.slice (some ad106) t103.length co9:Value).ownBlock∧k_ ≠ gb101)) k_∧some k_ ≠ (u4:Value).ownBlock) rfl rfl ?aP (fun _ hk=>hk) ?aF ?aO ?aB ?aS ?aL ?_;(case aP=>exact (k37_mkF _ _ (⟨rd_L2 t103 x14_1,t107⟩:S37) (Kd.V_reads' (Kd.V_mono (ok':=(fun k_=>((fun k_=>(w.heap.size≤k_)∧some k_ ≠ (.slice (some ad106) t103.length co9:Value).ownBlock∧k_ ≠ gb101)) k_∧some k_ ≠ (u4:Value).ownBlock)) (HL106_0.out) (fun k_ hk=>⟨⟨hk.1.1.1,⟨hk.1.2,hk.1.1.2.2⟩⟩,hk.1.1.2.1⟩))).2.1 (Kd.V_F (Kd.V_mono (ok':=(fun k_=>((fun k_=>(w.heap.size≤k_)∧some k_ ≠ (.slice (some ad106) t103.length co9:Value).ownBlock∧k_ ≠ gb101)) k_∧some k_ ≠ (u4:Value).ownBlock)) (HL106_0.out) (fun k_ hk=>⟨⟨hk.1.1.1,⟨hk.1.2,hk.1.1.2.2⟩⟩,hk.1.1.2.1⟩))) (Kd.R_reads' (Kd.R_mono (ok':=(fun k_=>((fun k_=>(w.heap.size≤k_)∧some k_ ≠ (.slice (some ad106) t103.length co9:Value).ownBlock∧k_ ≠ gb101)) k_∧some k_ ≠ (u4:Value).ownBlock)) (Kd.R_types (Kd.R_apart' (Kd.R_apart' (HO109.out) (Kd.N_typed HO_12.out) (by decide)) (Kd.N_typed HO_4.out) (by decide)) BK101.out (by decide)) (fun k_ hk=>⟨⟨hk.1.1.1.1,⟨hk.1.1.2,hk.2⟩⟩,hk.1.2⟩))).2.1 (Kd.R_F (Kd.R_mono (ok':=(fun k_=>((fun k_=>(w.heap.size≤k_)∧some k_ ≠ (.slice (some ad106) t103.length co9:Value).ownBlock∧k_ ≠ gb101)) k_∧some k_ ≠ (u4:Value).ownBlock)) (Kd.R_types (Kd.R_apart' (Kd.R_apart' (HO109.out) (Kd.N_typed HO_12.out) (by decide)) (Kd.N_typed HO_4.out) (by decide)) BK101.out (by decide)) (fun k_ hk=>⟨⟨hk.1.1.1.1,⟨hk.1.1.2,hk.2⟩⟩,hk.1.2⟩)))));(case aB=>exact (by apply_rules only [HB.out,zc,zd,zb,zg,GE101.out]));(case aF=>exact (fun k_ hk=>⟨(Nat.le_trans (zi (by apply_rules only [HB.out,zc,zd,zb,zg,GE101.out])) hk),Kd.fresh' (Kd.N_lt (by apply_rules only [HO_12.out,zz,zA,zy])) k_ hk,Kd.freshB (g:=gb101) (o:=.cells #[.int .i64 a0_0,.int .i64 a0_1,.slice A0_2 l0_2.length c0_2] 26 (0,0)) (by apply_rules only [BK101.out,zj,zh,zk]) k_ hk⟩));(case aO=>exact (by (with_reducible repeat (first|apply zz|apply zA|apply zy));exact Kd.N_mono HO_4.out (fun _ hk=>⟨hk.1.1,⟨hk.1.2.1,hk.1.2.2⟩⟩)));(case aS=>exact (zi (by apply_rules only [HB.out,zc,zd,zb,zg,GE101.out])));(case aL=>have:=LMc15.out;omega);intro v111 w19 ho hb hg hat;rw [← Ny110.out] at ho;replace HO_12:=za (Kd.N_afterv (ok:=(fun k_=>(w.heap.size≤k_)∧some k_ ≠ (.slice Ao18 t107.length co18:Value).ownBlock∧k_ ≠ gb101)) (by (with_reducible repeat (first|apply zz|apply zA|apply zy));exact Kd.N_mono HO_12.out (fun _ hk=>⟨⟨hk.1.1,⟨hk.2,hk.1.2.2⟩⟩,hk.1.2.1⟩)) hg hat);replace BK101:=za (blk_grown (g:=gb101) (o:=.cells #[.int .i64 a0_0,.int .i64 a0_1,.slice A0_2 l0_2.length c0_2] 26 (0,0)) (by apply_rules only [BK101.out,zj,zh,zk]) hg (Kd.N_ne HO_4.out BK101.out (by decide)));replace HL106_0:=za (Kd.V_afterv (ok:=(fun k_=>(w.heap.size≤k_)∧some k_ ≠ (.slice (some ad106) t103.length co9:Value).ownBlock∧some k_ ≠ (.slice Ao18 t107.length co18:Value).ownBlock∧k_ ≠ gb101)) (by (with_reducible repeat (first|apply Kd.V_alloc|apply Kd.V_drewN|apply Kd.V_drew));exact Kd.V_mono HL106_0.out (fun _ hk=>⟨⟨hk.1.1.1,⟨hk.1.2,⟨hk.2,hk.1.1.2.2⟩⟩⟩,hk.1.1.2.1⟩)) hg hat);replace HB:=za (hb);have HO112:=za (ho);clear HO_4 HO109;clear ho hb hg hat)));(go_roundg k1);(case measure=>have:=HK1.out;omega);case rel=>exact ⟨(y110),(wrap64 (x14_1 + 1)),(by first|rfl|(simp;done)|(simp [*];done)),H',⟨by have:=HK1.out;omega⟩,⟨by apply_rules only [HO112.out,zz,zA,zy]⟩,⟨by (with_reducible repeat (first|apply zz|apply zA|apply zy));exact Kd.N_mono HO_12.out (fun _ hk=>⟨hk.1.1,⟨hk.2,hk.1.2.2⟩⟩)⟩,⟨by apply_rules only [BK101.out,zj,zh,zk]⟩,⟨by apply_rules only [HB.out,zc,zd,zb,zg,GE101.out]⟩⟩
       · rw [if_neg c15] at H;exact absurd H (by simp)
      · rw [if_neg c14] at H;have c14b0:((wrap64 (((rd_L2 t103 x14_1).length:Int) + (t107.length:Int))) == t102)=false:=beq_eq_false_iff_ne.mpr c14;have c14b1:((wrap64 (((rd_L2 t103 x14_1).length:Int) + (t107.length:Int))) != t102)=true:=bne_iff_ne.mpr c14;have H':=za H;clear H;have p106:0≤(x14_1:Int):=of_decide_eq_true ‹_›;have q106:x14_1 < (t103.length:Int):=of_decide_eq_true ‹_›;obtain ⟨ad106,A106_0,c106_0,e106,hx106_0,hl106_0,hi106_0⟩:=at_L2 (Kd.N_reads' HO_12.out).2.2 x14_1 p106 q106;cases e106;obtain ⟨ce106,hce106,hMe106,hcc106⟩:=Kd.N_get HO_12.out [] x14_1 p106 (by first|exact q106|exact of_decide_eq_true ‹_›|(have e_:=(Kd.N_reads' HO_12.out).1;omega));obtain ⟨ua106_0,uc106_0,rfl,ul106_0,ge106_0⟩:=Kd.FK_slice_open hMe106;have hv106_0:=hcc106 0 _ rfl;rw [Nat.add_zero,show ((Kd.slice 3 (Kd.int .i64))).sz=1 from rfl,Nat.mul_one] at hv106_0;replace hv106_0:=Option.some.inj (hv106_0.symm.trans hx106_0);(injection hv106_0 with hva_ hvn_ hvc_);rw [hva_] at ge106_0;rw [hvc_] at ul106_0;have HL106_0:=za (show Kd.V (Kd.int .i64) 3 _ w.heap.size _ _ (rd_L2 t103 x14_1) from Kd.V_mk ul106_0 ge106_0);clear hva_ hvn_ hvc_ ge106_0 ul106_0;clear hcc106 hce106;have HR106_0:=za hi106_0;have HC106_0:=za hl106_0;clear hi106_0 hl106_0;replace p106:=eq_true p106;replace q106:=eq_true q106;have hcz20_0:wr.cell? ⟨gb101,0,none⟩=some (.int .i64 a0_0):=(ze BK101.out 0).trans rfl;have hcz20_1:wr.cell? ⟨gb101,1,none⟩=some (.int .i64 a0_1):=(ze BK101.out 1).trans rfl;have hcz20_2:wr.cell? ⟨gb101,2,none⟩=some (.slice A0_2 l0_2.length c0_2):=(ze BK101.out 2).trans rfl;have hfz20_0:=zf BK101.out 0;have hfz20_1:=zf BK101.out 1;have hfz20_2:=zf BK101.out 2;(go_wp2_with (first|((with_reducible refine zu (f:=61) rfl ?_);refine goesL_ (some 20) rfl rfl Tryz.func61 (by kernel_rfl) rfl #[.agg #[.int .i64 a0_0,.int .i64 a0_1,.slice A0_2 l0_2.length c0_2],.slice A106_0 (rd_L2 t103 x14_1).length c106_0,.bool true] rfl (by first|rfl|simp only [z3_,z4_,z5_];try rfl) ?_;(with_reducible refine (spec_lcColumns.calls k1 a0_0 a0_1 _ _ l0_2 _ _ (rd_L2 t103 x14_1) true t107 _ ?side1 ?side2 ?side3 ?side4 A13.out).mono ?_);(case side1=>apply_rules only [zq HR0_2.out HB.out,zm,zn,zo]);(case side2=>exact HC0_2.out);(case side3=>apply_rules only [HR106_0.out,zm,zn,zo]);(case side4=>exact HC106_0.out);rintro e w21 ⟨v108,rfl,ho0,hb⟩;refine ⟨_,rfl,?_⟩;replace HO_4:=za (Kd.N_elder' (by apply_rules only [HO_4.out,zz,zA,zy]) (Kd.R_base ho0) hb);replace HO_12:=za (Kd.N_elder' (by apply_rules only [HO_12.out,zz,zA,zy]) (Kd.R_base ho0) hb);replace HL106_0:=za (Kd.V_elder' (by apply_rules only [HL106_0.out,Kd.V_alloc,Kd.V_drewN,Kd.V_drew]) (Kd.R_base ho0) hb);have HO109:=za (Kd.R_lower (Kd.R_newM (M:=fun k_=>(w.heap.size≤k_)) ho0 (zi (by apply_rules only [HB.out,zc,zd,zb,zg,GE101.out])) (fun k_ h_=>h_)) (zi (by apply_rules only [HB.out,zc,zd,zb,zg,GE101.out])));replace BK101:=za (zp (g:=gb101) (o:=.cells #[.int .i64 a0_0,.int .i64 a0_1,.slice A0_2 l0_2.length c0_2] 26 (0,0)) (by apply_rules only [BK101.out,zj,zh,zk]) hb);replace HR106_0:=za (zq (by apply_rules only [HR106_0.out,zm,zn,zo]) hb);replace HB:=za (zl (by apply_rules only [HB.out,zc,zd,zb,zg,GE101.out]) hb);obtain ⟨Ao22,co22,eo22⟩:=Kd.R_slice HO109.out;subst eo22)));(go_roundg k1);(case measure=>have:=HK1.out;omega);case rel=>exact ⟨(x4_1),(wrap64 (x14_1 + 1)),(by first|rfl|(simp;done)|(simp [*];done)),H',⟨by have:=HK1.out;omega⟩,⟨by (with_reducible repeat (first|apply zz|apply zA|apply zy));exact Kd.N_mono HO_4.out (fun _ hk=>⟨hk.1.1,⟨hk.1.2.1,hk.1.2.2⟩⟩)⟩,⟨by (with_reducible repeat (first|apply zz|apply zA|apply zy));exact Kd.N_mono HO_12.out (fun _ hk=>⟨hk.1.1,⟨hk.1.2.1,hk.1.2.2⟩⟩)⟩,⟨by apply_rules only [BK101.out,zj,zh,zk]⟩,⟨by apply_rules only [HB.out,zc,zd,zb,zg,GE101.out]⟩⟩
     · rw [if_neg c12] at H;exact absurd H (by simp)
    · rw [if_neg c11] at H;exact absurd H (by simp)
   · rw [if_neg c10] at H;have c10b0:decide (x14_1 < (t103.length:Int))=false:=decide_eq_false c10;clear c10;obtain rfl:=Option.some.inj H;(go_wp2);(go_ret);exact ⟨_,by first|rfl|simp [*,errW_none,errW_some] <;> rfl,by (with_reducible repeat (first|apply zz|apply zA|apply zy));exact Kd.N_mono HO_4.out (fun _ hk=>hk.1),by repeat (first|(with_reducible first|exact HB.out|apply zc|apply zd|apply zb|refine zg ?_ GE101.out)|exact HB.out)⟩
end Go.Proofs.YtpjjeeabpaojnaaGreat.Q
end
section
namespace Go.Proofs.YtpjjeeabpaojnaaGreat.Walk
set_option linter.unusedVariables false
open Go.RowKit Go.Proofs.YtpjjeeabpaojnaaGreatW.PrintWords Go.Proofs.YtpjjeeabpaojnaaGreatW.PrintLast Go.Proofs.YtpjjeeabpaojnaaGreatW.PrintMore
open Go.Proofs.YtpjjeeabpaojnaaGreatL Go.Proofs.YtpjjeeabpaojnaaGreat.LawK Go.Proofs.YtpjjeeabpaojnaaGreat.BoardK
theorem mem_iota {m:Int} {n:Nat} {x:Int} (h1:m≤x) (h2:x < m + n):x ∈ iota m n:=by
 have hi:(x - m).toNat < (iota m n).length:=by rw [iota_length];omega
 have:=iota_get n m (x - m).toNat hi
 rw [show x=(iota m n)[(x - m).toNat] by rw [this];omega]
 exact List.getElem_mem hi
def colWays (l:List Int) (r t:Nat) (pre:List Int) (next:Nat→List Int→List (List Int)) (c:Int):List (List Int) :=
 if c < 0 then next t (pre ++ [c])
 else if cell l r c.toNat && !t.testBit c.toNat then next (t ||| 2 ^ c.toNat) (pre ++ [c]) else []
def waysFrom (l:List Int) (C:Nat):Nat→Nat→Nat→List Int→List (List Int)
|0,_,_,pre=>[pre]
|d + 1,r,t,pre=>(iota (-1) (C + 1)).flatMap (colWays l r t pre (waysFrom l C d (r + 1)))
theorem iota_cut:∀ (j n:Nat) (m:Int),j < n→iota m n=iota m j ++ (m + j) :: iota (m + j + 1) (n - j - 1)
|0,n + 1,m,_=>by rw [iota,iota];simp
|j + 1,n + 1,m,h=>by
  rw [iota,iota,iota_cut j n (m + 1) (by omega),List.cons_append]
  have e1:m + 1 + (j:Int)=m + ((j + 1:Nat):Int):=by omega
  rw [e1,show n + 1 - (j + 1) - 1=n - j - 1 by omega]
theorem ways_cut (l:List Int) (C d r t:Nat) (pre:List Int) (j:Nat) (hj:j < C + 1) {x:Int} (hx:x=-1 + j) :
  waysFrom l C (d + 1) r t pre=(iota (-1) j).flatMap (colWays l r t pre (waysFrom l C d (r + 1))) ++ (colWays l r t pre (waysFrom l C d (r + 1)) x ++ (iota (x + 1) (C + 1 - j - 1)).flatMap (colWays l r t pre (waysFrom l C d (r + 1)))):=by
 rw [waysFrom,iota_cut j (C + 1) (-1) hj,List.flatMap_append,List.flatMap_cons,hx]
theorem ways_len (l:List Int) (C:Nat):∀ (d r t:Nat) (pre:List Int),(waysFrom l C d r t pre).length≤(C + 1) ^ d
|0,r,t,pre=>by simp [waysFrom]
|d + 1,r,t,pre=>by
  have hc:∀ c,(colWays l r t pre (waysFrom l C d (r + 1)) c).length≤(C + 1) ^ d:=by
   intro c
   unfold colWays
   split
   ·
    exact ways_len l C d (r + 1) _ _
   ·
    split
    ·
     exact ways_len l C d (r + 1) _ _
    ·
     exact Nat.zero_le _
  have hf:∀ (n:Nat) (m:Int),((iota m n).flatMap (colWays l r t pre (waysFrom l C d (r + 1)))).length≤n * (C + 1) ^ d:=by
   intro n
   induction n with
  |zero=>intro m;simp [iota]
  |succ n ih =>
    intro m
    rw [iota,List.flatMap_cons,List.length_append,Nat.succ_mul]
    have h1:=hc m
    have h2:=ih (m + 1)
    omega
  rw [waysFrom,Nat.pow_succ,Nat.mul_comm]
  exact hf (C + 1) (-1)
structure Blks where (b d a p g r:Nat)
structure Blks.Apart (k:Blks):Prop where
 bd:k.b ≠ k.d
 ba:k.b ≠ k.a
 bp:k.b ≠ k.p
 bg:k.b ≠ k.g
 br:k.b ≠ k.r
 da:k.d ≠ k.a
 dp:k.d ≠ k.p
 dg:k.d ≠ k.g
 dr:k.d ≠ k.r
 ap:k.a ≠ k.p
 ag:k.a ≠ k.g
 ar:k.a ≠ k.r
 pg:k.p ≠ k.g
 pr:k.p ≠ k.r
 gr:k.g ≠ k.r
def Blks.has (k:Blks) (i:Nat):Prop:=i=k.b ∨ i=k.d ∨ i=k.a ∨ i=k.p ∨ i=k.g ∨ i=k.r
structure Still (S:Nat→Prop) (w w':World):Prop where
 kept:Kept w w' S
 os:w'.os=w.os
 tape:w'.tape=w.tape
 output:w'.output=w.output
theorem Still.refl (S:Nat→Prop) (w:World):Still S w w:=⟨Kept.refl _ _,rfl,rfl,rfl⟩
theorem Still.of_below {S:Nat→Prop} {w w':World} (h:Below w.heap.size w w'):Still S w w':=⟨Kept.of_below h S,h.os,h.tape,h.output⟩
theorem Still.set {S:Nat→Prop} (w:World) {a:Addr} (h:S a.block) (v:Value):Still S w (w.setCell a v):=⟨Kept.setCell (Kept.refl _ _) (.inl h) v,rfl,rfl,rfl⟩
theorem Still.drewN {S:Nat→Prop} (w:World) (n:Nat):Still S w (w.drewN n):=⟨Kept.drewN (Kept.refl _ _) n,rfl,rfl,rfl⟩
theorem Still.trans {S:Nat→Prop} {a b c:World} (h:Still S a b) (k:Still S b c):Still S a c:=⟨h.kept.then_ k.kept (fun _ hk=>.inl hk),k.os.trans h.os,k.tape.trans h.tape,k.output.trans h.output⟩
theorem Still.below {S:Nat→Prop} {w0 w w':World} (h:Below w0.heap.size w0 w) (k:Still S w w') (hS:∀ i,S i→w0.heap.size≤i):Below w0.heap.size w0 w' :=
 ⟨k.os.trans h.os,k.tape.trans h.tape,k.output.trans h.output,Nat.le_trans h.size k.kept.1,fun i hi=>(k.kept.2 i (Nat.lt_of_lt_of_le hi h.size) (fun hs=>by have:=hS i hs;omega)).trans (h.block i hi)⟩
structure WSt (k:Blks) (Inv:List (List Int)→World→Prop) (RI CI:Int) (n cp:Nat) (l:List Int) (A0:Option Addr) (c0:Nat) (F:Value) (vis:List (List Int)) (ps:List Int) (w:World):Prop where
 cB:w.heap[k.b]?=some (.cells #[.int .i64 RI,.int .i64 CI,.slice A0 l.length c0] 26 (0,0))
 cD:w.heap[k.d]?=some (.cells #[F] 62 (0,0))
 cA:Kd.R (Kd.int .i64) 3 w 0 (fun i=>i=k.a) (.slice (some ⟨k.a,0,none⟩) n cp) ps
 cP:w.heap[k.p]?=some (.cells #[.slice (some ⟨k.a,0,none⟩) n cp] 24 (0,0))
 cG:w.heap[k.g]?=some (.cells #[.bool true] 4 (0,0))
 cR:w.heap[k.r]?=some (.cells #[.func (.func 89) #[] #[.pointer (some ⟨k.b,0,none⟩),.pointer (some ⟨k.d,0,none⟩),.pointer (some ⟨k.p,0,none⟩),.pointer (some ⟨k.g,0,none⟩),.pointer (some ⟨k.r,0,none⟩)]] 92 (0,0))
 inv:Inv vis w
section
variable {k : Blks} {Inv : List (List Int) → World → Prop} {RI CI : Int} {n cp : Nat} {l : List Int} {A0 : Option Addr} {c0 : Nat} {F : Value} {vis : List (List Int)} {ps : List Int} {w w' : World}
theorem WSt.below (hI:∀ vis w w',Inv vis w→Still k.has w w'→Inv vis w') (h:WSt k Inv RI CI n cp l A0 c0 F vis ps w) (hb:Below w.heap.size w w'):WSt k Inv RI CI n cp l A0 c0 F vis ps w' :=
 ⟨blk_below h.cB hb,blk_below h.cD hb,Kd.R_below h.cA hb,blk_below h.cP hb,blk_below h.cG hb,blk_below h.cR hb,hI _ _ _ h.inv (Still.of_below hb)⟩
theorem WSt.drewN (hI:∀ vis w w',Inv vis w→Still k.has w w'→Inv vis w') (h:WSt k Inv RI CI n cp l A0 c0 F vis ps w) (m:Nat):WSt k Inv RI CI n cp l A0 c0 F vis ps (w.drewN m) :=
 h.below hI (pw_below_drewN (Below.refl _ _) m)
theorem WSt.setA (hI:∀ vis w w',Inv vis w→Still k.has w w'→Inv vis w') (hk:k.Apart) (h:WSt k Inv RI CI n cp l A0 c0 F vis ps w) (i c:Int):WSt k Inv RI CI n cp l A0 c0 F vis (ps.set i.toNat c) (w.setCell ⟨k.a,i.toNat,none⟩ (.int .i64 c)) :=
 ⟨blk_far h.cB hk.ba _,blk_far h.cD hk.da _,Kd.R_putn h.cA i c,blk_far h.cP hk.ap.symm _,blk_far h.cG hk.ag.symm _,blk_far h.cR hk.ar.symm _,hI _ _ _ h.inv (Still.set w (.inr (.inr (.inl rfl))) _)⟩
theorem WSt.setG (hI:∀ vis w w',Inv vis w→Still k.has w w'→Inv vis w') (hk:k.Apart) (h:WSt k Inv RI CI n cp l A0 c0 F vis ps w):WSt k Inv RI CI n cp l A0 c0 F vis ps (w.setCell ⟨k.g,0,none⟩ (.bool true)) :=
 ⟨blk_far h.cB hk.bg _,blk_far h.cD hk.dg _,Kd.R_far h.cA (fun i hi=>by rw [hi];exact hk.ag) _,blk_far h.cP hk.pg _,blk_put h.cG 0 _ rfl,blk_far h.cR hk.gr.symm _,hI _ _ _ h.inv (Still.set w (.inr (.inr (.inr (.inr (.inl rfl))))) _)⟩
end
end Go.Proofs.YtpjjeeabpaojnaaGreat.Walk
end
section
namespace Go.Proofs.YtpjjeeabpaojnaaGreat.Q
open Go.RowKit Go.Proofs.YtpjjeeabpaojnaaGreatW.PrintWords Go.Proofs.YtpjjeeabpaojnaaGreatW.PrintLast Go.Proofs.YtpjjeeabpaojnaaGreatW.PrintMore
attribute [local go_sem] max2_int min2_int max_two min_two max_three min_three max_four min_four   -- for this text's walks alone
set_option linter.unusedVariables false
set_option linter.unusedSimpArgs false
def impl_rooks.l0:Nat→Int→List Int→Int→Int→Option (Int)
|0,_,_,_,_=>none
|k + 1,x3,x6,x7,x8=>if x8 < x7 then (if 0≤x8 then (if x8 < (x6.length:Int) then (if (rd x6 x8)=(-1) then (impl_rooks.l0 k x3 x6 x7 (wrap64 (x8 + 1))) else (impl_rooks.l0 k (wrap64 (x3 + 1)) x6 x7 (wrap64 (x8 + 1)))) else (none)) else (none)) else (some x3)
def impl_rooks.f (k:Nat) (l0:List Int):Option (Int):=impl_rooks.l0 k 0 l0 (l0.length:Int) 0
set_option maxHeartbeats 8000000 in
set_option maxRecDepth 100000 in
theorem impl_rooks.calls (k:Nat) (A0:Option Addr) (c0:Nat) (l0:List Int) (r:Int) (w:World) (hr0:Kd.C (Kd.int .i64) w A0 l0.length l0) (hc0:l0.length≤c0) (h:impl_rooks.f k l0=some r) :
  Calls Tryz.prog 36 #[.slice A0 l0.length c0] w fun e w'=>e=.returned (.int .i64 r)∧Drawn0 w w':=by
 have HR0:=za hr0;have HC0:=za hc0;clear hr0 hc0;have H:(impl_rooks.l0 k 0 l0 (l0.length:Int) 0)=some r:=h;clear h;have H':=za H;clear H;(go_enter Tryz.func36,Tryz.ntmps36);(go_wp2);(go_loopg [3,8] k (fun kq v3 v8 w'=>∃ (x3_1:Int) (x8_1:Int),v3=.int .i64 x3_1∧v8=.int .i64 x8_1∧Aside0 (impl_rooks.l0 kq x3_1 l0 (l0.length:Int) x8_1=some r)∧Aside0 (kq≤k)∧Drawn0 w w'));case atStart=>exact ⟨(0),(0),(by first|rfl|(simp;done)|(simp [*];done)),(by first|rfl|(simp;done)|(simp [*];done)),H',⟨Nat.le_refl _⟩,by apply_rules only [Drawn0.refl _,Drawn0.step]⟩
 case round =>
  clear H';obtain ⟨x3_1,x8_1,rfl,rfl,HA,HK1,⟨m1,rfl⟩⟩:=hrel
  cases gk with
 |zero=>exact absurd HA.out (by simp [impl_rooks.l0])
 |succ k1 =>
   have H:=HA.out;clear HA;simp only [impl_rooks.l0] at H;by_cases c2:x8_1 < (l0.length:Int)
   ·
    rw [if_pos c2] at H;have c2b0:decide (x8_1 < (l0.length:Int))=true:=decide_eq_true c2;clear c2;by_cases c3:0≤x8_1
    ·
     rw [if_pos c3] at H;have c3b0:decide (0≤x8_1)=true:=decide_eq_true c3;clear c3;by_cases c4:x8_1 < (l0.length:Int)
     ·
      rw [if_pos c4] at H;have c4b0:decide (x8_1 < (l0.length:Int))=true:=decide_eq_true c4;clear c4;by_cases c5:(rd l0 x8_1)=(-1)
      · rw [if_pos c5] at H;have c5b0:((rd l0 x8_1) == (-1))=true:=beq_iff_eq.mpr c5;have c5b1:((rd l0 x8_1) != (-1))=false:=bne_eq_false_iff_eq.mpr c5;clear c5;have H':=za H;clear H;have p101:0≤(x8_1:Int):=of_decide_eq_true ‹_›;have q101:x8_1 < (l0.length:Int):=of_decide_eq_true ‹_›;obtain ⟨ad101,e101,hx101_0⟩:=zx HR0.out x8_1 p101 q101;cases e101;replace p101:=eq_true p101;replace q101:=eq_true q101;(go_wp2);(go_roundg k1);(case measure=>have:=HK1.out;omega);case rel=>exact ⟨(x3_1),(wrap64 (x8_1 + 1)),(by first|rfl|(simp;done)|(simp [*];done)),(by first|rfl|(simp;done)|(simp [*];done)),H',⟨by have:=HK1.out;omega⟩,by apply_rules only [Drawn0.refl _,Drawn0.step]⟩
      · rw [if_neg c5] at H;have c5b0:((rd l0 x8_1) == (-1))=false:=beq_eq_false_iff_ne.mpr c5;have c5b1:((rd l0 x8_1) != (-1))=true:=bne_iff_ne.mpr c5;have H':=za H;clear H;have p101:0≤(x8_1:Int):=of_decide_eq_true ‹_›;have q101:x8_1 < (l0.length:Int):=of_decide_eq_true ‹_›;obtain ⟨ad101,e101,hx101_0⟩:=zx HR0.out x8_1 p101 q101;cases e101;replace p101:=eq_true p101;replace q101:=eq_true q101;(go_wp2);(go_roundg k1);(case measure=>have:=HK1.out;omega);case rel=>exact ⟨(wrap64 (x3_1 + 1)),(wrap64 (x8_1 + 1)),(by first|rfl|(simp;done)|(simp [*];done)),(by first|rfl|(simp;done)|(simp [*];done)),H',⟨by have:=HK1.out;omega⟩,by apply_rules only [Drawn0.refl _,Drawn0.step]⟩
     · rw [if_neg c4] at H;exact absurd H (by simp)
    · rw [if_neg c3] at H;exact absurd H (by simp)
   · rw [if_neg c2] at H;have c2b0:decide (x8_1 < (l0.length:Int))=false:=decide_eq_false c2;clear c2;obtain rfl:=Option.some.inj H;(go_wp2);(go_ret);exact ⟨by first|rfl|(simp;done)|(simp [*];done),by apply_rules only [Drawn0.refl _,Drawn0.step]⟩
end Go.Proofs.YtpjjeeabpaojnaaGreat.Q
end
section
namespace Go.Proofs.YtpjjeeabpaojnaaGreat.Walk
set_option linter.unusedVariables false
open Go.RowKit Go.Proofs.YtpjjeeabpaojnaaGreatW.PrintWords Go.Proofs.YtpjjeeabpaojnaaGreatW.PrintLast Go.Proofs.YtpjjeeabpaojnaaGreatW.PrintMore
open Go.Proofs.YtpjjeeabpaojnaaGreatL Go.Proofs.YtpjjeeabpaojnaaGreat.LawK Go.Proofs.YtpjjeeabpaojnaaGreat.BoardK Go.Proofs.YtpjjeeabpaojnaaGreat.Q
def rooksN (l:List Int):Nat:=l.countP (fun x=>x != -1)
theorem rooks_l0 {l:List Int} (hl:l.length≤1048576):∀ (d i n:Nat),i + d=l.length→n≤i→Ev (fun k=>impl_rooks.l0 k n l (l.length:Int) i) ((n + rooksN (l.drop i):Nat):Int)
|0,i,n,hi,hn=>by
  refine Ev.step (f:=fun _=>some ((n + rooksN (l.drop i):Nat):Int)) (fun k=>?_) (Ev.now _)
  rw [impl_rooks.l0,if_neg (by omega),List.drop_eq_nil_of_le (by omega)];rfl
|d + 1,i,n,hi,hn=>by
  have h1:wrap64 ((i:Int) + 1)=((i + 1:Nat):Int):=by rw [w64 (by omega) (by omega)];rfl
  have h2:wrap64 ((n:Int) + 1)=((n + 1:Nat):Int):=by rw [w64 (by omega) (by omega)];rfl
  have hi2:i < l.length:=by omega
  rw [List.drop_eq_getElem_cons hi2,rooksN,List.countP_cons]
  by_cases hx:l[i]=-1
  ·
   have ih:=rooks_l0 hl d (i + 1) n (by omega) (by omega)
   rw [rooksN] at ih
   rw [if_neg (by simp [hx]),Nat.add_zero]
   refine Ev.step (fun k=>?_) ih
   rw [impl_rooks.l0,if_pos (by omega),if_pos (by omega),if_pos (by omega),rd_lt _ _ hi2,if_pos hx,h1]
  ·
   have ih:=rooks_l0 hl d (i + 1) (n + 1) (by omega) (by omega)
   rw [rooksN] at ih
   rw [if_pos (by simpa using hx)]
   rw [show n + (List.countP (fun x=>x != -1) (List.drop (i + 1) l) + 1)=n + 1 + List.countP (fun x=>x != -1) (List.drop (i + 1) l) by omega]
   refine Ev.step (fun k=>?_) ih
   rw [impl_rooks.l0,if_pos (by omega),if_pos (by omega),if_pos (by omega),rd_lt _ _ hi2,if_neg hx,h1,h2]
theorem rooks_f {l:List Int} (hl:l.length≤1048576):∃ k,impl_rooks.f k l=some (rooksN l:Int):=by
 have h:=rooks_l0 hl l.length 0 0 (by omega) (by omega)
 rw [List.drop_zero,Nat.zero_add] at h
 exact h.rounds
end Go.Proofs.YtpjjeeabpaojnaaGreat.Walk
end
section
namespace Go.Proofs.YtpjjeeabpaojnaaGreat.MostK
set_option linter.unusedVariables false
open Go.RowKit Go.Proofs.YtpjjeeabpaojnaaGreat.Q Go.Proofs.YtpjjeeabpaojnaaGreatW.PrintWords Go.Proofs.YtpjjeeabpaojnaaGreatW.PrintLast Go.Proofs.YtpjjeeabpaojnaaGreatW.PrintMore
open Go.Proofs.YtpjjeeabpaojnaaGreatL Go.Proofs.YtpjjeeabpaojnaaGreat.LawK Go.Proofs.YtpjjeeabpaojnaaGreat.BoardK Go.Proofs.YtpjjeeabpaojnaaGreat.LinesK Go.Proofs.YtpjjeeabpaojnaaGreat.Koenig Go.Proofs.YtpjjeeabpaojnaaGreat.Walk
theorem rooks_none (pre:List Int):rooksN (pre ++ [-1])=rooksN pre:=by
 unfold rooksN
 rw [List.countP_append]
 rfl
theorem rooks_some (pre:List Int) {c:Int} (h:c ≠ -1):rooksN (pre ++ [c])=rooksN pre + 1:=by
 unfold rooksN
 rw [List.countP_append,List.countP_singleton,if_pos (by simpa using h)]
theorem col_none (l:List Int) (r t:Nat) (pre:List Int) (next:Nat→List Int→List (List Int)):colWays l r t pre next (-1)=next t (pre ++ [-1]):=by
 unfold colWays
 rw [if_pos (by omega)]
theorem col_some (l:List Int) (r t:Nat) (pre:List Int) (next:Nat→List Int→List (List Int)) (c:Nat):colWays l r t pre next (c:Int)=if (cell l r c && !t.testBit c)=true then next (t ||| 2 ^ c) (pre ++ [(c:Int)]) else []:=by
 unfold colWays
 rw [if_neg (by omega),Int.toNat_natCast]
theorem mem_cols {C:Nat} {c:Int}:c ∈ iota (-1) (C + 1) ↔ c=-1 ∨ ∃ n:Nat,c=n∧n < C:=by
 constructor
 ·
  intro h
  obtain ⟨i,hi,e⟩:=List.mem_iff_getElem.1 h
  rw [iota_get] at e
  rw [iota_length] at hi
  by_cases h0:i=0
  ·
   left;omega
  ·
   right;exact ⟨i - 1,by omega,by omega⟩
 ·
  rintro (rfl|⟨n,rfl,hn⟩)
  ·
   exact mem_iota (by omega) (by omega)
  ·
   exact mem_iota (by omega) (by omega)
theorem ways_most (l:List Int) (C:Nat):∀ (d r t:Nat) (pre:List Int),(∀ q ∈ waysFrom l C d r t pre,rooksN q≤rooksN pre + mostN l C d r t)∧∃ q ∈ waysFrom l C d r t pre,rooksN q=rooksN pre + mostN l C d r t
|0,r,t,pre=>by
  rw [waysFrom,mostN]
  exact ⟨fun q hq=>by rw [List.mem_singleton.1 hq];exact Nat.le_refl _,pre,List.mem_singleton.2 rfl,rfl⟩
|d + 1,r,t,pre=>by
  have hbase:=foldl_base (fun c=>cell l r c && !t.testBit c) (fun c=>1 + mostN l C d (r + 1) (t ||| 2 ^ c)) (List.range' 0 C) (mostN l C d (r + 1) t)
  have helem:=fun c=>foldl_elem (fun c=>cell l r c && !t.testBit c) (fun c=>1 + mostN l C d (r + 1) (t ||| 2 ^ c)) (List.range' 0 C) (mostN l C d (r + 1) t) c
  rw [waysFrom,mostN]
  constructor
  ·
   intro q hq
   rw [List.mem_flatMap] at hq
   obtain ⟨c,hc,hq⟩:=hq
   rcases mem_cols.1 hc with rfl|⟨n,rfl,hn⟩
   ·
    rw [col_none] at hq
    have:=(ways_most l C d (r + 1) t (pre ++ [-1])).1 q hq
    rw [rooks_none] at this
    exact Nat.le_trans this (Nat.add_le_add_left hbase _)
   ·
    rw [col_some] at hq
    split at hq
    ·
     rename_i hg
     have:=(ways_most l C d (r + 1) (t ||| 2 ^ n) (pre ++ [(n:Int)])).1 q hq
     rw [rooks_some pre (by omega)] at this
     have h2:=helem n (List.mem_range'_1.2 ⟨by omega,by omega⟩) hg
     try simp only [] at h2
     refine Nat.le_trans this ?_
     rw [Nat.add_assoc]
     exact Nat.add_le_add_left h2 _
    ·
     cases hq
  ·
   refine foldl_inv (fun a=>∃ q ∈ (iota (-1) (C + 1)).flatMap (colWays l r t pre (waysFrom l C d (r + 1))),rooksN q=rooksN pre + a) _ _ _ ?_ ?_
   ·
    obtain ⟨q,hq,e⟩:=(ways_most l C d (r + 1) t (pre ++ [-1])).2
    rw [rooks_none] at e
    exact ⟨q,List.mem_flatMap.2 ⟨-1,mem_cols.2 (.inl rfl),by rw [col_none];exact hq⟩,e⟩
   ·
    intro a c hc h
    try simp only []
    split
    ·
     rename_i hg
     split
     ·
      exact h
     ·
      obtain ⟨q,hq,e⟩:=(ways_most l C d (r + 1) (t ||| 2 ^ c) (pre ++ [(c:Int)])).2
      rw [rooks_some pre (by omega)] at e
      refine ⟨q,List.mem_flatMap.2 ⟨(c:Int),mem_cols.2 (.inr ⟨c,rfl,by have:=(List.mem_range'_1.1 hc).2;omega⟩),by rw [col_some,if_pos hg];exact hq⟩,by omega⟩
    ·
     exact h
theorem cell_bit {l:List Int} {C r c:Nat} (hb:∀ i (hi:i < l.length),0≤l[i]∧l[i] < 2 ^ C) (h:cell l r c=true):c < C:=by
 by_cases hc:c < C
 ·
  exact hc
 ·
  unfold cell at h
  by_cases hr:r < l.length
  ·
   rw [gD_lt _ _ hr] at h
   have:=hb r hr
   have h3:l[r].toNat < 2 ^ C:=by
    have h4:((l[r].toNat:Nat):Int) < ((2 ^ C:Nat):Int):=by rw [Int.toNat_of_nonneg this.1];exact_mod_cast this.2
    exact_mod_cast h4
   rw [Nat.testBit_lt_two_pow (Nat.lt_of_lt_of_le h3 (Nat.pow_le_pow_right (by decide) (by omega)))] at h
   cases h
  ·
   rw [gD_ge _ _ (by omega)] at h;simp at h
theorem cnt_lt:∀ C:Fin 7,cnt (fun c=>decide (c < C.val))=C.val:=by decide
theorem most_cols {l:List Int} {R C:Nat} (hlR:l.length=R) (hR:R≤6) (hC:C≤6) (hb:∀ i (hi:i < l.length),0≤l[i]∧l[i] < 2 ^ C):mostN l C R 0 0≤C:=by
 have h:=(most_min hlR hR hC hb).2 (fun _=>true)
 have h2:kap (cell l) (fun _=>true)≤C:=by
  unfold kap
  have e:(fun (r:Nat)=>!true)=fun _=>false:=rfl
  rw [e,cnt_false,Nat.zero_add]
  have h3:=cnt_lt ⟨C,by omega⟩
  simp only [] at h3
  rw [← h3]
  refine cnt_mono fun c _ hc=>?_
  obtain ⟨r,_,_,hg⟩:=nb_iff.1 hc
  exact decide_eq_true (cell_bit hb hg)
 omega
theorem ways_le {l:List Int} {R C:Nat} (hlR:l.length=R) (hR:R≤6) (hC:C≤6) (hb:∀ i (hi:i < l.length),0≤l[i]∧l[i] < 2 ^ C):∀ q ∈ waysFrom l C R 0 0 [],(rooksN q:Int)≤min (R:Int) (C:Int):=by
 intro q hq
 have h:=(ways_most l C R 0 0 []).1 q hq
 have h1:=mostN_le l C R 0 0
 have h2:=most_cols hlR hR hC hb
 have h3:rooksN []=0:=rfl
 omega
end Go.Proofs.YtpjjeeabpaojnaaGreat.MostK
end
section
namespace Go.Proofs.YtpjjeeabpaojnaaGreat.AllK
set_option linter.unusedVariables false
open Go.RowKit Go.Proofs.YtpjjeeabpaojnaaGreat.Q Go.Proofs.YtpjjeeabpaojnaaGreatW.PrintWords Go.Proofs.YtpjjeeabpaojnaaGreatW.PrintLast Go.Proofs.YtpjjeeabpaojnaaGreatW.PrintMore
open Go.Proofs.YtpjjeeabpaojnaaGreatL Go.Proofs.YtpjjeeabpaojnaaGreat.LawK Go.Proofs.YtpjjeeabpaojnaaGreat.BoardK Go.Proofs.YtpjjeeabpaojnaaGreat.LinesK Go.Proofs.YtpjjeeabpaojnaaGreat.Koenig Go.Proofs.YtpjjeeabpaojnaaGreat.Walk Go.Proofs.YtpjjeeabpaojnaaGreat.MostK
def key (c:Int):Nat:=if c=-1 then 6 else c.toNat
def rankB:List Int→Nat
|[]=>0
|c :: t=>key c * 7 ^ t.length + rankB t
def okC (c:Int):Bool:=decide (-1≤c∧c < 6)
theorem key_lt {c:Int} (h:okC c=true):key c < 7:=by
 have:=of_decide_eq_true h
 unfold key
 split <;> omega
theorem key_inj {c d:Int} (h:okC c=true) (h':okC d=true) (e:key c=key d):c=d:=by
 have:=of_decide_eq_true h
 have:=of_decide_eq_true h'
 unfold key at e
 split at e <;> split at e <;> omega
theorem rank_lt:∀ {l:List Int},l.all okC=true→rankB l < 7 ^ l.length
|[],_=>by simp [rankB]
|c :: t,h=>by
  rw [List.all_cons,Bool.and_eq_true] at h
  have h1:=key_lt h.1
  have h2:=rank_lt h.2
  rw [rankB,List.length_cons,Nat.pow_succ]
  have:key c * 7 ^ t.length≤6 * 7 ^ t.length:=Nat.mul_le_mul_right _ (by omega)
  omega
theorem rank_head {c d:Int} {s t:List Int} (hl:s.length=t.length) (hs:s.all okC=true) (h:key c < key d):rankB (c :: s) < rankB (d :: t):=by
 have h1:=rank_lt hs
 rw [rankB,rankB,← hl]
 have:(key c + 1) * 7 ^ s.length≤key d * 7 ^ s.length:=Nat.mul_le_mul_right _ h
 rw [Nat.succ_mul] at this
 omega
theorem rank_app (pre s:List Int):rankB (pre ++ s)=rankB pre * 7 ^ s.length + rankB s:=by
 induction pre with
|nil=>simp [rankB]
|cons c t ih=>rw [List.cons_append,rankB,ih,rankB,List.length_append,Nat.pow_add,Nat.add_mul,← Nat.mul_assoc,Nat.add_assoc]
theorem rank_inj:∀ {s t:List Int},s.length=t.length→s.all okC=true→t.all okC=true→rankB s=rankB t→s=t
|[],[],_,_,_,_=>rfl
|[],_ :: _,h,_,_,_=>by simp at h
|_ :: _,[],h,_,_,_=>by simp at h
|c :: s,d :: t,hl,hs,ht,h=>by
  rw [List.length_cons,List.length_cons] at hl
  have hl:s.length=t.length:=by omega
  have hs':=hs
  have ht':=ht
  rw [List.all_cons,Bool.and_eq_true] at hs ht
  rcases Nat.lt_trichotomy (key c) (key d) with e|e|e
  ·
   have:=rank_head hl hs.2 e;omega
  ·
   have e2:=key_inj hs.1 ht.1 e
   subst e2
   rw [rankB,rankB,hl] at h
   rw [rank_inj hl hs.2 ht.2 (by omega)]
  ·
   have:=rank_head hl.symm ht.2 e;omega
def cmpB:List Int→List Int→Int
|a :: s,b :: t=>if a=b then cmpB s t else (key a:Int) - key b
|_,_=>0
theorem cmp_lt:∀ {s t:List Int},s.length=t.length→s.all okC=true→t.all okC=true→(cmpB s t < 0 ↔ rankB s < rankB t)
|[],[],_,_,_=>by simp [cmpB]
|[],_ :: _,h,_,_=>by simp at h
|_ :: _,[],h,_,_=>by simp at h
|c :: s,d :: t,hl,hs,ht=>by
  rw [List.length_cons,List.length_cons] at hl
  have hl:s.length=t.length:=by omega
  rw [List.all_cons,Bool.and_eq_true] at hs ht
  rw [cmpB]
  by_cases e:c=d
  ·
   subst e
   rw [if_pos rfl,cmp_lt hl hs.2 ht.2,rankB,rankB,hl]
   omega
  ·
   rw [if_neg e]
   have hk:key c ≠ key d:=fun h=>e (key_inj hs.1 ht.1 h)
   constructor
   ·
    intro h
    exact rank_head hl hs.2 (by omega)
   ·
    intro h
    rcases Nat.lt_or_gt_of_ne hk with e2|e2
    ·
     omega
    ·
     have:=rank_head hl.symm ht.2 e2;omega
def allS (l:List Int) (C:Nat):Nat→Nat→Nat→List Int→Nat→List (List Int)
|0,_,_,pre,m=>if m > 0 then [] else [pre]
|d + 1,r,t,pre,m=>if m > d + 1 then [] else (List.range' 0 C).flatMap (fun c=>if (cell l r c && !t.testBit c && decide (m > 0))=true then allS l C d (r + 1) (t ||| 2 ^ c) (pre ++ [(c:Int)]) (m - 1) else []) ++ allS l C d (r + 1) t (pre ++ [-1]) m
theorem ways_form {l:List Int} {C:Nat} (hC:C≤6):∀ (d r t:Nat) (pre:List Int),∀ q ∈ waysFrom l C d r t pre,∃ s,q=pre ++ s∧s.length=d∧s.all okC=true
|0,r,t,pre,q,hq=>by
  rw [waysFrom] at hq
  exact ⟨[],by rw [List.mem_singleton.1 hq,List.append_nil],rfl,rfl⟩
|d + 1,r,t,pre,q,hq=>by
  rw [waysFrom,List.mem_flatMap] at hq
  obtain ⟨c,hc,hq⟩:=hq
  have hco:okC c=true:=by
   rcases mem_cols.1 hc with rfl|⟨n,rfl,hn⟩
   ·
    rfl
   ·
    exact decide_eq_true ⟨by omega,by omega⟩
  have key:∀ t',q ∈ waysFrom l C d (r + 1) t' (pre ++ [c])→∃ s,q=pre ++ s∧s.length=d + 1∧s.all okC=true:=by
   intro t' h
   obtain ⟨s,rfl,h2,h3⟩:=ways_form hC d (r + 1) t' (pre ++ [c]) q h
   exact ⟨c :: s,by rw [List.append_assoc];rfl,by rw [List.length_cons,h2],by rw [List.all_cons,hco,h3];rfl⟩
  rcases mem_cols.1 hc with rfl|⟨n,rfl,hn⟩
  ·
   rw [col_none] at hq
   exact key _ hq
  ·
   rw [col_some] at hq
   split at hq
   ·
    exact key _ hq
   ·
    cases hq
theorem rooks_app (a b:List Int):rooksN (a ++ b)=rooksN a + rooksN b:=by
 unfold rooksN
 rw [List.countP_append]
theorem iota_range (m:Int):∀ n,iota m n=(List.range' 0 n).map (fun c:Nat=>m + (c:Int)):=by
 intro n
 apply List.ext_getElem
 ·
  rw [iota_length,List.length_map,List.length_range']
 ·
  intro i h1 h2
  rw [iota_get,List.getElem_map,List.getElem_range']
  omega
theorem iota_cols (C:Nat):iota (-1) (C + 1)=-1 :: (List.range' 0 C).map (fun c:Nat=>(c:Int)):=by
 rw [iota,iota_range]
 congr 1
 apply List.map_congr_left
 intro c _
 omega
theorem flatMap_perm {α β:Type} {f g:α→List β}:∀ (l:List α),(∀ x ∈ l,(f x).Perm (g x))→(l.flatMap f).Perm (l.flatMap g)
|[],_=>List.Perm.refl _
|x :: t,h=>by
  rw [List.flatMap_cons,List.flatMap_cons]
  exact List.Perm.append (h x (by simp)) (flatMap_perm t (fun y hy=>h y (by simp [hy])))
theorem filter_flat {α β:Type} (p:β→Bool) (f:α→List β):∀ l:List α,(l.flatMap f).filter p=l.flatMap (fun x=>(f x).filter p)
|[]=>rfl
|x :: t=>by rw [List.flatMap_cons,List.filter_append,filter_flat p f t,List.flatMap_cons]
theorem all_perm {l:List Int} {C:Nat} (hC:C≤6):∀ (d r t:Nat) (pre:List Int) (m:Nat),((waysFrom l C d r t pre).filter (fun p=>decide (rooksN p=rooksN pre + m))).Perm (allS l C d r t pre m)
|0,r,t,pre,m=>by
  rw [waysFrom,allS]
  by_cases h:m > 0
  ·
   rw [if_pos h,List.filter_cons,if_neg (by simp;omega),List.filter_nil]
  ·
   rw [if_neg h,List.filter_cons,if_pos (by simp;omega),List.filter_nil]
|d + 1,r,t,pre,m=>by
  rw [allS]
  by_cases h:m > d + 1
  ·
   rw [if_pos h]
   have:(waysFrom l C (d + 1) r t pre).filter (fun p=>decide (rooksN p=rooksN pre + m))=[]:=by
    rw [List.filter_eq_nil_iff]
    intro q hq
    have h1:=(ways_most l C (d + 1) r t pre).1 q hq
    have h2:=mostN_le l C (d + 1) r t
    simp
    omega
   rw [this]
  ·
   rw [if_neg h,waysFrom,iota_cols,List.flatMap_cons,List.filter_append,col_none]
   refine List.Perm.trans List.perm_append_comm (List.Perm.append ?_ ?_)
   ·
    rw [List.flatMap_map,filter_flat]
    refine flatMap_perm _ fun c hc=>?_
    rw [col_some]
    by_cases hg:(cell l r c && !t.testBit c)=true
    ·
     rw [if_pos hg]
     by_cases hm:m > 0
     ·
      rw [if_pos (by rw [hg,decide_eq_true hm];rfl)]
      have ih:=all_perm (l:=l) hC d (r + 1) (t ||| 2 ^ c) (pre ++ [(c:Int)]) (m - 1)
      rw [rooks_some pre (by omega),show rooksN pre + 1 + (m - 1)=rooksN pre + m by omega] at ih
      exact ih
     ·
      rw [if_neg (by rw [hg,decide_eq_false hm];simp)]
      have:(waysFrom l C d (r + 1) (t ||| 2 ^ c) (pre ++ [(c:Int)])).filter (fun p=>decide (rooksN p=rooksN pre + m))=[]:=by
       rw [List.filter_eq_nil_iff]
       intro q hq
       obtain ⟨s,rfl,_,_⟩:=ways_form hC _ _ _ _ q hq
       rw [rooks_app,rooks_some pre (by omega)]
       simp
       omega
      rw [this]
    ·
     rw [if_neg hg,if_neg (by rw [Bool.eq_false_iff.2 hg];simp)]
     exact List.Perm.refl _
   ·
    have ih:=all_perm (l:=l) hC d (r + 1) t (pre ++ [-1]) m
    rw [rooks_none] at ih
    exact ih
theorem all_form {l:List Int} {C:Nat} (hC:C≤6) {d r t:Nat} {pre:List Int} {m:Nat} {q:List Int} (h:q ∈ allS l C d r t pre m):∃ s,q=pre ++ s∧s.length=d∧s.all okC=true :=
 ways_form hC d r t pre q (List.mem_filter.1 ((all_perm hC d r t pre m).mem_iff.2 h)).1
theorem all_sorted {l:List Int} {C:Nat} (hC:C≤6):∀ (d r t:Nat) (pre:List Int) (m:Nat),(allS l C d r t pre m).Pairwise (fun a b=>rankB a < rankB b)
|0,r,t,pre,m=>by
  rw [allS]
  split <;> simp
|d + 1,r,t,pre,m=>by
  rw [allS]
  split
  ·
   exact List.Pairwise.nil
  ·
   have below:∀ (c c':Int) (t t':Nat) (m m':Nat),key c < key c'→∀ x ∈ allS l C d (r + 1) t (pre ++ [c]) m,∀ y ∈ allS l C d (r + 1) t' (pre ++ [c']) m',rankB x < rankB y:=by
    intro c c' t t' m m' hk x hx y hy
    obtain ⟨s,rfl,h1,h2⟩:=all_form hC hx
    obtain ⟨s',rfl,h3,h4⟩:=all_form hC hy
    have:=rank_head (c:=c) (d:=c') (s:=s) (t:=s') (by omega) h2 hk
    rw [List.append_assoc,List.append_assoc,List.singleton_append,List.singleton_append,rank_app,rank_app,List.length_cons,List.length_cons,h1,h3]
    omega
   have kc:∀ c:Nat,key (c:Int)=c:=fun c=>by unfold key;rw [if_neg (by omega)];rfl
   rw [List.pairwise_append]
   refine ⟨?_,all_sorted hC d (r + 1) t (pre ++ [-1]) m,?_⟩
   ·
    rw [List.pairwise_flatMap]
    refine ⟨fun c hc=>?_,?_⟩
    ·
     split
     ·
      exact all_sorted hC d (r + 1) _ _ _
     ·
      exact List.Pairwise.nil
    ·
     refine List.Pairwise.imp ?_ (List.pairwise_lt_range' (s:=0) (n:=C) (step:=1))
     intro c c' hlt x hx y hy
     split at hx
     ·
      split at hy
      ·
       exact below c c' _ _ _ _ (by rw [kc,kc];exact hlt) x hx y hy
      ·
       cases hy
     ·
      cases hx
   ·
    intro x hx y hy
    rw [List.mem_flatMap] at hx
    obtain ⟨c,hc,hx⟩:=hx
    split at hx
    ·
     refine below c (-1) _ _ _ _ ?_ x hx y hy
     rw [kc]
     have:=(List.mem_range'_1.1 hc).2
     show c < 6
     omega
    ·
     cases hx
def largestS (l:List Int) (C R:Nat):List (List Int):=allS l C R 0 0 [] (mostN l C R 0 0)
def sortB (l:List (List Int)):List (List Int):=l.mergeSort (fun a b=>decide (rankB a≤rankB b))
theorem sortB_all {l:List Int} {C:Nat} (hC:C≤6) {R m:Nat} {L:List (List Int)} (h:L.Perm (allS l C R 0 0 [] m)):sortB L=allS l C R 0 0 [] m:=by
 refine List.Perm.eq_of_pairwise (le:=fun a b=>rankB a≤rankB b) ?_ ?_ ((all_sorted hC R 0 0 [] m).imp (fun h=>Nat.le_of_lt h)) ((List.mergeSort_perm _ _).trans h)
 ·
  intro a b ha hb h1 h2
  have ha:=(List.mergeSort_perm _ _).mem_iff.1 ha
  obtain ⟨s,rfl,h3,h4⟩:=all_form hC (h.mem_iff.1 ha)
  obtain ⟨s',rfl,h5,h6⟩:=all_form hC hb
  exact rank_inj (by omega) h4 h6 (by omega)
 ·
  have:=List.pairwise_mergeSort (le:=fun a b=>decide (rankB a≤rankB b)) (by intro a b c h1 h2;simp at *;omega) (by intro a b;simp;omega) L
  exact this.imp (fun h=>of_decide_eq_true h)
theorem largest_ne {l:List Int} {C:Nat} (hC:C≤6) (R:Nat):largestS l C R ≠ []:=by
 obtain ⟨q,hq,e⟩:=(ways_most l C R 0 0 []).2
 have:q ∈ largestS l C R:=(all_perm hC R 0 0 [] _).mem_iff.1 (List.mem_filter.2 ⟨hq,by simpa using e⟩)
 intro h
 rw [h] at this
 cases this
theorem largest_len {l:List Int} {C:Nat} (hC:C≤6) {R:Nat} (hR:R≤6):(largestS l C R).length≤117649:=by
 have h0:=(all_perm (l:=l) hC R 0 0 [] (mostN l C R 0 0)).length_eq
 have h00:=List.length_filter_le (fun p=>decide (rooksN p=rooksN [] + mostN l C R 0 0)) (waysFrom l C R 0 0 [])
 have h1:=ways_len l C R 0 0 []
 have h2:(C + 1) ^ R≤7 ^ 6:=Nat.le_trans (Nat.pow_le_pow_left (by omega) _) (Nat.pow_le_pow_right (by decide) hR)
 have h3:(7:Nat) ^ 6=117649:=by decide
 unfold largestS
 omega
theorem largest_row {l:List Int} {C:Nat} (hC:C≤6) {R:Nat}:∀ p ∈ largestS l C R,p.length=R∧p.all okC=true:=by
 intro p hp
 obtain ⟨s,rfl,h1,h2⟩:=all_form hC hp
 exact ⟨h1,h2⟩
theorem largest_nodup {l:List Int} {C:Nat} (hC:C≤6) (R:Nat):(largestS l C R).Nodup:=(all_sorted hC R 0 0 [] _).imp (fun h e=>by rw [e] at h;exact Nat.lt_irrefl _ h)
end Go.Proofs.YtpjjeeabpaojnaaGreat.AllK
end
section
namespace Go.Proofs.YtpjjeeabpaojnaaGreat.Q
open Go.RowKit Go.Proofs.YtpjjeeabpaojnaaGreatW.PrintWords Go.Proofs.YtpjjeeabpaojnaaGreatW.PrintLast Go.Proofs.YtpjjeeabpaojnaaGreatW.PrintMore
attribute [local go_sem] max2_int min2_int max_two min_two max_three min_three max_four min_four   -- for this text's walks alone
set_option linter.unusedVariables false
set_option linter.unusedSimpArgs false
def impl_Board_place.f (a0_0:Int) (a0_1:Int) (l0_2:List Int) (a1:Int) (a2:Int):Option (Bool):=(impl_within.f a1 0 (wrap64 (a0_0 - 1))).bind fun t102=>(if t102=true then ((impl_within.f a2 0 (wrap64 (a0_1 - 1))).bind fun t103=>(some t103)) else (some false))
set_option maxHeartbeats 8000000 in
set_option maxRecDepth 100000 in
theorem impl_Board_place.calls (a0_0:Int) (a0_1:Int) (A0_2:Option Addr) (c0_2:Nat) (l0_2:List Int) (a1:Int) (a2:Int) (r:Bool) (w:World) (hr0_2:Kd.C (Kd.int .i64) w A0_2 l0_2.length l0_2) (hc0_2:l0_2.length≤c0_2) (h:impl_Board_place.f a0_0 a0_1 l0_2 a1 a2=some r) :
  Calls Tryz.prog 65 #[.agg #[.int .i64 a0_0,.int .i64 a0_1,.slice A0_2 l0_2.length c0_2],.int .i64 a1,.int .i64 a2] w fun e w'=>e=.returned (.bool r)∧Below w.heap.size w w':=by
 have hu26:=Tryz.underlying26;have HR0_2:=za hr0_2;have HC0_2:=za hc0_2;clear hr0_2 hc0_2;have HB:=za (Below.refl w.heap.size w);have H:((impl_within.f a1 0 (wrap64 (a0_0 - 1))).bind fun t102=>(if t102=true then ((impl_within.f a2 0 (wrap64 (a0_1 - 1))).bind fun t103=>(some t103)) else (some false)))=some r:=h;clear h;obtain ⟨t102,A4,H⟩:=bindAside H;(try dsimp only at H);by_cases c5:t102=true
 · subst c5;(have H1:((impl_within.f a2 0 (wrap64 (a0_1 - 1))).bind fun t103=>(some t103))=some r:=by rw [if_pos rfl] at H;exact H);clear H;have H:=H1;clear H1;obtain ⟨t103,A6,H⟩:=bindAside H;(try dsimp only at H);obtain rfl:=Option.some.inj H;(go_enter Tryz.func65,Tryz.ntmps65);(go_wp2_with (first|((with_reducible refine zv (N:=3) rfl ?_);refine zw ?hg (N:=3) ?hd (cs:=#[.int .i64 a0_0,.int .i64 a0_1,.slice A0_2 l0_2.length c0_2]) (t:=26) ?hr ?_;(case hd=>rfl);(case hg=>rfl);(case hr=>first|(go_simp;done)|(go_simp;rfl));intro gb101 hg w7 hbox hb;have BK101:=za (hbox);have GW101:=za ((by rw [hg];exact (zi (by apply_rules only [HB.out,zc,zd,zb])):w.heap.size≤gb101));have GE101:=za ((by rw [hg];exact (zi (by apply_rules only [HB.out,zc,zd,zb])):w.heap.size≤gb101));replace HB:=za (zl (by apply_rules only [HB.out,zc,zd,zb]) hb);clear hb hbox hg;have hcz8_0:w7.cell? ⟨gb101,0,none⟩=some (.int .i64 a0_0):=(ze BK101.out 0).trans rfl;have hcz8_1:w7.cell? ⟨gb101,1,none⟩=some (.int .i64 a0_1):=(ze BK101.out 1).trans rfl;have hcz8_2:w7.cell? ⟨gb101,2,none⟩=some (.slice A0_2 l0_2.length c0_2):=(ze BK101.out 2).trans rfl;have hfz8_0:=zf BK101.out 0;have hfz8_1:=zf BK101.out 1;have hfz8_2:=zf BK101.out 2)|((with_reducible refine zu (f:=34) rfl ?_);refine goesL_ (some 11) rfl rfl Tryz.func34 (by kernel_rfl) rfl #[.int .i64 a1,.int .i64 0,.int .i64 (wrap64 (a0_0 - 1))] rfl (by first|rfl|simp only [z3_,z4_,z5_];try rfl) ?_;(with_reducible refine (impl_within.calls a1 0 (wrap64 (a0_0 - 1)) true _ A4.out).mono ?_);rintro e w' ⟨rfl,⟨nd,rfl⟩⟩;refine ⟨_,rfl,?_⟩)|(go_at_call 34;(with_reducible refine (impl_within.calls a2 0 (wrap64 (a0_1 - 1)) t103 _ A6.out).mono ?_);rintro e w' ⟨rfl,⟨nd,rfl⟩⟩)));(go_ret);exact ⟨by first|rfl|simp [*,errW_none,errW_some] <;> rfl,by repeat (first|(with_reducible first|exact HB.out|apply zc|apply zd|apply zb|refine zg ?_ GE101.out)|exact HB.out)⟩
 · replace c5:=Bool.eq_false_iff.mpr c5;subst c5;(have H1:(some false)=some r:=by rw [if_neg (show ¬ (false=true) by decide)] at H;exact H);clear H;have H:=H1;clear H1;obtain rfl:=Option.some.inj H;(go_enter Tryz.func65,Tryz.ntmps65);(go_wp2_with (first|((with_reducible refine zv (N:=3) rfl ?_);refine zw ?hg (N:=3) ?hd (cs:=#[.int .i64 a0_0,.int .i64 a0_1,.slice A0_2 l0_2.length c0_2]) (t:=26) ?hr ?_;(case hd=>rfl);(case hg=>rfl);(case hr=>first|(go_simp;done)|(go_simp;rfl));intro gb101 hg w9 hbox hb;have BK101:=za (hbox);have GW101:=za ((by rw [hg];exact (zi (by apply_rules only [HB.out,zc,zd,zb])):w.heap.size≤gb101));have GE101:=za ((by rw [hg];exact (zi (by apply_rules only [HB.out,zc,zd,zb])):w.heap.size≤gb101));replace HB:=za (zl (by apply_rules only [HB.out,zc,zd,zb]) hb);clear hb hbox hg;have hcz10_0:w9.cell? ⟨gb101,0,none⟩=some (.int .i64 a0_0):=(ze BK101.out 0).trans rfl;have hcz10_1:w9.cell? ⟨gb101,1,none⟩=some (.int .i64 a0_1):=(ze BK101.out 1).trans rfl;have hcz10_2:w9.cell? ⟨gb101,2,none⟩=some (.slice A0_2 l0_2.length c0_2):=(ze BK101.out 2).trans rfl;have hfz10_0:=zf BK101.out 0;have hfz10_1:=zf BK101.out 1;have hfz10_2:=zf BK101.out 2)|((with_reducible refine zu (f:=34) rfl ?_);refine goesL_ (some 11) rfl rfl Tryz.func34 (by kernel_rfl) rfl #[.int .i64 a1,.int .i64 0,.int .i64 (wrap64 (a0_0 - 1))] rfl (by first|rfl|simp only [z3_,z4_,z5_];try rfl) ?_;(with_reducible refine (impl_within.calls a1 0 (wrap64 (a0_0 - 1)) false _ A4.out).mono ?_);rintro e w' ⟨rfl,⟨nd,rfl⟩⟩;refine ⟨_,rfl,?_⟩)));(go_ret);exact ⟨by first|rfl|simp [*,errW_none,errW_some] <;> rfl,by repeat (first|(with_reducible first|exact HB.out|apply zc|apply zd|apply zb|refine zg ?_ GE101.out)|exact HB.out)⟩
def impl_Board_isPlacement.l0:Nat→List Int→List Int→Int→Int→Int→Int→List Int→Option (Bool)
|0,_,_,_,_,_,_,_=>none
|k + 1,x1,x12,x13,x14,x102000,x102001,x102002=>if x14 < x13 then (if 0≤x14 then (if x14 < (x12.length:Int) then (if (rd x12 x14)=(-1) then (impl_Board_isPlacement.l0 k x1 x12 x13 (wrap64 (x14 + 1)) x102000 x102001 x102002) else ((impl_Board_place.f x102000 x102001 x102002 x14 (rd x12 x14)).bind fun t103=>(if t103=true then ((impl_Board_has.f x102000 x102001 x102002 x14 (rd x12 x14)).bind fun t104=>(if t104=true then (if x14≤(x1.length:Int) then ((slices_Contains_int_int.f k (x1.take (x14:Int).toNat) (rd x12 x14)).bind fun t106=>(if t106=true then (some false) else (impl_Board_isPlacement.l0 k x1 x12 x13 (wrap64 (x14 + 1)) x102000 x102001 x102002))) else (none)) else (some false))) else (some false)))) else (none)) else (none)) else (some true)
def impl_Board_isPlacement.f (k:Nat) (a0_0:Int) (a0_1:Int) (l0_2:List Int) (l1:List Int):Option (Bool):=if (l1.length:Int)=a0_0 then (impl_Board_isPlacement.l0 k l1 l1 (l1.length:Int) 0 a0_0 a0_1 l0_2) else (some false)
set_option maxHeartbeats 8000000 in
set_option maxRecDepth 100000 in
theorem impl_Board_isPlacement.calls (k:Nat) (a0_0:Int) (a0_1:Int) (A0_2:Option Addr) (c0_2:Nat) (l0_2:List Int) (A1:Option Addr) (c1:Nat) (l1:List Int) (r:Bool) (w:World) (hr0_2:Kd.C (Kd.int .i64) w A0_2 l0_2.length l0_2) (hc0_2:l0_2.length≤c0_2) (hr1:Kd.C (Kd.int .i64) w A1 l1.length l1) (hc1:l1.length≤c1) (h:impl_Board_isPlacement.f k a0_0 a0_1 l0_2 l1=some r) :
  Calls Tryz.prog 38 #[.agg #[.int .i64 a0_0,.int .i64 a0_1,.slice A0_2 l0_2.length c0_2],.slice A1 l1.length c1] w fun e w'=>e=.returned (.bool r)∧Below w.heap.size w w':=by
 have hu26:=Tryz.underlying26;have HR0_2:=za hr0_2;have HC0_2:=za hc0_2;clear hr0_2 hc0_2;have HR1:=za hr1;have HC1:=za hc1;clear hr1 hc1;have HB:=za (Below.refl w.heap.size w);have H:(if (l1.length:Int)=a0_0 then (impl_Board_isPlacement.l0 k l1 l1 (l1.length:Int) 0 a0_0 a0_1 l0_2) else (some false))=some r:=h;clear h;by_cases c3:(l1.length:Int)=a0_0
 ·
  rw [if_pos c3] at H;have c3b0:((l1.length:Int) == a0_0)=true:=beq_iff_eq.mpr c3;have c3b1:((l1.length:Int) != a0_0)=false:=bne_eq_false_iff_eq.mpr c3;clear c3;have H':=za H;clear H;(go_enter Tryz.func38,Tryz.ntmps38);(go_wp2_with (first|((with_reducible refine zv (N:=2) rfl ?_);refine zw ?hg (N:=2) ?hd (cs:=#[.int .i64 a0_0,.int .i64 a0_1,.slice A0_2 l0_2.length c0_2]) (t:=26) ?hr ?_;(case hd=>rfl);(case hg=>rfl);(case hr=>first|(go_simp;done)|(go_simp;rfl));intro gb101 hg w4 hbox hb;have BK101:=za (hbox);have GW101:=za ((by rw [hg];exact (zi (by apply_rules only [HB.out,zc,zd,zb])):w.heap.size≤gb101));have GE101:=za ((by rw [hg];exact (zi (by apply_rules only [HB.out,zc,zd,zb])):w.heap.size≤gb101));replace HB:=za (zl (by apply_rules only [HB.out,zc,zd,zb]) hb);clear hb hbox hg;have hcz5_0:w4.cell? ⟨gb101,0,none⟩=some (.int .i64 a0_0):=(ze BK101.out 0).trans rfl;have hcz5_1:w4.cell? ⟨gb101,1,none⟩=some (.int .i64 a0_1):=(ze BK101.out 1).trans rfl;have hcz5_2:w4.cell? ⟨gb101,2,none⟩=some (.slice A0_2 l0_2.length c0_2):=(ze BK101.out 2).trans rfl;have hfz5_0:=zf BK101.out 0;have hfz5_1:=zf BK101.out 1;have hfz5_2:=zf BK101.out 2)));(go_loopg [14] k (fun kq v14 w'=>∃ (x14_1:Int),v14=.int .i64 x14_1∧Aside0 (impl_Board_isPlacement.l0 kq l1 l1 (l1.length:Int) x14_1 a0_0 a0_1 l0_2=some r)∧Aside0 (kq≤k)∧Aside0 (w'.heap[gb101]?=some (.cells #[.int .i64 a0_0,.int .i64 a0_1,(.slice A0_2 l0_2.length c0_2)] 26 (0,0)))∧Aside0 (Below w.heap.size w w')));case atStart=>exact ⟨(0),(by first|rfl|(simp;done)|(simp [*];done)),H',⟨Nat.le_refl _⟩,⟨by apply_rules only [BK101.out,zj,zh,zk]⟩,⟨by apply_rules only [HB.out,zc,zd,zb,zg,GE101.out]⟩⟩
  case round =>
   clear H';(try clear c1);(try clear p2);(try clear c3);(try clear c3b0);(try clear c3b1);(try clear hcz5_0);(try clear hcz5_1);(try clear hcz5_2);(try clear hfz5_0);(try clear hfz5_1);(try clear hfz5_2);obtain ⟨x14_1,rfl,HA,HK1,BK101,HB⟩:=hrel
   cases gk with
  |zero=>exact absurd HA.out (by simp [impl_Board_isPlacement.l0])
  |succ k1 =>
    have H:=HA.out;clear HA;simp only [impl_Board_isPlacement.l0] at H;by_cases c6:x14_1 < (l1.length:Int)
    ·
     rw [if_pos c6] at H;have c6b0:decide (x14_1 < (l1.length:Int))=true:=decide_eq_true c6;clear c6;by_cases c7:0≤x14_1
     ·
      rw [if_pos c7] at H;have c7b0:decide (0≤x14_1)=true:=decide_eq_true c7;clear c7;by_cases c8:x14_1 < (l1.length:Int)
      ·
       rw [if_pos c8] at H;have c8b0:decide (x14_1 < (l1.length:Int))=true:=decide_eq_true c8;clear c8;by_cases c9:(rd l1 x14_1)=(-1)
       · rw [if_pos c9] at H;have c9b0:((rd l1 x14_1) == (-1))=true:=beq_iff_eq.mpr c9;have c9b1:((rd l1 x14_1) != (-1))=false:=bne_eq_false_iff_eq.mpr c9;clear c9;have H':=za H;clear H;have p102:0≤(x14_1:Int):=of_decide_eq_true ‹_›;have q102:x14_1 < (l1.length:Int):=of_decide_eq_true ‹_›;obtain ⟨ad102,e102,hx102_0⟩:=zx HR1.out x14_1 p102 q102;cases e102;replace hx102_0:=(HB.out.cell (World.block_lt_of_cell? w _ hx102_0)).trans hx102_0;replace p102:=eq_true p102;replace q102:=eq_true q102;(go_wp2);(go_roundg k1);(case measure=>have:=HK1.out;omega);case rel=>exact ⟨(wrap64 (x14_1 + 1)),(by first|rfl|(simp;done)|(simp [*];done)),H',⟨by have:=HK1.out;omega⟩,⟨by apply_rules only [BK101.out,zj,zh,zk]⟩,⟨by apply_rules only [HB.out,zc,zd,zb,zg,GE101.out]⟩⟩
       ·
        rw [if_neg c9] at H;have c9b0:((rd l1 x14_1) == (-1))=false:=beq_eq_false_iff_ne.mpr c9;have c9b1:((rd l1 x14_1) != (-1))=true:=bne_iff_ne.mpr c9;obtain ⟨t103,A10,H⟩:=bindAside H;(try dsimp only at H);by_cases c11:t103=true
        ·
         subst c11;(have H1:((impl_Board_has.f a0_0 a0_1 l0_2 x14_1 (rd l1 x14_1)).bind fun t104=>(if t104=true then (if x14_1≤(l1.length:Int) then ((slices_Contains_int_int.f k1 (l1.take (x14_1:Int).toNat) (rd l1 x14_1)).bind fun t106=>(if t106=true then (some false) else (impl_Board_isPlacement.l0 k1 l1 l1 (l1.length:Int) (wrap64 (x14_1 + 1)) a0_0 a0_1 l0_2))) else (none)) else (some false)))=some r:=by rw [if_pos rfl] at H;exact H);clear H;have H:=H1;clear H1;obtain ⟨t104,A12,H⟩:=bindAside H;(try dsimp only at H);by_cases c13:t104=true
         ·
          subst c13;(have H1:(if x14_1≤(l1.length:Int) then ((slices_Contains_int_int.f k1 (l1.take (x14_1:Int).toNat) (rd l1 x14_1)).bind fun t106=>(if t106=true then (some false) else (impl_Board_isPlacement.l0 k1 l1 l1 (l1.length:Int) (wrap64 (x14_1 + 1)) a0_0 a0_1 l0_2))) else (none))=some r:=by rw [if_pos rfl] at H;exact H);clear H;have H:=H1;clear H1;have c14b0:=eq_true (of_decide_eq_true ‹_›:0≤x14_1);by_cases c15:x14_1≤(l1.length:Int)
          ·
           rw [if_pos c15] at H;have c15b0:=eq_true c15;have c15b1:decide (x14_1≤(l1.length:Int))=true:=decide_eq_true c15;clear c15;obtain ⟨t106,A16,H⟩:=bindAside H;(try dsimp only at H);by_cases c17:t106=true
           · subst c17;(have H1:(some false)=some r:=by rw [if_pos rfl] at H;exact H);clear H;have H:=H1;clear H1;obtain rfl:=Option.some.inj H;have p102:0≤(x14_1:Int):=of_decide_eq_true ‹_›;have q102:x14_1 < (l1.length:Int):=of_decide_eq_true ‹_›;obtain ⟨ad102,e102,hx102_0⟩:=zx HR1.out x14_1 p102 q102;cases e102;replace hx102_0:=(HB.out.cell (World.block_lt_of_cell? w _ hx102_0)).trans hx102_0;replace p102:=eq_true p102;replace q102:=eq_true q102;have hcz18_0:wr.cell? ⟨gb101,0,none⟩=some (.int .i64 a0_0):=(ze BK101.out 0).trans rfl;have hcz18_1:wr.cell? ⟨gb101,1,none⟩=some (.int .i64 a0_1):=(ze BK101.out 1).trans rfl;have hcz18_2:wr.cell? ⟨gb101,2,none⟩=some (.slice A0_2 l0_2.length c0_2):=(ze BK101.out 2).trans rfl;have hfz18_0:=zf BK101.out 0;have hfz18_1:=zf BK101.out 1;have hfz18_2:=zf BK101.out 2;(go_wp2_with (first|((with_reducible refine zu (f:=65) rfl ?_);refine goesL_ (some 24) rfl rfl Tryz.func65 (by kernel_rfl) rfl #[.agg #[.int .i64 a0_0,.int .i64 a0_1,.slice A0_2 l0_2.length c0_2],.int .i64 x14_1,.int .i64 (rd l1 x14_1)] rfl (by first|rfl|simp only [z3_,z4_,z5_];try rfl) ?_;(with_reducible refine (impl_Board_place.calls a0_0 a0_1 _ _ l0_2 x14_1 (rd l1 x14_1) true _ ?side1 ?side2 A10.out).mono ?_);(case side1=>apply_rules only [zq HR0_2.out HB.out,zm,zn,zo]);(case side2=>exact HC0_2.out);rintro e w19 ⟨rfl,hb⟩;refine ⟨_,rfl,?_⟩;replace BK101:=za (zp (g:=gb101) (o:=.cells #[.int .i64 a0_0,.int .i64 a0_1,.slice A0_2 l0_2.length c0_2] 26 (0,0)) (by apply_rules only [BK101.out,zj,zh,zk]) hb);replace HB:=za (zl (by apply_rules only [HB.out,zc,zd,zb,zg,GE101.out]) hb);have hcz20_0:w19.cell? ⟨gb101,0,none⟩=some (.int .i64 a0_0):=(ze BK101.out 0).trans rfl;have hcz20_1:w19.cell? ⟨gb101,1,none⟩=some (.int .i64 a0_1):=(ze BK101.out 1).trans rfl;have hcz20_2:w19.cell? ⟨gb101,2,none⟩=some (.slice A0_2 l0_2.length c0_2):=(ze BK101.out 2).trans rfl;have hfz20_0:=zf BK101.out 0;have hfz20_1:=zf BK101.out 1;have hfz20_2:=zf BK101.out 2)|(go_at_call 66;(with_reducible refine (impl_Board_has.calls a0_0 a0_1 _ _ l0_2 x14_1 (rd l1 x14_1) true _ ?side1 ?side2 A12.out).mono ?_);(case side1=>apply_rules only [zq HR0_2.out HB.out,zm,zn,zo]);(case side2=>exact HC0_2.out);rintro e w21 ⟨rfl,hb⟩;replace BK101:=za (zp (g:=gb101) (o:=.cells #[.int .i64 a0_0,.int .i64 a0_1,.slice A0_2 l0_2.length c0_2] 26 (0,0)) (by apply_rules only [BK101.out,zj,zh,zk]) hb);replace HB:=za (zl (by apply_rules only [HB.out,zc,zd,zb,zg,GE101.out]) hb);obtain ⟨i022,hi022,_,hsz22,_⟩:=info_parts info3;obtain ⟨hcut22,hA22,hC22⟩:=print_take_of (P:=Tryz.prog) (Value.int .i64) 0 24 3 .i64 Tryz.underlying24 hi022 hsz22 (some ad102) c1 l1 x14_1 (of_decide_eq_true ‹_›) (of_decide_eq_true ‹_›) HC1.out;have HR105:=za (Kd.C_of_reads (h1:=fun _=>rfl) (hA22 _ (Kd.reads_of_C HR1.out)));have HC105:=za hC22;clear hA22 hC22 hi022 hsz22)|(go_at_call 67;refine calls_of_args (args':=#[.slice (some ad102) (l1.take (x14_1:Int).toNat).length c1,.int .i64 (rd l1 x14_1)]) (by first|(rw [show (l1.take (x14_1:Int).toNat).length=x14_1.toNat from (by rw [List.length_take];have h_:(x14_1:Int)≤(l1.length:Int):=of_decide_eq_true ‹_›;omega)] <;> rfl)|rfl) ?_;(with_reducible refine (slices_Contains_int_int.calls k1 _ _ (l1.take (x14_1:Int).toNat) (rd l1 x14_1) true _ ?side1 ?side2 A16.out).mono ?_);(case side1=>apply_rules only [zq HR105.out HB.out,zm,zn,zo]);(case side2=>exact HC105.out);rintro e w' ⟨rfl,⟨nd,rfl⟩⟩)));(go_ret);exact ⟨by first|rfl|simp [*,errW_none,errW_some] <;> rfl,by repeat (first|(with_reducible first|exact HB.out|apply zc|apply zd|apply zb|refine zg ?_ GE101.out)|exact HB.out)⟩
           · replace c17:=Bool.eq_false_iff.mpr c17;subst c17;(have H1:(impl_Board_isPlacement.l0 k1 l1 l1 (l1.length:Int) (wrap64 (x14_1 + 1)) a0_0 a0_1 l0_2)=some r:=by rw [if_neg (show ¬ (false=true) by decide)] at H;exact H);clear H;have H:=H1;clear H1;have H':=za H;clear H;have p102:0≤(x14_1:Int):=of_decide_eq_true ‹_›;have q102:x14_1 < (l1.length:Int):=of_decide_eq_true ‹_›;obtain ⟨ad102,e102,hx102_0⟩:=zx HR1.out x14_1 p102 q102;cases e102;replace hx102_0:=(HB.out.cell (World.block_lt_of_cell? w _ hx102_0)).trans hx102_0;replace p102:=eq_true p102;replace q102:=eq_true q102;have hcz23_0:wr.cell? ⟨gb101,0,none⟩=some (.int .i64 a0_0):=(ze BK101.out 0).trans rfl;have hcz23_1:wr.cell? ⟨gb101,1,none⟩=some (.int .i64 a0_1):=(ze BK101.out 1).trans rfl;have hcz23_2:wr.cell? ⟨gb101,2,none⟩=some (.slice A0_2 l0_2.length c0_2):=(ze BK101.out 2).trans rfl;have hfz23_0:=zf BK101.out 0;have hfz23_1:=zf BK101.out 1;have hfz23_2:=zf BK101.out 2;(go_wp2_with (first|((with_reducible refine zu (f:=65) rfl ?_);refine goesL_ (some 24) rfl rfl Tryz.func65 (by kernel_rfl) rfl #[.agg #[.int .i64 a0_0,.int .i64 a0_1,.slice A0_2 l0_2.length c0_2],.int .i64 x14_1,.int .i64 (rd l1 x14_1)] rfl (by first|rfl|simp only [z3_,z4_,z5_];try rfl) ?_;(with_reducible refine (impl_Board_place.calls a0_0 a0_1 _ _ l0_2 x14_1 (rd l1 x14_1) true _ ?side1 ?side2 A10.out).mono ?_);(case side1=>apply_rules only [zq HR0_2.out HB.out,zm,zn,zo]);(case side2=>exact HC0_2.out);rintro e w24 ⟨rfl,hb⟩;refine ⟨_,rfl,?_⟩;replace BK101:=za (zp (g:=gb101) (o:=.cells #[.int .i64 a0_0,.int .i64 a0_1,.slice A0_2 l0_2.length c0_2] 26 (0,0)) (by apply_rules only [BK101.out,zj,zh,zk]) hb);replace HB:=za (zl (by apply_rules only [HB.out,zc,zd,zb,zg,GE101.out]) hb);have hcz25_0:w24.cell? ⟨gb101,0,none⟩=some (.int .i64 a0_0):=(ze BK101.out 0).trans rfl;have hcz25_1:w24.cell? ⟨gb101,1,none⟩=some (.int .i64 a0_1):=(ze BK101.out 1).trans rfl;have hcz25_2:w24.cell? ⟨gb101,2,none⟩=some (.slice A0_2 l0_2.length c0_2):=(ze BK101.out 2).trans rfl;have hfz25_0:=zf BK101.out 0;have hfz25_1:=zf BK101.out 1;have hfz25_2:=zf BK101.out 2)|(go_at_call 66;(with_reducible refine (impl_Board_has.calls a0_0 a0_1 _ _ l0_2 x14_1 (rd l1 x14_1) true _ ?side1 ?side2 A12.out).mono ?_);(case side1=>apply_rules only [zq HR0_2.out HB.out,zm,zn,zo]);(case side2=>exact HC0_2.out);rintro e w26 ⟨rfl,hb⟩;replace BK101:=za (zp (g:=gb101) (o:=.cells #[.int .i64 a0_0,.int .i64 a0_1,.slice A0_2 l0_2.length c0_2] 26 (0,0)) (by apply_rules only [BK101.out,zj,zh,zk]) hb);replace HB:=za (zl (by apply_rules only [HB.out,zc,zd,zb,zg,GE101.out]) hb);obtain ⟨i027,hi027,_,hsz27,_⟩:=info_parts info3;obtain ⟨hcut27,hA27,hC27⟩:=print_take_of (P:=Tryz.prog) (Value.int .i64) 0 24 3 .i64 Tryz.underlying24 hi027 hsz27 (some ad102) c1 l1 x14_1 (of_decide_eq_true ‹_›) (of_decide_eq_true ‹_›) HC1.out;have HR105:=za (Kd.C_of_reads (h1:=fun _=>rfl) (hA27 _ (Kd.reads_of_C HR1.out)));have HC105:=za hC27;clear hA27 hC27 hi027 hsz27)|(go_at_call 67;refine calls_of_args (args':=#[.slice (some ad102) (l1.take (x14_1:Int).toNat).length c1,.int .i64 (rd l1 x14_1)]) (by first|(rw [show (l1.take (x14_1:Int).toNat).length=x14_1.toNat from (by rw [List.length_take];have h_:(x14_1:Int)≤(l1.length:Int):=of_decide_eq_true ‹_›;omega)] <;> rfl)|rfl) ?_;(with_reducible refine (slices_Contains_int_int.calls k1 _ _ (l1.take (x14_1:Int).toNat) (rd l1 x14_1) false _ ?side1 ?side2 A16.out).mono ?_);(case side1=>apply_rules only [zq HR105.out HB.out,zm,zn,zo]);(case side2=>exact HC105.out);rintro e w' ⟨rfl,⟨nd,rfl⟩⟩)));(go_roundg k1);(case measure=>have:=HK1.out;omega);case rel=>exact ⟨(wrap64 (x14_1 + 1)),(by first|rfl|(simp;done)|(simp [*];done)),H',⟨by have:=HK1.out;omega⟩,⟨by apply_rules only [BK101.out,zj,zh,zk]⟩,⟨by apply_rules only [HB.out,zc,zd,zb,zg,GE101.out]⟩⟩
          · rw [if_neg c15] at H;exact absurd H (by simp)
         · replace c13:=Bool.eq_false_iff.mpr c13;subst c13;(have H1:(some false)=some r:=by rw [if_neg (show ¬ (false=true) by decide)] at H;exact H);clear H;have H:=H1;clear H1;obtain rfl:=Option.some.inj H;have p102:0≤(x14_1:Int):=of_decide_eq_true ‹_›;have q102:x14_1 < (l1.length:Int):=of_decide_eq_true ‹_›;obtain ⟨ad102,e102,hx102_0⟩:=zx HR1.out x14_1 p102 q102;cases e102;replace hx102_0:=(HB.out.cell (World.block_lt_of_cell? w _ hx102_0)).trans hx102_0;replace p102:=eq_true p102;replace q102:=eq_true q102;have hcz28_0:wr.cell? ⟨gb101,0,none⟩=some (.int .i64 a0_0):=(ze BK101.out 0).trans rfl;have hcz28_1:wr.cell? ⟨gb101,1,none⟩=some (.int .i64 a0_1):=(ze BK101.out 1).trans rfl;have hcz28_2:wr.cell? ⟨gb101,2,none⟩=some (.slice A0_2 l0_2.length c0_2):=(ze BK101.out 2).trans rfl;have hfz28_0:=zf BK101.out 0;have hfz28_1:=zf BK101.out 1;have hfz28_2:=zf BK101.out 2;(go_wp2_with (first|((with_reducible refine zu (f:=65) rfl ?_);refine goesL_ (some 24) rfl rfl Tryz.func65 (by kernel_rfl) rfl #[.agg #[.int .i64 a0_0,.int .i64 a0_1,.slice A0_2 l0_2.length c0_2],.int .i64 x14_1,.int .i64 (rd l1 x14_1)] rfl (by first|rfl|simp only [z3_,z4_,z5_];try rfl) ?_;(with_reducible refine (impl_Board_place.calls a0_0 a0_1 _ _ l0_2 x14_1 (rd l1 x14_1) true _ ?side1 ?side2 A10.out).mono ?_);(case side1=>apply_rules only [zq HR0_2.out HB.out,zm,zn,zo]);(case side2=>exact HC0_2.out);rintro e w29 ⟨rfl,hb⟩;refine ⟨_,rfl,?_⟩;replace BK101:=za (zp (g:=gb101) (o:=.cells #[.int .i64 a0_0,.int .i64 a0_1,.slice A0_2 l0_2.length c0_2] 26 (0,0)) (by apply_rules only [BK101.out,zj,zh,zk]) hb);replace HB:=za (zl (by apply_rules only [HB.out,zc,zd,zb,zg,GE101.out]) hb);have hcz30_0:w29.cell? ⟨gb101,0,none⟩=some (.int .i64 a0_0):=(ze BK101.out 0).trans rfl;have hcz30_1:w29.cell? ⟨gb101,1,none⟩=some (.int .i64 a0_1):=(ze BK101.out 1).trans rfl;have hcz30_2:w29.cell? ⟨gb101,2,none⟩=some (.slice A0_2 l0_2.length c0_2):=(ze BK101.out 2).trans rfl;have hfz30_0:=zf BK101.out 0;have hfz30_1:=zf BK101.out 1;have hfz30_2:=zf BK101.out 2)|(go_at_call 66;(with_reducible refine (impl_Board_has.calls a0_0 a0_1 _ _ l0_2 x14_1 (rd l1 x14_1) false _ ?side1 ?side2 A12.out).mono ?_);(case side1=>apply_rules only [zq HR0_2.out HB.out,zm,zn,zo]);(case side2=>exact HC0_2.out);rintro e w31 ⟨rfl,hb⟩;replace BK101:=za (zp (g:=gb101) (o:=.cells #[.int .i64 a0_0,.int .i64 a0_1,.slice A0_2 l0_2.length c0_2] 26 (0,0)) (by apply_rules only [BK101.out,zj,zh,zk]) hb);replace HB:=za (zl (by apply_rules only [HB.out,zc,zd,zb,zg,GE101.out]) hb))));(go_ret);exact ⟨by first|rfl|simp [*,errW_none,errW_some] <;> rfl,by repeat (first|(with_reducible first|exact HB.out|apply zc|apply zd|apply zb|refine zg ?_ GE101.out)|exact HB.out)⟩
        · replace c11:=Bool.eq_false_iff.mpr c11;subst c11;(have H1:(some false)=some r:=by rw [if_neg (show ¬ (false=true) by decide)] at H;exact H);clear H;have H:=H1;clear H1;obtain rfl:=Option.some.inj H;have p102:0≤(x14_1:Int):=of_decide_eq_true ‹_›;have q102:x14_1 < (l1.length:Int):=of_decide_eq_true ‹_›;obtain ⟨ad102,e102,hx102_0⟩:=zx HR1.out x14_1 p102 q102;cases e102;replace hx102_0:=(HB.out.cell (World.block_lt_of_cell? w _ hx102_0)).trans hx102_0;replace p102:=eq_true p102;replace q102:=eq_true q102;have hcz32_0:wr.cell? ⟨gb101,0,none⟩=some (.int .i64 a0_0):=(ze BK101.out 0).trans rfl;have hcz32_1:wr.cell? ⟨gb101,1,none⟩=some (.int .i64 a0_1):=(ze BK101.out 1).trans rfl;have hcz32_2:wr.cell? ⟨gb101,2,none⟩=some (.slice A0_2 l0_2.length c0_2):=(ze BK101.out 2).trans rfl;have hfz32_0:=zf BK101.out 0;have hfz32_1:=zf BK101.out 1;have hfz32_2:=zf BK101.out 2;(go_wp2_with (first|((with_reducible refine zu (f:=65) rfl ?_);refine goesL_ (some 24) rfl rfl Tryz.func65 (by kernel_rfl) rfl #[.agg #[.int .i64 a0_0,.int .i64 a0_1,.slice A0_2 l0_2.length c0_2],.int .i64 x14_1,.int .i64 (rd l1 x14_1)] rfl (by first|rfl|simp only [z3_,z4_,z5_];try rfl) ?_;(with_reducible refine (impl_Board_place.calls a0_0 a0_1 _ _ l0_2 x14_1 (rd l1 x14_1) false _ ?side1 ?side2 A10.out).mono ?_);(case side1=>apply_rules only [zq HR0_2.out HB.out,zm,zn,zo]);(case side2=>exact HC0_2.out);rintro e w33 ⟨rfl,hb⟩;refine ⟨_,rfl,?_⟩;replace BK101:=za (zp (g:=gb101) (o:=.cells #[.int .i64 a0_0,.int .i64 a0_1,.slice A0_2 l0_2.length c0_2] 26 (0,0)) (by apply_rules only [BK101.out,zj,zh,zk]) hb);replace HB:=za (zl (by apply_rules only [HB.out,zc,zd,zb,zg,GE101.out]) hb))));(go_ret);exact ⟨by first|rfl|simp [*,errW_none,errW_some] <;> rfl,by repeat (first|(with_reducible first|exact HB.out|apply zc|apply zd|apply zb|refine zg ?_ GE101.out)|exact HB.out)⟩
      · rw [if_neg c8] at H;exact absurd H (by simp)
     · rw [if_neg c7] at H;exact absurd H (by simp)
    · rw [if_neg c6] at H;have c6b0:decide (x14_1 < (l1.length:Int))=false:=decide_eq_false c6;clear c6;obtain rfl:=Option.some.inj H;(go_wp2);(go_ret);exact ⟨by first|rfl|simp [*,errW_none,errW_some] <;> rfl,by repeat (first|(with_reducible first|exact HB.out|apply zc|apply zd|apply zb|refine zg ?_ GE101.out)|exact HB.out)⟩
 · rw [if_neg c3] at H;have c3b0:((l1.length:Int) == a0_0)=false:=beq_eq_false_iff_ne.mpr c3;have c3b1:((l1.length:Int) != a0_0)=true:=bne_iff_ne.mpr c3;obtain rfl:=Option.some.inj H;(go_enter Tryz.func38,Tryz.ntmps38);(go_wp2_with (first|((with_reducible refine zv (N:=2) rfl ?_);refine zw ?hg (N:=2) ?hd (cs:=#[.int .i64 a0_0,.int .i64 a0_1,.slice A0_2 l0_2.length c0_2]) (t:=26) ?hr ?_;(case hd=>rfl);(case hg=>rfl);(case hr=>first|(go_simp;done)|(go_simp;rfl));intro gb101 hg w34 hbox hb;have BK101:=za (hbox);have GW101:=za ((by rw [hg];exact (zi (by apply_rules only [HB.out,zc,zd,zb])):w.heap.size≤gb101));have GE101:=za ((by rw [hg];exact (zi (by apply_rules only [HB.out,zc,zd,zb])):w.heap.size≤gb101));replace HB:=za (zl (by apply_rules only [HB.out,zc,zd,zb]) hb);clear hb hbox hg;have hcz35_0:w34.cell? ⟨gb101,0,none⟩=some (.int .i64 a0_0):=(ze BK101.out 0).trans rfl;have hcz35_1:w34.cell? ⟨gb101,1,none⟩=some (.int .i64 a0_1):=(ze BK101.out 1).trans rfl;have hcz35_2:w34.cell? ⟨gb101,2,none⟩=some (.slice A0_2 l0_2.length c0_2):=(ze BK101.out 2).trans rfl;have hfz35_0:=zf BK101.out 0;have hfz35_1:=zf BK101.out 1;have hfz35_2:=zf BK101.out 2)));(go_ret);exact ⟨by first|rfl|simp [*,errW_none,errW_some] <;> rfl,by repeat (first|(with_reducible first|exact HB.out|apply zc|apply zd|apply zb|refine zg ?_ GE101.out)|exact HB.out)⟩
end Go.Proofs.YtpjjeeabpaojnaaGreat.Q
end
section
namespace Go.Proofs.YtpjjeeabpaojnaaGreat.PlaceK
set_option linter.unusedVariables false
open Go.RowKit Go.Proofs.YtpjjeeabpaojnaaGreat.Q Go.Proofs.YtpjjeeabpaojnaaGreatW.PrintWords Go.Proofs.YtpjjeeabpaojnaaGreatW.PrintLast Go.Proofs.YtpjjeeabpaojnaaGreatW.PrintMore
open Go.Proofs.YtpjjeeabpaojnaaGreatL Go.Proofs.YtpjjeeabpaojnaaGreat.LawK Go.Proofs.YtpjjeeabpaojnaaGreat.BoardK Go.Proofs.YtpjjeeabpaojnaaGreat.PermK
theorem evEq {α:Type} {g:Nat→Option α} {a b:α} (h:Ev g a) (e:a=b):Ev g b:=e ▸ h
theorem withinR (a b c:Int):impl_within.f a b c=some (inR b c a):=by
 unfold impl_within.f inR
 by_cases h:b≤a
 ·
  rw [if_pos h];simp [h]
 ·
  rw [if_neg h];congr 1;exact (decide_eq_false (by omega)).symm
theorem place_f {R C:Nat} (l:List Int) (hR:R≤6) (hC:C≤6) (r c:Int):impl_Board_place.f R C l r c=some (inR 0 ((R:Int) - 1) r && inR 0 ((C:Int) - 1) c):=by
 unfold impl_Board_place.f
 rw [withinR,Option.bind_some,w64 (by omega) (by omega),w64 (by omega) (by omega),withinR]
 cases inR 0 ((R:Int) - 1) r <;> rfl
def placeI (l:List Int) (C:Nat):List Int→Nat→List Int→Bool
|[],_,_=>true
|x :: t,i,pre=>(decide (x=-1) || (inR 0 ((C:Int) - 1) x && (cell l i x.toNat && !decide (x ∈ pre)))) && placeI l C t (i + 1) (pre ++ [x])
def placeB (l:List Int) (C:Nat) (p:List Int):Bool:=decide (p.length=l.length) && placeI l C p 0 []
theorem isPlacement_l0 {l p:List Int} {R C:Nat} (hlR:l.length=R) (hR:R≤6) (hC:C≤6) (hb:∀ i (hi:i < l.length),0≤l[i]∧l[i] < 64) (hp:p.length=R):∀ (d i:Nat),i + d=p.length →
  Ev (fun k=>impl_Board_isPlacement.l0 k p p (p.length:Int) i R C l) (placeI l C (p.drop i) i (p.take i))
|0,i,hi=>by
  refine Ev.step (f:=fun _=>some true) (fun k=>?_) (evEq (Ev.now _) (by rw [List.drop_eq_nil_of_le (by omega)];rfl))
  rw [impl_Board_isPlacement.l0,if_neg (by omega)]
|d + 1,i,hi=>by
  have w1:wrap64 ((i:Int) + 1)=((i + 1:Nat):Int):=by rw [w64 (by omega) (by omega)];rfl
  have hi2:i < p.length:=by omega
  have ih:=isPlacement_l0 hlR hR hC hb hp d (i + 1) (by omega)
  rw [List.drop_eq_getElem_cons hi2,placeI]
  rw [List.take_add_one,List.getElem?_eq_getElem hi2,Option.toList_some] at ih
  by_cases c1:p[i]=-1
  ·
   rw [decide_eq_true c1,Bool.true_or,Bool.true_and]
   refine Ev.step (fun k=>?_) ih
   rw [impl_Board_isPlacement.l0,if_pos (by omega),if_pos (by omega),if_pos (by omega),rd_lt _ _ hi2,if_pos c1,w1]
  ·
   rw [decide_eq_false c1,Bool.false_or]
   by_cases c2:inR 0 ((C:Int) - 1) p[i]=true
   ·
    have c2':0≤p[i]∧p[i]≤(C:Int) - 1:=of_decide_eq_true c2
    obtain ⟨y,hy⟩:∃ y:Nat,p[i]=y:=⟨p[i].toNat,by omega⟩
    have c3:inR 0 ((R:Int) - 1) (i:Int)=true:=decide_eq_true (by omega)
    rw [c2,Bool.true_and]
    refine Ev.step (f:=fun k=>if cell l i y=true then (if (i:Int)≤(p.length:Int) then (slices_Contains_int_int.f k (p.take i) p[i]).bind fun t=>if t=true then some false else impl_Board_isPlacement.l0 k p p (p.length:Int) ((i + 1:Nat):Int) R C l else none) else some false) (fun k=>?_) ?_
    ·
     rw [impl_Board_isPlacement.l0,if_pos (by omega),if_pos (by omega),if_pos (by omega),rd_lt _ _ hi2,if_neg c1,place_f l hR hC,Option.bind_some,if_pos (by rw [c3,c2];rfl),hy,has_f (R:Int) (C:Int) (show i < l.length by omega) (hb i (by omega)).1 (hb i (by omega)).2 (by omega),Option.bind_some,Int.toNat_natCast,w1]
    ·
     rw [hy,Int.toNat_natCast]
     rw [hy] at ih
     by_cases c4:cell l i y=true
     ·
      refine Ev.congr (fun k=>by rw [if_pos c4,if_pos (by omega)]) ?_
      rw [c4,Bool.true_and]
      refine Ev.bind (contains _ (by rw [List.length_take];omega)) ?_
      by_cases c5:(y:Int) ∈ p.take i
      ·
       rw [decide_eq_true c5]
       exact Ev.congr (fun k=>if_pos rfl) (Ev.now _)
      ·
       rw [decide_eq_false c5,Bool.not_false,Bool.true_and]
       exact Ev.congr (fun k=>if_neg (by simp)) ih
     ·
      rw [show cell l i y=false by simpa using c4,Bool.false_and,Bool.false_and]
      exact Ev.congr (fun k=>if_neg (by simp)) (Ev.now _)
   ·
    rw [show inR 0 ((C:Int) - 1) p[i]=false by simpa using c2,Bool.false_and,Bool.false_and]
    refine Ev.step (f:=fun _=>some false) (fun k=>?_) (Ev.now _)
    rw [impl_Board_isPlacement.l0,if_pos (by omega),if_pos (by omega),if_pos (by omega),rd_lt _ _ hi2,if_neg c1,place_f l hR hC,Option.bind_some,if_neg (by rw [show inR 0 ((C:Int) - 1) p[i]=false by simpa using c2,Bool.and_false];simp)]
theorem isPlacement {l:List Int} {R C:Nat} (hlR:l.length=R) (hR:R≤6) (hC:C≤6) (hb:∀ i (hi:i < l.length),0≤l[i]∧l[i] < 64) (p:List Int):Ev (fun k=>impl_Board_isPlacement.f k R C l p) (placeB l C p):=by
 unfold impl_Board_isPlacement.f placeB
 by_cases h:p.length=R
 ·
  refine Ev.congr (fun k=>if_pos (by omega)) ?_
  rw [decide_eq_true (by omega),Bool.true_and]
  have:=isPlacement_l0 hlR hR hC hb h p.length 0 (by omega)
  rw [List.drop_zero,List.take_zero] at this
  exact this
 ·
  rw [decide_eq_false (by omega),Bool.false_and]
  exact Ev.congr (fun k=>if_neg (by omega)) (Ev.now _)
def rk (l:List Int):Nat:=l.countP (fun x=>x != -1)
theorem rooks_l0 {l:List Int} (hl:l.length≤1048576):∀ (d i n:Nat),i + d=l.length→n≤i→Ev (fun k=>impl_rooks.l0 k n l (l.length:Int) i) ((n + rk (l.drop i):Nat):Int)
|0,i,n,hi,hn=>by
  refine Ev.step (f:=fun _=>some (n:Int)) (fun k=>?_) (evEq (Ev.now _) (by rw [List.drop_eq_nil_of_le (by omega)];rfl))
  rw [impl_rooks.l0,if_neg (by omega)]
|d + 1,i,n,hi,hn=>by
  have h1:wrap64 ((i:Int) + 1)=((i + 1:Nat):Int):=by rw [w64 (by omega) (by omega)];rfl
  have h2:wrap64 ((n:Int) + 1)=((n + 1:Nat):Int):=by rw [w64 (by omega) (by omega)];rfl
  have hi2:i < l.length:=by omega
  rw [List.drop_eq_getElem_cons hi2,rk,List.countP_cons]
  by_cases hx:l[i]=-1
  ·
   have ih:=rooks_l0 hl d (i + 1) n (by omega) (by omega)
   rw [rk] at ih
   rw [if_neg (by simp [hx]),Nat.add_zero]
   refine Ev.step (fun k=>?_) ih
   rw [impl_rooks.l0,if_pos (by omega),if_pos (by omega),if_pos (by omega),rd_lt _ _ hi2,if_pos hx,h1]
  ·
   have ih:=rooks_l0 hl d (i + 1) (n + 1) (by omega) (by omega)
   rw [rk] at ih
   rw [if_pos (by simpa using hx)]
   rw [show n + (List.countP (fun x=>x != -1) (List.drop (i + 1) l) + 1)=n + 1 + List.countP (fun x=>x != -1) (List.drop (i + 1) l) by omega]
   refine Ev.step (fun k=>?_) ih
   rw [impl_rooks.l0,if_pos (by omega),if_pos (by omega),if_pos (by omega),rd_lt _ _ hi2,if_neg hx,h1,h2]
theorem rooks {l:List Int} (hl:l.length≤1048576):Ev (fun k=>impl_rooks.f k l) (rk l:Int):=by
 have h:=rooks_l0 hl l.length 0 0 (by omega) (by omega)
 rw [List.drop_zero,Nat.zero_add] at h
 exact h
theorem placeI_ge {l:List Int} {C:Nat}:∀ (t:List Int) (i:Nat) (pre:List Int),placeI l C t i pre=true→∀ x ∈ t,-1≤x∧x < C
|x :: t,i,pre,h,y,hy=>by
  rw [placeI,Bool.and_eq_true,Bool.or_eq_true] at h
  rcases List.mem_cons.1 hy with rfl|hy
  ·
   rcases h.1 with h1|h1
   ·
    have:=of_decide_eq_true h1;omega
   ·
    rw [Bool.and_eq_true] at h1
    have:=of_decide_eq_true h1.1;omega
  ·
   exact placeI_ge t _ _ h.2 y hy
theorem placeB_ge {l:List Int} {C:Nat} {p:List Int} (h:placeB l C p=true):p.length=l.length∧∀ x ∈ p,-1≤x∧x < C:=by
 unfold placeB at h
 rw [Bool.and_eq_true,decide_eq_true_eq] at h
 exact ⟨h.1,placeI_ge p 0 [] h.2⟩
end Go.Proofs.YtpjjeeabpaojnaaGreat.PlaceK
end
