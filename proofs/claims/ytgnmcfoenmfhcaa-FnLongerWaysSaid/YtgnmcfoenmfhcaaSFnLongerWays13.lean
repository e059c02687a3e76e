/- Texts of this claim put together (13): words, what the functions compute, and plain facts. No conditions. -/
import Derived.Test.YtgnmcfoenmfhcaaSFnLongerWays4
import Derived.Test.YtgnmcfoenmfhcaaSFnLongerWays5
import Derived.Test.YtgnmcfoenmfhcaaSFnLongerWays6
import Derived.Test.YtgnmcfoenmfhcaaSFnLongerWays7
import Derived.Test.YtgnmcfoenmfhcaaSFnLongerWays8
import Derived.Test.YtgnmcfoenmfhcaaSFnLongerWays12
import Derived.Test.YtgnmcfoenmfhcaaSFnLongerWays0
section
namespace Go.Proofs.Ytgnmcfoenmfhcaa.Q
open Go.RowKit Go.Proofs.YtgnmcfoenmfhcaaW.PrintWords Go.Proofs.YtgnmcfoenmfhcaaW.PrintLast Go.Proofs.YtgnmcfoenmfhcaaW.PrintMore
attribute [local go_sem] max2_int min2_int max_two min_two max_three min_three max_four min_four   -- for this text's walks alone
set_option linter.unusedVariables false
set_option linter.unusedSimpArgs false
mutual
def laws_FnLongerWays.j0:Nat→List Int→List Int→List Int→Bool→Bool→Int→Int→List Int→Option (Bool)
|0,_,_,_,_,_,_,_,_=>none
|k + 1,x1,x6,x7,x8,x58,x111000,x111001,x111002=>if x58=true then (some false) else ((impl_IsPlacement.f k x111000 x111001 x111002 x6).bind fun bt120=>(if bt120.2=true then (laws_FnLongerWays.j1 k x1 x6 x7 x8 bt120.1 x111000 x111001 x111002) else (laws_FnLongerWays.j1 k x1 x6 x7 x8 false x111000 x111001 x111002)))
def laws_FnLongerWays.j1:Nat→List Int→List Int→List Int→Bool→Bool→Int→Int→List Int→Option (Bool)
|0,_,_,_,_,_,_,_,_=>none
|k + 1,x1,x6,x7,x8,x68,x111000,x111001,x111002=>if x68=true then ((impl_CountRooks.f k x6).bind fun bt122=>((impl_MostRooks.f k x111000 x111001 x111002).bind fun bt124=>(if bt122.2=true then (if bt124.2=true then (laws_FnLongerWays.j2 k x1 x6 x7 x8 bt122.1 (x8 != (decide (bt122.1 < bt124.1))) x111000 x111001 x111002) else (laws_FnLongerWays.j2 k x1 x6 x7 x8 bt122.1 true x111000 x111001 x111002)) else (laws_FnLongerWays.j2 k x1 x6 x7 x8 bt122.1 true x111000 x111001 x111002)))) else (if x8=true then (some false) else (laws_FnLongerWays.j5 k x1))
def laws_FnLongerWays.j5:Nat→List Int→Option (Bool)
|0,_=>none
|k + 1,x1=>(spec_DrawFollowWay.f k x1).bind fun bt138=>((impl_FollowWay.f k bt138.1 bt138.2.1 bt138.2.2.1 bt138.2.2.2.1 bt138.2.2.2.2).bind fun bt150=>((spec_FollowWay.f k bt138.1 bt138.2.1 bt138.2.2.1 bt138.2.2.2.1 bt138.2.2.2.2).bind fun bt154=>(if (bt150.2 == bt154.2)=true then ((laws_kSame.f k bt150.1 bt154.1).bind fun t158=>(some t158)) else (some false))))
def laws_FnLongerWays.j2:Nat→List Int→List Int→List Int→Bool→Int→Bool→Int→Int→List Int→Option (Bool)
|0,_,_,_,_,_,_,_,_,_=>none
|k + 1,x1,x6,x7,x8,x13,x91,x111000,x111001,x111002=>if x91=true then (some false) else (if x8=true then ((impl_FollowWay.f k x111000 x111001 x111002 x6 x7).bind fun bt126=>((impl_CountRooks.f k bt126.1).bind fun bt130=>(if bt126.2=true then (if bt130.2=true then (if bt130.1=(wrap64 (x13 + 1)) then (if 0 < (x7.length:Int) then (if 0≤(rd x7 0) then (if (rd x7 0) < (x6.length:Int) then (if (rd x6 (rd x7 0))=(-1) then (if 0≤(wrap64 ((x7.length:Int) - 1)) then (if (wrap64 ((x7.length:Int) - 1)) < (x7.length:Int) then ((laws_kHas.f k x6 (rd x7 (wrap64 ((x7.length:Int) - 1)))).bind fun t135=>(laws_FnLongerWays.j3 k x1 x6 bt126.1 t135)) else (none)) else (none)) else (laws_FnLongerWays.j3 k x1 x6 bt126.1 true)) else (none)) else (none)) else (none)) else (laws_FnLongerWays.j3 k x1 x6 bt126.1 true)) else (laws_FnLongerWays.j3 k x1 x6 bt126.1 true)) else (laws_FnLongerWays.j3 k x1 x6 bt126.1 true)))) else (laws_FnLongerWays.j5 k x1))
def laws_FnLongerWays.j3:Nat→List Int→List Int→List Int→Bool→Option (Bool)
|0,_,_,_,_=>none
|k + 1,x1,x6,x17,x135=>if x135=true then (some false) else (laws_FnLongerWays.l0 k x1 x17 x6 (x6.length:Int) 0)
def laws_FnLongerWays.l0:Nat→List Int→List Int→List Int→Int→Int→Option (Bool)
|0,_,_,_,_,_=>none
|k + 1,x1,x17,x136,x137,x138=>if x138 < x137 then (if 0≤x138 then (if x138 < (x136.length:Int) then (if (rd x136 x138) ≥ 0 then (if x138 < (x17.length:Int) then (if (rd x17 x138) < 0 then (some false) else (laws_FnLongerWays.l0 k x1 x17 x136 x137 (wrap64 (x138 + 1)))) else (none)) else (laws_FnLongerWays.l0 k x1 x17 x136 x137 (wrap64 (x138 + 1)))) else (none)) else (none)) else (laws_FnLongerWays.j5 k x1)
end
def laws_FnLongerWays.f (k:Nat) (l0:List Int) (l1:List Int):Option (Bool):=(laws_big.f l0 l1).bind fun t101=>(if t101=true then (some true) else ((spec_DrawLongerWay.f k l0).bind fun bt102=>((impl_LongerWay.f k bt102.1 bt102.2.1 bt102.2.2.1 bt102.2.2.2).bind fun bt111=>((spec_LongerWay.f k bt102.1 bt102.2.1 bt102.2.2.1 bt102.2.2.2).bind fun bt115=>(if (bt111.2 != bt115.2)=true then (laws_FnLongerWays.j0 k l1 bt102.2.2.2 bt111.1 bt111.2 true bt102.1 bt102.2.1 bt102.2.2.1) else ((laws_kSame.f k bt111.1 bt115.1).bind fun t119=>(laws_FnLongerWays.j0 k l1 bt102.2.2.2 bt111.1 bt111.2 (!t119) bt102.1 bt102.2.1 bt102.2.2.1)))))))
set_option maxHeartbeats 8000000 in
set_option maxRecDepth 100000 in
theorem laws_FnLongerWays.calls (k:Nat) (A0:Option Addr) (c0:Nat) (l0:List Int) (A1:Option Addr) (c1:Nat) (l1:List Int) (r:Bool) (w:World) (hr0:Kd.C (Kd.int .u8) w A0 l0.length l0) (hc0:l0.length≤c0) (hr1:Kd.C (Kd.int .u8) w A1 l1.length l1) (hc1:l1.length≤c1) (h:laws_FnLongerWays.f k l0 l1=some r) :
  Calls Try.prog 8 #[.slice A0 l0.length c0,.slice A1 l1.length c1] w fun e w'=>e=.returned (.bool r)∧Below w.heap.size w w':=by
 have hu26:=Try.underlying26;have HR0:=za hr0;have HC0:=za hc0;clear hr0 hc0;have HR1:=za hr1;have HC1:=za hc1;clear hr1 hc1;have HB:=za (Below.refl w.heap.size w);have H:((laws_big.f l0 l1).bind fun t101=>(if t101=true then (some true) else ((spec_DrawLongerWay.f k l0).bind fun bt102=>((impl_LongerWay.f k bt102.1 bt102.2.1 bt102.2.2.1 bt102.2.2.2).bind fun bt111=>((spec_LongerWay.f k bt102.1 bt102.2.1 bt102.2.2.1 bt102.2.2.2).bind fun bt115=>(if (bt111.2 != bt115.2)=true then (laws_FnLongerWays.j0 k l1 bt102.2.2.2 bt111.1 bt111.2 true bt102.1 bt102.2.1 bt102.2.2.1) else ((laws_kSame.f k bt111.1 bt115.1).bind fun t119=>(laws_FnLongerWays.j0 k l1 bt102.2.2.2 bt111.1 bt111.2 (!t119) bt102.1 bt102.2.1 bt102.2.2.1))))))))=some r:=h;clear h;obtain ⟨t101,A3,H⟩:=bindAside H;(try dsimp only at H);by_cases c4:t101=true
 · subst c4;(have H1:(some true)=some r:=by rw [if_pos rfl] at H;exact H);clear H;have H:=H1;clear H1;obtain rfl:=Option.some.inj H;(go_enter Try.func8,Try.ntmps8);(go_wp2_with (first|((with_reducible refine zB (f:=17) rfl ?_);refine goesL_ (some 32) rfl rfl Try.func17 (by kernel_rfl) rfl #[.slice A0 l0.length c0,.slice A1 l1.length c1] rfl (by first|rfl|simp only [z3_,z4_,z5_];try rfl) ?_;(with_reducible refine (laws_big.calls _ _ l0 _ _ l1 true _ ?side1 ?side2 ?side3 ?side4 A3.out).mono ?_);(case side1=>apply_rules only [HR0.out,zw,zx,zy]);(case side2=>exact HC0.out);(case side3=>apply_rules only [HR1.out,zw,zx,zy]);(case side4=>exact HC1.out);rintro e w' ⟨rfl,⟨nd,rfl⟩⟩;refine ⟨_,rfl,?_⟩)));(go_ret);exact ⟨by first|rfl|simp [*,errW_none,errW_some] <;> rfl,by repeat (first|(with_reducible first|exact HB.out|apply zf|apply zg|apply zc)|exact HB.out)⟩
 ·
  replace c4:=Bool.eq_false_iff.mpr c4;subst c4;(have H1:((spec_DrawLongerWay.f k l0).bind fun bt102=>((impl_LongerWay.f k bt102.1 bt102.2.1 bt102.2.2.1 bt102.2.2.2).bind fun bt111=>((spec_LongerWay.f k bt102.1 bt102.2.1 bt102.2.2.1 bt102.2.2.2).bind fun bt115=>(if (bt111.2 != bt115.2)=true then (laws_FnLongerWays.j0 k l1 bt102.2.2.2 bt111.1 bt111.2 true bt102.1 bt102.2.1 bt102.2.2.1) else ((laws_kSame.f k bt111.1 bt115.1).bind fun t119=>(laws_FnLongerWays.j0 k l1 bt102.2.2.2 bt111.1 bt111.2 (!t119) bt102.1 bt102.2.1 bt102.2.2.1))))))=some r:=by rw [if_neg (show ¬ (false=true) by decide)] at H;exact H);clear H;have H:=H1;clear H1;obtain ⟨⟨t102,t103,t104,t107⟩,A5,H⟩:=bindAside H;(try dsimp only at H);obtain ⟨⟨t111,t114⟩,A6,H⟩:=bindAside H;(try dsimp only at H);obtain ⟨⟨t115,t118⟩,A7,H⟩:=bindAside H;(try dsimp only at H);have HC8:=za H;clear H;(go_enter Try.func8,Try.ntmps8);(go_upto_region 6 with (first|((with_reducible refine zB (f:=17) rfl ?_);refine goesL_ (some 32) rfl rfl Try.func17 (by kernel_rfl) rfl #[.slice A0 l0.length c0,.slice A1 l1.length c1] rfl (by first|rfl|simp only [z3_,z4_,z5_];try rfl) ?_;(with_reducible refine (laws_big.calls _ _ l0 _ _ l1 false _ ?side1 ?side2 ?side3 ?side4 A3.out).mono ?_);(case side1=>apply_rules only [HR0.out,zw,zx,zy]);(case side2=>exact HC0.out);(case side3=>apply_rules only [HR1.out,zw,zx,zy]);(case side4=>exact HC1.out);rintro e w' ⟨rfl,⟨nd,rfl⟩⟩;refine ⟨_,rfl,?_⟩)|((with_reducible refine zB (f:=45) rfl ?_);refine goesL_ (some 35) rfl rfl Try.func45 (by kernel_rfl) rfl #[.slice A0 l0.length c0] rfl (by first|rfl|simp only [z3_,z4_,z5_];try rfl) ?_;(with_reducible refine (spec_DrawLongerWay.calls k _ _ l0 t102 t103 t104 t107 _ ?side1 ?side2 A5.out).mono ?_);(case side1=>apply_rules only [HR0.out,zw,zx,zy]);(case side2=>exact HC0.out);rintro e w9 ⟨v105,v108,rfl,ho0,ho1,hb⟩;refine ⟨_,rfl,?_⟩;have HO106:=za (Kd.R_lower ho0 (zC (by apply_rules only [HB.out,zf,zg,zc])));have HO109:=za (Kd.R_lower ho1 (zC (by apply_rules only [HB.out,zf,zg,zc])));replace HB:=za (zv (by apply_rules only [HB.out,zf,zg,zc]) hb))|((with_reducible refine gate_dst (N:=5) rfl ?_);refine box_event ?hg (N:=5) ?hd (cs:=#[.int .i64 0,.int .i64 0,.slice none 0 0]) (t:=26) ?hr ?_;(case hd=>rfl);(case hg=>rfl);(case hr=>first|(go_simp;done)|(go_simp;rfl));intro gb110 hg w10 hbox hb;replace HO106:=za (Kd.R_below (by apply_rules only [HO106.out,zl,zm,zj]) hb);replace HO109:=za (Kd.R_below (by apply_rules only [HO109.out,zl,zm,zj]) hb);have BK110:=za (hbox);have GW110:=za ((by rw [hg];exact (zC (by apply_rules only [HB.out,zf,zg,zc])):w.heap.size≤gb110));have GE110:=za ((by rw [hg];exact (zC (by apply_rules only [HB.out,zf,zg,zc])):w.heap.size≤gb110));replace HB:=za (zv (by apply_rules only [HB.out,zf,zg,zc]) hb);clear hb hbox hg;have hcz11_0:w10.cell? ⟨gb110,0,none⟩=some (.int .i64 0):=(zi BK110.out 0).trans rfl;have hcz11_1:w10.cell? ⟨gb110,1,none⟩=some (.int .i64 0):=(zi BK110.out 1).trans rfl;have hcz11_2:w10.cell? ⟨gb110,2,none⟩=some (.slice none 0 0):=(zi BK110.out 2).trans rfl;have hfz11_0:=zk BK110.out 0;have hfz11_1:=zk BK110.out 1;have hfz11_2:=zk BK110.out 2;obtain ⟨Ao12,co12,eo12⟩:=Kd.R_slice HO106.out;subst eo12;obtain ⟨Ao13,co13,eo13⟩:=Kd.R_slice HO109.out;subst eo13)|((with_reducible refine zB (f:=44) rfl ?_);refine goesL_ (some 41) rfl rfl Try.func44 (by kernel_rfl) rfl #[.agg #[.int .i64 t102,.int .i64 t103,.slice Ao12 t104.length co12],.slice Ao13 t107.length co13] rfl (by first|rfl|simp only [z3_,z4_,z5_];try rfl) ?_;(with_reducible refine (impl_LongerWay.calls k t102 t103 _ _ t104 _ _ t107 t111 t114 _ ?side1 ?side2 ?side3 ?side4 A6.out).mono ?_);(case side1=>refine (zD (e:=3) (base:=w.heap.size) (ok:=fun k_=>some k_ ≠ (.slice Ao13 t107.length co13:Value).ownBlock) (n:=t104.length) (c:=co12) ?_).2.2;exact (by (with_reducible repeat (first|apply zl|apply zm|apply zj));exact (zp (zn (p:=⟨gb110,2,none⟩) (zn (p:=⟨gb110,1,none⟩) (zn (p:=⟨gb110,0,none⟩) (zH HO106.out BK110.out (by decide)) (fun _ hk=>hk.2) (.int .i64 t102)) (fun _ hk=>hk.2) (.int .i64 t103)) (fun _ hk=>hk.2) (.slice Ao12 t104.length co12)) (fun _ h_=>h_.1))));(case side2=>exact (zD HO106.out).2.1);(case side3=>refine (zD (e:=3) (base:=w.heap.size) (ok:=fun k_=>some k_ ≠ (.slice Ao12 t104.length co12:Value).ownBlock) (n:=t107.length) (c:=co13) ?_).2.2;exact (by (with_reducible repeat (first|apply zl|apply zm|apply zj));exact (zp (zn (p:=⟨gb110,2,none⟩) (zn (p:=⟨gb110,1,none⟩) (zn (p:=⟨gb110,0,none⟩) (zH HO109.out BK110.out (by decide)) (fun _ hk=>hk.2) (.int .i64 t102)) (fun _ hk=>hk.2) (.int .i64 t103)) (fun _ hk=>hk.2) (.slice Ao12 t104.length co12)) (fun _ h_=>h_.1))));(case side4=>exact (zD HO109.out).2.1);rintro e w14 ⟨v112,rfl,ho0,hb⟩;refine ⟨_,rfl,?_⟩;have HO113:=za (Kd.R_lower (Kd.R_new' (Kd.R_new' ho0 (Kd.R_lt (by (with_reducible repeat (first|apply zl|apply zm|apply zj));exact (zp (zn (p:=⟨gb110,2,none⟩) (zn (p:=⟨gb110,1,none⟩) (zn (p:=⟨gb110,0,none⟩) (zH HO106.out BK110.out (by decide)) (fun _ hk=>hk.2) (.int .i64 t102)) (fun _ hk=>hk.2) (.int .i64 t103)) (fun _ hk=>hk.2) (.slice Ao12 t104.length co12)) (fun _ h_=>h_.1))))) (Kd.R_lt (by (with_reducible repeat (first|apply zl|apply zm|apply zj));exact (zp (zn (p:=⟨gb110,2,none⟩) (zn (p:=⟨gb110,1,none⟩) (zn (p:=⟨gb110,0,none⟩) (zH HO109.out BK110.out (by decide)) (fun _ hk=>hk.2) (.int .i64 t102)) (fun _ hk=>hk.2) (.int .i64 t103)) (fun _ hk=>hk.2) (.slice Ao12 t104.length co12)) (fun _ h_=>h_.1))))) (zC (by apply_rules only [HB.out,zf,zg,zc,zh,GE110.out])));replace HO106:=za (Kd.R_elder' (by (with_reducible repeat (first|apply zl|apply zm|apply zj));exact (zp (zn (p:=⟨gb110,2,none⟩) (zn (p:=⟨gb110,1,none⟩) (zn (p:=⟨gb110,0,none⟩) (zH HO106.out BK110.out (by decide)) (fun _ hk=>hk.2) (.int .i64 t102)) (fun _ hk=>hk.2) (.int .i64 t103)) (fun _ hk=>hk.2) (.slice Ao12 t104.length co12)) (fun _ h_=>h_.1))) (Kd.R_base ho0) hb);replace HO109:=za (Kd.R_elder' (by (with_reducible repeat (first|apply zl|apply zm|apply zj));exact (zp (zn (p:=⟨gb110,2,none⟩) (zn (p:=⟨gb110,1,none⟩) (zn (p:=⟨gb110,0,none⟩) (zH HO109.out BK110.out (by decide)) (fun _ hk=>hk.2) (.int .i64 t102)) (fun _ hk=>hk.2) (.int .i64 t103)) (fun _ hk=>hk.2) (.slice Ao12 t104.length co12)) (fun _ h_=>h_.1))) (Kd.R_base ho0) hb);replace BK110:=za (zz (g:=gb110) (o:=.cells #[.int .i64 t102,.int .i64 t103,.slice Ao12 t104.length co12] 26 (0,0)) (by (with_reducible repeat (first|refine zd ?_ _|refine zb ?_|refine ze ?_ _));refine blk_put (cs:=#[.int .i64 t102,.int .i64 t103,.slice none 0 0]) ?_ 2 _ rfl;(with_reducible repeat (first|refine zd ?_ _|refine zb ?_|refine ze ?_ _));refine blk_put (cs:=#[.int .i64 t102,.int .i64 0,.slice none 0 0]) ?_ 1 _ rfl;(with_reducible repeat (first|refine zd ?_ _|refine zb ?_|refine ze ?_ _));refine blk_put (cs:=#[.int .i64 0,.int .i64 0,.slice none 0 0]) ?_ 0 _ rfl;apply_rules only [BK110.out,zd,zb,ze]) hb);replace HB:=za (zv (by apply_rules only [HB.out,zf,zg,zc,zh,GE110.out]) hb);have hcz15_0:w14.cell? ⟨gb110,0,none⟩=some (.int .i64 t102):=(zi BK110.out 0).trans rfl;have hcz15_1:w14.cell? ⟨gb110,1,none⟩=some (.int .i64 t103):=(zi BK110.out 1).trans rfl;have hcz15_2:w14.cell? ⟨gb110,2,none⟩=some (.slice Ao12 t104.length co12):=(zi BK110.out 2).trans rfl;have hfz15_0:=zk BK110.out 0;have hfz15_1:=zk BK110.out 1;have hfz15_2:=zk BK110.out 2)|((with_reducible refine zB (f:=43) rfl ?_);refine goesL_ (some 47) rfl rfl Try.func43 (by kernel_rfl) rfl #[.agg #[.int .i64 t102,.int .i64 t103,.slice Ao12 t104.length co12],.slice Ao13 t107.length co13] rfl (by first|rfl|simp only [z3_,z4_,z5_];try rfl) ?_;(with_reducible refine (spec_LongerWay.calls k t102 t103 _ _ t104 _ _ t107 t115 t118 _ ?side1 ?side2 ?side3 ?side4 A7.out).mono ?_);(case side1=>apply_rules only [(zD HO106.out).2.2,zw,zx,zy]);(case side2=>exact (zD HO106.out).2.1);(case side3=>apply_rules only [(zD HO109.out).2.2,zw,zx,zy]);(case side4=>exact (zD HO109.out).2.1);rintro e w16 ⟨v116,rfl,ho0,hb⟩;refine ⟨_,rfl,?_⟩;have HO117:=za (Kd.R_lower (Kd.R_new' (Kd.R_new' (Kd.R_new' ho0 (Kd.R_lt (by apply_rules only [HO106.out,zl,zm,zj]))) (Kd.R_lt (by apply_rules only [HO109.out,zl,zm,zj]))) (Kd.R_lt (by apply_rules only [HO113.out,zl,zm,zj]))) (zC (by apply_rules only [HB.out,zf,zg,zc,zh,GE110.out])));replace HO106:=za (Kd.R_elder' (by apply_rules only [HO106.out,zl,zm,zj]) (Kd.R_base ho0) hb);replace HO109:=za (Kd.R_elder' (by apply_rules only [HO109.out,zl,zm,zj]) (Kd.R_base ho0) hb);replace HO113:=za (Kd.R_elder' (by apply_rules only [HO113.out,zl,zm,zj]) (Kd.R_base ho0) hb);replace BK110:=za (zz (g:=gb110) (o:=.cells #[.int .i64 t102,.int .i64 t103,.slice Ao12 t104.length co12] 26 (0,0)) (by apply_rules only [BK110.out,zd,zb,ze]) hb);replace HB:=za (zv (by apply_rules only [HB.out,zf,zg,zc,zh,GE110.out]) hb))));(try simp only [Act.put,z0_,z1_,z2_]);go_cut [58] (fun v58 wc=>∃ (kq:Nat) (x58_7:Bool),v58=.bool x58_7∧Aside0 (laws_FnLongerWays.j0 kq l1 t107 t111 t114 x58_7 t102 t103 t104=some r)∧Aside0 (kq≤k)∧Aside0 (Kd.R (Kd.int .i64) 3 wc w.heap.size (fun k_=>some k_ ≠ (v112:Value).ownBlock∧some k_ ≠ ((.slice Ao12 t104.length co12):Value).ownBlock) (.slice Ao13 t107.length co13) t107)∧Aside0 (Kd.R (Kd.int .i64) 3 wc w.heap.size (fun k_=>some k_ ≠ ((.slice Ao13 t107.length co13):Value).ownBlock∧some k_ ≠ ((.slice Ao12 t104.length co12):Value).ownBlock) v112 t111)∧Aside0 (Kd.R (Kd.int .i64) 3 wc w.heap.size (fun k_=>some k_ ≠ ((.slice Ao13 t107.length co13):Value).ownBlock∧some k_ ≠ (v112:Value).ownBlock) (.slice Ao12 t104.length co12) t104)∧Aside0 (wc.heap[gb110]?=some (.cells #[.int .i64 t102,.int .i64 t103,(.slice Ao12 t104.length co12)] 26 (0,0)))∧Aside0 (Below w.heap.size w wc))
  case first =>
   have H:=HC8.out;clear HC8;by_cases c17:(t114 != t118)=true
   · rw [if_pos c17] at H;have c17b0:(t114 != t118)=true:=c17;(try (have c17b1:decide (t114=t118)=false:=by simpa using c17));(try (have c17b2:(t114 == t118)=false:=by simpa using c17));(try (have c17b3:¬ (t114=t118):=by simpa using c17));clear c17;(first|rw [c17b0]|(simp only [zo,i32_w];rw [c17b0])|skip);have H':=za H;clear H;(go_wp2);(go_meet);case rel=>exact ⟨_,(true),(by first|rfl|(simp;done)|(simp [*];done)),H',⟨by first|omega|exact Nat.le_refl _⟩,⟨by (with_reducible repeat (first|apply zl|apply zm|apply zj));exact zp HO109.out (fun _ hk=>⟨hk.1.2,hk.1.1⟩)⟩,⟨by (with_reducible repeat (first|apply zl|apply zm|apply zj));exact zp HO113.out (fun _ hk=>⟨hk.1.2,hk.1.1.2⟩)⟩,⟨by (with_reducible repeat (first|apply zl|apply zm|apply zj));exact zp HO106.out (fun _ hk=>⟨hk.1.1,hk.1.2⟩)⟩,⟨by apply_rules only [BK110.out,zd,zb,ze]⟩,⟨by apply_rules only [HB.out,zf,zg,zc,zh,GE110.out]⟩⟩
   · rw [if_neg c17] at H;(have c17b0:(t114 != t118)=false:=by simpa using c17);(try (have c17b1:decide (t114=t118)=true:=by simpa using c17));(try (have c17b2:(t114 == t118)=true:=by simpa using c17));clear c17;(first|rw [c17b0]|(simp only [zo,i32_w];rw [c17b0])|skip);obtain ⟨t119,A18,H⟩:=bindAside H;(try dsimp only at H);have H':=za H;clear H;obtain ⟨Ao19,co19,eo19⟩:=Kd.R_slice HO113.out;subst eo19;obtain ⟨Ao20,co20,eo20⟩:=Kd.R_slice HO117.out;subst eo20;(go_wp2_with (first|(go_at_call 24;(with_reducible refine (laws_kSame.calls k _ _ t111 _ _ t115 t119 _ ?side1 ?side2 ?side3 ?side4 A18.out).mono ?_);(case side1=>apply_rules only [(zD HO113.out).2.2,zw,zx,zy]);(case side2=>exact (zD HO113.out).2.1);(case side3=>apply_rules only [(zD HO117.out).2.2,zw,zx,zy]);(case side4=>exact (zD HO117.out).2.1);rintro e w' ⟨rfl,⟨nd,rfl⟩⟩)));(go_meet);case rel=>exact ⟨_,(!t119),(by first|rfl|(simp;done)|(simp [*];done)),H',⟨by first|omega|exact Nat.le_refl _⟩,⟨by (with_reducible repeat (first|apply zl|apply zm|apply zj));exact zp HO109.out (fun _ hk=>⟨hk.1.2,hk.1.1⟩)⟩,⟨by (with_reducible repeat (first|apply zl|apply zm|apply zj));exact zp HO113.out (fun _ hk=>⟨hk.1.2,hk.1.1.2⟩)⟩,⟨by (with_reducible repeat (first|apply zl|apply zm|apply zj));exact zp HO106.out (fun _ hk=>⟨hk.1.1,hk.1.2⟩)⟩,⟨by apply_rules only [BK110.out,zd,zb,ze]⟩,⟨by apply_rules only [HB.out,zf,zg,zc,zh,GE110.out]⟩⟩
  case rest =>
   clear HC8;(try clear c1);(try clear p2);(try clear c4);(try clear c8);(try clear c17);(try clear c17b0);(try clear c17b1);(try clear c17b2);(try clear hcz11_0);(try clear hcz11_1);(try clear hcz11_2);(try clear hcz15_0);(try clear hcz15_1);(try clear hcz15_2);(try clear hfz11_0);(try clear hfz11_1);(try clear hfz11_2);(try clear hfz15_0);(try clear hfz15_1);(try clear hfz15_2);obtain ⟨kq,x58_7,rfl,HA,HJ7,HO_6,HO_7,HO_111002,BK110,HB⟩:=hcut
   cases kq with
  |zero=>exact absurd HA.out (by simp [laws_FnLongerWays.j0])
  |succ kj7 =>
    have H:=HA.out;clear HA;simp only [laws_FnLongerWays.j0] at H;by_cases c21:x58_7=true
    · subst c21;(have H1:(some false)=some r:=by rw [if_pos rfl] at H;exact H);clear H;have H:=H1;clear H1;obtain rfl:=Option.some.inj H;(go_wp2);(go_ret);exact ⟨by first|rfl|simp [*,errW_none,errW_some] <;> rfl,by repeat (first|(with_reducible first|exact HB.out|apply zf|apply zg|apply zc|refine zh ?_ GE110.out)|exact HB.out)⟩
    ·
     replace c21:=Bool.eq_false_iff.mpr c21;subst c21;(have H1:((impl_IsPlacement.f kj7 t102 t103 t104 t107).bind fun bt120=>(if bt120.2=true then (laws_FnLongerWays.j1 kj7 l1 t107 t111 t114 bt120.1 t102 t103 t104) else (laws_FnLongerWays.j1 kj7 l1 t107 t111 t114 false t102 t103 t104)))=some r:=by rw [if_neg (show ¬ (false=true) by decide)] at H;exact H);clear H;have H:=H1;clear H1;obtain ⟨⟨t120,t121⟩,A22,H⟩:=bindAside H;(try dsimp only at H);have HC23:=za H;clear H;have hcz24_0:wc.cell? ⟨gb110,0,none⟩=some (.int .i64 t102):=(zi BK110.out 0).trans rfl;have hcz24_1:wc.cell? ⟨gb110,1,none⟩=some (.int .i64 t103):=(zi BK110.out 1).trans rfl;have hcz24_2:wc.cell? ⟨gb110,2,none⟩=some (.slice Ao12 t104.length co12):=(zi BK110.out 2).trans rfl;have hfz24_0:=zk BK110.out 0;have hfz24_1:=zk BK110.out 1;have hfz24_2:=zk BK110.out 2;(go_upto_region 9 with (first|((with_reducible refine zB (f:=46) rfl ?_);refine goesL_ (some 62) rfl rfl Try.func46 (by kernel_rfl) rfl #[.agg #[.int .i64 t102,.int .i64 t103,.slice Ao12 t104.length co12],.slice Ao13 t107.length co13] rfl (by first|rfl|simp only [z3_,z4_,z5_];try rfl) ?_;(with_reducible refine (impl_IsPlacement.calls kj7 t102 t103 _ _ t104 _ _ t107 t120 t121 _ ?side1 ?side2 ?side3 ?side4 A22.out).mono ?_);(case side1=>apply_rules only [(zD HO_111002.out).2.2,zw,zx,zy]);(case side2=>exact (zD HO_111002.out).2.1);(case side3=>apply_rules only [(zD HO_6.out).2.2,zw,zx,zy]);(case side4=>exact (zD HO_6.out).2.1);rintro e w25 ⟨rfl,hb⟩;refine ⟨_,rfl,?_⟩;replace HO_6:=za (Kd.R_below (by apply_rules only [HO_6.out,zl,zm,zj]) hb);replace HO_7:=za (Kd.R_below (by apply_rules only [HO_7.out,zl,zm,zj]) hb);replace HO_111002:=za (Kd.R_below (by apply_rules only [HO_111002.out,zl,zm,zj]) hb);replace BK110:=za (zz (g:=gb110) (o:=.cells #[.int .i64 t102,.int .i64 t103,.slice Ao12 t104.length co12] 26 (0,0)) (by apply_rules only [BK110.out,zd,zb,ze]) hb);replace HB:=za (zv (by apply_rules only [HB.out,zf,zg,zc,zh,GE110.out]) hb))));(try simp only [Act.put,z0_,z1_,z2_]);go_cut [68] (fun v68 wc=>∃ (kq:Nat) (x68_22:Bool),v68=.bool x68_22∧Aside0 (laws_FnLongerWays.j1 kq l1 t107 t111 t114 x68_22 t102 t103 t104=some r)∧Aside0 (kq≤kj7)∧Aside0 (Kd.R (Kd.int .i64) 3 wc w.heap.size (fun k_=>some k_ ≠ (v112:Value).ownBlock∧some k_ ≠ ((.slice Ao12 t104.length co12):Value).ownBlock) (.slice Ao13 t107.length co13) t107)∧Aside0 (Kd.R (Kd.int .i64) 3 wc w.heap.size (fun k_=>some k_ ≠ ((.slice Ao13 t107.length co13):Value).ownBlock∧some k_ ≠ ((.slice Ao12 t104.length co12):Value).ownBlock) v112 t111)∧Aside0 (Kd.R (Kd.int .i64) 3 wc w.heap.size (fun k_=>some k_ ≠ ((.slice Ao13 t107.length co13):Value).ownBlock∧some k_ ≠ (v112:Value).ownBlock) (.slice Ao12 t104.length co12) t104)∧Aside0 (wc.heap[gb110]?=some (.cells #[.int .i64 t102,.int .i64 t103,(.slice Ao12 t104.length co12)] 26 (0,0)))∧Aside0 (Below w.heap.size w wc))
     case first =>
      have H:=HC23.out;clear HC23;by_cases c26:t121=true
      · subst c26;(have H1:(laws_FnLongerWays.j1 kj7 l1 t107 t111 t114 t120 t102 t103 t104)=some r:=by rw [if_pos rfl] at H;exact H);clear H;have H:=H1;clear H1;have H':=za H;clear H;(go_wp2);(go_meet);case rel=>exact ⟨_,(t120),(by first|rfl|(simp;done)|(simp [*];done)),H',⟨by have:=HJ7.out;first|omega|exact Nat.le_refl _⟩,⟨by apply_rules only [HO_6.out,zl,zm,zj]⟩,⟨by apply_rules only [HO_7.out,zl,zm,zj]⟩,⟨by apply_rules only [HO_111002.out,zl,zm,zj]⟩,⟨by apply_rules only [BK110.out,zd,zb,ze]⟩,⟨by apply_rules only [HB.out,zf,zg,zc,zh,GE110.out]⟩⟩
      · replace c26:=Bool.eq_false_iff.mpr c26;subst c26;(have H1:(laws_FnLongerWays.j1 kj7 l1 t107 t111 t114 false t102 t103 t104)=some r:=by rw [if_neg (show ¬ (false=true) by decide)] at H;exact H);clear H;have H:=H1;clear H1;have H':=za H;clear H;(go_wp2);(go_meet);case rel=>exact ⟨_,(false),(by first|rfl|(simp;done)|(simp [*];done)),H',⟨by have:=HJ7.out;first|omega|exact Nat.le_refl _⟩,⟨by apply_rules only [HO_6.out,zl,zm,zj]⟩,⟨by apply_rules only [HO_7.out,zl,zm,zj]⟩,⟨by apply_rules only [HO_111002.out,zl,zm,zj]⟩,⟨by apply_rules only [BK110.out,zd,zb,ze]⟩,⟨by apply_rules only [HB.out,zf,zg,zc,zh,GE110.out]⟩⟩
     case rest =>
      clear HC23;(try clear c1);(try clear c2);(try clear p2);(try clear c4);(try clear c8);(try clear c17);(try clear c17b0);(try clear c17b1);(try clear c17b2);(try clear c21);(try clear c26);(try clear hcz11_0);(try clear hcz11_1);(try clear hcz11_2);(try clear hcz15_0);(try clear hcz15_1);(try clear hcz15_2);(try clear hcz24_0);(try clear hcz24_1);(try clear hcz24_2);(try clear hfz11_0);(try clear hfz11_1);(try clear hfz11_2);(try clear hfz15_0);(try clear hfz15_1);(try clear hfz15_2);(try clear hfz24_0);(try clear hfz24_1);(try clear hfz24_2);(try clear p2);obtain ⟨kq,x68_22,rfl,HA,HJ22,HO_6,HO_7,HO_111002,BK110,HB⟩:=hcut
      cases kq with
     |zero=>exact absurd HA.out (by simp [laws_FnLongerWays.j1])
     |succ kj22 =>
       have H:=HA.out;clear HA;simp only [laws_FnLongerWays.j1] at H;have HC27:=za H;clear H;(go_upto_if 68 with (fail));go_cut [] (fun wc=>∃ (kq:Nat),Aside0 (laws_FnLongerWays.j5 kq l1=some r)∧Aside0 (kq≤kj22)∧Aside0 (Kd.R (Kd.int .i64) 3 wc w.heap.size (fun _=>True) (.slice Ao12 t104.length co12) t104)∧Aside0 (wc.heap[gb110]?=some (.cells #[.int .i64 t102,.int .i64 t103,(.slice Ao12 t104.length co12)] 26 (0,0)))∧Aside0 (Below w.heap.size w wc))
       case first =>
        have H:=HC27.out;clear HC27;by_cases c28:x68_22=true
        ·
         subst c28;(have H1:((impl_CountRooks.f kj22 t107).bind fun bt122=>((impl_MostRooks.f kj22 t102 t103 t104).bind fun bt124=>(if bt122.2=true then (if bt124.2=true then (laws_FnLongerWays.j2 kj22 l1 t107 t111 t114 bt122.1 (t114 != (decide (bt122.1 < bt124.1))) t102 t103 t104) else (laws_FnLongerWays.j2 kj22 l1 t107 t111 t114 bt122.1 true t102 t103 t104)) else (laws_FnLongerWays.j2 kj22 l1 t107 t111 t114 bt122.1 true t102 t103 t104))))=some r:=by rw [if_pos rfl] at H;exact H);clear H;have H:=H1;clear H1;obtain ⟨⟨t122,t123⟩,A29,H⟩:=bindAside H;(try dsimp only at H);obtain ⟨⟨t124,t125⟩,A30,H⟩:=bindAside H;(try dsimp only at H);have HC31:=za H;clear H;(go_upto_region 12 with (first|((with_reducible refine zB (f:=47) rfl ?_);refine goesL_ (some 71) rfl rfl Try.func47 (by kernel_rfl) rfl #[.slice Ao13 t107.length co13] rfl (by first|rfl|simp only [z3_,z4_,z5_];try rfl) ?_;(with_reducible refine (impl_CountRooks.calls kj22 _ _ t107 t122 t123 _ ?side1 ?side2 A29.out).mono ?_);(case side1=>apply_rules only [(zD HO_6.out).2.2,zw,zx,zy]);(case side2=>exact (zD HO_6.out).2.1);rintro e w' ⟨rfl,⟨nd,rfl⟩⟩;refine ⟨_,rfl,?_⟩;have hcz32_0:wc.cell? ⟨gb110,0,none⟩=some (.int .i64 t102):=(zi BK110.out 0).trans rfl;have hcz32_1:wc.cell? ⟨gb110,1,none⟩=some (.int .i64 t103):=(zi BK110.out 1).trans rfl;have hcz32_2:wc.cell? ⟨gb110,2,none⟩=some (.slice Ao12 t104.length co12):=(zi BK110.out 2).trans rfl;have hfz32_0:=zk BK110.out 0;have hfz32_1:=zk BK110.out 1;have hfz32_2:=zk BK110.out 2)|((with_reducible refine zB (f:=23) rfl ?_);refine goesL_ (some 76) rfl rfl Try.func23 (by kernel_rfl) rfl #[.agg #[.int .i64 t102,.int .i64 t103,.slice Ao12 t104.length co12]] rfl (by first|rfl|simp only [z3_,z4_,z5_];try rfl) ?_;(with_reducible refine (impl_MostRooks.calls kj22 t102 t103 _ _ t104 t124 t125 _ ?side1 ?side2 A30.out).mono ?_);(case side1=>apply_rules only [(zD HO_111002.out).2.2,zw,zx,zy]);(case side2=>exact (zD HO_111002.out).2.1);rintro e w33 ⟨rfl,hb⟩;refine ⟨_,rfl,?_⟩;replace HO_6:=za (Kd.R_below (by apply_rules only [HO_6.out,zl,zm,zj]) hb);replace HO_7:=za (Kd.R_below (by apply_rules only [HO_7.out,zl,zm,zj]) hb);replace HO_111002:=za (Kd.R_below (by apply_rules only [HO_111002.out,zl,zm,zj]) hb);replace BK110:=za (zz (g:=gb110) (o:=.cells #[.int .i64 t102,.int .i64 t103,.slice Ao12 t104.length co12] 26 (0,0)) (by apply_rules only [BK110.out,zd,zb,ze]) hb);replace HB:=za (zv (by apply_rules only [HB.out,zf,zg,zc,zh,GE110.out]) hb))));(try simp only [Act.put,z0_,z1_,z2_]);go_cut [91] (fun v91 wc=>∃ (kq:Nat) (x91_30:Bool),v91=.bool x91_30∧Aside0 (laws_FnLongerWays.j2 kq l1 t107 t111 t114 t122 x91_30 t102 t103 t104=some r)∧Aside0 (kq≤kj22)∧Aside0 (Kd.R (Kd.int .i64) 3 wc w.heap.size (fun k_=>some k_ ≠ (v112:Value).ownBlock∧some k_ ≠ ((.slice Ao12 t104.length co12):Value).ownBlock) (.slice Ao13 t107.length co13) t107)∧Aside0 (Kd.R (Kd.int .i64) 3 wc w.heap.size (fun k_=>some k_ ≠ ((.slice Ao13 t107.length co13):Value).ownBlock∧some k_ ≠ ((.slice Ao12 t104.length co12):Value).ownBlock) v112 t111)∧Aside0 (Kd.R (Kd.int .i64) 3 wc w.heap.size (fun k_=>some k_ ≠ ((.slice Ao13 t107.length co13):Value).ownBlock∧some k_ ≠ (v112:Value).ownBlock) (.slice Ao12 t104.length co12) t104)∧Aside0 (wc.heap[gb110]?=some (.cells #[.int .i64 t102,.int .i64 t103,(.slice Ao12 t104.length co12)] 26 (0,0)))∧Aside0 (Below w.heap.size w wc))
         case first =>
          have H:=HC31.out;clear HC31;by_cases c34:t123=true
          ·
           subst c34;(have H1:(if t125=true then (laws_FnLongerWays.j2 kj22 l1 t107 t111 t114 t122 (t114 != (decide (t122 < t124))) t102 t103 t104) else (laws_FnLongerWays.j2 kj22 l1 t107 t111 t114 t122 true t102 t103 t104))=some r:=by rw [if_pos rfl] at H;exact H);clear H;have H:=H1;clear H1;by_cases c35:t125=true
           · subst c35;(have H1:(laws_FnLongerWays.j2 kj22 l1 t107 t111 t114 t122 (t114 != (decide (t122 < t124))) t102 t103 t104)=some r:=by rw [if_pos rfl] at H;exact H);clear H;have H:=H1;clear H1;have H':=za H;clear H;(go_wp2);(go_meet);case rel=>exact ⟨_,((t114 != (decide (t122 < t124)))),(by first|rfl|(simp;done)|(simp [*];done)),H',⟨by have:=HJ7.out;have:=HJ22.out;first|omega|exact Nat.le_refl _⟩,⟨by apply_rules only [HO_6.out,zl,zm,zj]⟩,⟨by apply_rules only [HO_7.out,zl,zm,zj]⟩,⟨by apply_rules only [HO_111002.out,zl,zm,zj]⟩,⟨by apply_rules only [BK110.out,zd,zb,ze]⟩,⟨by apply_rules only [HB.out,zf,zg,zc,zh,GE110.out]⟩⟩
           · replace c35:=Bool.eq_false_iff.mpr c35;subst c35;(have H1:(laws_FnLongerWays.j2 kj22 l1 t107 t111 t114 t122 true t102 t103 t104)=some r:=by rw [if_neg (show ¬ (false=true) by decide)] at H;exact H);clear H;have H:=H1;clear H1;have H':=za H;clear H;(go_wp2);(go_meet);case rel=>exact ⟨_,(true),(by first|rfl|(simp;done)|(simp [*];done)),H',⟨by have:=HJ7.out;have:=HJ22.out;first|omega|exact Nat.le_refl _⟩,⟨by apply_rules only [HO_6.out,zl,zm,zj]⟩,⟨by apply_rules only [HO_7.out,zl,zm,zj]⟩,⟨by apply_rules only [HO_111002.out,zl,zm,zj]⟩,⟨by apply_rules only [BK110.out,zd,zb,ze]⟩,⟨by apply_rules only [HB.out,zf,zg,zc,zh,GE110.out]⟩⟩
          · replace c34:=Bool.eq_false_iff.mpr c34;subst c34;(have H1:(laws_FnLongerWays.j2 kj22 l1 t107 t111 t114 t122 true t102 t103 t104)=some r:=by rw [if_neg (show ¬ (false=true) by decide)] at H;exact H);clear H;have H:=H1;clear H1;have H':=za H;clear H;(go_wp2);(go_meet);case rel=>exact ⟨_,(true),(by first|rfl|(simp;done)|(simp [*];done)),H',⟨by have:=HJ7.out;have:=HJ22.out;first|omega|exact Nat.le_refl _⟩,⟨by apply_rules only [HO_6.out,zl,zm,zj]⟩,⟨by apply_rules only [HO_7.out,zl,zm,zj]⟩,⟨by apply_rules only [HO_111002.out,zl,zm,zj]⟩,⟨by apply_rules only [BK110.out,zd,zb,ze]⟩,⟨by apply_rules only [HB.out,zf,zg,zc,zh,GE110.out]⟩⟩
         case rest =>
          clear HC31;(try clear c1);(try clear c2);(try clear p2);(try clear c3);(try clear c4);(try clear c8);(try clear c17);(try clear c17b0);(try clear c17b1);(try clear c17b2);(try clear c21);(try clear c23);(try clear c26);(try clear c28);(try clear c34);(try clear c35);(try clear hcz11_0);(try clear hcz11_1);(try clear hcz11_2);(try clear hcz15_0);(try clear hcz15_1);(try clear hcz15_2);(try clear hcz24_0);(try clear hcz24_1);(try clear hcz24_2);(try clear hcz32_0);(try clear hcz32_1);(try clear hcz32_2);(try clear hfz11_0);(try clear hfz11_1);(try clear hfz11_2);(try clear hfz15_0);(try clear hfz15_1);(try clear hfz15_2);(try clear hfz24_0);(try clear hfz24_1);(try clear hfz24_2);(try clear hfz32_0);(try clear hfz32_1);(try clear hfz32_2);(try clear p2);obtain ⟨kq,x91_30,rfl,HA,HJ30,HO_6,HO_7,HO_111002,BK110,HB⟩:=hcut
          cases kq with
         |zero=>exact absurd HA.out (by simp [laws_FnLongerWays.j2])
         |succ kj30 =>
           have H:=HA.out;clear HA;simp only [laws_FnLongerWays.j2] at H;by_cases c36:x91_30=true
           · subst c36;(have H1:(some false)=some r:=by rw [if_pos rfl] at H;exact H);clear H;have H:=H1;clear H1;obtain rfl:=Option.some.inj H;(go_wp2);(go_ret);exact ⟨by first|rfl|simp [*,errW_none,errW_some] <;> rfl,by repeat (first|(with_reducible first|exact HB.out|apply zf|apply zg|apply zc|refine zh ?_ GE110.out)|exact HB.out)⟩
           ·
            replace c36:=Bool.eq_false_iff.mpr c36;subst c36;(have H1:(if t114=true then ((impl_FollowWay.f kj30 t102 t103 t104 t107 t111).bind fun bt126=>((impl_CountRooks.f kj30 bt126.1).bind fun bt130=>(if bt126.2=true then (if bt130.2=true then (if bt130.1=(wrap64 (t122 + 1)) then (if 0 < (t111.length:Int) then (if 0≤(rd t111 0) then (if (rd t111 0) < (t107.length:Int) then (if (rd t107 (rd t111 0))=(-1) then (if 0≤(wrap64 ((t111.length:Int) - 1)) then (if (wrap64 ((t111.length:Int) - 1)) < (t111.length:Int) then ((laws_kHas.f kj30 t107 (rd t111 (wrap64 ((t111.length:Int) - 1)))).bind fun t135=>(laws_FnLongerWays.j3 kj30 l1 t107 bt126.1 t135)) else (none)) else (none)) else (laws_FnLongerWays.j3 kj30 l1 t107 bt126.1 true)) else (none)) else (none)) else (none)) else (laws_FnLongerWays.j3 kj30 l1 t107 bt126.1 true)) else (laws_FnLongerWays.j3 kj30 l1 t107 bt126.1 true)) else (laws_FnLongerWays.j3 kj30 l1 t107 bt126.1 true)))) else (laws_FnLongerWays.j5 kj30 l1))=some r:=by rw [if_neg (show ¬ (false=true) by decide)] at H;exact H);clear H;have H:=H1;clear H1;by_cases c37:t114=true
            ·
             subst c37;(have H1:((impl_FollowWay.f kj30 t102 t103 t104 t107 t111).bind fun bt126=>((impl_CountRooks.f kj30 bt126.1).bind fun bt130=>(if bt126.2=true then (if bt130.2=true then (if bt130.1=(wrap64 (t122 + 1)) then (if 0 < (t111.length:Int) then (if 0≤(rd t111 0) then (if (rd t111 0) < (t107.length:Int) then (if (rd t107 (rd t111 0))=(-1) then (if 0≤(wrap64 ((t111.length:Int) - 1)) then (if (wrap64 ((t111.length:Int) - 1)) < (t111.length:Int) then ((laws_kHas.f kj30 t107 (rd t111 (wrap64 ((t111.length:Int) - 1)))).bind fun t135=>(laws_FnLongerWays.j3 kj30 l1 t107 bt126.1 t135)) else (none)) else (none)) else (laws_FnLongerWays.j3 kj30 l1 t107 bt126.1 true)) else (none)) else (none)) else (none)) else (laws_FnLongerWays.j3 kj30 l1 t107 bt126.1 true)) else (laws_FnLongerWays.j3 kj30 l1 t107 bt126.1 true)) else (laws_FnLongerWays.j3 kj30 l1 t107 bt126.1 true))))=some r:=by rw [if_pos rfl] at H;exact H);clear H;have H:=H1;clear H1;obtain ⟨⟨t126,t129⟩,A38,H⟩:=bindAside H;(try dsimp only at H);obtain ⟨⟨t130,t131⟩,A39,H⟩:=bindAside H;(try dsimp only at H);have HC40:=za H;clear H;have hcz41_0:wc.cell? ⟨gb110,0,none⟩=some (.int .i64 t102):=(zi BK110.out 0).trans rfl;have hcz41_1:wc.cell? ⟨gb110,1,none⟩=some (.int .i64 t103):=(zi BK110.out 1).trans rfl;have hcz41_2:wc.cell? ⟨gb110,2,none⟩=some (.slice Ao12 t104.length co12):=(zi BK110.out 2).trans rfl;have hfz41_0:=zk BK110.out 0;have hfz41_1:=zk BK110.out 1;have hfz41_2:=zk BK110.out 2;obtain ⟨Ao42,co42,eo42⟩:=Kd.R_slice HO_7.out;subst eo42;(go_upto_region 17 with (first|((with_reducible refine zB (f:=42) rfl ?_);refine goesL_ (some 97) rfl rfl Try.func42 (by kernel_rfl) rfl #[.agg #[.int .i64 t102,.int .i64 t103,.slice Ao12 t104.length co12],.slice Ao13 t107.length co13,.slice Ao42 t111.length co42] rfl (by first|rfl|simp only [z3_,z4_,z5_];try rfl) ?_;(with_reducible refine (impl_FollowWay.calls kj30 t102 t103 _ _ t104 _ _ t107 _ _ t111 t126 t129 _ ?side1 ?side2 ?side3 ?side4 ?side5 ?side6 A38.out).mono ?_);(case side1=>apply_rules only [(zD HO_111002.out).2.2,zw,zx,zy]);(case side2=>exact (zD HO_111002.out).2.1);(case side3=>apply_rules only [(zD HO_6.out).2.2,zw,zx,zy]);(case side4=>exact (zD HO_6.out).2.1);(case side5=>apply_rules only [(zD HO_7.out).2.2,zw,zx,zy]);(case side6=>exact (zD HO_7.out).2.1);rintro e w43 ⟨v127,rfl,ho0,hb⟩;refine ⟨_,rfl,?_⟩;have HO128:=za (Kd.R_lower (Kd.R_new' (Kd.R_new' (Kd.R_new' ho0 (Kd.R_lt (by apply_rules only [HO_6.out,zl,zm,zj]))) (Kd.R_lt (by apply_rules only [HO_7.out,zl,zm,zj]))) (Kd.R_lt (by apply_rules only [HO_111002.out,zl,zm,zj]))) (zC (by apply_rules only [HB.out,zf,zg,zc,zh,GE110.out])));replace HO_6:=za (Kd.R_elder' (by apply_rules only [HO_6.out,zl,zm,zj]) (Kd.R_base ho0) hb);replace HO_7:=za (Kd.R_elder' (by apply_rules only [HO_7.out,zl,zm,zj]) (Kd.R_base ho0) hb);replace HO_111002:=za (Kd.R_elder' (by apply_rules only [HO_111002.out,zl,zm,zj]) (Kd.R_base ho0) hb);replace BK110:=za (zz (g:=gb110) (o:=.cells #[.int .i64 t102,.int .i64 t103,.slice Ao12 t104.length co12] 26 (0,0)) (by apply_rules only [BK110.out,zd,zb,ze]) hb);replace HB:=za (zv (by apply_rules only [HB.out,zf,zg,zc,zh,GE110.out]) hb);obtain ⟨Ao44,co44,eo44⟩:=Kd.R_slice HO128.out;subst eo44)|((with_reducible refine zB (f:=47) rfl ?_);refine goesL_ (some 102) rfl rfl Try.func47 (by kernel_rfl) rfl #[.slice Ao44 t126.length co44] rfl (by first|rfl|simp only [z3_,z4_,z5_];try rfl) ?_;(with_reducible refine (impl_CountRooks.calls kj30 _ _ t126 t130 t131 _ ?side1 ?side2 A39.out).mono ?_);(case side1=>apply_rules only [(zD HO128.out).2.2,zw,zx,zy]);(case side2=>exact (zD HO128.out).2.1);rintro e w' ⟨rfl,⟨nd,rfl⟩⟩;refine ⟨_,rfl,?_⟩)));(try simp only [Act.put,z0_,z1_,z2_]);go_cut [135] (fun v135 wc=>∃ (kq:Nat) (x135_39:Bool),v135=.bool x135_39∧Aside0 (laws_FnLongerWays.j3 kq l1 t107 t126 x135_39=some r)∧Aside0 (kq≤kj30)∧Aside0 (Kd.R (Kd.int .i64) 3 wc w.heap.size (fun k_=>some k_ ≠ ((.slice Ao44 t126.length co44):Value).ownBlock∧some k_ ≠ ((.slice Ao12 t104.length co12):Value).ownBlock) (.slice Ao13 t107.length co13) t107)∧Aside0 (Kd.R (Kd.int .i64) 3 wc w.heap.size (fun k_=>some k_ ≠ ((.slice Ao13 t107.length co13):Value).ownBlock∧some k_ ≠ ((.slice Ao12 t104.length co12):Value).ownBlock) (.slice Ao44 t126.length co44) t126)∧Aside0 (Kd.R (Kd.int .i64) 3 wc w.heap.size (fun k_=>some k_ ≠ ((.slice Ao13 t107.length co13):Value).ownBlock∧some k_ ≠ ((.slice Ao44 t126.length co44):Value).ownBlock) (.slice Ao12 t104.length co12) t104)∧Aside0 (wc.heap[gb110]?=some (.cells #[.int .i64 t102,.int .i64 t103,(.slice Ao12 t104.length co12)] 26 (0,0)))∧Aside0 (Below w.heap.size w wc))
             case first =>
              have H:=HC40.out;clear HC40;by_cases c45:t129=true
              ·
               subst c45;(have H1:(if t131=true then (if t130=(wrap64 (t122 + 1)) then (if 0 < (t111.length:Int) then (if 0≤(rd t111 0) then (if (rd t111 0) < (t107.length:Int) then (if (rd t107 (rd t111 0))=(-1) then (if 0≤(wrap64 ((t111.length:Int) - 1)) then (if (wrap64 ((t111.length:Int) - 1)) < (t111.length:Int) then ((laws_kHas.f kj30 t107 (rd t111 (wrap64 ((t111.length:Int) - 1)))).bind fun t135=>(laws_FnLongerWays.j3 kj30 l1 t107 t126 t135)) else (none)) else (none)) else (laws_FnLongerWays.j3 kj30 l1 t107 t126 true)) else (none)) else (none)) else (none)) else (laws_FnLongerWays.j3 kj30 l1 t107 t126 true)) else (laws_FnLongerWays.j3 kj30 l1 t107 t126 true))=some r:=by rw [if_pos rfl] at H;exact H);clear H;have H:=H1;clear H1;by_cases c46:t131=true
               ·
                subst c46;(have H1:(if t130=(wrap64 (t122 + 1)) then (if 0 < (t111.length:Int) then (if 0≤(rd t111 0) then (if (rd t111 0) < (t107.length:Int) then (if (rd t107 (rd t111 0))=(-1) then (if 0≤(wrap64 ((t111.length:Int) - 1)) then (if (wrap64 ((t111.length:Int) - 1)) < (t111.length:Int) then ((laws_kHas.f kj30 t107 (rd t111 (wrap64 ((t111.length:Int) - 1)))).bind fun t135=>(laws_FnLongerWays.j3 kj30 l1 t107 t126 t135)) else (none)) else (none)) else (laws_FnLongerWays.j3 kj30 l1 t107 t126 true)) else (none)) else (none)) else (none)) else (laws_FnLongerWays.j3 kj30 l1 t107 t126 true))=some r:=by rw [if_pos rfl] at H;exact H);clear H;have H:=H1;clear H1;by_cases c47:t130=(wrap64 (t122 + 1))
                ·
                 rw [if_pos c47] at H;have c47b0:(t130 == (wrap64 (t122 + 1)))=true:=beq_iff_eq.mpr c47;have c47b1:(t130 != (wrap64 (t122 + 1)))=false:=bne_eq_false_iff_eq.mpr c47;clear c47;(first|rw [c47b0]|(simp only [zo,i32_w];rw [c47b0])|skip);by_cases c48:0 < (t111.length:Int)
                 ·
                  rw [if_pos c48] at H;have c48b0:decide (0 < (t111.length:Int))=true:=decide_eq_true c48;have c48b1:decide (0 < t111.length)=true:=decide_eq_true (by omega);clear c48;by_cases c49:0≤(rd t111 0)
                  ·
                   rw [if_pos c49] at H;have c49b0:decide (0≤(rd t111 0))=true:=decide_eq_true c49;clear c49;by_cases c50:(rd t111 0) < (t107.length:Int)
                   ·
                    rw [if_pos c50] at H;have c50b0:decide ((rd t111 0) < (t107.length:Int))=true:=decide_eq_true c50;clear c50;by_cases c51:(rd t107 (rd t111 0))=(-1)
                    ·
                     rw [if_pos c51] at H;have c51b0:((rd t107 (rd t111 0)) == (-1))=true:=beq_iff_eq.mpr c51;have c51b1:((rd t107 (rd t111 0)) != (-1))=false:=bne_eq_false_iff_eq.mpr c51;clear c51;obtain ⟨ji52,hji52⟩:∃ j_:Int,(wrap64 ((t111.length:Int) - 1))=j_:=⟨_,rfl⟩;(replace H:(if 0≤(ji52) then (if (ji52) < (t111.length:Int) then ((laws_kHas.f kj30 t107 (rd t111 (ji52))).bind fun t135=>(laws_FnLongerWays.j3 kj30 l1 t107 t126 t135)) else (none)) else (none))=some r:=by first|(rw [hji52] at H;exact H)|(simp only [hji52] at H ⊢;exact H));have hji52w:(IntKind.i64.wrap ((t111.length:Int) - 1))=ji52:=(zo _).trans hji52;by_cases c53:0≤(ji52)
                     ·
                      rw [if_pos c53] at H;have c53b0:decide (0≤(ji52))=true:=decide_eq_true c53;clear c53;by_cases c54:(ji52) < (t111.length:Int)
                      · rw [if_pos c54] at H;have c54b0:decide ((ji52) < (t111.length:Int))=true:=decide_eq_true c54;clear c54;obtain ⟨t135,A55,H⟩:=bindAside H;(try dsimp only at H);have H':=za H;clear H;have p132:0≤(0:Int):=(by omega);have q132:0 < (t111.length:Int):=of_decide_eq_true ‹_›;obtain ⟨ad132,e132,hx132_0⟩:=Kd.at_int (zD HO_7.out).2.2 0 p132 q132;cases e132;have qi132:(0 < t111.length)=True:=eq_true (by omega);(try rw [show ((0:Int)).toNat=0 from rfl] at hx132_0);(try rw [Addr.add_zero'] at hx132_0);replace p132:=eq_true p132;replace q132:=eq_true q132;have p133:0≤((rd t111 0):Int):=of_decide_eq_true ‹_›;have q133:(rd t111 0) < (t107.length:Int):=of_decide_eq_true ‹_›;obtain ⟨ad133,e133,hx133_0⟩:=Kd.at_int (zD HO_6.out).2.2 (rd t111 0) p133 q133;cases e133;replace p133:=eq_true p133;replace q133:=eq_true q133;have p134:0≤((ji52):Int):=of_decide_eq_true ‹_›;have q134:(ji52) < (t111.length:Int):=of_decide_eq_true ‹_›;obtain ⟨ad134,e134,hx134_0⟩:=Kd.at_int (zD HO_7.out).2.2 (ji52) p134 q134;obtain rfl:ad132=ad134:=(by injection e134);replace p134:=eq_true p134;replace q134:=eq_true q134;(go_wp2_with (first|(go_at_call 48;(with_reducible refine (laws_kHas.calls kj30 _ _ t107 (rd t111 (ji52)) t135 _ ?side1 ?side2 A55.out).mono ?_);(case side1=>apply_rules only [(zD HO_6.out).2.2,zw,zx,zy]);(case side2=>exact (zD HO_6.out).2.1);rintro e w' ⟨rfl,⟨nd,rfl⟩⟩)));(go_meet);case rel=>exact ⟨_,(t135),(by first|rfl|(simp;done)|(simp [*];done)),H',⟨by have:=HJ7.out;have:=HJ22.out;have:=HJ30.out;first|omega|exact Nat.le_refl _⟩,⟨by (with_reducible repeat (first|apply zl|apply zm|apply zj));exact zp HO_6.out (fun _ hk=>⟨hk.2,hk.1.2⟩)⟩,⟨by (with_reducible repeat (first|apply zl|apply zm|apply zj));exact zp HO128.out (fun _ hk=>⟨hk.1.1.2,hk.2⟩)⟩,⟨by (with_reducible repeat (first|apply zl|apply zm|apply zj));exact zp HO_111002.out (fun _ hk=>⟨hk.1.1,hk.2⟩)⟩,⟨by apply_rules only [BK110.out,zd,zb,ze]⟩,⟨by apply_rules only [HB.out,zf,zg,zc,zh,GE110.out]⟩⟩
                      · rw [if_neg c54] at H;exact absurd H (by simp)
                     · rw [if_neg c53] at H;exact absurd H (by simp)
                    · rw [if_neg c51] at H;have c51b0:((rd t107 (rd t111 0)) == (-1))=false:=beq_eq_false_iff_ne.mpr c51;have c51b1:((rd t107 (rd t111 0)) != (-1))=true:=bne_iff_ne.mpr c51;have H':=za H;clear H;have p132:0≤(0:Int):=(by omega);have q132:0 < (t111.length:Int):=of_decide_eq_true ‹_›;obtain ⟨ad132,e132,hx132_0⟩:=Kd.at_int (zD HO_7.out).2.2 0 p132 q132;cases e132;have qi132:(0 < t111.length)=True:=eq_true (by omega);(try rw [show ((0:Int)).toNat=0 from rfl] at hx132_0);(try rw [Addr.add_zero'] at hx132_0);replace p132:=eq_true p132;replace q132:=eq_true q132;have p133:0≤((rd t111 0):Int):=of_decide_eq_true ‹_›;have q133:(rd t111 0) < (t107.length:Int):=of_decide_eq_true ‹_›;obtain ⟨ad133,e133,hx133_0⟩:=Kd.at_int (zD HO_6.out).2.2 (rd t111 0) p133 q133;cases e133;replace p133:=eq_true p133;replace q133:=eq_true q133;(go_wp2);(go_meet);case rel=>exact ⟨_,(true),(by first|rfl|(simp;done)|(simp [*];done)),H',⟨by have:=HJ7.out;have:=HJ22.out;have:=HJ30.out;first|omega|exact Nat.le_refl _⟩,⟨by (with_reducible repeat (first|apply zl|apply zm|apply zj));exact zp HO_6.out (fun _ hk=>⟨hk.2,hk.1.2⟩)⟩,⟨by (with_reducible repeat (first|apply zl|apply zm|apply zj));exact zp HO128.out (fun _ hk=>⟨hk.1.1.2,hk.2⟩)⟩,⟨by (with_reducible repeat (first|apply zl|apply zm|apply zj));exact zp HO_111002.out (fun _ hk=>⟨hk.1.1,hk.2⟩)⟩,⟨by apply_rules only [BK110.out,zd,zb,ze]⟩,⟨by apply_rules only [HB.out,zf,zg,zc,zh,GE110.out]⟩⟩
                   · rw [if_neg c50] at H;exact absurd H (by simp)
                  · rw [if_neg c49] at H;exact absurd H (by simp)
                 · rw [if_neg c48] at H;exact absurd H (by simp)
                · rw [if_neg c47] at H;have c47b0:(t130 == (wrap64 (t122 + 1)))=false:=beq_eq_false_iff_ne.mpr c47;have c47b1:(t130 != (wrap64 (t122 + 1)))=true:=bne_iff_ne.mpr c47;(first|rw [c47b0]|(simp only [zo,i32_w];rw [c47b0])|skip);have H':=za H;clear H;(go_wp2);(go_meet);case rel=>exact ⟨_,(true),(by first|rfl|(simp;done)|(simp [*];done)),H',⟨by have:=HJ7.out;have:=HJ22.out;have:=HJ30.out;first|omega|exact Nat.le_refl _⟩,⟨by (with_reducible repeat (first|apply zl|apply zm|apply zj));exact zp HO_6.out (fun _ hk=>⟨hk.2,hk.1.2⟩)⟩,⟨by (with_reducible repeat (first|apply zl|apply zm|apply zj));exact zp HO128.out (fun _ hk=>⟨hk.1.1.2,hk.2⟩)⟩,⟨by (with_reducible repeat (first|apply zl|apply zm|apply zj));exact zp HO_111002.out (fun _ hk=>⟨hk.1.1,hk.2⟩)⟩,⟨by apply_rules only [BK110.out,zd,zb,ze]⟩,⟨by apply_rules only [HB.out,zf,zg,zc,zh,GE110.out]⟩⟩
               · replace c46:=Bool.eq_false_iff.mpr c46;subst c46;(have H1:(laws_FnLongerWays.j3 kj30 l1 t107 t126 true)=some r:=by rw [if_neg (show ¬ (false=true) by decide)] at H;exact H);clear H;have H:=H1;clear H1;have H':=za H;clear H;(go_wp2);(go_meet);case rel=>exact ⟨_,(true),(by first|rfl|(simp;done)|(simp [*];done)),H',⟨by have:=HJ7.out;have:=HJ22.out;have:=HJ30.out;first|omega|exact Nat.le_refl _⟩,⟨by (with_reducible repeat (first|apply zl|apply zm|apply zj));exact zp HO_6.out (fun _ hk=>⟨hk.2,hk.1.2⟩)⟩,⟨by (with_reducible repeat (first|apply zl|apply zm|apply zj));exact zp HO128.out (fun _ hk=>⟨hk.1.1.2,hk.2⟩)⟩,⟨by (with_reducible repeat (first|apply zl|apply zm|apply zj));exact zp HO_111002.out (fun _ hk=>⟨hk.1.1,hk.2⟩)⟩,⟨by apply_rules only [BK110.out,zd,zb,ze]⟩,⟨by apply_rules only [HB.out,zf,zg,zc,zh,GE110.out]⟩⟩
              · replace c45:=Bool.eq_false_iff.mpr c45;subst c45;(have H1:(laws_FnLongerWays.j3 kj30 l1 t107 t126 true)=some r:=by rw [if_neg (show ¬ (false=true) by decide)] at H;exact H);clear H;have H:=H1;clear H1;have H':=za H;clear H;(go_wp2);(go_meet);case rel=>exact ⟨_,(true),(by first|rfl|(simp;done)|(simp [*];done)),H',⟨by have:=HJ7.out;have:=HJ22.out;have:=HJ30.out;first|omega|exact Nat.le_refl _⟩,⟨by (with_reducible repeat (first|apply zl|apply zm|apply zj));exact zp HO_6.out (fun _ hk=>⟨hk.2,hk.1.2⟩)⟩,⟨by (with_reducible repeat (first|apply zl|apply zm|apply zj));exact zp HO128.out (fun _ hk=>⟨hk.1.1.2,hk.2⟩)⟩,⟨by (with_reducible repeat (first|apply zl|apply zm|apply zj));exact zp HO_111002.out (fun _ hk=>⟨hk.1.1,hk.2⟩)⟩,⟨by apply_rules only [BK110.out,zd,zb,ze]⟩,⟨by apply_rules only [HB.out,zf,zg,zc,zh,GE110.out]⟩⟩
             case rest =>
              clear HC40;(try clear c1);(try clear p1);(try clear q1);(try clear hx1);(try clear qi1);(try clear c2);(try clear p2);(try clear c3);(try clear c4);(try clear c5);(try clear p6);(try clear c8);(try clear p13);(try clear q13);(try clear hx13);(try clear qi13);(try clear c17);(try clear c17b0);(try clear c17b1);(try clear c17b2);(try clear c21);(try clear c23);(try clear c26);(try clear c28);(try clear c34);(try clear c35);(try clear c36);(try clear c37);(try clear c42);(try clear c43);(try clear c44);(try clear c45);(try clear c46);(try clear c47);(try clear c47b0);(try clear c47b1);(try clear c48);(try clear c48b0);(try clear c48b1);(try clear c49);(try clear c49b0);(try clear c50);(try clear c50b0);(try clear c51);(try clear c51b0);(try clear c51b1);(try clear c53);(try clear c53b0);(try clear c54);(try clear c54b0);(try clear hcz11_0);(try clear hcz11_1);(try clear hcz11_2);(try clear hcz15_0);(try clear hcz15_1);(try clear hcz15_2);(try clear hcz24_0);(try clear hcz24_1);(try clear hcz24_2);(try clear hcz32_0);(try clear hcz32_1);(try clear hcz32_2);(try clear hcz41_0);(try clear hcz41_1);(try clear hcz41_2);(try clear hfz11_0);(try clear hfz11_1);(try clear hfz11_2);(try clear hfz15_0);(try clear hfz15_1);(try clear hfz15_2);(try clear hfz24_0);(try clear hfz24_1);(try clear hfz24_2);(try clear hfz32_0);(try clear hfz32_1);(try clear hfz32_2);(try clear hfz41_0);(try clear hfz41_1);(try clear hfz41_2);(try clear hx132_0);(try clear hx133_0);(try clear hx134_0);(try clear p132);(try clear p133);(try clear p134);(try clear p2);(try clear q132);(try clear q133);(try clear q134);obtain ⟨kq,x135_39,rfl,HA,HJ39,HO_6,HO_17,HO_111002,BK110,HB⟩:=hcut
              cases kq with
             |zero=>exact absurd HA.out (by simp [laws_FnLongerWays.j3])
             |succ kj39 =>
               have H:=HA.out;clear HA;simp only [laws_FnLongerWays.j3] at H;by_cases c56:x135_39=true
               · subst c56;(have H1:(some false)=some r:=by rw [if_pos rfl] at H;exact H);clear H;have H:=H1;clear H1;obtain rfl:=Option.some.inj H;(go_wp2);(go_ret);exact ⟨by first|rfl|simp [*,errW_none,errW_some] <;> rfl,by repeat (first|(with_reducible first|exact HB.out|apply zf|apply zg|apply zc|refine zh ?_ GE110.out)|exact HB.out)⟩
               ·
                replace c56:=Bool.eq_false_iff.mpr c56;subst c56;(have H1:(laws_FnLongerWays.l0 kj39 l1 t126 t107 (t107.length:Int) 0)=some r:=by rw [if_neg (show ¬ (false=true) by decide)] at H;exact H);clear H;have H:=H1;clear H1;have H':=za H;clear H;(go_wp2);(go_loopg [138] kj39 (fun kq v138 w'=>∃ (x138_5:Int),v138=.int .i64 x138_5∧Aside0 (laws_FnLongerWays.l0 kq l1 t126 t107 (t107.length:Int) x138_5=some r)∧Aside0 (kq≤kj39)∧Aside0 (Kd.R (Kd.int .i64) 3 w' w.heap.size (fun k_=>some k_ ≠ ((.slice Ao13 t107.length co13):Value).ownBlock∧some k_ ≠ ((.slice Ao12 t104.length co12):Value).ownBlock) (.slice Ao44 t126.length co44) t126)∧Aside0 (Kd.R (Kd.int .i64) 3 w' w.heap.size (fun k_=>some k_ ≠ ((.slice Ao44 t126.length co44):Value).ownBlock∧some k_ ≠ ((.slice Ao12 t104.length co12):Value).ownBlock) (.slice Ao13 t107.length co13) t107)∧Aside0 (Kd.R (Kd.int .i64) 3 w' w.heap.size (fun k_=>some k_ ≠ ((.slice Ao44 t126.length co44):Value).ownBlock∧some k_ ≠ ((.slice Ao13 t107.length co13):Value).ownBlock) (.slice Ao12 t104.length co12) t104)∧Aside0 (w'.heap[gb110]?=some (.cells #[.int .i64 t102,.int .i64 t103,(.slice Ao12 t104.length co12)] 26 (0,0)))∧Aside0 (Below w.heap.size w w')));case atStart=>exact ⟨(0),(by first|rfl|(simp;done)|(simp [*];done)),H',⟨Nat.le_refl _⟩,⟨by apply_rules only [HO_17.out,zl,zm,zj]⟩,⟨by apply_rules only [HO_6.out,zl,zm,zj]⟩,⟨by (with_reducible repeat (first|apply zl|apply zm|apply zj));exact zp HO_111002.out (fun _ hk=>⟨hk.2,hk.1⟩)⟩,⟨by apply_rules only [BK110.out,zd,zb,ze]⟩,⟨by apply_rules only [HB.out,zf,zg,zc,zh,GE110.out]⟩⟩
                case round =>
                 clear H';(try clear c1);(try clear p1);(try clear q1);(try clear hx1);(try clear qi1);(try clear c2);(try clear p2);(try clear c3);(try clear c4);(try clear c5);(try clear p6);(try clear c8);(try clear p13);(try clear q13);(try clear hx13);(try clear qi13);(try clear c17);(try clear c17b0);(try clear c17b1);(try clear c17b2);(try clear c21);(try clear c23);(try clear c26);(try clear c28);(try clear c34);(try clear c35);(try clear c36);(try clear c37);(try clear c42);(try clear c43);(try clear c44);(try clear c45);(try clear c46);(try clear c47);(try clear c47b0);(try clear c47b1);(try clear c48);(try clear c48b0);(try clear c48b1);(try clear c49);(try clear c49b0);(try clear c50);(try clear c50b0);(try clear c51);(try clear c51b0);(try clear c51b1);(try clear c53);(try clear c53b0);(try clear c54);(try clear c54b0);(try clear c56);(try clear hcz11_0);(try clear hcz11_1);(try clear hcz11_2);(try clear hcz15_0);(try clear hcz15_1);(try clear hcz15_2);(try clear hcz24_0);(try clear hcz24_1);(try clear hcz24_2);(try clear hcz32_0);(try clear hcz32_1);(try clear hcz32_2);(try clear hcz41_0);(try clear hcz41_1);(try clear hcz41_2);(try clear hfz11_0);(try clear hfz11_1);(try clear hfz11_2);(try clear hfz15_0);(try clear hfz15_1);(try clear hfz15_2);(try clear hfz24_0);(try clear hfz24_1);(try clear hfz24_2);(try clear hfz32_0);(try clear hfz32_1);(try clear hfz32_2);(try clear hfz41_0);(try clear hfz41_1);(try clear hfz41_2);(try clear hx132_0);(try clear hx133_0);(try clear hx134_0);(try clear p1);(try clear p13);(try clear p132);(try clear p133);(try clear p134);(try clear p2);(try clear p6);(try clear q1);(try clear q13);(try clear q132);(try clear q133);(try clear q134);obtain ⟨x138_5,rfl,HA,HK5,HO_17,HO_136,HO_111002,BK110,HB⟩:=hrel
                 cases gk with
                |zero=>exact absurd HA.out (by simp [laws_FnLongerWays.l0])
                |succ k5 =>
                  have H:=HA.out;clear HA;simp only [laws_FnLongerWays.l0] at H;by_cases c57:x138_5 < (t107.length:Int)
                  ·
                   rw [if_pos c57] at H;have c57b0:decide (x138_5 < (t107.length:Int))=true:=decide_eq_true c57;clear c57;by_cases c58:0≤x138_5
                   ·
                    rw [if_pos c58] at H;have c58b0:decide (0≤x138_5)=true:=decide_eq_true c58;clear c58;by_cases c59:x138_5 < (t107.length:Int)
                    ·
                     rw [if_pos c59] at H;have c59b0:decide (x138_5 < (t107.length:Int))=true:=decide_eq_true c59;clear c59;by_cases c60:(rd t107 x138_5) ≥ 0
                     ·
                      rw [if_pos c60] at H;have c60b0:decide (0≤(rd t107 x138_5))=true:=decide_eq_true c60;clear c60;by_cases c61:x138_5 < (t126.length:Int)
                      ·
                       rw [if_pos c61] at H;have c61b0:decide (x138_5 < (t126.length:Int))=true:=decide_eq_true c61;clear c61;by_cases c62:(rd t126 x138_5) < 0
                       · rw [if_pos c62] at H;have c62b0:decide ((rd t126 x138_5) < 0)=true:=decide_eq_true c62;clear c62;obtain rfl:=Option.some.inj H;have p136:0≤(x138_5:Int):=of_decide_eq_true ‹_›;have q136:x138_5 < (t107.length:Int):=of_decide_eq_true ‹_›;obtain ⟨ad136,e136,hx136_0⟩:=Kd.at_int (zD HO_136.out).2.2 x138_5 p136 q136;cases e136;replace p136:=eq_true p136;replace q136:=eq_true q136;have p137:0≤(x138_5:Int):=of_decide_eq_true ‹_›;have q137:x138_5 < (t126.length:Int):=of_decide_eq_true ‹_›;obtain ⟨ad137,e137,hx137_0⟩:=Kd.at_int (zD HO_17.out).2.2 x138_5 p137 q137;cases e137;replace p137:=eq_true p137;replace q137:=eq_true q137;(go_wp2);(go_ret);exact ⟨by first|rfl|simp [*,errW_none,errW_some] <;> rfl,by repeat (first|(with_reducible first|exact HB.out|apply zf|apply zg|apply zc|refine zh ?_ GE110.out)|exact HB.out)⟩
                       · rw [if_neg c62] at H;have c62b0:decide ((rd t126 x138_5) < 0)=false:=decide_eq_false c62;clear c62;have H':=za H;clear H;have p136:0≤(x138_5:Int):=of_decide_eq_true ‹_›;have q136:x138_5 < (t107.length:Int):=of_decide_eq_true ‹_›;obtain ⟨ad136,e136,hx136_0⟩:=Kd.at_int (zD HO_136.out).2.2 x138_5 p136 q136;cases e136;replace p136:=eq_true p136;replace q136:=eq_true q136;have p137:0≤(x138_5:Int):=of_decide_eq_true ‹_›;have q137:x138_5 < (t126.length:Int):=of_decide_eq_true ‹_›;obtain ⟨ad137,e137,hx137_0⟩:=Kd.at_int (zD HO_17.out).2.2 x138_5 p137 q137;cases e137;replace p137:=eq_true p137;replace q137:=eq_true q137;(go_wp2);(go_roundg k5);(case measure=>have:=HJ7.out;have:=HJ22.out;have:=HJ30.out;have:=HJ39.out;have:=HK5.out;omega);case rel=>exact ⟨(wrap64 (x138_5 + 1)),(by first|rfl|(simp;done)|(simp [*];done)),H',⟨by have:=HJ7.out;have:=HJ22.out;have:=HJ30.out;have:=HJ39.out;have:=HK5.out;omega⟩,⟨by apply_rules only [HO_17.out,zl,zm,zj]⟩,⟨by apply_rules only [HO_136.out,zl,zm,zj]⟩,⟨by apply_rules only [HO_111002.out,zl,zm,zj]⟩,⟨by apply_rules only [BK110.out,zd,zb,ze]⟩,⟨by apply_rules only [HB.out,zf,zg,zc,zh,GE110.out]⟩⟩
                      · rw [if_neg c61] at H;exact absurd H (by simp)
                     · rw [if_neg c60] at H;have c60b0:decide (0≤(rd t107 x138_5))=false:=decide_eq_false c60;clear c60;have H':=za H;clear H;have p136:0≤(x138_5:Int):=of_decide_eq_true ‹_›;have q136:x138_5 < (t107.length:Int):=of_decide_eq_true ‹_›;obtain ⟨ad136,e136,hx136_0⟩:=Kd.at_int (zD HO_136.out).2.2 x138_5 p136 q136;cases e136;replace p136:=eq_true p136;replace q136:=eq_true q136;(go_wp2);(go_roundg k5);(case measure=>have:=HJ7.out;have:=HJ22.out;have:=HJ30.out;have:=HJ39.out;have:=HK5.out;omega);case rel=>exact ⟨(wrap64 (x138_5 + 1)),(by first|rfl|(simp;done)|(simp [*];done)),H',⟨by have:=HJ7.out;have:=HJ22.out;have:=HJ30.out;have:=HJ39.out;have:=HK5.out;omega⟩,⟨by apply_rules only [HO_17.out,zl,zm,zj]⟩,⟨by apply_rules only [HO_136.out,zl,zm,zj]⟩,⟨by apply_rules only [HO_111002.out,zl,zm,zj]⟩,⟨by apply_rules only [BK110.out,zd,zb,ze]⟩,⟨by apply_rules only [HB.out,zf,zg,zc,zh,GE110.out]⟩⟩
                    · rw [if_neg c59] at H;exact absurd H (by simp)
                   · rw [if_neg c58] at H;exact absurd H (by simp)
                  · rw [if_neg c57] at H;have c57b0:decide (x138_5 < (t107.length:Int))=false:=decide_eq_false c57;clear c57;have H':=za H;clear H;(go_wp2);(go_meet);case rel=>exact ⟨_,H',⟨by have:=HJ7.out;have:=HJ22.out;have:=HJ30.out;have:=HJ39.out;have:=HK5.out;first|omega|exact Nat.le_refl _⟩,⟨by (with_reducible repeat (first|apply zl|apply zm|apply zj));exact zp HO_111002.out (fun _ hk=>trivial)⟩,⟨by apply_rules only [BK110.out,zd,zb,ze]⟩,⟨by apply_rules only [HB.out,zf,zg,zc,zh,GE110.out]⟩⟩
            · replace c37:=Bool.eq_false_iff.mpr c37;subst c37;(have H1:(laws_FnLongerWays.j5 kj30 l1)=some r:=by rw [if_neg (show ¬ (false=true) by decide)] at H;exact H);clear H;have H:=H1;clear H1;have H':=za H;clear H;(go_wp2);(go_meet);case rel=>exact ⟨_,H',⟨by have:=HJ7.out;have:=HJ22.out;have:=HJ30.out;first|omega|exact Nat.le_refl _⟩,⟨by (with_reducible repeat (first|apply zl|apply zm|apply zj));exact zp HO_111002.out (fun _ hk=>trivial)⟩,⟨by apply_rules only [BK110.out,zd,zb,ze]⟩,⟨by apply_rules only [HB.out,zf,zg,zc,zh,GE110.out]⟩⟩
        ·
         replace c28:=Bool.eq_false_iff.mpr c28;subst c28;(have H1:(if t114=true then (some false) else (laws_FnLongerWays.j5 kj22 l1))=some r:=by rw [if_neg (show ¬ (false=true) by decide)] at H;exact H);clear H;have H:=H1;clear H1;by_cases c63:t114=true
         · subst c63;(have H1:(some false)=some r:=by rw [if_pos rfl] at H;exact H);clear H;have H:=H1;clear H1;obtain rfl:=Option.some.inj H;(go_wp2);(go_ret);exact ⟨by first|rfl|simp [*,errW_none,errW_some] <;> rfl,by repeat (first|(with_reducible first|exact HB.out|apply zf|apply zg|apply zc|refine zh ?_ GE110.out)|exact HB.out)⟩
         · replace c63:=Bool.eq_false_iff.mpr c63;subst c63;(have H1:(laws_FnLongerWays.j5 kj22 l1)=some r:=by rw [if_neg (show ¬ (false=true) by decide)] at H;exact H);clear H;have H:=H1;clear H1;have H':=za H;clear H;(go_wp2);(go_meet);case rel=>exact ⟨_,H',⟨by have:=HJ7.out;have:=HJ22.out;first|omega|exact Nat.le_refl _⟩,⟨by (with_reducible repeat (first|apply zl|apply zm|apply zj));exact zp HO_111002.out (fun _ hk=>trivial)⟩,⟨by apply_rules only [BK110.out,zd,zb,ze]⟩,⟨by apply_rules only [HB.out,zf,zg,zc,zh,GE110.out]⟩⟩
       case rest =>
        clear HC27;(try clear c1);(try clear p1);(try clear q1);(try clear hx1);(try clear qi1);(try clear c2);(try clear p2);(try clear c3);(try clear c4);(try clear c5);(try clear c6);(try clear p6);(try clear c8);(try clear p13);(try clear q13);(try clear hx13);(try clear qi13);(try clear c17);(try clear c17b0);(try clear c17b1);(try clear c17b2);(try clear c21);(try clear c23);(try clear c26);(try clear c28);(try clear c34);(try clear c35);(try clear c36);(try clear c37);(try clear c42);(try clear c43);(try clear c44);(try clear c45);(try clear c46);(try clear c47);(try clear c47b0);(try clear c47b1);(try clear c48);(try clear c48b0);(try clear c48b1);(try clear c49);(try clear c49b0);(try clear c50);(try clear c50b0);(try clear c51);(try clear c51b0);(try clear c51b1);(try clear c53);(try clear c53b0);(try clear c54);(try clear c54b0);(try clear c56);(try clear c57);(try clear c57b0);(try clear c58);(try clear c58b0);(try clear c59);(try clear c59b0);(try clear c60);(try clear c60b0);(try clear c61);(try clear c61b0);(try clear c62);(try clear c62b0);(try clear c63);(try clear hcz11_0);(try clear hcz11_1);(try clear hcz11_2);(try clear hcz15_0);(try clear hcz15_1);(try clear hcz15_2);(try clear hcz24_0);(try clear hcz24_1);(try clear hcz24_2);(try clear hcz32_0);(try clear hcz32_1);(try clear hcz32_2);(try clear hcz41_0);(try clear hcz41_1);(try clear hcz41_2);(try clear hfz11_0);(try clear hfz11_1);(try clear hfz11_2);(try clear hfz15_0);(try clear hfz15_1);(try clear hfz15_2);(try clear hfz24_0);(try clear hfz24_1);(try clear hfz24_2);(try clear hfz32_0);(try clear hfz32_1);(try clear hfz32_2);(try clear hfz41_0);(try clear hfz41_1);(try clear hfz41_2);(try clear hx132_0);(try clear hx133_0);(try clear hx134_0);(try clear hx136_0);(try clear hx137_0);(try clear p1);(try clear p13);(try clear p132);(try clear p133);(try clear p134);(try clear p136);(try clear p137);(try clear p2);(try clear p6);(try clear q1);(try clear q13);(try clear q132);(try clear q133);(try clear q134);(try clear q136);(try clear q137);obtain ⟨kq,HA,HJ26,HO_111002,BK110,HB⟩:=hcut
        cases kq with
       |zero=>exact absurd HA.out (by simp [laws_FnLongerWays.j5])
       |succ kj26 =>
         have H:=HA.out;clear HA;simp only [laws_FnLongerWays.j5] at H;obtain ⟨⟨t138,t139,t140,t143,t146⟩,A64,H⟩:=bindAside H;(try dsimp only at H);obtain ⟨⟨t150,t153⟩,A65,H⟩:=bindAside H;(try dsimp only at H);obtain ⟨⟨t154,t157⟩,A66,H⟩:=bindAside H;(try dsimp only at H);by_cases c67:(t153 == t157)=true
         · rw [if_pos c67] at H;have c67b0:(t153 == t157)=true:=c67;(try (have c67b1:decide (t153=t157)=true:=by simpa using c67));(try (have c67b2:(t153 == t157)=true:=by simpa using c67));clear c67;obtain ⟨t158,A68,H⟩:=bindAside H;(try dsimp only at H);obtain rfl:=Option.some.inj H;(go_wp2_with (first|((with_reducible refine zB (f:=49) rfl ?_);refine goesL_ (some 156) rfl rfl Try.func49 (by kernel_rfl) rfl #[.slice A1 l1.length c1] rfl (by first|rfl|simp only [z3_,z4_,z5_];try rfl) ?_;(with_reducible refine (spec_DrawFollowWay.calls kj26 _ _ l1 t138 t139 t140 t143 t146 _ ?side1 ?side2 A64.out).mono ?_);(case side1=>apply_rules only [zF HR1.out HB.out,zw,zx,zy]);(case side2=>exact HC1.out);rintro e w69 ⟨v141,v144,v147,rfl,ho0,ho1,ho2,hb⟩;refine ⟨_,rfl,?_⟩;have HO142:=za (Kd.R_lower (Kd.R_new' ho0 (Kd.R_lt (by apply_rules only [HO_111002.out,zl,zm,zj]))) (zC (by apply_rules only [HB.out,zf,zg,zc,zh,GE110.out])));have HO145:=za (Kd.R_lower (Kd.R_new' ho1 (Kd.R_lt (by apply_rules only [HO_111002.out,zl,zm,zj]))) (zC (by apply_rules only [HB.out,zf,zg,zc,zh,GE110.out])));have HO148:=za (Kd.R_lower (Kd.R_new' ho2 (Kd.R_lt (by apply_rules only [HO_111002.out,zl,zm,zj]))) (zC (by apply_rules only [HB.out,zf,zg,zc,zh,GE110.out])));replace HO_111002:=za (zp (Kd.R_told (Kd.R_told (Kd.R_told (Kd.R_old (by apply_rules only [HO_111002.out,zl,zm,zj]) hb) (Kd.R_base ho0)) (Kd.R_base ho1)) (Kd.R_base ho2)) (fun _ h_=>h_.1));replace BK110:=za (zz (g:=gb110) (o:=.cells #[.int .i64 t102,.int .i64 t103,.slice Ao12 t104.length co12] 26 (0,0)) (by apply_rules only [BK110.out,zd,zb,ze]) hb);replace HB:=za (zv (by apply_rules only [HB.out,zf,zg,zc,zh,GE110.out]) hb))|((with_reducible refine gate_dst (N:=23) rfl ?_);refine box_event ?hg (N:=23) ?hd (cs:=#[.int .i64 0,.int .i64 0,.slice none 0 0]) (t:=26) ?hr ?_;(case hd=>rfl);(case hg=>rfl);(case hr=>first|(go_simp;done)|(go_simp;rfl));intro gb149 hg w70 hbox hb;replace HO_111002:=za (Kd.R_below (by apply_rules only [HO_111002.out,zl,zm,zj]) hb);replace HO142:=za (Kd.R_below (by apply_rules only [HO142.out,zl,zm,zj]) hb);replace HO145:=za (Kd.R_below (by apply_rules only [HO145.out,zl,zm,zj]) hb);replace HO148:=za (Kd.R_below (by apply_rules only [HO148.out,zl,zm,zj]) hb);have BK149:=za (hbox);have GW149:=za ((by rw [hg];exact (zC (by apply_rules only [HB.out,zf,zg,zc,zh,GE110.out])):w.heap.size≤gb149));have GE149:=za ((by rw [hg];exact (zC (by apply_rules only [HB.out,zf,zg,zc,zh,GE110.out])):w.heap.size≤gb149));replace HB:=za (zv (by apply_rules only [HB.out,zf,zg,zc,zh,GE110.out]) hb);have NB110_149:=za ((by rw [hg];exact Nat.ne_of_lt (blk_lt (g:=gb110) (o:=.cells #[.int .i64 t102,.int .i64 t103,.slice Ao12 t104.length co12] 26 (0,0)) (by apply_rules only [BK110.out,zd,zb,ze])):gb110 ≠ gb149));have NB149_110:=za ((by rw [hg];exact Nat.ne_of_gt (blk_lt (g:=gb110) (o:=.cells #[.int .i64 t102,.int .i64 t103,.slice Ao12 t104.length co12] 26 (0,0)) (by apply_rules only [BK110.out,zd,zb,ze])):gb149 ≠ gb110));replace BK110:=za (zz (g:=gb110) (o:=.cells #[.int .i64 t102,.int .i64 t103,.slice Ao12 t104.length co12] 26 (0,0)) (by apply_rules only [BK110.out,zd,zb,ze]) hb);clear hb hbox hg;have hnb71:=NB149_110.out;have hnc71:=NB110_149.out;have hcz72_0:w70.cell? ⟨gb149,0,none⟩=some (.int .i64 0):=(zi BK149.out 0).trans rfl;have hcz72_1:w70.cell? ⟨gb149,1,none⟩=some (.int .i64 0):=(zi BK149.out 1).trans rfl;have hcz72_2:w70.cell? ⟨gb149,2,none⟩=some (.slice none 0 0):=(zi BK149.out 2).trans rfl;have hfz72_0:=zk BK149.out 0;have hfz72_1:=zk BK149.out 1;have hfz72_2:=zk BK149.out 2;obtain ⟨Ao73,co73,eo73⟩:=Kd.R_slice HO142.out;subst eo73;obtain ⟨Ao74,co74,eo74⟩:=Kd.R_slice HO145.out;subst eo74;obtain ⟨Ao75,co75,eo75⟩:=Kd.R_slice HO148.out;subst eo75)|((with_reducible refine zB (f:=42) rfl ?_);refine goesL_ (some 164) rfl rfl Try.func42 (by kernel_rfl) rfl #[.agg #[.int .i64 t138,.int .i64 t139,.slice Ao73 t140.length co73],.slice Ao74 t143.length co74,.slice Ao75 t146.length co75] rfl (by first|rfl|simp only [z3_,z4_,z5_];try rfl) ?_;(with_reducible refine (impl_FollowWay.calls kj26 t138 t139 _ _ t140 _ _ t143 _ _ t146 t150 t153 _ ?side1 ?side2 ?side3 ?side4 ?side5 ?side6 A65.out).mono ?_);(case side1=>refine (zD (e:=3) (base:=w.heap.size) (ok:=fun k_=>((some k_ ≠ (.slice Ao74 t143.length co74:Value).ownBlock∧some k_ ≠ (.slice Ao75 t146.length co75:Value).ownBlock)∧some k_ ≠ (.slice Ao12 t104.length co12:Value).ownBlock)) (n:=t140.length) (c:=co73) ?_).2.2;exact (by (with_reducible repeat (first|apply zl|apply zm|apply zj));exact (zp (zn (p:=⟨gb149,2,none⟩) (zn (p:=⟨gb149,1,none⟩) (zn (p:=⟨gb149,0,none⟩) (zH HO142.out BK149.out (by decide)) (fun _ hk=>hk.2) (.int .i64 t138)) (fun _ hk=>hk.2) (.int .i64 t139)) (fun _ hk=>hk.2) (.slice Ao73 t140.length co73)) (fun _ h_=>h_.1))));(case side2=>exact (zD HO142.out).2.1);(case side3=>refine (zD (e:=3) (base:=w.heap.size) (ok:=fun k_=>((some k_ ≠ (.slice Ao73 t140.length co73:Value).ownBlock∧some k_ ≠ (.slice Ao75 t146.length co75:Value).ownBlock)∧some k_ ≠ (.slice Ao12 t104.length co12:Value).ownBlock)) (n:=t143.length) (c:=co74) ?_).2.2;exact (by (with_reducible repeat (first|apply zl|apply zm|apply zj));exact (zp (zn (p:=⟨gb149,2,none⟩) (zn (p:=⟨gb149,1,none⟩) (zn (p:=⟨gb149,0,none⟩) (zH HO145.out BK149.out (by decide)) (fun _ hk=>hk.2) (.int .i64 t138)) (fun _ hk=>hk.2) (.int .i64 t139)) (fun _ hk=>hk.2) (.slice Ao73 t140.length co73)) (fun _ h_=>h_.1))));(case side4=>exact (zD HO145.out).2.1);(case side5=>refine (zD (e:=3) (base:=w.heap.size) (ok:=fun k_=>((some k_ ≠ (.slice Ao73 t140.length co73:Value).ownBlock∧some k_ ≠ (.slice Ao74 t143.length co74:Value).ownBlock)∧some k_ ≠ (.slice Ao12 t104.length co12:Value).ownBlock)) (n:=t146.length) (c:=co75) ?_).2.2;exact (by (with_reducible repeat (first|apply zl|apply zm|apply zj));exact (zp (zn (p:=⟨gb149,2,none⟩) (zn (p:=⟨gb149,1,none⟩) (zn (p:=⟨gb149,0,none⟩) (zH HO148.out BK149.out (by decide)) (fun _ hk=>hk.2) (.int .i64 t138)) (fun _ hk=>hk.2) (.int .i64 t139)) (fun _ hk=>hk.2) (.slice Ao73 t140.length co73)) (fun _ h_=>h_.1))));(case side6=>exact (zD HO148.out).2.1);rintro e w76 ⟨v151,rfl,ho0,hb⟩;refine ⟨_,rfl,?_⟩;have HO152:=za (Kd.R_lower (Kd.R_new' (Kd.R_new' (Kd.R_new' (Kd.R_new' ho0 (Kd.R_lt (by (with_reducible repeat (first|apply zl|apply zm|apply zj));exact (zp (zn (p:=⟨gb149,2,none⟩) (zn (p:=⟨gb149,1,none⟩) (zn (p:=⟨gb149,0,none⟩) (zH HO_111002.out BK149.out (by decide)) (fun _ hk=>hk.2) (.int .i64 t138)) (fun _ hk=>hk.2) (.int .i64 t139)) (fun _ hk=>hk.2) (.slice Ao73 t140.length co73)) (fun _ h_=>h_.1))))) (Kd.R_lt (by (with_reducible repeat (first|apply zl|apply zm|apply zj));exact (zp (zn (p:=⟨gb149,2,none⟩) (zn (p:=⟨gb149,1,none⟩) (zn (p:=⟨gb149,0,none⟩) (zH HO142.out BK149.out (by decide)) (fun _ hk=>hk.2) (.int .i64 t138)) (fun _ hk=>hk.2) (.int .i64 t139)) (fun _ hk=>hk.2) (.slice Ao73 t140.length co73)) (fun _ h_=>h_.1))))) (Kd.R_lt (by (with_reducible repeat (first|apply zl|apply zm|apply zj));exact (zp (zn (p:=⟨gb149,2,none⟩) (zn (p:=⟨gb149,1,none⟩) (zn (p:=⟨gb149,0,none⟩) (zH HO145.out BK149.out (by decide)) (fun _ hk=>hk.2) (.int .i64 t138)) (fun _ hk=>hk.2) (.int .i64 t139)) (fun _ hk=>hk.2) (.slice Ao73 t140.length co73)) (fun _ h_=>h_.1))))) (Kd.R_lt (by (with_reducible repeat (first|apply zl|apply zm|apply zj));exact (zp (zn (p:=⟨gb149,2,none⟩) (zn (p:=⟨gb149,1,none⟩) (zn (p:=⟨gb149,0,none⟩) (zH HO148.out BK149.out (by decide)) (fun _ hk=>hk.2) (.int .i64 t138)) (fun _ hk=>hk.2) (.int .i64 t139)) (fun _ hk=>hk.2) (.slice Ao73 t140.length co73)) (fun _ h_=>h_.1))))) (zC (by apply_rules only [HB.out,zf,zg,zc,zh,GE110.out,GE149.out])));replace HO_111002:=za (Kd.R_elder' (by (with_reducible repeat (first|apply zl|apply zm|apply zj));exact (zp (zn (p:=⟨gb149,2,none⟩) (zn (p:=⟨gb149,1,none⟩) (zn (p:=⟨gb149,0,none⟩) (zH HO_111002.out BK149.out (by decide)) (fun _ hk=>hk.2) (.int .i64 t138)) (fun _ hk=>hk.2) (.int .i64 t139)) (fun _ hk=>hk.2) (.slice Ao73 t140.length co73)) (fun _ h_=>h_.1))) (Kd.R_base ho0) hb);replace HO142:=za (Kd.R_elder' (by (with_reducible repeat (first|apply zl|apply zm|apply zj));exact (zp (zn (p:=⟨gb149,2,none⟩) (zn (p:=⟨gb149,1,none⟩) (zn (p:=⟨gb149,0,none⟩) (zH HO142.out BK149.out (by decide)) (fun _ hk=>hk.2) (.int .i64 t138)) (fun _ hk=>hk.2) (.int .i64 t139)) (fun _ hk=>hk.2) (.slice Ao73 t140.length co73)) (fun _ h_=>h_.1))) (Kd.R_base ho0) hb);replace HO145:=za (Kd.R_elder' (by (with_reducible repeat (first|apply zl|apply zm|apply zj));exact (zp (zn (p:=⟨gb149,2,none⟩) (zn (p:=⟨gb149,1,none⟩) (zn (p:=⟨gb149,0,none⟩) (zH HO145.out BK149.out (by decide)) (fun _ hk=>hk.2) (.int .i64 t138)) (fun _ hk=>hk.2) (.int .i64 t139)) (fun _ hk=>hk.2) (.slice Ao73 t140.length co73)) (fun _ h_=>h_.1))) (Kd.R_base ho0) hb);replace HO148:=za (Kd.R_elder' (by (with_reducible repeat (first|apply zl|apply zm|apply zj));exact (zp (zn (p:=⟨gb149,2,none⟩) (zn (p:=⟨gb149,1,none⟩) (zn (p:=⟨gb149,0,none⟩) (zH HO148.out BK149.out (by decide)) (fun _ hk=>hk.2) (.int .i64 t138)) (fun _ hk=>hk.2) (.int .i64 t139)) (fun _ hk=>hk.2) (.slice Ao73 t140.length co73)) (fun _ h_=>h_.1))) (Kd.R_base ho0) hb);replace BK110:=za (zz (g:=gb110) (o:=.cells #[.int .i64 t102,.int .i64 t103,.slice Ao12 t104.length co12] 26 (0,0)) (by (with_reducible repeat (first|refine zd ?_ _|refine zb ?_|refine ze ?_ _));refine blk_far ?_ NB110_149.out _;(with_reducible repeat (first|refine zd ?_ _|refine zb ?_|refine ze ?_ _));refine blk_far ?_ NB110_149.out _;(with_reducible repeat (first|refine zd ?_ _|refine zb ?_|refine ze ?_ _));refine blk_far ?_ NB110_149.out _;apply_rules only [BK110.out,zd,zb,ze]) hb);replace BK149:=za (zz (g:=gb149) (o:=.cells #[.int .i64 t138,.int .i64 t139,.slice Ao73 t140.length co73] 26 (0,0)) (by (with_reducible repeat (first|refine zd ?_ _|refine zb ?_|refine ze ?_ _));refine blk_put (cs:=#[.int .i64 t138,.int .i64 t139,.slice none 0 0]) ?_ 2 _ rfl;(with_reducible repeat (first|refine zd ?_ _|refine zb ?_|refine ze ?_ _));refine blk_put (cs:=#[.int .i64 t138,.int .i64 0,.slice none 0 0]) ?_ 1 _ rfl;(with_reducible repeat (first|refine zd ?_ _|refine zb ?_|refine ze ?_ _));refine blk_put (cs:=#[.int .i64 0,.int .i64 0,.slice none 0 0]) ?_ 0 _ rfl;apply_rules only [BK149.out,zd,zb,ze]) hb);replace HB:=za (zv (by apply_rules only [HB.out,zf,zg,zc,zh,GE110.out,GE149.out]) hb);have hcz77_0:w76.cell? ⟨gb149,0,none⟩=some (.int .i64 t138):=(zi BK149.out 0).trans rfl;have hcz77_1:w76.cell? ⟨gb149,1,none⟩=some (.int .i64 t139):=(zi BK149.out 1).trans rfl;have hcz77_2:w76.cell? ⟨gb149,2,none⟩=some (.slice Ao73 t140.length co73):=(zi BK149.out 2).trans rfl;have hfz77_0:=zk BK149.out 0;have hfz77_1:=zk BK149.out 1;have hfz77_2:=zk BK149.out 2)|((with_reducible refine zB (f:=41) rfl ?_);refine goesL_ (some 171) rfl rfl Try.func41 (by kernel_rfl) rfl #[.agg #[.int .i64 t138,.int .i64 t139,.slice Ao73 t140.length co73],.slice Ao74 t143.length co74,.slice Ao75 t146.length co75] rfl (by first|rfl|simp only [z3_,z4_,z5_];try rfl) ?_;(with_reducible refine (spec_FollowWay.calls kj26 t138 t139 _ _ t140 _ _ t143 _ _ t146 t154 t157 _ ?side1 ?side2 ?side3 ?side4 ?side5 ?side6 A66.out).mono ?_);(case side1=>apply_rules only [(zD HO142.out).2.2,zw,zx,zy]);(case side2=>exact (zD HO142.out).2.1);(case side3=>apply_rules only [(zD HO145.out).2.2,zw,zx,zy]);(case side4=>exact (zD HO145.out).2.1);(case side5=>apply_rules only [(zD HO148.out).2.2,zw,zx,zy]);(case side6=>exact (zD HO148.out).2.1);rintro e w78 ⟨v155,rfl,ho0,hb⟩;refine ⟨_,rfl,?_⟩;have HO156:=za (Kd.R_lower (Kd.R_new' (Kd.R_new' (Kd.R_new' (Kd.R_new' (Kd.R_new' ho0 (Kd.R_lt (by apply_rules only [HO_111002.out,zl,zm,zj]))) (Kd.R_lt (by apply_rules only [HO142.out,zl,zm,zj]))) (Kd.R_lt (by apply_rules only [HO145.out,zl,zm,zj]))) (Kd.R_lt (by apply_rules only [HO148.out,zl,zm,zj]))) (Kd.R_lt (by apply_rules only [HO152.out,zl,zm,zj]))) (zC (by apply_rules only [HB.out,zf,zg,zc,zh,GE110.out,GE149.out])));replace HO_111002:=za (Kd.R_elder' (by apply_rules only [HO_111002.out,zl,zm,zj]) (Kd.R_base ho0) hb);replace HO142:=za (Kd.R_elder' (by apply_rules only [HO142.out,zl,zm,zj]) (Kd.R_base ho0) hb);replace HO145:=za (Kd.R_elder' (by apply_rules only [HO145.out,zl,zm,zj]) (Kd.R_base ho0) hb);replace HO148:=za (Kd.R_elder' (by apply_rules only [HO148.out,zl,zm,zj]) (Kd.R_base ho0) hb);replace HO152:=za (Kd.R_elder' (by apply_rules only [HO152.out,zl,zm,zj]) (Kd.R_base ho0) hb);replace BK110:=za (zz (g:=gb110) (o:=.cells #[.int .i64 t102,.int .i64 t103,.slice Ao12 t104.length co12] 26 (0,0)) (by apply_rules only [BK110.out,zd,zb,ze]) hb);replace BK149:=za (zz (g:=gb149) (o:=.cells #[.int .i64 t138,.int .i64 t139,.slice Ao73 t140.length co73] 26 (0,0)) (by apply_rules only [BK149.out,zd,zb,ze]) hb);replace HB:=za (zv (by apply_rules only [HB.out,zf,zg,zc,zh,GE110.out,GE149.out]) hb);obtain ⟨Ao79,co79,eo79⟩:=Kd.R_slice HO152.out;subst eo79;obtain ⟨Ao80,co80,eo80⟩:=Kd.R_slice HO156.out;subst eo80)|(go_at_call 24;(with_reducible refine (laws_kSame.calls kj26 _ _ t150 _ _ t154 t158 _ ?side1 ?side2 ?side3 ?side4 A68.out).mono ?_);(case side1=>apply_rules only [(zD HO152.out).2.2,zw,zx,zy]);(case side2=>exact (zD HO152.out).2.1);(case side3=>apply_rules only [(zD HO156.out).2.2,zw,zx,zy]);(case side4=>exact (zD HO156.out).2.1);rintro e w' ⟨rfl,⟨nd,rfl⟩⟩)));(go_ret);exact ⟨by first|rfl|simp [*,errW_none,errW_some] <;> rfl,by repeat (first|(with_reducible first|exact HB.out|apply zf|apply zg|apply zc|refine zh ?_ GE110.out|refine zh ?_ GE149.out)|exact HB.out)⟩
         · rw [if_neg c67] at H;(have c67b0:(t153 == t157)=false:=by simpa using c67);(try (have c67b1:decide (t153=t157)=false:=by simpa using c67));(try (have c67b2:(t153 == t157)=false:=by simpa using c67));(try (have c67b3:¬ (t153=t157):=by simpa using c67));clear c67;obtain rfl:=Option.some.inj H;(go_wp2_with (first|((with_reducible refine zB (f:=49) rfl ?_);refine goesL_ (some 156) rfl rfl Try.func49 (by kernel_rfl) rfl #[.slice A1 l1.length c1] rfl (by first|rfl|simp only [z3_,z4_,z5_];try rfl) ?_;(with_reducible refine (spec_DrawFollowWay.calls kj26 _ _ l1 t138 t139 t140 t143 t146 _ ?side1 ?side2 A64.out).mono ?_);(case side1=>apply_rules only [zF HR1.out HB.out,zw,zx,zy]);(case side2=>exact HC1.out);rintro e w81 ⟨v141,v144,v147,rfl,ho0,ho1,ho2,hb⟩;refine ⟨_,rfl,?_⟩;have HO142:=za (Kd.R_lower (Kd.R_new' ho0 (Kd.R_lt (by apply_rules only [HO_111002.out,zl,zm,zj]))) (zC (by apply_rules only [HB.out,zf,zg,zc,zh,GE110.out])));have HO145:=za (Kd.R_lower (Kd.R_new' ho1 (Kd.R_lt (by apply_rules only [HO_111002.out,zl,zm,zj]))) (zC (by apply_rules only [HB.out,zf,zg,zc,zh,GE110.out])));have HO148:=za (Kd.R_lower (Kd.R_new' ho2 (Kd.R_lt (by apply_rules only [HO_111002.out,zl,zm,zj]))) (zC (by apply_rules only [HB.out,zf,zg,zc,zh,GE110.out])));replace HO_111002:=za (zp (Kd.R_told (Kd.R_told (Kd.R_told (Kd.R_old (by apply_rules only [HO_111002.out,zl,zm,zj]) hb) (Kd.R_base ho0)) (Kd.R_base ho1)) (Kd.R_base ho2)) (fun _ h_=>h_.1));replace BK110:=za (zz (g:=gb110) (o:=.cells #[.int .i64 t102,.int .i64 t103,.slice Ao12 t104.length co12] 26 (0,0)) (by apply_rules only [BK110.out,zd,zb,ze]) hb);replace HB:=za (zv (by apply_rules only [HB.out,zf,zg,zc,zh,GE110.out]) hb))|((with_reducible refine gate_dst (N:=23) rfl ?_);refine box_event ?hg (N:=23) ?hd (cs:=#[.int .i64 0,.int .i64 0,.slice none 0 0]) (t:=26) ?hr ?_;(case hd=>rfl);(case hg=>rfl);(case hr=>first|(go_simp;done)|(go_simp;rfl));intro gb149 hg w82 hbox hb;replace HO_111002:=za (Kd.R_below (by apply_rules only [HO_111002.out,zl,zm,zj]) hb);replace HO142:=za (Kd.R_below (by apply_rules only [HO142.out,zl,zm,zj]) hb);replace HO145:=za (Kd.R_below (by apply_rules only [HO145.out,zl,zm,zj]) hb);replace HO148:=za (Kd.R_below (by apply_rules only [HO148.out,zl,zm,zj]) hb);have BK149:=za (hbox);have GW149:=za ((by rw [hg];exact (zC (by apply_rules only [HB.out,zf,zg,zc,zh,GE110.out])):w.heap.size≤gb149));have GE149:=za ((by rw [hg];exact (zC (by apply_rules only [HB.out,zf,zg,zc,zh,GE110.out])):w.heap.size≤gb149));replace HB:=za (zv (by apply_rules only [HB.out,zf,zg,zc,zh,GE110.out]) hb);have NB110_149:=za ((by rw [hg];exact Nat.ne_of_lt (blk_lt (g:=gb110) (o:=.cells #[.int .i64 t102,.int .i64 t103,.slice Ao12 t104.length co12] 26 (0,0)) (by apply_rules only [BK110.out,zd,zb,ze])):gb110 ≠ gb149));have NB149_110:=za ((by rw [hg];exact Nat.ne_of_gt (blk_lt (g:=gb110) (o:=.cells #[.int .i64 t102,.int .i64 t103,.slice Ao12 t104.length co12] 26 (0,0)) (by apply_rules only [BK110.out,zd,zb,ze])):gb149 ≠ gb110));replace BK110:=za (zz (g:=gb110) (o:=.cells #[.int .i64 t102,.int .i64 t103,.slice Ao12 t104.length co12] 26 (0,0)) (by apply_rules only [BK110.out,zd,zb,ze]) hb);clear hb hbox hg;have hnb83:=NB149_110.out;have hnc83:=NB110_149.out;have hcz84_0:w82.cell? ⟨gb149,0,none⟩=some (.int .i64 0):=(zi BK149.out 0).trans rfl;have hcz84_1:w82.cell? ⟨gb149,1,none⟩=some (.int .i64 0):=(zi BK149.out 1).trans rfl;have hcz84_2:w82.cell? ⟨gb149,2,none⟩=some (.slice none 0 0):=(zi BK149.out 2).trans rfl;have hfz84_0:=zk BK149.out 0;have hfz84_1:=zk BK149.out 1;have hfz84_2:=zk BK149.out 2;obtain ⟨Ao85,co85,eo85⟩:=Kd.R_slice HO142.out;subst eo85;obtain ⟨Ao86,co86,eo86⟩:=Kd.R_slice HO145.out;subst eo86;obtain ⟨Ao87,co87,eo87⟩:=Kd.R_slice HO148.out;subst eo87)|((with_reducible refine zB (f:=42) rfl ?_);refine goesL_ (some 164) rfl rfl Try.func42 (by kernel_rfl) rfl #[.agg #[.int .i64 t138,.int .i64 t139,.slice Ao85 t140.length co85],.slice Ao86 t143.length co86,.slice Ao87 t146.length co87] rfl (by first|rfl|simp only [z3_,z4_,z5_];try rfl) ?_;(with_reducible refine (impl_FollowWay.calls kj26 t138 t139 _ _ t140 _ _ t143 _ _ t146 t150 t153 _ ?side1 ?side2 ?side3 ?side4 ?side5 ?side6 A65.out).mono ?_);(case side1=>refine (zD (e:=3) (base:=w.heap.size) (ok:=fun k_=>((some k_ ≠ (.slice Ao86 t143.length co86:Value).ownBlock∧some k_ ≠ (.slice Ao87 t146.length co87:Value).ownBlock)∧some k_ ≠ (.slice Ao12 t104.length co12:Value).ownBlock)) (n:=t140.length) (c:=co85) ?_).2.2;exact (by (with_reducible repeat (first|apply zl|apply zm|apply zj));exact (zp (zn (p:=⟨gb149,2,none⟩) (zn (p:=⟨gb149,1,none⟩) (zn (p:=⟨gb149,0,none⟩) (zH HO142.out BK149.out (by decide)) (fun _ hk=>hk.2) (.int .i64 t138)) (fun _ hk=>hk.2) (.int .i64 t139)) (fun _ hk=>hk.2) (.slice Ao85 t140.length co85)) (fun _ h_=>h_.1))));(case side2=>exact (zD HO142.out).2.1);(case side3=>refine (zD (e:=3) (base:=w.heap.size) (ok:=fun k_=>((some k_ ≠ (.slice Ao85 t140.length co85:Value).ownBlock∧some k_ ≠ (.slice Ao87 t146.length co87:Value).ownBlock)∧some k_ ≠ (.slice Ao12 t104.length co12:Value).ownBlock)) (n:=t143.length) (c:=co86) ?_).2.2;exact (by (with_reducible repeat (first|apply zl|apply zm|apply zj));exact (zp (zn (p:=⟨gb149,2,none⟩) (zn (p:=⟨gb149,1,none⟩) (zn (p:=⟨gb149,0,none⟩) (zH HO145.out BK149.out (by decide)) (fun _ hk=>hk.2) (.int .i64 t138)) (fun _ hk=>hk.2) (.int .i64 t139)) (fun _ hk=>hk.2) (.slice Ao85 t140.length co85)) (fun _ h_=>h_.1))));(case side4=>exact (zD HO145.out).2.1);(case side5=>refine (zD (e:=3) (base:=w.heap.size) (ok:=fun k_=>((some k_ ≠ (.slice Ao85 t140.length co85:Value).ownBlock∧some k_ ≠ (.slice Ao86 t143.length co86:Value).ownBlock)∧some k_ ≠ (.slice Ao12 t104.length co12:Value).ownBlock)) (n:=t146.length) (c:=co87) ?_).2.2;exact (by (with_reducible repeat (first|apply zl|apply zm|apply zj));exact (zp (zn (p:=⟨gb149,2,none⟩) (zn (p:=⟨gb149,1,none⟩) (zn (p:=⟨gb149,0,none⟩) (zH HO148.out BK149.out (by decide)) (fun _ hk=>hk.2) (.int .i64 t138)) (fun _ hk=>hk.2) (.int .i64 t139)) (fun _ hk=>hk.2) (.slice Ao85 t140.length co85)) (fun _ h_=>h_.1))));(case side6=>exact (zD HO148.out).2.1);rintro e w88 ⟨v151,rfl,ho0,hb⟩;refine ⟨_,rfl,?_⟩;have HO152:=za (Kd.R_lower (Kd.R_new' (Kd.R_new' (Kd.R_new' (Kd.R_new' ho0 (Kd.R_lt (by (with_reducible repeat (first|apply zl|apply zm|apply zj));exact (zp (zn (p:=⟨gb149,2,none⟩) (zn (p:=⟨gb149,1,none⟩) (zn (p:=⟨gb149,0,none⟩) (zH HO_111002.out BK149.out (by decide)) (fun _ hk=>hk.2) (.int .i64 t138)) (fun _ hk=>hk.2) (.int .i64 t139)) (fun _ hk=>hk.2) (.slice Ao85 t140.length co85)) (fun _ h_=>h_.1))))) (Kd.R_lt (by (with_reducible repeat (first|apply zl|apply zm|apply zj));exact (zp (zn (p:=⟨gb149,2,none⟩) (zn (p:=⟨gb149,1,none⟩) (zn (p:=⟨gb149,0,none⟩) (zH HO142.out BK149.out (by decide)) (fun _ hk=>hk.2) (.int .i64 t138)) (fun _ hk=>hk.2) (.int .i64 t139)) (fun _ hk=>hk.2) (.slice Ao85 t140.length co85)) (fun _ h_=>h_.1))))) (Kd.R_lt (by (with_reducible repeat (first|apply zl|apply zm|apply zj));exact (zp (zn (p:=⟨gb149,2,none⟩) (zn (p:=⟨gb149,1,none⟩) (zn (p:=⟨gb149,0,none⟩) (zH HO145.out BK149.out (by decide)) (fun _ hk=>hk.2) (.int .i64 t138)) (fun _ hk=>hk.2) (.int .i64 t139)) (fun _ hk=>hk.2) (.slice Ao85 t140.length co85)) (fun _ h_=>h_.1))))) (Kd.R_lt (by (with_reducible repeat (first|apply zl|apply zm|apply zj));exact (zp (zn (p:=⟨gb149,2,none⟩) (zn (p:=⟨gb149,1,none⟩) (zn (p:=⟨gb149,0,none⟩) (zH HO148.out BK149.out (by decide)) (fun _ hk=>hk.2) (.int .i64 t138)) (fun _ hk=>hk.2) (.int .i64 t139)) (fun _ hk=>hk.2) (.slice Ao85 t140.length co85)) (fun _ h_=>h_.1))))) (zC (by apply_rules only [HB.out,zf,zg,zc,zh,GE110.out,GE149.out])));replace HO_111002:=za (Kd.R_elder' (by (with_reducible repeat (first|apply zl|apply zm|apply zj));exact (zp (zn (p:=⟨gb149,2,none⟩) (zn (p:=⟨gb149,1,none⟩) (zn (p:=⟨gb149,0,none⟩) (zH HO_111002.out BK149.out (by decide)) (fun _ hk=>hk.2) (.int .i64 t138)) (fun _ hk=>hk.2) (.int .i64 t139)) (fun _ hk=>hk.2) (.slice Ao85 t140.length co85)) (fun _ h_=>h_.1))) (Kd.R_base ho0) hb);replace HO142:=za (Kd.R_elder' (by (with_reducible repeat (first|apply zl|apply zm|apply zj));exact (zp (zn (p:=⟨gb149,2,none⟩) (zn (p:=⟨gb149,1,none⟩) (zn (p:=⟨gb149,0,none⟩) (zH HO142.out BK149.out (by decide)) (fun _ hk=>hk.2) (.int .i64 t138)) (fun _ hk=>hk.2) (.int .i64 t139)) (fun _ hk=>hk.2) (.slice Ao85 t140.length co85)) (fun _ h_=>h_.1))) (Kd.R_base ho0) hb);replace HO145:=za (Kd.R_elder' (by (with_reducible repeat (first|apply zl|apply zm|apply zj));exact (zp (zn (p:=⟨gb149,2,none⟩) (zn (p:=⟨gb149,1,none⟩) (zn (p:=⟨gb149,0,none⟩) (zH HO145.out BK149.out (by decide)) (fun _ hk=>hk.2) (.int .i64 t138)) (fun _ hk=>hk.2) (.int .i64 t139)) (fun _ hk=>hk.2) (.slice Ao85 t140.length co85)) (fun _ h_=>h_.1))) (Kd.R_base ho0) hb);replace HO148:=za (Kd.R_elder' (by (with_reducible repeat (first|apply zl|apply zm|apply zj));exact (zp (zn (p:=⟨gb149,2,none⟩) (zn (p:=⟨gb149,1,none⟩) (zn (p:=⟨gb149,0,none⟩) (zH HO148.out BK149.out (by decide)) (fun _ hk=>hk.2) (.int .i64 t138)) (fun _ hk=>hk.2) (.int .i64 t139)) (fun _ hk=>hk.2) (.slice Ao85 t140.length co85)) (fun _ h_=>h_.1))) (Kd.R_base ho0) hb);replace BK110:=za (zz (g:=gb110) (o:=.cells #[.int .i64 t102,.int .i64 t103,.slice Ao12 t104.length co12] 26 (0,0)) (by (with_reducible repeat (first|refine zd ?_ _|refine zb ?_|refine ze ?_ _));refine blk_far ?_ NB110_149.out _;(with_reducible repeat (first|refine zd ?_ _|refine zb ?_|refine ze ?_ _));refine blk_far ?_ NB110_149.out _;(with_reducible repeat (first|refine zd ?_ _|refine zb ?_|refine ze ?_ _));refine blk_far ?_ NB110_149.out _;apply_rules only [BK110.out,zd,zb,ze]) hb);replace BK149:=za (zz (g:=gb149) (o:=.cells #[.int .i64 t138,.int .i64 t139,.slice Ao85 t140.length co85] 26 (0,0)) (by (with_reducible repeat (first|refine zd ?_ _|refine zb ?_|refine ze ?_ _));refine blk_put (cs:=#[.int .i64 t138,.int .i64 t139,.slice none 0 0]) ?_ 2 _ rfl;(with_reducible repeat (first|refine zd ?_ _|refine zb ?_|refine ze ?_ _));refine blk_put (cs:=#[.int .i64 t138,.int .i64 0,.slice none 0 0]) ?_ 1 _ rfl;(with_reducible repeat (first|refine zd ?_ _|refine zb ?_|refine ze ?_ _));refine blk_put (cs:=#[.int .i64 0,.int .i64 0,.slice none 0 0]) ?_ 0 _ rfl;apply_rules only [BK149.out,zd,zb,ze]) hb);replace HB:=za (zv (by apply_rules only [HB.out,zf,zg,zc,zh,GE110.out,GE149.out]) hb);have hcz89_0:w88.cell? ⟨gb149,0,none⟩=some (.int .i64 t138):=(zi BK149.out 0).trans rfl;have hcz89_1:w88.cell? ⟨gb149,1,none⟩=some (.int .i64 t139):=(zi BK149.out 1).trans rfl;have hcz89_2:w88.cell? ⟨gb149,2,none⟩=some (.slice Ao85 t140.length co85):=(zi BK149.out 2).trans rfl;have hfz89_0:=zk BK149.out 0;have hfz89_1:=zk BK149.out 1;have hfz89_2:=zk BK149.out 2)|((with_reducible refine zB (f:=41) rfl ?_);refine goesL_ (some 171) rfl rfl Try.func41 (by kernel_rfl) rfl #[.agg #[.int .i64 t138,.int .i64 t139,.slice Ao85 t140.length co85],.slice Ao86 t143.length co86,.slice Ao87 t146.length co87] rfl (by first|rfl|simp only [z3_,z4_,z5_];try rfl) ?_;(with_reducible refine (spec_FollowWay.calls kj26 t138 t139 _ _ t140 _ _ t143 _ _ t146 t154 t157 _ ?side1 ?side2 ?side3 ?side4 ?side5 ?side6 A66.out).mono ?_);(case side1=>apply_rules only [(zD HO142.out).2.2,zw,zx,zy]);(case side2=>exact (zD HO142.out).2.1);(case side3=>apply_rules only [(zD HO145.out).2.2,zw,zx,zy]);(case side4=>exact (zD HO145.out).2.1);(case side5=>apply_rules only [(zD HO148.out).2.2,zw,zx,zy]);(case side6=>exact (zD HO148.out).2.1);rintro e w90 ⟨v155,rfl,ho0,hb⟩;refine ⟨_,rfl,?_⟩;have HO156:=za (Kd.R_lower (Kd.R_new' (Kd.R_new' (Kd.R_new' (Kd.R_new' (Kd.R_new' ho0 (Kd.R_lt (by apply_rules only [HO_111002.out,zl,zm,zj]))) (Kd.R_lt (by apply_rules only [HO142.out,zl,zm,zj]))) (Kd.R_lt (by apply_rules only [HO145.out,zl,zm,zj]))) (Kd.R_lt (by apply_rules only [HO148.out,zl,zm,zj]))) (Kd.R_lt (by apply_rules only [HO152.out,zl,zm,zj]))) (zC (by apply_rules only [HB.out,zf,zg,zc,zh,GE110.out,GE149.out])));replace HO_111002:=za (Kd.R_elder' (by apply_rules only [HO_111002.out,zl,zm,zj]) (Kd.R_base ho0) hb);replace HO142:=za (Kd.R_elder' (by apply_rules only [HO142.out,zl,zm,zj]) (Kd.R_base ho0) hb);replace HO145:=za (Kd.R_elder' (by apply_rules only [HO145.out,zl,zm,zj]) (Kd.R_base ho0) hb);replace HO148:=za (Kd.R_elder' (by apply_rules only [HO148.out,zl,zm,zj]) (Kd.R_base ho0) hb);replace HO152:=za (Kd.R_elder' (by apply_rules only [HO152.out,zl,zm,zj]) (Kd.R_base ho0) hb);replace BK110:=za (zz (g:=gb110) (o:=.cells #[.int .i64 t102,.int .i64 t103,.slice Ao12 t104.length co12] 26 (0,0)) (by apply_rules only [BK110.out,zd,zb,ze]) hb);replace BK149:=za (zz (g:=gb149) (o:=.cells #[.int .i64 t138,.int .i64 t139,.slice Ao85 t140.length co85] 26 (0,0)) (by apply_rules only [BK149.out,zd,zb,ze]) hb);replace HB:=za (zv (by apply_rules only [HB.out,zf,zg,zc,zh,GE110.out,GE149.out]) hb))));(go_ret);exact ⟨by first|rfl|simp [*,errW_none,errW_some] <;> rfl,by repeat (first|(with_reducible first|exact HB.out|apply zf|apply zg|apply zc|refine zh ?_ GE110.out|refine zh ?_ GE149.out)|exact HB.out)⟩
def laws_FnLongerWays.Pure:Prop:=∀ (l0:List Int) (l1:List Int),l0.length≤maxLen→l0.length * 1≤140737488351232→(∀ x ∈ l0,(Lit.int .u8 x).wf=true)→l1.length≤maxLen→l1.length * 1≤140737488351232→(∀ x ∈ l1,(Lit.int .u8 x).wf=true)→∃ k,laws_FnLongerWays.f k l0 l1=some true
theorem laws_FnLongerWays.walk (P:laws_FnLongerWays.Pure) (a0:Option Addr) (len0 cap0:Nat) (z0:List Int) (a1:Option Addr) (len1 cap1:Nat) (z1:List Int) (w:World) (w0:(a0=none∧len0=0∧cap0=0∧z0=[]) ∨ ∃ x,a0=some x∧len0≤cap0∧cap0≤maxLen∧z0.length=cap0∧(∀ i,i < z0.length→w.cell? (x.add i)=some (.int .u8 (z0.getD i 0)))∧∀ n ∈ z0,(Lit.int .u8 n).wf=true) (y0:len0 * 1≤140737488351232) (w1:(a1=none∧len1=0∧cap1=0∧z1=[]) ∨ ∃ x,a1=some x∧len1≤cap1∧cap1≤maxLen∧z1.length=cap1∧(∀ i,i < z1.length→w.cell? (x.add i)=some (.int .u8 (z1.getD i 0)))∧∀ n ∈ z1,(Lit.int .u8 n).wf=true) (y1:len1 * 1≤140737488351232) :
  Calls Try.prog 8 #[.slice a0 len0 cap0,.slice a1 len1 cap1] w fun e w'=>e=.returned (.bool true)∧Below w.heap.size w w':=by
 obtain ⟨l0,rfl,hr0,hm0,hw0,hc0⟩:=ReadsInt.ofRowC w0;obtain ⟨l1,rfl,hr1,hm1,hw1,hc1⟩:=ReadsInt.ofRowC w1;obtain ⟨k,h⟩:=P l0 l1 hm0 y0 hw0 hm1 y1 hw1;refine (laws_FnLongerWays.calls k _ _ l0 _ _ l1 true w (Kd.C_of_reads (d:=(0:Int)) (h1:=fun _=>rfl) hr0) hc0 (Kd.C_of_reads (d:=(0:Int)) (h1:=fun _=>rfl) hr1) hc1 h).mono ?_;rintro e w' ⟨rfl,hd⟩;exact ⟨rfl,hd⟩
end Go.Proofs.Ytgnmcfoenmfhcaa.Q
end
section
namespace Go.Proofs.Ytgnmcfoenmfhcaa.PlaceK
set_option linter.unusedVariables false
open Go.RowKit Go.Proofs.Ytgnmcfoenmfhcaa.Q Go.Proofs.YtgnmcfoenmfhcaaW.PrintWords Go.Proofs.YtgnmcfoenmfhcaaW.PrintLast Go.Proofs.YtgnmcfoenmfhcaaW.PrintMore
open Go.Proofs.YtgnmcfoenmfhcaaL Go.Proofs.Ytgnmcfoenmfhcaa.LawK Go.Proofs.Ytgnmcfoenmfhcaa.BoardK Go.Proofs.Ytgnmcfoenmfhcaa.PermK
theorem evEq {α : Type} {g : Nat → Option α} {a b : α} (h : Ev g a) (e : a = b) : Ev g b := e ▸ h
theorem withinR (a b c : Int) : impl_within.f a b c = some (inR b c a) := by
  unfold impl_within.f inR
  by_cases h : b ≤ a
  · rw [if_pos h]; simp [h]
  · rw [if_neg h]; congr 1; exact (decide_eq_false (by omega)).symm
theorem place_f {R C : Nat} (l : List Int) (hR : R ≤ 6) (hC : C ≤ 6) (r c : Int) : impl_Board_place.f R C l r c = some (inR 0 ((R : Int) - 1) r && inR 0 ((C : Int) - 1) c) := by
  unfold impl_Board_place.f
  rw [withinR, Option.bind_some, w64 (by omega) (by omega), w64 (by omega) (by omega), withinR]
  cases inR 0 ((R : Int) - 1) r <;> rfl
def placeI (l : List Int) (C : Nat) : List Int → Nat → List Int → Bool
  | [], _, _ => true
  | x :: t, i, pre => (decide (x = -1) || (inR 0 ((C : Int) - 1) x && (cell l i x.toNat && !decide (x ∈ pre)))) && placeI l C t (i + 1) (pre ++ [x])
def placeB (l : List Int) (C : Nat) (p : List Int) : Bool := decide (p.length = l.length) && placeI l C p 0 []
theorem isPlacement_l0 {l p : List Int} {R C : Nat} (hlR : l.length = R) (hR : R ≤ 6) (hC : C ≤ 6) (hb : ∀ i (hi : i < l.length), 0 ≤ l[i] ∧ l[i] < 64) (hp : p.length = R) : ∀ (d i : Nat), i + d = p.length →
    Ev (fun k => impl_Board_isPlacement.l0 k p p (p.length : Int) i R C l) (placeI l C (p.drop i) i (p.take i))
  | 0, i, hi => by
    refine Ev.step (f := fun _ => some true) (fun k => ?_) (evEq (Ev.now _) (by rw [List.drop_eq_nil_of_le (by omega)]; rfl))
    rw [impl_Board_isPlacement.l0, if_neg (by omega)]
  | d + 1, i, hi => by
    have w1 : wrap64 ((i : Int) + 1) = ((i + 1 : Nat) : Int) := by rw [w64 (by omega) (by omega)]; rfl
    have hi2 : i < p.length := by omega
    have ih := isPlacement_l0 hlR hR hC hb hp d (i + 1) (by omega)
    rw [List.drop_eq_getElem_cons hi2, placeI]
    rw [List.take_add_one, List.getElem?_eq_getElem hi2, Option.toList_some] at ih
    by_cases c1 : p[i] = -1
    · rw [decide_eq_true c1, Bool.true_or, Bool.true_and]
      refine Ev.step (fun k => ?_) ih
      rw [impl_Board_isPlacement.l0, if_pos (by omega), if_pos (by omega), if_pos (by omega), rd_lt _ _ hi2, if_pos c1, w1]
    · rw [decide_eq_false c1, Bool.false_or]
      by_cases c2 : inR 0 ((C : Int) - 1) p[i] = true
      · have c2' : 0 ≤ p[i] ∧ p[i] ≤ (C : Int) - 1 := of_decide_eq_true c2
        obtain ⟨y, hy⟩ : ∃ y : Nat, p[i] = y := ⟨p[i].toNat, by omega⟩
        have c3 : inR 0 ((R : Int) - 1) (i : Int) = true := decide_eq_true (by omega)
        rw [c2, Bool.true_and]
        refine Ev.step (f := fun k => if cell l i y = true then (if (i : Int) ≤ (p.length : Int) then (slices_Contains_int_int.f k (p.take i) p[i]).bind fun t => if t = true then some false else impl_Board_isPlacement.l0 k p p (p.length : Int) ((i + 1 : Nat) : Int) R C l else none) else some false) (fun k => ?_) ?_
        · rw [impl_Board_isPlacement.l0, if_pos (by omega), if_pos (by omega), if_pos (by omega), rd_lt _ _ hi2, if_neg c1, place_f l hR hC, Option.bind_some, if_pos (by rw [c3, c2]; rfl), hy, has_f (R : Int) (C : Int) (show i < l.length by omega) (hb i (by omega)).1 (hb i (by omega)).2 (by omega), Option.bind_some, Int.toNat_natCast, w1]
        · rw [hy, Int.toNat_natCast]
          rw [hy] at ih
          by_cases c4 : cell l i y = true
          · refine Ev.congr (fun k => by rw [if_pos c4, if_pos (by omega)]) ?_
            rw [c4, Bool.true_and]
            refine Ev.bind (contains _ (by rw [List.length_take]; omega)) ?_
            by_cases c5 : (y : Int) ∈ p.take i
            · rw [decide_eq_true c5]
              exact Ev.congr (fun k => if_pos rfl) (Ev.now _)
            · rw [decide_eq_false c5, Bool.not_false, Bool.true_and]
              exact Ev.congr (fun k => if_neg (by simp)) ih
          · rw [show cell l i y = false by simpa using c4, Bool.false_and, Bool.false_and]
            exact Ev.congr (fun k => if_neg (by simp)) (Ev.now _)
      · rw [show inR 0 ((C : Int) - 1) p[i] = false by simpa using c2, Bool.false_and, Bool.false_and]
        refine Ev.step (f := fun _ => some false) (fun k => ?_) (Ev.now _)
        rw [impl_Board_isPlacement.l0, if_pos (by omega), if_pos (by omega), if_pos (by omega), rd_lt _ _ hi2, if_neg c1, place_f l hR hC, Option.bind_some, if_neg (by rw [show inR 0 ((C : Int) - 1) p[i] = false by simpa using c2, Bool.and_false]; simp)]
theorem isPlacement {l : List Int} {R C : Nat} (hlR : l.length = R) (hR : R ≤ 6) (hC : C ≤ 6) (hb : ∀ i (hi : i < l.length), 0 ≤ l[i] ∧ l[i] < 64) (p : List Int) : Ev (fun k => impl_Board_isPlacement.f k R C l p) (placeB l C p) := by
  unfold impl_Board_isPlacement.f placeB
  by_cases h : p.length = R
  · refine Ev.congr (fun k => if_pos (by omega)) ?_
    rw [decide_eq_true (by omega), Bool.true_and]
    have := isPlacement_l0 hlR hR hC hb h p.length 0 (by omega)
    rw [List.drop_zero, List.take_zero] at this
    exact this
  · rw [decide_eq_false (by omega), Bool.false_and]
    exact Ev.congr (fun k => if_neg (by omega)) (Ev.now _)
def placeS (l : List Int) : List Int → Nat → List Int → Bool
  | [], _, _ => true
  | x :: t, i, pre => (decide (x < 0) || (cell l i x.toNat && !decide (x ∈ pre))) && placeS l t (i + 1) (pre ++ [x])
theorem placeS_placeI (l : List Int) (C : Nat) : ∀ (t : List Int) (i : Nat) (pre : List Int), (t.all (inR (-1) ((C : Int) - 1)) && placeS l t i pre) = placeI l C t i pre
  | [], _, _ => rfl
  | x :: t, i, pre => by
    have ih := placeS_placeI l C t (i + 1) (pre ++ [x])
    rw [List.all_cons, placeS, placeI, ← ih]
    by_cases h1 : x = -1
    · rw [decide_eq_true h1, decide_eq_true (show x < 0 by omega)]
      by_cases h2 : (C : Int) - 1 < -1
      · omega
      · rw [show inR (-1) ((C : Int) - 1) x = true from decide_eq_true (by omega)]; simp
    · rw [decide_eq_false h1, Bool.false_or]
      by_cases h2 : 0 ≤ x ∧ x ≤ (C : Int) - 1
      · rw [show inR 0 ((C : Int) - 1) x = true from decide_eq_true h2, show inR (-1) ((C : Int) - 1) x = true from decide_eq_true (by omega), decide_eq_false (show ¬ x < 0 by omega), Bool.false_or, Bool.true_and, Bool.true_and]
        cases t.all (inR (-1) ((C : Int) - 1)) <;> cases (cell l i x.toNat && !decide (x ∈ pre)) <;> rfl
      · rw [show inR 0 ((C : Int) - 1) x = false from decide_eq_false h2, show inR (-1) ((C : Int) - 1) x = false from decide_eq_false (by omega)]; rfl
theorem lcGood_l0 {l p : List Int} {R C : Nat} (hlR : l.length = R) (hR : R ≤ 6) (hb : ∀ i (hi : i < l.length), 0 ≤ l[i] ∧ l[i] < 64) (hp : p.length = R) (hall : ∀ x ∈ p, x ≤ 64) : ∀ (d i : Nat), i + d = p.length →
    Ev (fun k => spec_lcGood.l0 k p p (p.length : Int) i R C l) (placeS l (p.drop i) i (p.take i))
  | 0, i, hi => by
    refine Ev.step (f := fun _ => some true) (fun k => ?_) (evEq (Ev.now _) (by rw [List.drop_eq_nil_of_le (by omega)]; rfl))
    rw [spec_lcGood.l0, if_neg (by omega)]
  | d + 1, i, hi => by
    have w1 : wrap64 ((i : Int) + 1) = ((i + 1 : Nat) : Int) := by rw [w64 (by omega) (by omega)]; rfl
    have hi2 : i < p.length := by omega
    have ih := lcGood_l0 (C := C) hlR hR hb hp hall d (i + 1) (by omega)
    have hx := hall p[i] (List.getElem_mem hi2)
    rw [List.drop_eq_getElem_cons hi2, placeS]
    rw [List.take_add_one, List.getElem?_eq_getElem hi2, Option.toList_some] at ih
    by_cases c1 : p[i] < 0
    · rw [decide_eq_true c1, Bool.true_or, Bool.true_and]
      refine Ev.step (fun k => ?_) ih
      rw [spec_lcGood.l0, if_pos (by omega), if_pos (by omega), if_pos (by omega), rd_lt _ _ hi2, if_neg (by omega), w1]
    · rw [decide_eq_false c1, Bool.false_or]
      obtain ⟨y, hy⟩ : ∃ y : Nat, p[i] = y := ⟨p[i].toNat, by omega⟩
      refine Ev.step (f := fun k => if cell l i y = true then (if (i : Int) ≤ (p.length : Int) then (spec_l1Has.f k (p.take i) p[i]).bind fun t => if t = true then some false else spec_lcGood.l0 k p p (p.length : Int) ((i + 1 : Nat) : Int) R C l else none) else some false) (fun k => ?_) ?_
      · rw [spec_lcGood.l0, if_pos (by omega), if_pos (by omega), if_pos (by omega), rd_lt _ _ hi2, if_pos (by omega), hy, boHas_f (R : Int) (C : Int) (show i < l.length by omega) (hb i (by omega)).1 (hb i (by omega)).2 (by omega), Option.bind_some, Int.toNat_natCast, w1]
      · rw [hy, Int.toNat_natCast]
        rw [hy] at ih
        by_cases c4 : cell l i y = true
        · refine Ev.congr (fun k => by rw [if_pos c4, if_pos (by omega)]) ?_
          rw [c4, Bool.true_and]
          refine Ev.bind (l1Has _ (by rw [List.length_take]; omega)) ?_
          by_cases c5 : (y : Int) ∈ p.take i
          · rw [decide_eq_true c5]
            exact Ev.congr (fun k => if_pos rfl) (Ev.now _)
          · rw [decide_eq_false c5, Bool.not_false, Bool.true_and]
            exact Ev.congr (fun k => if_neg (by simp)) ih
        · rw [show cell l i y = false by simpa using c4, Bool.false_and, Bool.false_and]
          exact Ev.congr (fun k => if_neg (by simp)) (Ev.now _)
theorem lcGood {l : List Int} {R C : Nat} (hlR : l.length = R) (hR : R ≤ 6) (hC : C ≤ 6) (hb : ∀ i (hi : i < l.length), 0 ≤ l[i] ∧ l[i] < 64) (p : List Int) : Ev (fun k => spec_lcGood.f k R C l p) (placeB l C p) := by
  unfold spec_lcGood.f placeB
  by_cases h : p.length = R
  · refine Ev.congr (fun k => if_pos (by omega)) ?_
    rw [decide_eq_true (by omega), Bool.true_and, w64 (by omega) (by omega)]
    refine Ev.bind (l1All _ _ (by omega)) ?_
    rw [← placeS_placeI]
    by_cases c : p.all (inR (-1) ((C : Int) - 1)) = true
    · rw [c, Bool.true_and]
      have := lcGood_l0 (C := C) hlR hR hb h (fun x hx => by have := List.all_eq_true.1 c x hx; have := of_decide_eq_true this; omega) p.length 0 (by omega)
      rw [List.drop_zero, List.take_zero] at this
      exact Ev.step (fun k => by rw [spec_lcGood.j0, if_neg (by simp)]; rfl) this
    · rw [show p.all (inR (-1) ((C : Int) - 1)) = false by simpa using c, Bool.false_and]
      exact Ev.step (f := fun _ => some false) (fun k => by rw [spec_lcGood.j0, if_pos (by rfl)]) (Ev.now _)
  · rw [decide_eq_false (by omega), Bool.false_and]
    refine Ev.congr (fun k => if_neg (by omega)) ?_
    exact Ev.step (f := fun _ => some false) (fun k => by rw [spec_lcGood.j0, if_pos rfl]) (Ev.now _)
def rk (l : List Int) : Nat := l.countP (fun x => x != -1)
theorem rooks_l0 {l : List Int} (hl : l.length ≤ 1048576) : ∀ (d i n : Nat), i + d = l.length → n ≤ i → Ev (fun k => impl_rooks.l0 k n l (l.length : Int) i) ((n + rk (l.drop i) : Nat) : Int)
  | 0, i, n, hi, hn => by
    refine Ev.step (f := fun _ => some (n : Int)) (fun k => ?_) (evEq (Ev.now _) (by rw [List.drop_eq_nil_of_le (by omega)]; rfl))
    rw [impl_rooks.l0, if_neg (by omega)]
  | d + 1, i, n, hi, hn => by
    have h1 : wrap64 ((i : Int) + 1) = ((i + 1 : Nat) : Int) := by rw [w64 (by omega) (by omega)]; rfl
    have h2 : wrap64 ((n : Int) + 1) = ((n + 1 : Nat) : Int) := by rw [w64 (by omega) (by omega)]; rfl
    have hi2 : i < l.length := by omega
    rw [List.drop_eq_getElem_cons hi2, rk, List.countP_cons]
    by_cases hx : l[i] = -1
    · have ih := rooks_l0 hl d (i + 1) n (by omega) (by omega)
      rw [rk] at ih
      rw [if_neg (by simp [hx]), Nat.add_zero]
      refine Ev.step (fun k => ?_) ih
      rw [impl_rooks.l0, if_pos (by omega), if_pos (by omega), if_pos (by omega), rd_lt _ _ hi2, if_pos hx, h1]
    · have ih := rooks_l0 hl d (i + 1) (n + 1) (by omega) (by omega)
      rw [rk] at ih
      rw [if_pos (by simpa using hx)]
      rw [show n + (List.countP (fun x => x != -1) (List.drop (i + 1) l) + 1) = n + 1 + List.countP (fun x => x != -1) (List.drop (i + 1) l) by omega]
      refine Ev.step (fun k => ?_) ih
      rw [impl_rooks.l0, if_pos (by omega), if_pos (by omega), if_pos (by omega), rd_lt _ _ hi2, if_neg hx, h1, h2]
theorem rooks {l : List Int} (hl : l.length ≤ 1048576) : Ev (fun k => impl_rooks.f k l) (rk l : Int) := by
  have h := rooks_l0 hl l.length 0 0 (by omega) (by omega)
  rw [List.drop_zero, Nat.zero_add] at h
  exact h
theorem lcSize_l0 {l : List Int} (hl : l.length ≤ 1048576) (hm : ∀ x ∈ l, -1 ≤ x) : ∀ (d i n : Nat), i + d = l.length → n ≤ i → Ev (fun k => spec_lcSize.l0 k n l (l.length : Int) i) ((n + rk (l.drop i) : Nat) : Int)
  | 0, i, n, hi, hn => by
    refine Ev.step (f := fun _ => some (n : Int)) (fun k => ?_) (evEq (Ev.now _) (by rw [List.drop_eq_nil_of_le (by omega)]; rfl))
    rw [spec_lcSize.l0, if_neg (by omega)]
  | d + 1, i, n, hi, hn => by
    have h1 : wrap64 ((i : Int) + 1) = ((i + 1 : Nat) : Int) := by rw [w64 (by omega) (by omega)]; rfl
    have h2 : wrap64 ((n : Int) + 1) = ((n + 1 : Nat) : Int) := by rw [w64 (by omega) (by omega)]; rfl
    have hi2 : i < l.length := by omega
    have hmi := hm l[i] (List.getElem_mem hi2)
    rw [List.drop_eq_getElem_cons hi2, rk, List.countP_cons]
    by_cases hx : l[i] = -1
    · have ih := lcSize_l0 hl hm d (i + 1) n (by omega) (by omega)
      rw [rk] at ih
      rw [if_neg (by simp [hx]), Nat.add_zero]
      refine Ev.step (fun k => ?_) ih
      rw [spec_lcSize.l0, if_pos (by omega), if_pos (by omega), if_pos (by omega), rd_lt _ _ hi2, if_neg (by omega), h1]
    · have ih := lcSize_l0 hl hm d (i + 1) (n + 1) (by omega) (by omega)
      rw [rk] at ih
      rw [if_pos (by simpa using hx)]
      rw [show n + (List.countP (fun x => x != -1) (List.drop (i + 1) l) + 1) = n + 1 + List.countP (fun x => x != -1) (List.drop (i + 1) l) by omega]
      refine Ev.step (fun k => ?_) ih
      rw [spec_lcSize.l0, if_pos (by omega), if_pos (by omega), if_pos (by omega), rd_lt _ _ hi2, if_pos (by omega), h1, h2]
theorem lcSize {l : List Int} (hl : l.length ≤ 1048576) (hm : ∀ x ∈ l, -1 ≤ x) : Ev (fun k => spec_lcSize.f k l) (rk l : Int) := by
  have h := lcSize_l0 hl hm l.length 0 0 (by omega) (by omega)
  rw [List.drop_zero, Nat.zero_add] at h
  exact h
theorem placeI_ge {l : List Int} {C : Nat} : ∀ (t : List Int) (i : Nat) (pre : List Int), placeI l C t i pre = true → ∀ x ∈ t, -1 ≤ x ∧ x < C
  | x :: t, i, pre, h, y, hy => by
    rw [placeI, Bool.and_eq_true, Bool.or_eq_true] at h
    rcases List.mem_cons.1 hy with rfl | hy
    · rcases h.1 with h1 | h1
      · have := of_decide_eq_true h1; omega
      · rw [Bool.and_eq_true] at h1
        have := of_decide_eq_true h1.1; omega
    · exact placeI_ge t _ _ h.2 y hy
theorem placeB_ge {l : List Int} {C : Nat} {p : List Int} (h : placeB l C p = true) : p.length = l.length ∧ ∀ x ∈ p, -1 ≤ x ∧ x < C := by
  unfold placeB at h
  rw [Bool.and_eq_true, decide_eq_true_eq] at h
  exact ⟨h.1, placeI_ge p 0 [] h.2⟩
end Go.Proofs.Ytgnmcfoenmfhcaa.PlaceK
end
section
namespace Go.Proofs.Ytgnmcfoenmfhcaa.Pure
set_option linter.unusedVariables false
open Go.RowKit Go.Proofs.Ytgnmcfoenmfhcaa.Q Go.Proofs.YtgnmcfoenmfhcaaW.PrintWords Go.Proofs.YtgnmcfoenmfhcaaW.PrintLast Go.Proofs.YtgnmcfoenmfhcaaW.PrintMore
open Go.Proofs.YtgnmcfoenmfhcaaL Go.Proofs.Ytgnmcfoenmfhcaa.LawK Go.Proofs.Ytgnmcfoenmfhcaa.BoardK Go.Proofs.Ytgnmcfoenmfhcaa.PlaceK
namespace FollowK
def folL (R : Nat) (fin : List Int → List Int × Bool) : List Int → List Int → List Int × Bool
  | a :: b :: t, out => if inR 0 ((R : Int) - 1) a = true then folL R fin t (out.set a.toNat b) else ([], false)
  | _, out => fin out
def fin (l : List Int) (C : Nat) (p out : List Int) : List Int × Bool := if (placeB l C out && decide (rk p < rk out)) = true then (out, true) else ([], false)
def ans (r c : Int) (l p way : List Int) : List Int × Bool :=
  if (isBoardB r c l && (placeB l c.toNat p && decide (way.length % 2 = 0 ∧ 2 ≤ way.length ∧ way.length ≤ 12))) = true then folL r.toNat (fin l c.toNat p) way p else ([], false)
section
variable {l p way : List Int} {R C : Nat} (hlR : l.length = R) (hR : R ≤ 6) (hC : C ≤ 6) (hb : ∀ i (hi : i < l.length), 0 ≤ l[i] ∧ l[i] < 64) (hw : way.length ≤ 12) (hp : placeB l C p = true)
include hlR hR hC hb hw hp
theorem impl_l0 : ∀ (d i : Nat) (out : List Int), i + 2 * d = way.length → out.length = R → Ev (fun k => impl_FollowWay.l0 k p way (way.length : Int) out i R C l) (folL R (fin l C p) (way.drop i) out)
  | 0, i, out, hi, ho => by
    have e : folL R (fin l C p) (way.drop i) out = fin l C p out := by rw [List.drop_eq_nil_of_le (by omega)]; rfl
    rw [e]
    refine Ev.step (f := fun k => (impl_Board_isPlacement.f k R C l out).bind fun t => if t = true then (impl_rooks.f k out).bind fun t1 => (impl_rooks.f k p).bind fun t2 => if t1 ≤ t2 then some (([] : List Int), false) else some (out, true) else some (([] : List Int), false)) (fun k => ?_) ?_
    · rw [impl_FollowWay.l0, if_neg (by omega)]
    · have hp2 := placeB_ge hp
      refine Ev.bind (isPlacement hlR hR hC hb out) ?_
      unfold fin
      by_cases c1 : placeB l C out = true
      · refine Ev.congr (fun k => by rw [if_pos c1]) ?_
        refine Ev.bind (rooks (by omega)) (Ev.bind (rooks (by omega)) ?_)
        rw [c1, Bool.true_and]
        by_cases c2 : rk p < rk out
        · rw [if_pos (show decide (rk p < rk out) = true from decide_eq_true c2)]
          exact Ev.congr (fun k => if_neg (by omega)) (Ev.now _)
        · rw [if_neg (show ¬ (decide (rk p < rk out) = true) by simpa using c2)]
          exact Ev.congr (fun k => if_pos (by omega)) (Ev.now _)
      · rw [show placeB l C out = false by simpa using c1, Bool.false_and, if_neg (by simp)]
        exact Ev.congr (fun k => if_neg (by simp)) (Ev.now _)
  | d + 1, i, out, hi, ho => by
    have w1 : wrap64 ((i : Int) + 1) = ((i + 1 : Nat) : Int) := by rw [w64 (by omega) (by omega)]; rfl
    have w2 : wrap64 ((i : Int) + 2) = ((i + 2 : Nat) : Int) := by rw [w64 (by omega) (by omega)]; rfl
    have hi2 : i < way.length := by omega
    have hi3 : i + 1 < way.length := by omega
    have w3 : wrap64 ((R : Int) - 1) = (R : Int) - 1 := w64 (by omega) (by omega)
    rw [List.drop_eq_getElem_cons hi2, List.drop_eq_getElem_cons hi3, folL]
    by_cases c1 : inR 0 ((R : Int) - 1) way[i] = true
    · have c2 : 0 ≤ way[i] ∧ way[i] ≤ (R : Int) - 1 := of_decide_eq_true c1
      rw [if_pos c1]
      refine Ev.step (fun k => ?_) (impl_l0 d (i + 2) (out.set way[i].toNat way[i + 1]) (by omega) (by rw [List.length_set]; exact ho))
      rw [impl_FollowWay.l0, if_pos (by omega), if_pos (by omega), if_pos (by omega), rd_lt _ _ hi2, w3, withinR, Option.bind_some, if_pos c1, w1, if_pos (by omega), if_pos (by omega), if_pos c2.1, if_pos (by omega), rd_lt _ _ hi3, w2]
    · rw [if_neg c1]
      refine Ev.step (f := fun _ => some ([], false)) (fun k => ?_) (Ev.now _)
      rw [impl_FollowWay.l0, if_pos (by omega), if_pos (by omega), if_pos (by omega), rd_lt _ _ hi2, w3, withinR, Option.bind_some, if_neg c1]
theorem spec_l0 : ∀ (d i : Nat) (out : List Int), i + 2 * d = way.length → out.length = R → Ev (fun k => spec_FollowWay.l0 k p way out i R C l) (folL R (fin l C p) (way.drop i) out)
  | 0, i, out, hi, ho => by
    have e : folL R (fin l C p) (way.drop i) out = fin l C p out := by rw [List.drop_eq_nil_of_le (by omega)]; rfl
    rw [e]
    refine Ev.step (f := fun k => (spec_lcGood.f k R C l out).bind fun t => if t = true then (spec_lcSize.f k out).bind fun t1 => (spec_lcSize.f k p).bind fun t2 => if t1 ≤ t2 then some (([] : List Int), false) else some (out, true) else some (([] : List Int), false)) (fun k => ?_) ?_
    · rw [spec_FollowWay.l0, if_neg (by omega)]
    · have hp2 := placeB_ge hp
      refine Ev.bind (lcGood hlR hR hC hb out) ?_
      unfold fin
      by_cases c1 : placeB l C out = true
      · have ho2 := placeB_ge c1
        refine Ev.congr (fun k => by rw [if_pos c1]) ?_
        refine Ev.bind (lcSize (by omega) (fun x hx => (ho2.2 x hx).1)) (Ev.bind (lcSize (by omega) (fun x hx => (hp2.2 x hx).1)) ?_)
        rw [c1, Bool.true_and]
        by_cases c2 : rk p < rk out
        · rw [if_pos (show decide (rk p < rk out) = true from decide_eq_true c2)]
          exact Ev.congr (fun k => if_neg (by omega)) (Ev.now _)
        · rw [if_neg (show ¬ (decide (rk p < rk out) = true) by simpa using c2)]
          exact Ev.congr (fun k => if_pos (by omega)) (Ev.now _)
      · rw [show placeB l C out = false by simpa using c1, Bool.false_and, if_neg (by simp)]
        exact Ev.congr (fun k => if_neg (by simp)) (Ev.now _)
  | d + 1, i, out, hi, ho => by
    have w1 : wrap64 ((i : Int) + 1) = ((i + 1 : Nat) : Int) := by rw [w64 (by omega) (by omega)]; rfl
    have w2 : wrap64 ((i : Int) + 2) = ((i + 2 : Nat) : Int) := by rw [w64 (by omega) (by omega)]; rfl
    have hi2 : i < way.length := by omega
    have hi3 : i + 1 < way.length := by omega
    have w3 : wrap64 ((R : Int) - 1) = (R : Int) - 1 := w64 (by omega) (by omega)
    rw [List.drop_eq_getElem_cons hi2, List.drop_eq_getElem_cons hi3, folL]
    by_cases c1 : inR 0 ((R : Int) - 1) way[i] = true
    · have c2 : 0 ≤ way[i] ∧ way[i] ≤ (R : Int) - 1 := of_decide_eq_true c1
      rw [if_pos c1]
      refine Ev.step (fun k => ?_) (spec_l0 d (i + 2) (out.set way[i].toNat way[i + 1]) (by omega) (by rw [List.length_set]; exact ho))
      rw [spec_FollowWay.l0, if_pos (by omega), if_pos (by omega), rd_lt _ _ hi2, w3, l1In_f, Option.bind_some, if_pos c1, w1, if_pos (by omega), if_pos (by omega), if_pos c2.1, if_pos (by omega), rd_lt _ _ hi3, w2]
    · rw [if_neg c1]
      refine Ev.step (f := fun _ => some ([], false)) (fun k => ?_) (Ev.now _)
      rw [spec_FollowWay.l0, if_pos (by omega), if_pos (by omega), rd_lt _ _ hi2, w3, l1In_f, Option.bind_some, if_neg c1]
end
theorem impl_answer {r c : Int} {l p way : List Int} (hw : way.length ≤ 1048576) : Ev (fun k => impl_FollowWay.f k r c l p way) (ans r c l p way) := by
  unfold impl_FollowWay.f ans
  refine Ev.congr (fun k => by rw [impl_IsBoard.f, Option.bind_some]) ?_
  have no : ∀ (R C : Int), Ev (fun k => impl_FollowWay.j0 k p way (way.length : Int) true R C l) ([], false) := fun R C => Ev.step (f := fun _ => some ([], false)) (fun k => by rw [impl_FollowWay.j0, if_pos rfl]) (Ev.now _)
  by_cases hb : isBoardB r c l = true
  · obtain ⟨R, C, rfl, rfl, hlR, h1R, hR, h1C, hC, hbits⟩ := board_of hb
    have hb6 : ∀ i (hi : i < l.length), 0 ≤ l[i] ∧ l[i] < 64 := fun i hi => by have := hbits i hi; have := two_pow_six hC; omega
    refine Ev.congr (fun k => by rw [if_pos hb]) ?_
    rw [hb, Bool.true_and, Int.toNat_natCast, Int.toNat_natCast]
    refine Ev.bind (isPlacement hlR hR hC hb6 p) ?_
    by_cases hp : placeB l C p = true
    · refine Ev.congr (fun k => by rw [if_pos hp]) ?_
      rw [hp, Bool.true_and]
      by_cases h2 : way.length % 2 = 0
      · refine Ev.congr (fun k => by rw [if_pos (by omega), withinR, Option.bind_some]) ?_
        by_cases h3 : 2 ≤ way.length ∧ way.length ≤ 12
        · rw [if_pos (decide_eq_true ⟨h2, h3⟩), show inR 2 12 (way.length : Int) = true from decide_eq_true (by omega)]
          have hpl := (placeB_ge hp).1
          refine Ev.step (fun k => by rw [impl_FollowWay.j0, if_neg (by simp), slices_Clone_int_int.f, if_pos (by omega), Option.bind_some]) ?_
          have := impl_l0 hlR hR hC hb6 h3.2 hp (way.length / 2) 0 p (by omega) (by omega)
          rw [List.drop_zero] at this
          exact this
        · rw [if_neg (by simp [h2]; omega), show inR 2 12 (way.length : Int) = false from decide_eq_false (by omega)]
          exact no _ _
      · rw [if_neg (by simp [h2])]
        refine Ev.congr (fun k => by rw [if_neg (by omega)]) ?_
        exact no _ _
    · rw [show placeB l C p = false by simpa using hp, Bool.false_and, if_neg (by simp)]
      exact Ev.congr (fun k => if_neg (by simp)) (no _ _)
  · rw [show isBoardB r c l = false by simpa using hb, Bool.false_and, if_neg (by simp)]
    exact Ev.congr (fun k => if_neg (by simp)) (no _ _)
theorem spec_answer {r c : Int} {l p way : List Int} (hl : l.length ≤ 1048576) (hw : way.length ≤ 1048576) : Ev (fun k => spec_FollowWay.f k r c l p way) (ans r c l p way) := by
  unfold spec_FollowWay.f ans
  refine Ev.bind (boGood r c (by omega)) ?_
  have no : ∀ (R C : Int), Ev (fun k => spec_FollowWay.j0 k p way true R C l) ([], false) := fun R C => Ev.step (f := fun _ => some ([], false)) (fun k => by rw [spec_FollowWay.j0, if_pos rfl]) (Ev.now _)
  by_cases hb : isBoardB r c l = true
  · obtain ⟨R, C, rfl, rfl, hlR, h1R, hR, h1C, hC, hbits⟩ := board_of hb
    have hb6 : ∀ i (hi : i < l.length), 0 ≤ l[i] ∧ l[i] < 64 := fun i hi => by have := hbits i hi; have := two_pow_six hC; omega
    refine Ev.congr (fun k => by rw [if_pos hb]) ?_
    rw [hb, Bool.true_and, Int.toNat_natCast, Int.toNat_natCast]
    refine Ev.bind (lcGood hlR hR hC hb6 p) ?_
    by_cases hp : placeB l C p = true
    · refine Ev.congr (fun k => by rw [if_pos hp]) ?_
      rw [hp, Bool.true_and]
      by_cases h2 : way.length % 2 = 0
      · refine Ev.congr (fun k => by rw [if_neg (by omega), l1In_f, Option.bind_some]) ?_
        by_cases h3 : 2 ≤ way.length ∧ way.length ≤ 12
        · rw [if_pos (decide_eq_true ⟨h2, h3⟩), show inR 2 12 (way.length : Int) = true from decide_eq_true (by omega)]
          have hpl := (placeB_ge hp).1
          refine Ev.step (fun k => by rw [spec_FollowWay.j0, if_neg (by simp), spec_l1Own.f, Option.bind_some, if_pos (by simp; omega), Option.bind_some, List.nil_append]) ?_
          have := spec_l0 hlR hR hC hb6 h3.2 hp (way.length / 2) 0 p (by omega) (by omega)
          rw [List.drop_zero] at this
          exact this
        · rw [if_neg (by simp [h2]; omega), show inR 2 12 (way.length : Int) = false from decide_eq_false (by omega)]
          exact no _ _
      · rw [if_neg (by simp [h2])]
        refine Ev.congr (fun k => by rw [if_pos (by omega)]) ?_
        exact no _ _
    · rw [show placeB l C p = false by simpa using hp, Bool.false_and, if_neg (by simp)]
      exact Ev.congr (fun k => if_neg (by simp)) (no _ _)
  · rw [show isBoardB r c l = false by simpa using hb, Bool.false_and, if_neg (by simp)]
    exact Ev.congr (fun k => if_neg (by simp)) (no _ _)
theorem folL_len (R : Nat) (l : List Int) (C : Nat) (p : List Int) (n : Nat) : ∀ (m : Nat) (w out : List Int), w.length ≤ m → out.length ≤ n → (folL R (fin l C p) w out).1.length ≤ n
  | 0, [], out, _, h => by
    show (fin l C p out).1.length ≤ n
    unfold fin; split
    · exact h
    · exact Nat.zero_le _
  | m + 1, [], out, _, h => by
    show (fin l C p out).1.length ≤ n
    unfold fin; split
    · exact h
    · exact Nat.zero_le _
  | m + 1, [_], out, _, h => by
    show (fin l C p out).1.length ≤ n
    unfold fin; split
    · exact h
    · exact Nat.zero_le _
  | m + 1, a :: b :: t, out, hm, h => by
    rw [folL]; split
    · exact folL_len R l C p n m t _ (by simp at hm; omega) (by rw [List.length_set]; exact h)
    · exact Nat.zero_le _
theorem ans_len (r c : Int) (l p way : List Int) (hp : p.length ≤ 1048576) : (ans r c l p way).1.length ≤ 1048576 := by
  unfold ans
  split
  · exact folL_len _ l _ p _ way.length way p (Nat.le_refl _) hp
  · exact Nat.zero_le _
end FollowK
end Go.Proofs.Ytgnmcfoenmfhcaa.Pure
end
section
namespace Go.Proofs.Ytgnmcfoenmfhcaa.MostK
set_option linter.unusedVariables false
open Go.RowKit Go.Proofs.Ytgnmcfoenmfhcaa.Q Go.Proofs.YtgnmcfoenmfhcaaW.PrintWords Go.Proofs.YtgnmcfoenmfhcaaW.PrintLast Go.Proofs.YtgnmcfoenmfhcaaW.PrintMore
open Go.Proofs.YtgnmcfoenmfhcaaL Go.Proofs.Ytgnmcfoenmfhcaa.LawK Go.Proofs.Ytgnmcfoenmfhcaa.BoardK Go.Proofs.Ytgnmcfoenmfhcaa.LinesK Go.Proofs.Ytgnmcfoenmfhcaa.Walk Go.Proofs.Ytgnmcfoenmfhcaa.NumK
theorem nums_fold (m : Nat) : ∀ (vis : List (List Int)) (out : List Int) (f : Nat → Nat), out.length = m → (∀ n, n < m → out[n]? = some ((f n : Nat) : Int)) → (∀ p ∈ vis, rooksN p < m) → (∀ n, f n + vis.length ≤ 4611686018427387904) →
    (vis.foldl (fun o p => o.set ((rooksN p : Nat) : Int).toNat (IntKind.i64.wrap (rdOf 0 o ((rooksN p : Nat) : Int) + 1))) out).length = m ∧ ∀ n, n < m → (vis.foldl (fun o p => o.set ((rooksN p : Nat) : Int).toNat (IntKind.i64.wrap (rdOf 0 o ((rooksN p : Nat) : Int) + 1))) out)[n]? = some ((f n + vis.countP (fun p => rooksN p == n) : Nat) : Int)
  | [], out, f, h1, h2, _, _ => ⟨h1, fun n hn => by rw [List.foldl_nil, h2 n hn]; simp⟩
  | p :: t, out, f, h1, h2, h3, h4 => by
    have hp := h3 p (by simp)
    have e : rdOf 0 out ((rooksN p : Nat) : Int) = ((f (rooksN p) : Nat) : Int) := by
      unfold rdOf
      rw [Int.toNat_natCast, List.getD_eq_getElem?_getD, h2 _ hp]
      rfl
    have h5 := h4 (rooksN p)
    rw [List.length_cons] at h5
    have ew : IntKind.i64.wrap (((f (rooksN p) : Nat) : Int) + 1) = ((f (rooksN p) + 1 : Nat) : Int) := by rw [wrap_i64', w64 (by omega) (by omega)]; rfl
    rw [List.foldl_cons, e, ew, Int.toNat_natCast]
    obtain ⟨g1, g2⟩ := nums_fold m t (out.set (rooksN p) ((f (rooksN p) + 1 : Nat) : Int)) (fun n => f n + if rooksN p = n then 1 else 0) (by rw [List.length_set]; exact h1) (fun n hn => by
      rw [List.getElem?_set]
      by_cases c : rooksN p = n
      · subst c
        rw [if_pos rfl, if_pos (by omega), if_pos rfl]
      · rw [if_neg c, if_neg c, h2 n hn]; rfl) (fun q hq => h3 q (by simp [hq])) (fun n => by
      have := h4 n
      rw [List.length_cons] at this
      split <;> omega)
    refine ⟨g1, fun n hn => ?_⟩
    rw [g2 n hn, List.countP_cons]
    congr 2
    by_cases c : rooksN p = n
    · rw [if_pos c, if_pos (by simpa using c)]; omega
    · rw [if_neg c, if_neg (by simpa using c)]; omega
theorem nums_get {m : Nat} {vis : List (List Int)} (h3 : ∀ p ∈ vis, rooksN p < m) (h4 : vis.length ≤ 4611686018427387904) : (numsF m vis).length = m ∧ ∀ n, n < m → (numsF m vis)[n]? = some ((vis.countP (fun p => rooksN p == n) : Nat) : Int) := by
  have h := nums_fold m vis (List.replicate m 0) (fun _ => 0) (by simp) (fun n hn => by rw [List.getElem?_replicate, if_pos hn]; rfl) h3 (fun n => by omega)
  simp only [Nat.zero_add] at h
  exact h
theorem trimmed {j : Nat} : ∀ (d : Nat) (xs : List Int), xs.length = j + 1 + d → xs.length ≤ 1048576 → (∀ (h : j < xs.length), xs[j] ≠ 0) → (∀ n (h : n < xs.length), j < n → xs[n] = 0) → Ev (fun k => impl_trimmed.l0 k xs) (xs.take (j + 1))
  | 0, xs, hl, h6, h1, h2 => by
    have w1 := Aside0.mk (show wrap64 ((xs.length : Int) - 1) = ((j : Nat) : Int) from by rw [w64 (by omega) (by omega)]; omega)
    refine Ev.step (f := fun _ => some xs) (fun k => ?_) (evEq (Ev.now _) (by rw [List.take_of_length_le (by omega)]))
    rw [impl_trimmed.l0, if_pos (by omega), w1.out, if_pos (by omega), if_pos (by omega), rd_lt _ _ (show j < xs.length by omega), if_neg (h1 (by omega))]
  | d + 1, xs, hl, h6, h1, h2 => by
    have w1 := Aside0.mk (show wrap64 ((xs.length : Int) - 1) = ((j + 1 + d : Nat) : Int) from by rw [w64 (by omega) (by omega)]; omega)
    have hlen : (xs.take (j + 1 + d)).length = j + 1 + d := by rw [List.length_take]; omega
    have ih := trimmed d (xs.take (j + 1 + d)) hlen (by omega) (fun h => by rw [List.getElem_take]; exact h1 (by omega)) (fun n h hj => by rw [List.getElem_take]; exact h2 n (by omega) hj)
    rw [List.take_take, Nat.min_eq_left (by omega)] at ih
    refine Ev.step (fun k => ?_) ih
    rw [impl_trimmed.l0, if_pos (by omega), w1.out, if_pos (by omega), if_pos (by omega), rd_lt _ _ (show j + 1 + d < xs.length by omega), if_pos (h2 _ _ (by omega)), if_pos (by omega), Int.toNat_natCast]
theorem most {l : List Int} {R C : Nat} (hb : isBoardB R C l = true) : Ev (fun k => impl_Board_most.f k R C l) ((mostN l C R 0 0 : Nat) : Int) := by
  obtain ⟨R', C', e1, e2, hlR, h1R, hR, h1C, hC, hbits⟩ := board_of hb
  have e1 : R' = R := by omega
  have e2 : C' = C := by omega
  subst e1 e2
  obtain ⟨M, hM⟩ : ∃ M, M = mostN l C' R' 0 0 := ⟨_, rfl⟩
  have hmr := mostN_le l C' R' 0 0
  have hmc := most_cols hlR hR hC hbits
  obtain ⟨m, hm⟩ : ∃ m, m = (min (R' : Int) (C' : Int) + 1).toNat := ⟨_, rfl⟩
  obtain ⟨vis, hvis⟩ : ∃ vis, vis = waysFrom l C' R' 0 0 [] := ⟨_, rfl⟩
  have hlt : ∀ p ∈ vis, rooksN p < m := fun p hp => by
    rw [hvis] at hp
    have := ways_le hlR hR hC hbits p hp
    omega
  have hvl : vis.length ≤ 4611686018427387904 := by
    have h1 := ways_len l C' R' 0 0 []
    rw [← hvis] at h1
    have h2 : (C' + 1) ^ R' ≤ 7 ^ 6 := Nat.le_trans (Nat.pow_le_pow_left (by omega) _) (Nat.pow_le_pow_right (by decide) hR)
    have h3 : (7 : Nat) ^ 6 = 117649 := by decide
    omega
  obtain ⟨hnl, hng⟩ := nums_get hlt hvl
  obtain ⟨hup, q, hq, hqe⟩ := ways_most l C' R' 0 0 []
  rw [← hvis] at hup hq
  have h0 : rooksN [] = 0 := rfl
  unfold impl_Board_most.f
  refine Ev.congr (fun k => by rw [impl_Board_numbers.f, if_pos hb, Option.bind_some, Int.toNat_natCast, hlR, ← hm, ← hvis]) ?_
  have hMm : M < m := by omega
  have htr := trimmed (j := M) (m - (M + 1)) (numsF m vis) (by omega) (by omega) (fun h => by
    have h2 := hng M hMm
    rw [List.getElem?_eq_getElem h] at h2
    rw [Option.some.inj h2]
    have : 0 < vis.countP (fun p => rooksN p == M) := List.countP_pos_iff.2 ⟨q, hq, by simp; omega⟩
    omega) (fun n h hj => by
    have h2 := hng n (by omega)
    rw [List.getElem?_eq_getElem h] at h2
    rw [Option.some.inj h2]
    have : vis.countP (fun p => rooksN p == n) = 0 := by
      rw [List.countP_eq_zero]
      intro p hp
      have := hup p hp
      simp
      omega
    omega)
  refine Ev.bind (show Ev (fun k => impl_trimmed.f k (numsF m vis)) _ from htr) ?_
  refine evEq (Ev.now (wrap64 ((((numsF m vis).take (M + 1)).length : Int) - 1))) ?_
  rw [List.length_take, hnl, Nat.min_eq_left (by omega), w64 (by omega) (by omega), ← hM]
  omega
end Go.Proofs.Ytgnmcfoenmfhcaa.MostK
end
