/- Texts of this claim put together (8): words, what the functions compute, and plain facts. No conditions. -/
import Derived.Test.YtiopnmgcajohfaaSFnHitsAndRooks4
import Derived.Test.YtiopnmgcajohfaaSFnHitsAndRooks6
import Derived.Test.YtiopnmgcajohfaaSFnHitsAndRooks7
import Derived.Test.YtiopnmgcajohfaaSFnHitsAndRooks5
import Derived.Deep.QuietTactic
import Derived.BigQuiet
import Derived.Outline
import Derived.Laws.Cover3
import Derived.Lib.Hide
import Derived.Deep.RegionWith
import Derived.Deep.RegionLaw
import Derived.Test.YtiopnmgcajohfaaSFnHitsAndRooks0
section
namespace Go.Proofs.Ytiopnmgcajohfaa.Q
open Go.RowKit Go.Proofs.YtiopnmgcajohfaaW.PrintWords Go.Proofs.YtiopnmgcajohfaaW.PrintLast Go.Proofs.YtiopnmgcajohfaaW.PrintMore
attribute [local go_sem] max2_int min2_int max_two min_two max_three min_three max_four min_four   -- for this text's walks alone
set_option linter.unusedVariables false
set_option linter.unusedSimpArgs false
def spec_l1Cur_square4.f (k:Nat) (s0_0:List Int) (s0_1:Int) (s0_2:Int):Option (Int × Int × List Int × Int × Int):=(spec_l1Cur_one.f s0_0 s0_1 s0_2 10).bind fun bt102=>(if bt102.1=true then ((spec_l1Cur_board.f k s0_0 bt102.2.1 bt102.2.2).bind fun bt105=>(some (bt105.1,bt105.2.1,bt105.2.2.1,bt105.2.2.2.1,bt105.2.2.2.2))) else ((spec_l1Cur_pick.f s0_0 bt102.2.1 bt102.2.2 5).bind fun bt112=>((spec_l1Cur_boardOf.f k s0_0 bt112.2.1 bt112.2.2 (wrap64 (1 + bt112.1)) (wrap64 (1 + bt112.1))).bind fun bt115=>(some (bt115.1,bt115.2.1,bt115.2.2.1,bt115.2.2.2.1,bt115.2.2.2.2)))))
set_option maxHeartbeats 8000000 in
set_option maxRecDepth 100000 in
theorem spec_l1Cur_square4.calls (k:Nat) (g:Nat) (s0_0:List Int) (s0_1:Int) (s0_2:Int) (r1:Int) (r2:Int) (r3:List Int) (r4:Int) (r5:Int) (w0 w:World) (hI:IsS88 w0 w g s0_0 s0_1 s0_2) (hB:Below w0.heap.size w0 w) (h:spec_l1Cur_square4.f k s0_0 s0_1 s0_2=some (r1,r2,r3,r4,r5)) :
  Calls Try.prog 97 #[.pointer (some ⟨g,0,none⟩)] w fun e w'=>∃ v2_:Value,e=.returned (.agg #[.int .i64 r1,.int .i64 r2,v2_])∧Kd.R (Kd.int .i64) 3 w' w.heap.size (fun _=>True) v2_ r3∧IsS88 w0 w' g s0_0 r4 r5∧Below w0.heap.size w0 w'∧KeepBut w w' g none:=by
 have hu43:=Try.underlying43;have HI0:=za hI;have HK:=za (KeepBut.refl w g none);have HL:=za hB.size;clear hI;have HW0:=za hB.size;have HB:=za hB;clear hB;have H:((spec_l1Cur_one.f s0_0 s0_1 s0_2 10).bind fun bt102=>(if bt102.1=true then ((spec_l1Cur_board.f k s0_0 bt102.2.1 bt102.2.2).bind fun bt105=>(some (bt105.1,bt105.2.1,bt105.2.2.1,bt105.2.2.2.1,bt105.2.2.2.2))) else ((spec_l1Cur_pick.f s0_0 bt102.2.1 bt102.2.2 5).bind fun bt112=>((spec_l1Cur_boardOf.f k s0_0 bt112.2.1 bt112.2.2 (wrap64 (1 + bt112.1)) (wrap64 (1 + bt112.1))).bind fun bt115=>(some (bt115.1,bt115.2.1,bt115.2.2.1,bt115.2.2.2.1,bt115.2.2.2.2))))))=some (r1,r2,r3,r4,r5):=h;clear h;obtain ⟨⟨t102,t103,t104⟩,A2,H⟩:=bindAside H;(try dsimp only at H);by_cases c3:t102=true
 · subst c3;(have H1:((spec_l1Cur_board.f k s0_0 t103 t104).bind fun bt105=>(some (bt105.1,bt105.2.1,bt105.2.2.1,bt105.2.2.2.1,bt105.2.2.2.2)))=some (r1,r2,r3,r4,r5):=by rw [if_pos rfl] at H;exact H);clear H;have H:=H1;clear H1;obtain ⟨⟨t105,t106,t107,t110,t111⟩,A4,H⟩:=bindAside H;(try dsimp only at H);simp only [Option.some.injEq,Prod.mk.injEq] at H;obtain ⟨rfl,rfl,rfl,rfl,rfl⟩:=H;(go_enter Try.func97,Try.ntmps97);(go_wp2_with (first|((with_reducible refine zA (N:=2) rfl ?_);refine zF ?hg (N:=2) ?hd (cs:=#[.int .i64 0,.int .i64 0,.slice none 0 0]) (t:=43) ?hr ?_;(case hd=>rfl);(case hg=>rfl);(case hr=>first|(go_simp;done)|(go_simp;rfl));intro gb101 hg w5 hbox hb;replace HB:=za (zp (by repeat (first|(with_reducible first|exact HB.out|apply zc|apply zd|apply zb|refine ze ?_ (IsS88.ge HI0.out))|exact HB.out)) hb);have BK101:=za (hbox);have GW101:=za ((by rw [hg];exact (keep_size (w:=w) (g:=g) (row:=none) (by repeat (first|(with_reducible first|exact HK.out|apply zv|apply zw|apply zt|apply zx)|exact HK.out))):w.heap.size≤gb101));have GE101:=za ((Nat.le_trans HW0.out (by rw [hg];exact (keep_size (w:=w) (g:=g) (row:=none) (by repeat (first|(with_reducible first|exact HK.out|apply zv|apply zw|apply zt|apply zx)|exact HK.out))):w.heap.size≤gb101):w0.heap.size≤gb101));replace HK:=za (zK (by repeat (first|(with_reducible first|exact HK.out|apply zv|apply zw|apply zt|apply zx)|exact HK.out)) (KeepBut.of_below hb g none) (.inl rfl));have NB0_101:=za ((by rw [hg];exact Nat.ne_of_lt (IsS88.lt (show IsS88 w0 _ g s0_0 s0_1 s0_2 from by repeat (first|(with_reducible first|exact HI0.out|apply IsS88.alloc|apply IsS88.drewN|apply IsS88.drew|apply IsS88.set_1|apply IsS88.set_2)|exact HI0.out))):g ≠ gb101));have NB101_0:=za ((by rw [hg];exact Nat.ne_of_gt (IsS88.lt (show IsS88 w0 _ g s0_0 s0_1 s0_2 from by repeat (first|(with_reducible first|exact HI0.out|apply IsS88.alloc|apply IsS88.drewN|apply IsS88.drew|apply IsS88.set_1|apply IsS88.set_2)|exact HI0.out))):gb101 ≠ g));replace HI0:=za (IsS88.below (by repeat (first|(with_reducible first|exact HI0.out|apply IsS88.alloc|apply IsS88.drewN|apply IsS88.drew|apply IsS88.set_1|apply IsS88.set_2)|exact HI0.out)) hb);clear hb hbox hg)|((with_reducible refine zq (f:=125) rfl ?_);refine zr (some 5) rfl rfl Try.func125 (by kernel_rfl) rfl #[.pointer (some ⟨g,0,none⟩),.int .i64 10] rfl (by first|rfl|simp only [z3_,z4_,z5_];try rfl) ?_;(with_reducible refine (spec_l1Cur_one.calls g s0_0 s0_1 s0_2 10 true t103 t104 w0 _ ?side1 ?side2 A2.out).mono ?_);(case side1=>repeat (first|(with_reducible first|exact HI0.out|apply IsS88.alloc|apply IsS88.drewN|apply IsS88.drew|apply IsS88.set_1|apply IsS88.set_2|refine IsS88.far ?_ NB0_101.out _)|exact HI0.out));(case side2=>repeat (first|(with_reducible first|exact HB.out|apply zc|apply zd|apply zb|refine ze ?_ (IsS88.ge HI0.out)|refine ze ?_ GE101.out)|exact HB.out));rintro e w6 ⟨rfl,hi,hb,hk⟩;refine ⟨_,rfl,?_⟩;replace BK101:=za (zN hk (g':=gb101) (o:=.cells #[.int .i64 0,.int .i64 0,.slice none 0 0] 43 (0,0)) (by apply_rules only [BK101.out,zh,zf,zi]) NB101_0.out (by simp));replace HK:=za (zK (by repeat (first|(with_reducible first|exact HK.out|apply zv|apply zw|apply zt|apply zx|refine zy ?_ GW101.out _)|exact HK.out)) hk (.inl rfl));replace HB:=za (hb);replace HI0:=za (hi))|((with_reducible refine zq (f:=142) rfl ?_);refine zr (some 7) rfl rfl Try.func142 (by kernel_rfl) rfl #[.pointer (some ⟨g,0,none⟩)] rfl (by first|rfl|simp only [z3_,z4_,z5_];try rfl) ?_;(with_reducible refine (spec_l1Cur_board.calls k g s0_0 t103 t104 t105 t106 t107 t110 t111 w0 _ ?side1 ?side2 A4.out).mono ?_);(case side1=>repeat (first|(with_reducible first|exact HI0.out|apply IsS88.alloc|apply IsS88.drewN|apply IsS88.drew|apply IsS88.set_1|apply IsS88.set_2|refine IsS88.far ?_ NB0_101.out _)|exact HI0.out));(case side2=>repeat (first|(with_reducible first|exact HB.out|apply zc|apply zd|apply zb|refine ze ?_ (IsS88.ge HI0.out)|refine ze ?_ GE101.out)|exact HB.out));rintro e w7 ⟨v108,rfl,ho0,hi,hb,hk⟩;refine ⟨_,rfl,?_⟩;replace BK101:=za (zN hk (g':=gb101) (o:=.cells #[.int .i64 0,.int .i64 0,.slice none 0 0] 43 (0,0)) (by apply_rules only [BK101.out,zh,zf,zi]) NB101_0.out (by simp));have HO109:=za (zL ho0 (keep_size (w:=w) (g:=g) (row:=none) (by repeat (first|(with_reducible first|exact HK.out|apply zv|apply zw|apply zt|apply zx|refine zy ?_ GW101.out _)|exact HK.out))));replace HK:=za (zK (by repeat (first|(with_reducible first|exact HK.out|apply zv|apply zw|apply zt|apply zx|refine zy ?_ GW101.out _)|exact HK.out)) hk (.inl rfl));replace HB:=za (hb);replace HI0:=za (hi);have hnb8:=NB101_0.out;have hnc8:=NB0_101.out;have hcz9_0:w7.cell? ⟨gb101,0,none⟩=some (.int .i64 0):=(zg BK101.out 0).trans rfl;have hcz9_1:w7.cell? ⟨gb101,1,none⟩=some (.int .i64 0):=(zg BK101.out 1).trans rfl;have hcz9_2:w7.cell? ⟨gb101,2,none⟩=some (.slice none 0 0):=(zg BK101.out 2).trans rfl;have hfz9_0:=zm BK101.out 0;have hfz9_1:=zm BK101.out 1;have hfz9_2:=zm BK101.out 2;obtain ⟨Ao10,co10,eo10⟩:=Kd.R_slice HO109.out;subst eo10)));refine bodyPost_ret (results_cell_row rfl _ _ gb101 43 #[.int .i64 t105,.int .i64 t106,.slice Ao10 t107.length co10] (0,0) _ rfl (by (with_reducible repeat (first|refine zh ?_ _|refine zf ?_|refine zi ?_ _));refine zz (cs:=#[.int .i64 t105,.int .i64 t106,.slice none 0 0]) ?_ 2 _ rfl;(with_reducible repeat (first|refine zh ?_ _|refine zf ?_|refine zi ?_ _));refine zz (cs:=#[.int .i64 t105,.int .i64 0,.slice none 0 0]) ?_ 1 _ rfl;(with_reducible repeat (first|refine zh ?_ _|refine zf ?_|refine zi ?_ _));refine zz (cs:=#[.int .i64 0,.int .i64 0,.slice none 0 0]) ?_ 0 _ rfl;(with_reducible repeat (first|refine zh ?_ _|refine zf ?_|refine zi ?_ _));exact BK101.out) Try.underlying43 rfl (by kernel_rfl)) rfl ?_;exact ⟨_,by first|rfl|simp [*,errW_none,errW_some] <;> rfl,by (with_reducible repeat (first|apply zk|apply zl|apply zj));exact zs (zn (p:=⟨gb101,2,none⟩) (zn (p:=⟨gb101,1,none⟩) (zn (p:=⟨gb101,0,none⟩) (zM HO109.out BK101.out (by decide)) (fun _ hk=>hk.2) (.int .i64 t105)) (fun _ hk=>hk.2) (.int .i64 t106)) (fun _ hk=>hk.2) (.slice Ao10 t107.length co10)) (fun _ hk=>trivial),by repeat (first|(with_reducible first|exact HI0.out|apply IsS88.alloc|apply IsS88.drewN|apply IsS88.drew|apply IsS88.set_1|apply IsS88.set_2|refine IsS88.far ?_ NB0_101.out _)|exact HI0.out),by repeat (first|(with_reducible first|exact HB.out|apply zc|apply zd|apply zb|refine ze ?_ (IsS88.ge HI0.out)|refine ze ?_ GE101.out)|exact HB.out),by repeat (first|(with_reducible first|exact HK.out|apply zv|apply zw|apply zt|apply zx|refine zy ?_ GW101.out _)|exact HK.out)⟩
 · replace c3:=Bool.eq_false_iff.mpr c3;subst c3;(have H1:((spec_l1Cur_pick.f s0_0 t103 t104 5).bind fun bt112=>((spec_l1Cur_boardOf.f k s0_0 bt112.2.1 bt112.2.2 (wrap64 (1 + bt112.1)) (wrap64 (1 + bt112.1))).bind fun bt115=>(some (bt115.1,bt115.2.1,bt115.2.2.1,bt115.2.2.2.1,bt115.2.2.2.2))))=some (r1,r2,r3,r4,r5):=by rw [if_neg (show ¬ (false=true) by decide)] at H;exact H);clear H;have H:=H1;clear H1;obtain ⟨⟨t112,t113,t114⟩,A11,H⟩:=bindAside H;(try dsimp only at H);obtain ⟨⟨t115,t116,t117,t120,t121⟩,A12,H⟩:=bindAside H;(try dsimp only at H);simp only [Option.some.injEq,Prod.mk.injEq] at H;obtain ⟨rfl,rfl,rfl,rfl,rfl⟩:=H;(go_enter Try.func97,Try.ntmps97);(go_wp2_with (first|((with_reducible refine zA (N:=2) rfl ?_);refine zF ?hg (N:=2) ?hd (cs:=#[.int .i64 0,.int .i64 0,.slice none 0 0]) (t:=43) ?hr ?_;(case hd=>rfl);(case hg=>rfl);(case hr=>first|(go_simp;done)|(go_simp;rfl));intro gb101 hg w13 hbox hb;replace HB:=za (zp (by repeat (first|(with_reducible first|exact HB.out|apply zc|apply zd|apply zb|refine ze ?_ (IsS88.ge HI0.out))|exact HB.out)) hb);have BK101:=za (hbox);have GW101:=za ((by rw [hg];exact (keep_size (w:=w) (g:=g) (row:=none) (by repeat (first|(with_reducible first|exact HK.out|apply zv|apply zw|apply zt|apply zx)|exact HK.out))):w.heap.size≤gb101));have GE101:=za ((Nat.le_trans HW0.out (by rw [hg];exact (keep_size (w:=w) (g:=g) (row:=none) (by repeat (first|(with_reducible first|exact HK.out|apply zv|apply zw|apply zt|apply zx)|exact HK.out))):w.heap.size≤gb101):w0.heap.size≤gb101));replace HK:=za (zK (by repeat (first|(with_reducible first|exact HK.out|apply zv|apply zw|apply zt|apply zx)|exact HK.out)) (KeepBut.of_below hb g none) (.inl rfl));have NB0_101:=za ((by rw [hg];exact Nat.ne_of_lt (IsS88.lt (show IsS88 w0 _ g s0_0 s0_1 s0_2 from by repeat (first|(with_reducible first|exact HI0.out|apply IsS88.alloc|apply IsS88.drewN|apply IsS88.drew|apply IsS88.set_1|apply IsS88.set_2)|exact HI0.out))):g ≠ gb101));have NB101_0:=za ((by rw [hg];exact Nat.ne_of_gt (IsS88.lt (show IsS88 w0 _ g s0_0 s0_1 s0_2 from by repeat (first|(with_reducible first|exact HI0.out|apply IsS88.alloc|apply IsS88.drewN|apply IsS88.drew|apply IsS88.set_1|apply IsS88.set_2)|exact HI0.out))):gb101 ≠ g));replace HI0:=za (IsS88.below (by repeat (first|(with_reducible first|exact HI0.out|apply IsS88.alloc|apply IsS88.drewN|apply IsS88.drew|apply IsS88.set_1|apply IsS88.set_2)|exact HI0.out)) hb);clear hb hbox hg)|((with_reducible refine zq (f:=125) rfl ?_);refine zr (some 5) rfl rfl Try.func125 (by kernel_rfl) rfl #[.pointer (some ⟨g,0,none⟩),.int .i64 10] rfl (by first|rfl|simp only [z3_,z4_,z5_];try rfl) ?_;(with_reducible refine (spec_l1Cur_one.calls g s0_0 s0_1 s0_2 10 false t103 t104 w0 _ ?side1 ?side2 A2.out).mono ?_);(case side1=>repeat (first|(with_reducible first|exact HI0.out|apply IsS88.alloc|apply IsS88.drewN|apply IsS88.drew|apply IsS88.set_1|apply IsS88.set_2|refine IsS88.far ?_ NB0_101.out _)|exact HI0.out));(case side2=>repeat (first|(with_reducible first|exact HB.out|apply zc|apply zd|apply zb|refine ze ?_ (IsS88.ge HI0.out)|refine ze ?_ GE101.out)|exact HB.out));rintro e w14 ⟨rfl,hi,hb,hk⟩;refine ⟨_,rfl,?_⟩;replace BK101:=za (zN hk (g':=gb101) (o:=.cells #[.int .i64 0,.int .i64 0,.slice none 0 0] 43 (0,0)) (by apply_rules only [BK101.out,zh,zf,zi]) NB101_0.out (by simp));replace HK:=za (zK (by repeat (first|(with_reducible first|exact HK.out|apply zv|apply zw|apply zt|apply zx|refine zy ?_ GW101.out _)|exact HK.out)) hk (.inl rfl));replace HB:=za (hb);replace HI0:=za (hi))|((with_reducible refine zq (f:=127) rfl ?_);refine zr (some 9) rfl rfl Try.func127 (by kernel_rfl) rfl #[.pointer (some ⟨g,0,none⟩),.int .i64 5] rfl (by first|rfl|simp only [z3_,z4_,z5_];try rfl) ?_;(with_reducible refine (spec_l1Cur_pick.calls g s0_0 t103 t104 5 t112 t113 t114 w0 _ ?side1 ?side2 A11.out).mono ?_);(case side1=>repeat (first|(with_reducible first|exact HI0.out|apply IsS88.alloc|apply IsS88.drewN|apply IsS88.drew|apply IsS88.set_1|apply IsS88.set_2|refine IsS88.far ?_ NB0_101.out _)|exact HI0.out));(case side2=>repeat (first|(with_reducible first|exact HB.out|apply zc|apply zd|apply zb|refine ze ?_ (IsS88.ge HI0.out)|refine ze ?_ GE101.out)|exact HB.out));rintro e w15 ⟨rfl,hi,hb,hk⟩;refine ⟨_,rfl,?_⟩;replace BK101:=za (zN hk (g':=gb101) (o:=.cells #[.int .i64 0,.int .i64 0,.slice none 0 0] 43 (0,0)) (by apply_rules only [BK101.out,zh,zf,zi]) NB101_0.out (by simp));replace HK:=za (zK (by repeat (first|(with_reducible first|exact HK.out|apply zv|apply zw|apply zt|apply zx|refine zy ?_ GW101.out _)|exact HK.out)) hk (.inl rfl));replace HB:=za (hb);replace HI0:=za (hi))|((with_reducible refine zq (f:=143) rfl ?_);refine zr (some 14) rfl rfl Try.func143 (by kernel_rfl) rfl #[.pointer (some ⟨g,0,none⟩),.int .i64 (wrap64 (1 + t112)),.int .i64 (wrap64 (1 + t112))] rfl (by first|rfl|simp only [z3_,z4_,z5_];try rfl) ?_;(with_reducible refine (spec_l1Cur_boardOf.calls k g s0_0 t113 t114 (wrap64 (1 + t112)) (wrap64 (1 + t112)) t115 t116 t117 t120 t121 w0 _ ?side1 ?side2 A12.out).mono ?_);(case side1=>repeat (first|(with_reducible first|exact HI0.out|apply IsS88.alloc|apply IsS88.drewN|apply IsS88.drew|apply IsS88.set_1|apply IsS88.set_2|refine IsS88.far ?_ NB0_101.out _)|exact HI0.out));(case side2=>repeat (first|(with_reducible first|exact HB.out|apply zc|apply zd|apply zb|refine ze ?_ (IsS88.ge HI0.out)|refine ze ?_ GE101.out)|exact HB.out));rintro e w16 ⟨v118,rfl,ho0,hi,hb,hk⟩;refine ⟨_,rfl,?_⟩;replace BK101:=za (zN hk (g':=gb101) (o:=.cells #[.int .i64 0,.int .i64 0,.slice none 0 0] 43 (0,0)) (by apply_rules only [BK101.out,zh,zf,zi]) NB101_0.out (by simp));have HO119:=za (zL ho0 (keep_size (w:=w) (g:=g) (row:=none) (by repeat (first|(with_reducible first|exact HK.out|apply zv|apply zw|apply zt|apply zx|refine zy ?_ GW101.out _)|exact HK.out))));replace HK:=za (zK (by repeat (first|(with_reducible first|exact HK.out|apply zv|apply zw|apply zt|apply zx|refine zy ?_ GW101.out _)|exact HK.out)) hk (.inl rfl));replace HB:=za (hb);replace HI0:=za (hi);have hnb17:=NB101_0.out;have hnc17:=NB0_101.out;have hcz18_0:w16.cell? ⟨gb101,0,none⟩=some (.int .i64 0):=(zg BK101.out 0).trans rfl;have hcz18_1:w16.cell? ⟨gb101,1,none⟩=some (.int .i64 0):=(zg BK101.out 1).trans rfl;have hcz18_2:w16.cell? ⟨gb101,2,none⟩=some (.slice none 0 0):=(zg BK101.out 2).trans rfl;have hfz18_0:=zm BK101.out 0;have hfz18_1:=zm BK101.out 1;have hfz18_2:=zm BK101.out 2;obtain ⟨Ao19,co19,eo19⟩:=Kd.R_slice HO119.out;subst eo19)));refine bodyPost_ret (results_cell_row rfl _ _ gb101 43 #[.int .i64 t115,.int .i64 t116,.slice Ao19 t117.length co19] (0,0) _ rfl (by (with_reducible repeat (first|refine zh ?_ _|refine zf ?_|refine zi ?_ _));refine zz (cs:=#[.int .i64 t115,.int .i64 t116,.slice none 0 0]) ?_ 2 _ rfl;(with_reducible repeat (first|refine zh ?_ _|refine zf ?_|refine zi ?_ _));refine zz (cs:=#[.int .i64 t115,.int .i64 0,.slice none 0 0]) ?_ 1 _ rfl;(with_reducible repeat (first|refine zh ?_ _|refine zf ?_|refine zi ?_ _));refine zz (cs:=#[.int .i64 0,.int .i64 0,.slice none 0 0]) ?_ 0 _ rfl;(with_reducible repeat (first|refine zh ?_ _|refine zf ?_|refine zi ?_ _));exact BK101.out) Try.underlying43 rfl (by kernel_rfl)) rfl ?_;exact ⟨_,by first|rfl|simp [*,errW_none,errW_some] <;> rfl,by (with_reducible repeat (first|apply zk|apply zl|apply zj));exact zs (zn (p:=⟨gb101,2,none⟩) (zn (p:=⟨gb101,1,none⟩) (zn (p:=⟨gb101,0,none⟩) (zM HO119.out BK101.out (by decide)) (fun _ hk=>hk.2) (.int .i64 t115)) (fun _ hk=>hk.2) (.int .i64 t116)) (fun _ hk=>hk.2) (.slice Ao19 t117.length co19)) (fun _ hk=>trivial),by repeat (first|(with_reducible first|exact HI0.out|apply IsS88.alloc|apply IsS88.drewN|apply IsS88.drew|apply IsS88.set_1|apply IsS88.set_2|refine IsS88.far ?_ NB0_101.out _)|exact HI0.out),by repeat (first|(with_reducible first|exact HB.out|apply zc|apply zd|apply zb|refine ze ?_ (IsS88.ge HI0.out)|refine ze ?_ GE101.out)|exact HB.out),by repeat (first|(with_reducible first|exact HK.out|apply zv|apply zw|apply zt|apply zx|refine zy ?_ GW101.out _)|exact HK.out)⟩
end Go.Proofs.Ytiopnmgcajohfaa.Q
end
section
namespace Go.Proofs.Ytiopnmgcajohfaa.Q
open Go.RowKit Go.Proofs.YtiopnmgcajohfaaW.PrintWords Go.Proofs.YtiopnmgcajohfaaW.PrintLast Go.Proofs.YtiopnmgcajohfaaW.PrintMore
attribute [local go_sem] max2_int min2_int max_two min_two max_three min_three max_four min_four   -- for this text's walks alone
set_option linter.unusedVariables false
set_option linter.unusedSimpArgs false
def spec_DrawHitNumbers.f (k:Nat) (l0:List Int):Option (Int × Int × List Int):=(spec_l1Cur_square4.f k l0 0 0).bind fun bt103=>(some (bt103.1,bt103.2.1,bt103.2.2.1))
set_option maxHeartbeats 8000000 in
set_option maxRecDepth 100000 in
theorem spec_DrawHitNumbers.calls (k:Nat) (A0:Option Addr) (c0:Nat) (l0:List Int) (r1:Int) (r2:Int) (r3:List Int) (w:World) (hr0:Kd.C (Kd.int .u8) w A0 l0.length l0) (hc0:l0.length≤c0) (h:spec_DrawHitNumbers.f k l0=some (r1,r2,r3)) :
  Calls Try.prog 63 #[.slice A0 l0.length c0] w fun e w'=>∃ v2_:Value,e=.returned (.agg #[.int .i64 r1,.int .i64 r2,v2_])∧Kd.R (Kd.int .i64) 3 w' w.heap.size (fun _=>True) v2_ r3∧Below w.heap.size w w':=by
 have hu43:=Try.underlying43;have hu88:=Try.underlying88;have HR0:=za hr0;have HC0:=za hc0;clear hr0 hc0;have HB:=za (Below.refl w.heap.size w);have H:((spec_l1Cur_square4.f k l0 0 0).bind fun bt103=>(some (bt103.1,bt103.2.1,bt103.2.2.1)))=some (r1,r2,r3):=h;clear h;obtain ⟨⟨t103,t104,t105,t108,t109⟩,A2,H⟩:=bindAside H;(try dsimp only at H);simp only [Option.some.injEq,Prod.mk.injEq] at H;obtain ⟨rfl,rfl,rfl⟩:=H;(go_enter Try.func63,Try.ntmps63);(go_wp2_with (first|((with_reducible refine zA (N:=2) rfl ?_);refine zF ?hg (N:=2) ?hd (cs:=#[.int .i64 0,.int .i64 0,.slice none 0 0]) (t:=43) ?hr ?_;(case hd=>rfl);(case hg=>rfl);(case hr=>first|(go_simp;done)|(go_simp;rfl));intro gb101 hg w3 hbox hb;have BK101:=za (hbox);have GW101:=za ((by rw [hg];exact (zo (by repeat (first|(with_reducible first|exact HB.out|apply zc|apply zd|apply zb)|exact HB.out))):w.heap.size≤gb101));have GE101:=za ((by rw [hg];exact (zo (by repeat (first|(with_reducible first|exact HB.out|apply zc|apply zd|apply zb)|exact HB.out))):w.heap.size≤gb101));replace HB:=za (zp (by repeat (first|(with_reducible first|exact HB.out|apply zc|apply zd|apply zb)|exact HB.out)) hb);clear hb hbox hg)|((with_reducible refine zA (N:=6) rfl ?_);refine zF ?hg (N:=6) ?hd (cs:=#[.slice A0 l0.length c0,.int .i64 0,.int .u64 0]) (t:=88) ?hr ?_;(case hd=>rfl);(case hg=>rfl);(case hr=>first|(go_simp;done)|(go_simp;rfl));intro gb102 hg w4 hbox hb;have BK102:=za (hbox);have GW102:=za ((by rw [hg];exact (zo (by repeat (first|(with_reducible first|exact HB.out|apply zc|apply zd|apply zb|refine ze ?_ GE101.out)|exact HB.out))):w.heap.size≤gb102));have GE102:=za ((by rw [hg];exact (zo (by repeat (first|(with_reducible first|exact HB.out|apply zc|apply zd|apply zb|refine ze ?_ GE101.out)|exact HB.out))):w.heap.size≤gb102));replace HB:=za (zp (by repeat (first|(with_reducible first|exact HB.out|apply zc|apply zd|apply zb|refine ze ?_ GE101.out)|exact HB.out)) hb);have NB101_102:=za ((by rw [hg];exact Nat.ne_of_lt (blk_lt (g:=gb101) (o:=.cells #[.int .i64 0,.int .i64 0,.slice none 0 0] 43 (0,0)) (by apply_rules only [BK101.out,zh,zf,zi])):gb101 ≠ gb102));have NB102_101:=za ((by rw [hg];exact Nat.ne_of_gt (blk_lt (g:=gb101) (o:=.cells #[.int .i64 0,.int .i64 0,.slice none 0 0] 43 (0,0)) (by apply_rules only [BK101.out,zh,zf,zi])):gb102 ≠ gb101));replace BK101:=za (zu (g:=gb101) (o:=.cells #[.int .i64 0,.int .i64 0,.slice none 0 0] 43 (0,0)) (by apply_rules only [BK101.out,zh,zf,zi]) hb);clear hb hbox hg;have HI102:=za (show IsS88 w _ gb102 l0 0 0 from ⟨_,_,BK102.out,GE102.out,HR0.out⟩))|((with_reducible refine zq (f:=97) rfl ?_);refine zr (some 8) rfl rfl Try.func97 (by kernel_rfl) rfl #[.pointer (some ⟨gb102,0,none⟩)] rfl (by first|rfl|simp only [z3_,z4_,z5_];try rfl) ?_;(with_reducible refine (spec_l1Cur_square4.calls k gb102 l0 0 0 t103 t104 t105 t108 t109 w _ ?side1 ?side2 A2.out).mono ?_);(case side1=>repeat (first|(with_reducible first|exact HI102.out|apply IsS88.alloc|apply IsS88.drewN|apply IsS88.drew|apply IsS88.set_1|apply IsS88.set_2|refine IsS88.far ?_ NB102_101.out _)|exact HI102.out));(case side2=>repeat (first|(with_reducible first|exact HB.out|apply zc|apply zd|apply zb|refine ze ?_ (IsS88.ge HI102.out)|refine ze ?_ GE101.out)|exact HB.out));rintro e w5 ⟨v106,rfl,ho0,hi,hb,hk⟩;refine ⟨_,rfl,?_⟩;replace BK101:=za (zN hk (g':=gb101) (o:=.cells #[.int .i64 0,.int .i64 0,.slice none 0 0] 43 (0,0)) (by apply_rules only [BK101.out,zh,zf,zi]) NB101_102.out (by simp));have HO107:=za (zL ho0 (zo (by repeat (first|(with_reducible first|exact HB.out|apply zc|apply zd|apply zb|refine ze ?_ (IsS88.ge HI102.out)|refine ze ?_ GE101.out)|exact HB.out))));replace HB:=za (hb);replace HI102:=za (hi);have hnb6:=NB101_102.out;have hnc6:=NB102_101.out;have hcz7_0:w5.cell? ⟨gb101,0,none⟩=some (.int .i64 0):=(zg BK101.out 0).trans rfl;have hcz7_1:w5.cell? ⟨gb101,1,none⟩=some (.int .i64 0):=(zg BK101.out 1).trans rfl;have hcz7_2:w5.cell? ⟨gb101,2,none⟩=some (.slice none 0 0):=(zg BK101.out 2).trans rfl;have hfz7_0:=zm BK101.out 0;have hfz7_1:=zm BK101.out 1;have hfz7_2:=zm BK101.out 2;obtain ⟨Ao8,co8,eo8⟩:=Kd.R_slice HO107.out;subst eo8)));refine bodyPost_ret (results_cell_row rfl _ _ gb101 43 #[.int .i64 t103,.int .i64 t104,.slice Ao8 t105.length co8] (0,0) _ rfl (by (with_reducible repeat (first|refine zh ?_ _|refine zf ?_|refine zi ?_ _));refine zz (cs:=#[.int .i64 t103,.int .i64 t104,.slice none 0 0]) ?_ 2 _ rfl;(with_reducible repeat (first|refine zh ?_ _|refine zf ?_|refine zi ?_ _));refine zz (cs:=#[.int .i64 t103,.int .i64 0,.slice none 0 0]) ?_ 1 _ rfl;(with_reducible repeat (first|refine zh ?_ _|refine zf ?_|refine zi ?_ _));refine zz (cs:=#[.int .i64 0,.int .i64 0,.slice none 0 0]) ?_ 0 _ rfl;(with_reducible repeat (first|refine zh ?_ _|refine zf ?_|refine zi ?_ _));exact BK101.out) Try.underlying43 rfl (by kernel_rfl)) rfl ?_;exact ⟨_,by first|rfl|simp [*,errW_none,errW_some] <;> rfl,by (with_reducible repeat (first|apply zk|apply zl|apply zj));exact zs (zn (p:=⟨gb101,2,none⟩) (zn (p:=⟨gb101,1,none⟩) (zn (p:=⟨gb101,0,none⟩) (zM HO107.out BK101.out (by decide)) (fun _ hk=>hk.2) (.int .i64 t103)) (fun _ hk=>hk.2) (.int .i64 t104)) (fun _ hk=>hk.2) (.slice Ao8 t105.length co8)) (fun _ hk=>trivial),by repeat (first|(with_reducible first|exact HB.out|apply zc|apply zd|apply zb|refine ze ?_ (IsS88.ge HI102.out)|refine ze ?_ GE101.out)|exact HB.out)⟩
end Go.Proofs.Ytiopnmgcajohfaa.Q
end
section
namespace Go.Proofs.Ytiopnmgcajohfaa.Q
open Go.RowKit Go.Proofs.YtiopnmgcajohfaaW.PrintWords Go.Proofs.YtiopnmgcajohfaaW.PrintLast Go.Proofs.YtiopnmgcajohfaaW.PrintMore
attribute [local go_sem] max2_int min2_int max_two min_two max_three min_three max_four min_four   -- for this text's walks alone
set_option linter.unusedVariables false
set_option linter.unusedSimpArgs false
def spec_l1Own.f (l0:List Int):Option (List Int):=(some (([]:List Int):List Int)).bind fun y101=>(if y101.length + l0.length < 17592186044416 then (some (y101 ++ l0)) else (none))
set_option maxHeartbeats 8000000 in
set_option maxRecDepth 100000 in
theorem spec_l1Own.calls (A0:Option Addr) (c0:Nat) (l0:List Int) (r:List Int) (w:World) (hr0:Kd.C (Kd.int .i64) w A0 l0.length l0) (hc0:l0.length≤c0) (h:spec_l1Own.f l0=some r) :
  Calls Try.prog 129 #[.slice A0 l0.length c0] w fun e w'=>∃ v0_:Value,e=.returned (v0_)∧Kd.R (Kd.int .i64) 3 w' w.heap.size (fun _=>True) v0_ r∧Below w.heap.size w w':=by
 have HR0:=za hr0;have HC0:=za hc0;clear hr0 hc0;have HB:=za (Below.refl w.heap.size w);have H:((some (([]:List Int):List Int)).bind fun y101=>(if y101.length + l0.length < 17592186044416 then (some (y101 ++ l0)) else (none)))=some r:=h;clear h;obtain ⟨y101,hy101⟩:∃ y_:List Int,y_=(([]:List Int)):=⟨_,rfl⟩;(replace H:(if y101.length + l0.length < 17592186044416 then (some (y101 ++ l0)) else (none))=some r:=by first|(rw [hy101];with_reducible exact H)|(have H2_:=(Option.bind_some _ _).symm.trans H;rw [hy101];with_reducible exact H2_)|(have H2_:=(Option.bind_some _ _).symm.trans H;with_reducible exact H2_)|with_reducible exact H|(rw [hy101];exact H)|exact H);have Ny101:=za hy101;clear hy101;by_cases c2:y101.length + l0.length < 17592186044416
 · rw [if_pos c2] at H;have LMc2:=za c2;clear c2;obtain ⟨y104,hy104⟩:∃ y_:List Int,y_=(y101 ++ l0):=⟨_,rfl⟩;(replace H:(some y104)=some r:=by first|(rw [hy104];with_reducible exact H)|(have H2_:=(Option.bind_some _ _).symm.trans H;rw [hy104];with_reducible exact H2_)|(have H2_:=(Option.bind_some _ _).symm.trans H;with_reducible exact H2_)|with_reducible exact H|(rw [hy104];exact H)|exact H);have Ny104:=za hy104;clear hy104;obtain rfl:=Option.some.inj H;(go_enter Try.func129,Try.ntmps129);(go_wp2_with (first|((with_reducible refine zA (N:=3) rfl ?_);refine Kd.R_lit (Kd.int .i64) _ 3 ?hg (N:=3) ?hd (xs:=([]:List Int)) (inner:=[]) (ok:=fun _=>True) (okp:=fun _=>True) ?hr ?hp (fun _ hk=>hk) trivial (Below.refl _ _) (Nat.le_refl _) (by simp) ?_;(case hd=>rfl);(case hg=>rfl);(case hr=>first|(go_simp;done)|(go_simp;rfl));(case hp=>exact (Reps.none _ _));intro v102 w3 ho4 hb hg_ hnew_;clear hg_ hnew_;(first|rw [← Ny101.out] at ho4|(simp only [Int.reduceToNat] at ho4;rw [← Ny101.out] at ho4));have HO103:=za (zL ho4 (zo (by repeat (first|(with_reducible first|exact HB.out|apply zc|apply zd|apply zb)|exact HB.out))));replace HB:=za (zp (by repeat (first|(with_reducible first|exact HB.out|apply zc|apply zd|apply zb)|exact HB.out)) hb);clear hb ho4)|((with_reducible refine gate_builtin (b:=.append) (xs:=#[.tmp 3,.tmp 4]) rfl ?_);at_builtin;refine Kd.R_append_rows (Kd.int .i64) (w0:=w) w.heap.size rfl (.tmp 3) (.tmp 4) 28 3 (.int .i64 0) 8 rfl Try.underlying28 info3 rfl (by decide) (by omega) v102 y101 l0 _ _ _ (fun _=>True) (fun _=>False) rfl rfl ?aO ?aR (fun _ _ h=>h) (fun _ h=>h.elim) ?aF ?aB ?aS ?aL ?_;(case aR=>repeat (first|exact (Kd.C_below HR0.out HB.out)|(with_reducible refine zC ?_ _)|(with_reducible refine zD ?_ _)|(with_reducible refine zE ?_)));(case aB=>exact (by repeat (first|(with_reducible first|exact HB.out|apply zc|apply zd|apply zb)|exact HB.out)));(case aF=>exact (fun _ _=>trivial));(case aO=>exact (by (with_reducible repeat (first|apply zk|apply zl|apply zj));exact HO103.out));(case aS=>exact (zo (by repeat (first|(with_reducible first|exact HB.out|apply zc|apply zd|apply zb)|exact HB.out))));(case aL=>have:=LMc2.out;omega);intro v105 w5 ho hb hg hat;rw [← Ny104.out] at ho;replace HB:=za (hb);have HO106:=za (ho);clear HO103;clear ho hb hg hat)));(go_ret);exact ⟨_,by first|rfl|simp [*,errW_none,errW_some] <;> rfl,by (with_reducible repeat (first|apply zk|apply zl|apply zj));exact HO106.out,by repeat (first|(with_reducible first|exact HB.out|apply zc|apply zd|apply zb)|exact HB.out)⟩
 · rw [if_neg c2] at H;exact absurd H (by simp)
end Go.Proofs.Ytiopnmgcajohfaa.Q
end
section
namespace Go.Proofs.Ytiopnmgcajohfaa.Q
open Go.RowKit Go.Proofs.YtiopnmgcajohfaaW.PrintWords Go.Proofs.YtiopnmgcajohfaaW.PrintLast Go.Proofs.YtiopnmgcajohfaaW.PrintMore
attribute [local go_sem] max2_int min2_int max_two min_two max_three min_three max_four min_four   -- for this text's walks alone
set_option linter.unusedVariables false
set_option linter.unusedSimpArgs false
mutual
def spec_hiAll.l0:Nat→Int→List Int→List (List Int)→Int→Option ((List (List Int)))
|0,_,_,_,_=>none
|k + 1,x0,x1,x5,x6=>if x6 < x0 then ((spec_l1Has.f k x1 x6).bind fun t107=>(if t107=true then (spec_hiAll.l0 k x0 x1 x5 (wrap64 (x6 + 1))) else ((spec_l1Own.f x1).bind fun t108=>(if t108.length < 17592186044416 then ((spec_hiAll.f k x0 (t108 ++ [x6])).bind fun t114=>(if x5.length + t114.length < 5864062014805 then (spec_hiAll.l0 k x0 x1 (x5 ++ t114) (wrap64 (x6 + 1))) else (none))) else (none))))) else (some x5)
def spec_hiAll.f:Nat→Int→List Int→Option ((List (List Int)))
|0,_,_=>none
|k + 1,a0,l1=>if (l1.length:Int)=a0 then ((spec_l1Own.f l1).bind fun t101=>(some (([t101]:List (List Int))))) else (spec_hiAll.l0 k a0 l1 ([]:List (List Int)) 0)
end
set_option maxHeartbeats 8000000 in
set_option maxRecDepth 100000 in
theorem spec_hiAll.calls (k:Nat):∀ (a0:Int) (A1:Option Addr) (c1:Nat) (l1:List Int) (r:List (List Int)) (w:World) (hr1:Kd.C (Kd.int .i64) w A1 l1.length l1) (hc1:l1.length≤c1) (h:spec_hiAll.f k a0 l1=some r),
  Calls Try.prog 91 #[.int .i64 a0,.slice A1 l1.length c1] w fun e w'=>∃ v0_:Value,e=.returned (v0_)∧Kd.N (Kd.slice 3 (Kd.int .i64)) 28 w' w.heap.size (fun k_=>(w.heap.size≤k_)) v0_ r∧Below w.heap.size w w':=by
 induction k using Nat.strongRecOn with
|_ k ih =>
 intro a0 A1 c1 l1 r w hr1 hc1 h
 cases k with
|zero=>exact absurd h (by simp [spec_hiAll.f])
|succ k =>
 simp only [spec_hiAll.f] at h;have HR1:=za hr1;have HC1:=za hc1;clear hr1 hc1;have HB:=za (Below.refl w.heap.size w);have H:(if (l1.length:Int)=a0 then ((spec_l1Own.f l1).bind fun t101=>(some (([t101]:List (List Int))))) else (spec_hiAll.l0 k a0 l1 ([]:List (List Int)) 0))=some r:=h;clear h;by_cases c3:(l1.length:Int)=a0
 · rw [if_pos c3] at H;have c3b0:((l1.length:Int) == a0)=true:=beq_iff_eq.mpr c3;have c3b1:((l1.length:Int) != a0)=false:=bne_eq_false_iff_eq.mpr c3;clear c3;obtain ⟨t101,A4,H⟩:=bindAside H;(try dsimp only at H);obtain ⟨y104,hy104⟩:∃ y_:List (List Int),y_=(([t101]:List (List Int))):=⟨_,rfl⟩;(replace H:(some y104)=some r:=by first|(rw [hy104];with_reducible exact H)|(have H2_:=(Option.bind_some _ _).symm.trans H;rw [hy104];with_reducible exact H2_)|(have H2_:=(Option.bind_some _ _).symm.trans H;with_reducible exact H2_)|with_reducible exact H|(rw [hy104];exact H)|exact H);have Ny104:=za hy104;clear hy104;obtain rfl:=Option.some.inj H;(go_enter Try.func91,Try.ntmps91);(go_wp2_with (first|((with_reducible refine zq (f:=129) rfl ?_);refine zr (some 12) rfl rfl Try.func129 (by kernel_rfl) rfl #[.slice A1 l1.length c1] rfl (by first|rfl|simp only [z3_,z4_,z5_];try rfl) ?_;(with_reducible refine (spec_l1Own.calls _ _ l1 t101 _ ?side1 ?side2 A4.out).mono ?_);(case side1=>repeat (first|exact HR1.out|(with_reducible refine zC ?_ _)|(with_reducible refine zD ?_ _)|(with_reducible refine zE ?_)));(case side2=>exact HC1.out);rintro e w5 ⟨v102,rfl,ho0,hb⟩;refine ⟨_,rfl,?_⟩;have HO103:=za (zL (Kd.R_newM (M:=fun k_=>(w.heap.size≤k_)) ho0 (zo (by repeat (first|(with_reducible first|exact HB.out|apply zc|apply zd|apply zb)|exact HB.out))) (fun k_ h_=>h_)) (zo (by repeat (first|(with_reducible first|exact HB.out|apply zc|apply zd|apply zb)|exact HB.out))));replace HB:=za (zp (by repeat (first|(with_reducible first|exact HB.out|apply zc|apply zd|apply zb)|exact HB.out)) hb);obtain ⟨Ao6,co6,eo6⟩:=Kd.R_slice HO103.out;subst eo6)|((with_reducible refine zA (N:=13) rfl ?_);refine Kd.N_lit (Kd.slice 3 (Kd.int .i64)) _ 28 ?hg (N':=13) ?hd (xs:=([t101]:List (List Int))) (inner:=[.slice Ao6 t101.length co6]) (ok:=(fun k_=>(w.heap.size≤k_))) (okp:=(fun k_=>(w.heap.size≤k_))) ?hr ?hp (fun _ hk=>hk) ((show ∀ k_,w5.heap.size≤k_→(fun k_=>(w.heap.size≤k_)) k_ from fun k_ hk=>(Nat.le_trans (zo (by repeat (first|(with_reducible first|exact HB.out|apply zc|apply zd|apply zb)|exact HB.out))) hk)) _ (Nat.le_refl _)) (Below.refl _ _) (Nat.le_refl _) (by simp) ?_;(case hd=>rfl);(case hg=>rfl);(case hr=>first|(go_simp;done)|(go_simp;rfl));(case hp=>exact (Reps.one (show Kd.FK (Kd.slice 3 (Kd.int .i64)) _ _ t101 [.slice Ao6 t101.length co6] from (Kd.FK_slice_mk (zB (zs (ok':=(fun k_=>(w.heap.size≤k_))) (HO103.out) (fun k_ hk=>hk.1))).2.1 (Kd.R_F (zs (ok':=(fun k_=>(w.heap.size≤k_))) (HO103.out) (fun k_ hk=>hk.1))))) (Reps.none _ _)));intro v105 w7 ho8 hb hg_ hnew_;clear hg_ hnew_;(first|rw [← Ny104.out] at ho8|(simp only [Int.reduceToNat] at ho8;rw [← Ny104.out] at ho8));have HO106:=za (Kd.N_lower ho8 (zo (by repeat (first|(with_reducible first|exact HB.out|apply zc|apply zd|apply zb)|exact HB.out))));replace HB:=za (zp (by repeat (first|(with_reducible first|exact HB.out|apply zc|apply zd|apply zb)|exact HB.out)) hb);clear HO103;clear hb ho8)));(go_ret);exact ⟨_,by first|rfl|simp [*,errW_none,errW_some] <;> rfl,by (with_reducible repeat (first|apply Kd.N_alloc|apply Kd.N_drewN|apply Kd.N_drew));exact HO106.out,by repeat (first|(with_reducible first|exact HB.out|apply zc|apply zd|apply zb)|exact HB.out)⟩
 ·
  rw [if_neg c3] at H;have c3b0:((l1.length:Int) == a0)=false:=beq_eq_false_iff_ne.mpr c3;have c3b1:((l1.length:Int) != a0)=true:=bne_iff_ne.mpr c3;have H':=za H;clear H;(go_enter Try.func91,Try.ntmps91);(go_wp2);(go_loopg [5,6] k (fun kq v5 v6 w'=>∃ (x5_1:List (List Int)) (x6_1:Int),v6=.int .i64 x6_1∧Aside0 (spec_hiAll.l0 kq a0 l1 x5_1 x6_1=some r)∧Aside0 (kq≤k)∧Aside0 (Kd.N (Kd.slice 3 (Kd.int .i64)) 28 w' w.heap.size (fun k_=>(w.heap.size≤k_)) v5 x5_1)∧Aside0 (Below w.heap.size w w')));case atStart=>exact ⟨(([]:List (List Int))),(0),(by first|rfl|(simp;done)|(simp [*];done)),H',⟨Nat.le_refl _⟩,⟨by first|exact Kd.S_nil _ _ _ _ _|exact Kd.N_nil _ _ _ _ _|exact Kd.V_nil _ _ _ _ _|exact Kd.Q_nil _ _ _ _ _|exact Kd.R_nil _ _ _ _ _⟩,⟨by repeat (first|(with_reducible first|exact HB.out|apply zc|apply zd|apply zb)|exact HB.out)⟩⟩
  case round =>
   clear H';(try clear c1);(try clear p2);(try clear c3);(try clear c3b0);(try clear c3b1);obtain ⟨x5_1,x6_1,rfl,HA,HK1,HO_5,HB⟩:=hrel
   cases gk with
  |zero=>exact absurd HA.out (by simp [spec_hiAll.l0])
  |succ k1 =>
    have H:=HA.out;clear HA;simp only [spec_hiAll.l0] at H;by_cases c9:x6_1 < a0
    ·
     rw [if_pos c9] at H;have c9b0:decide (x6_1 < a0)=true:=decide_eq_true c9;clear c9;obtain ⟨t107,A10,H⟩:=bindAside H;(try dsimp only at H);by_cases c11:t107=true
     · subst c11;(have H1:(spec_hiAll.l0 k1 a0 l1 x5_1 (wrap64 (x6_1 + 1)))=some r:=by rw [if_pos rfl] at H;exact H);clear H;have H:=H1;clear H1;have H':=za H;clear H;(go_wp2_with (first|((with_reducible refine zq (f:=133) rfl ?_);refine zr (some 21) rfl rfl Try.func133 (by kernel_rfl) rfl #[.slice A1 l1.length c1,.int .i64 x6_1] rfl (by first|rfl|simp only [z3_,z4_,z5_];try rfl) ?_;(with_reducible refine (spec_l1Has.calls k1 _ _ l1 x6_1 true _ ?side1 ?side2 A10.out).mono ?_);(case side1=>repeat (first|exact (Kd.C_below HR1.out HB.out)|(with_reducible refine zC ?_ _)|(with_reducible refine zD ?_ _)|(with_reducible refine zE ?_)));(case side2=>exact HC1.out);rintro e w' ⟨rfl,⟨nd,rfl⟩⟩;refine ⟨_,rfl,?_⟩)));(go_roundg k1);(case measure=>have:=HK1.out;omega);case rel=>exact ⟨(x5_1),(wrap64 (x6_1 + 1)),(by first|rfl|(simp;done)|(simp [*];done)),H',⟨by have:=HK1.out;omega⟩,⟨by (with_reducible repeat (first|apply Kd.N_alloc|apply Kd.N_drewN|apply Kd.N_drew));exact HO_5.out⟩,⟨by repeat (first|(with_reducible first|exact HB.out|apply zc|apply zd|apply zb)|exact HB.out)⟩⟩
     ·
      replace c11:=Bool.eq_false_iff.mpr c11;subst c11;(have H1:((spec_l1Own.f l1).bind fun t108=>(if t108.length < 17592186044416 then ((spec_hiAll.f k1 a0 (t108 ++ [x6_1])).bind fun t114=>(if x5_1.length + t114.length < 5864062014805 then (spec_hiAll.l0 k1 a0 l1 (x5_1 ++ t114) (wrap64 (x6_1 + 1))) else (none))) else (none)))=some r:=by rw [if_neg (show ¬ (false=true) by decide)] at H;exact H);clear H;have H:=H1;clear H1;obtain ⟨t108,A12,H⟩:=bindAside H;(try dsimp only at H);by_cases c13:t108.length < 17592186044416
      ·
       rw [if_pos c13] at H;have LMc13:=za c13;clear c13;obtain ⟨y111,hy111⟩:∃ y_:List Int,y_=(t108 ++ [x6_1]):=⟨_,rfl⟩;(replace H:((spec_hiAll.f k1 a0 y111).bind fun t114=>(if x5_1.length + t114.length < 5864062014805 then (spec_hiAll.l0 k1 a0 l1 (x5_1 ++ t114) (wrap64 (x6_1 + 1))) else (none)))=some r:=by first|(rw [hy111];with_reducible exact H)|(have H2_:=(Option.bind_some _ _).symm.trans H;rw [hy111];with_reducible exact H2_)|(have H2_:=(Option.bind_some _ _).symm.trans H;with_reducible exact H2_)|with_reducible exact H|(rw [hy111];exact H)|exact H);have Ny111:=za hy111;clear hy111;obtain ⟨t114,A14,H⟩:=bindAside H;(try dsimp only at H);by_cases c15:x5_1.length + t114.length < 5864062014805
       · rw [if_pos c15] at H;have LMc15:=za c15;clear c15;obtain ⟨y117,hy117⟩:∃ y_:List (List Int),y_=(x5_1 ++ t114):=⟨_,rfl⟩;(replace H:(spec_hiAll.l0 k1 a0 l1 y117 (wrap64 (x6_1 + 1)))=some r:=by first|(rw [hy117];with_reducible exact H)|(have H2_:=(Option.bind_some _ _).symm.trans H;rw [hy117];with_reducible exact H2_)|(have H2_:=(Option.bind_some _ _).symm.trans H;with_reducible exact H2_)|with_reducible exact H|(rw [hy117];exact H)|exact H);have Ny117:=za hy117;clear hy117;have H':=za H;clear H;(go_wp2_with (first|((with_reducible refine zq (f:=133) rfl ?_);refine zr (some 21) rfl rfl Try.func133 (by kernel_rfl) rfl #[.slice A1 l1.length c1,.int .i64 x6_1] rfl (by first|rfl|simp only [z3_,z4_,z5_];try rfl) ?_;(with_reducible refine (spec_l1Has.calls k1 _ _ l1 x6_1 false _ ?side1 ?side2 A10.out).mono ?_);(case side1=>repeat (first|exact (Kd.C_below HR1.out HB.out)|(with_reducible refine zC ?_ _)|(with_reducible refine zD ?_ _)|(with_reducible refine zE ?_)));(case side2=>exact HC1.out);rintro e w' ⟨rfl,⟨nd,rfl⟩⟩;refine ⟨_,rfl,?_⟩)|((with_reducible refine zq (f:=129) rfl ?_);refine zr (some 26) rfl rfl Try.func129 (by kernel_rfl) rfl #[.slice A1 l1.length c1] rfl (by first|rfl|simp only [z3_,z4_,z5_];try rfl) ?_;(with_reducible refine (spec_l1Own.calls _ _ l1 t108 _ ?side1 ?side2 A12.out).mono ?_);(case side1=>repeat (first|exact (Kd.C_below HR1.out (by repeat (first|(with_reducible first|exact HB.out|apply zc|apply zd|apply zb)|exact HB.out)))|(with_reducible refine zC ?_ _)|(with_reducible refine zD ?_ _)|(with_reducible refine zE ?_)));(case side2=>exact HC1.out);rintro e w16 ⟨v109,rfl,ho0,hb⟩;refine ⟨_,rfl,?_⟩;replace HO_5:=za (Kd.N_elder' (by (with_reducible repeat (first|apply Kd.N_alloc|apply Kd.N_drewN|apply Kd.N_drew));exact HO_5.out) (zH ho0) hb);have HO110:=za (zL (Kd.R_newM (M:=fun k_=>(w.heap.size≤k_)) ho0 (zo (by repeat (first|(with_reducible first|exact HB.out|apply zc|apply zd|apply zb)|exact HB.out))) (fun k_ h_=>h_)) (zo (by repeat (first|(with_reducible first|exact HB.out|apply zc|apply zd|apply zb)|exact HB.out))));replace HB:=za (zp (by repeat (first|(with_reducible first|exact HB.out|apply zc|apply zd|apply zb)|exact HB.out)) hb))|((with_reducible refine gate_builtin (b:=.append) (xs:=#[.tmp 26,.tmp 28]) rfl ?_);at_builtin;refine Kd.R_append (Kd.int .i64) (w0:=w) w.heap.size rfl (.tmp 26) (.tmp 28) 28 3 (.int .i64 0) 8 rfl Try.underlying28 info3 rfl (by decide) (by omega) v109 t108 x6_1 [.int .i64 x6_1] (fun k_=>(w.heap.size≤k_)) (fun _=>False) rfl rfl ?aP (fun _ hk=>hk.elim) ?aF ?aO ?aB ?aS ?aL ?_;(case aP=>exact rfl);(case aB=>exact (by repeat (first|(with_reducible first|exact HB.out|apply zc|apply zd|apply zb)|exact HB.out)));(case aF=>exact (fun k_ hk=>(Nat.le_trans (zo (by repeat (first|(with_reducible first|exact HB.out|apply zc|apply zd|apply zb)|exact HB.out))) hk)));(case aO=>exact (by (with_reducible repeat (first|apply zk|apply zl|apply zj));exact zs HO110.out (fun _ hk=>hk.1)));(case aS=>exact (zo (by repeat (first|(with_reducible first|exact HB.out|apply zc|apply zd|apply zb)|exact HB.out))));(case aL=>have:=LMc13.out;omega);intro v112 w17 ho hb hg hat;rw [← Ny111.out] at ho;replace HO_5:=za (Kd.N_afterv (ok:=(fun k_=>(w.heap.size≤k_))) (by (with_reducible repeat (first|apply Kd.N_alloc|apply Kd.N_drewN|apply Kd.N_drew));exact HO_5.out) hg hat);replace HB:=za (hb);have HO113:=za (ho);clear HO110;clear ho hb hg hat;obtain ⟨Ao18,co18,eo18⟩:=Kd.R_slice HO113.out;subst eo18)|((with_reducible refine zq (f:=91) rfl ?_);refine zr (some 30) rfl rfl Try.func91 (by kernel_rfl) rfl #[.int .i64 a0,.slice Ao18 y111.length co18] rfl (by first|rfl|simp only [z3_,z4_,z5_];try rfl) ?_;(with_reducible refine (ih k1 (by have:=HK1.out;omega) a0 _ _ y111 t114 _ ?side1 ?side2 A14.out).mono ?_);(case side1=>repeat (first|exact (zB HO113.out).2.2|(with_reducible refine zC ?_ _)|(with_reducible refine zD ?_ _)|(with_reducible refine zE ?_)));(case side2=>exact (zB HO113.out).2.1);rintro e w19 ⟨v115,rfl,ho0,hb⟩;refine ⟨_,rfl,?_⟩;have HO116:=za (Kd.N_lower (Kd.N_mono (ok':=fun k_=>(w.heap.size≤k_)∧some k_ ≠ (u5:Value).ownBlock∧some k_ ≠ (.slice Ao18 y111.length co18:Value).ownBlock) ho0 (fun k_ hk_=>⟨(Nat.le_trans (zo (by repeat (first|(with_reducible first|exact HB.out|apply zc|apply zd|apply zb)|exact HB.out))) hk_),(Kd.fresh' (Kd.N_lt (by (with_reducible repeat (first|apply Kd.N_alloc|apply Kd.N_drewN|apply Kd.N_drew));exact HO_5.out)) k_ hk_),(Kd.fresh' (Kd.R_lt (by (with_reducible repeat (first|apply zk|apply zl|apply zj));exact HO113.out)) k_ hk_)⟩)) (zo (by repeat (first|(with_reducible first|exact HB.out|apply zc|apply zd|apply zb)|exact HB.out))));replace HO_5:=za (Kd.N_elder' (by (with_reducible repeat (first|apply Kd.N_alloc|apply Kd.N_drewN|apply Kd.N_drew));exact HO_5.out) (Kd.N_base ho0) hb);replace HO113:=za (zG (by (with_reducible repeat (first|apply zk|apply zl|apply zj));exact HO113.out) hb);replace HB:=za (zp (by repeat (first|(with_reducible first|exact HB.out|apply zc|apply zd|apply zb)|exact HB.out)) hb);obtain ⟨Ao21,co21,eo21⟩:=Kd.N_slice HO116.out;subst eo21)|((with_reducible refine gate_builtin (b:=.append) (xs:=#[.tmp 23,.tmp 30]) rfl ?_);at_builtin;refine Kd.N_append_rows (Kd.slice 3 (Kd.int .i64)) (w0:=w) w.heap.size rfl (.tmp 23) (.tmp 30) 29 28 (.slice none 0 0) 24 rfl Try.underlying29 info28 rfl (by decide) (by omega) u5 x5_1 t114 _ _ _ (fun k_=>(w.heap.size≤k_)∧some k_ ≠ (.slice Ao18 y111.length co18:Value).ownBlock) (fun k_=>((fun k_=>(w.heap.size≤k_)∧some k_ ≠ (.slice Ao18 y111.length co18:Value).ownBlock)) k_∧some k_ ≠ (u5:Value).ownBlock) rfl rfl ?aO ?aR (fun _ hk=>hk) ?aF ?aB ?aS ?aL ?_;(case aR=>exact (by skip;exact Kd.N_F (Kd.N_mono (ok':=(fun k_=>((fun k_=>(w.heap.size≤k_)∧some k_ ≠ (.slice Ao18 y111.length co18:Value).ownBlock)) k_∧some k_ ≠ (u5:Value).ownBlock)) (HO116.out) (fun k_ hk=>⟨⟨hk.1,hk.2.2⟩,hk.2.1⟩))));(case aB=>exact (by repeat (first|(with_reducible first|exact HB.out|apply zc|apply zd|apply zb)|exact HB.out)));(case aF=>exact (fun k_ hk=>⟨(Nat.le_trans (zo (by repeat (first|(with_reducible first|exact HB.out|apply zc|apply zd|apply zb)|exact HB.out))) hk),Kd.fresh' (Kd.R_lt (by (with_reducible repeat (first|apply zk|apply zl|apply zj));exact HO113.out)) k_ hk⟩));(case aO=>exact (by (with_reducible repeat (first|apply Kd.N_alloc|apply Kd.N_drewN|apply Kd.N_drew));exact Kd.N_mono HO_5.out (fun _ hk=>⟨hk.1.1,hk.1.2⟩)));(case aS=>exact (zo (by repeat (first|(with_reducible first|exact HB.out|apply zc|apply zd|apply zb)|exact HB.out))));(case aL=>have:=LMc15.out;omega);intro v118 w20 ho hb hg hat;rw [← Ny117.out] at ho;replace HO113:=za (Kd.R_over' (by (with_reducible repeat (first|apply zk|apply zl|apply zj));exact HO113.out) (Kd.N_typed (by (with_reducible repeat (first|apply Kd.N_alloc|apply Kd.N_drewN|apply Kd.N_drew));exact HO_5.out)) (by decide) hg);replace HO116:=za (Kd.N_afterv (ok:=(fun k_=>(w.heap.size≤k_)∧some k_ ≠ (.slice Ao18 y111.length co18:Value).ownBlock)) (by (with_reducible repeat (first|apply Kd.N_alloc|apply Kd.N_drewN|apply Kd.N_drew));exact Kd.N_mono HO116.out (fun _ hk=>⟨⟨hk.1,hk.2.2⟩,hk.2.1⟩)) hg hat);replace HB:=za (hb);have HO119:=za (ho);clear HO_5;clear ho hb hg hat)));(go_roundg k1);(case measure=>have:=HK1.out;omega);case rel=>exact ⟨(y117),(wrap64 (x6_1 + 1)),(by first|rfl|(simp;done)|(simp [*];done)),H',⟨by have:=HK1.out;omega⟩,⟨by (with_reducible repeat (first|apply Kd.N_alloc|apply Kd.N_drewN|apply Kd.N_drew));exact Kd.N_mono HO119.out (fun _ hk=>hk.1)⟩,⟨by repeat (first|(with_reducible first|exact HB.out|apply zc|apply zd|apply zb)|exact HB.out)⟩⟩
       · rw [if_neg c15] at H;exact absurd H (by simp)
      · rw [if_neg c13] at H;exact absurd H (by simp)
    · rw [if_neg c9] at H;have c9b0:decide (x6_1 < a0)=false:=decide_eq_false c9;clear c9;obtain rfl:=Option.some.inj H;(go_wp2);(go_ret);exact ⟨_,by first|rfl|simp [*,errW_none,errW_some] <;> rfl,by (with_reducible repeat (first|apply Kd.N_alloc|apply Kd.N_drewN|apply Kd.N_drew));exact HO_5.out,by repeat (first|(with_reducible first|exact HB.out|apply zc|apply zd|apply zb)|exact HB.out)⟩
end Go.Proofs.Ytiopnmgcajohfaa.Q
end
section
namespace Go.Proofs.Ytiopnmgcajohfaa.Q
open Go.RowKit Go.Proofs.YtiopnmgcajohfaaW.PrintWords Go.Proofs.YtiopnmgcajohfaaW.PrintLast Go.Proofs.YtiopnmgcajohfaaW.PrintMore
attribute [local go_sem] max2_int min2_int max_two min_two max_three min_three max_four min_four   -- for this text's walks alone
set_option linter.unusedVariables false
set_option linter.unusedSimpArgs false
def spec_hiNumbers.l0:Nat→List Int→List (List Int)→Int→Int→Int→Int→List Int→Option (List Int)
|0,_,_,_,_,_,_,_=>none
|k + 1,x3,x12,x13,x14,x102000,x102001,x102002=>if x14 < x13 then (if 0≤x14 then (if x14 < (x12.length:Int) then ((spec_hiHits.f k x102000 x102001 x102002 (rd_L1 x12 x14)).bind fun t109=>(if 0≤t109 then (if t109 < (x3.length:Int) then (spec_hiNumbers.l0 k (x3.set (t109:Int).toNat (wrap64 ((rd x3 t109) + 1))) x12 x13 (wrap64 (x14 + 1)) x102000 x102001 x102002) else (none)) else (none))) else (none)) else (none)) else (some x3)
def spec_hiNumbers.f (k:Nat) (a0_0:Int) (a0_1:Int) (l0_2:List Int):Option (List Int):=if 0≤(wrap64 (a0_0 + 1)) then (if (wrap64 (a0_0 + 1):Int).toNat≤35184372088832 then ((spec_hiAll.f k a0_0 ([]:List Int)).bind fun t105=>(spec_hiNumbers.l0 k (List.replicate (wrap64 (a0_0 + 1):Int).toNat 0) t105 (t105.length:Int) 0 a0_0 a0_1 l0_2)) else (none)) else (none)
set_option maxHeartbeats 8000000 in
set_option maxRecDepth 100000 in
theorem spec_hiNumbers.calls (k:Nat) (a0_0:Int) (a0_1:Int) (A0_2:Option Addr) (c0_2:Nat) (l0_2:List Int) (r:List Int) (w:World) (hr0_2:Kd.C (Kd.int .i64) w A0_2 l0_2.length l0_2) (hc0_2:l0_2.length≤c0_2) (h:spec_hiNumbers.f k a0_0 a0_1 l0_2=some r) :
  Calls Try.prog 116 #[.agg #[.int .i64 a0_0,.int .i64 a0_1,.slice A0_2 l0_2.length c0_2]] w fun e w'=>∃ v0_:Value,e=.returned (v0_)∧Kd.R (Kd.int .i64) 3 w' w.heap.size (fun _=>True) v0_ r∧Below w.heap.size w w':=by
 have hu43:=Try.underlying43;have HR0_2:=za hr0_2;have HC0_2:=za hc0_2;clear hr0_2 hc0_2;have HB:=za (Below.refl w.heap.size w);have H:(if 0≤(wrap64 (a0_0 + 1)) then (if (wrap64 (a0_0 + 1):Int).toNat≤35184372088832 then ((spec_hiAll.f k a0_0 ([]:List Int)).bind fun t105=>(spec_hiNumbers.l0 k (List.replicate (wrap64 (a0_0 + 1):Int).toNat 0) t105 (t105.length:Int) 0 a0_0 a0_1 l0_2)) else (none)) else (none))=some r:=h;clear h;obtain ⟨ji2,hji2⟩:∃ j_:Int,(wrap64 (a0_0 + 1))=j_:=⟨_,rfl⟩;(replace H:(if 0≤(ji2) then (if (ji2:Int).toNat≤35184372088832 then ((spec_hiAll.f k a0_0 ([]:List Int)).bind fun t105=>(spec_hiNumbers.l0 k (List.replicate (ji2:Int).toNat 0) t105 (t105.length:Int) 0 a0_0 a0_1 l0_2)) else (none)) else (none))=some r:=by first|(rw [hji2] at H;exact H)|(simp only [hji2] at H ⊢;exact H));have hji2w:(IntKind.i64.wrap (a0_0 + 1))=ji2:=(i64_w _).trans hji2;by_cases c3:0≤(ji2)
 ·
  rw [if_pos c3] at H;have c3b0:=eq_true c3;have c3b1:decide (0≤(ji2))=true:=decide_eq_true c3;clear c3;by_cases c4:(ji2:Int).toNat≤35184372088832
  ·
   rw [if_pos c4] at H;have c4b0:=eq_true c4;have c4b1:decide ((ji2:Int).toNat≤35184372088832)=true:=decide_eq_true c4;clear c4;obtain ⟨y102,hy102⟩:∃ y_:List Int,y_=(List.replicate (ji2:Int).toNat 0):=⟨_,rfl⟩;(replace H:((spec_hiAll.f k a0_0 ([]:List Int)).bind fun t105=>(spec_hiNumbers.l0 k y102 t105 (t105.length:Int) 0 a0_0 a0_1 l0_2))=some r:=by first|(rw [hy102];with_reducible exact H)|(have H2_:=(Option.bind_some _ _).symm.trans H;rw [hy102];with_reducible exact H2_)|(have H2_:=(Option.bind_some _ _).symm.trans H;with_reducible exact H2_)|with_reducible exact H|(rw [hy102];exact H)|exact H);have Ny102:=za hy102;clear hy102;obtain ⟨t105,A5,H⟩:=bindAside H;(try dsimp only at H);have H':=za H;clear H;(go_enter Try.func116,Try.ntmps116);(go_wp2_with (first|((with_reducible refine zA (N:=1) rfl ?_);refine zF ?hg (N:=1) ?hd (cs:=#[.int .i64 a0_0,.int .i64 a0_1,.slice A0_2 l0_2.length c0_2]) (t:=43) ?hr ?_;(case hd=>rfl);(case hg=>rfl);(case hr=>first|(go_simp;done)|(go_simp;rfl));intro gb101 hg w6 hbox hb;have BK101:=za (hbox);have GW101:=za ((by rw [hg];exact (zo (by repeat (first|(with_reducible first|exact HB.out|apply zc|apply zd|apply zb)|exact HB.out))):w.heap.size≤gb101));have GE101:=za ((by rw [hg];exact (zo (by repeat (first|(with_reducible first|exact HB.out|apply zc|apply zd|apply zb)|exact HB.out))):w.heap.size≤gb101));replace HB:=za (zp (by repeat (first|(with_reducible first|exact HB.out|apply zc|apply zd|apply zb)|exact HB.out)) hb);clear hb hbox hg;have hcz7_0:w6.cell? ⟨gb101,0,none⟩=some (.int .i64 a0_0):=(zg BK101.out 0).trans rfl;have hcz7_1:w6.cell? ⟨gb101,1,none⟩=some (.int .i64 a0_1):=(zg BK101.out 1).trans rfl;have hcz7_2:w6.cell? ⟨gb101,2,none⟩=some (.slice A0_2 l0_2.length c0_2):=(zg BK101.out 2).trans rfl;have hfz7_0:=zm BK101.out 0;have hfz7_1:=zm BK101.out 1;have hfz7_2:=zm BK101.out 2)|((with_reducible refine zA (N:=9) rfl ?_);refine Kd.R_make (Kd.int .i64) _ 3 rfl (N:=9) rfl 28 _ _ rfl ji2 rfl rfl Try.underlying28 (.int .i64 0) 8 info3 rfl (by decide) (by omega) 0 (ok:=fun _=>True) (okp:=fun _=>True) rfl (fun _ hk=>hk) trivial (of_decide_eq_true ‹_›) (Nat.le_trans (Nat.mul_le_mul_right _ (of_decide_eq_true ‹_›:ji2.toNat≤35184372088832)) (by omega)) (Below.refl _ _) (Nat.le_refl _) ?_;intro v103 w8 ho9 hb hg_ hnew_;clear hg_ hnew_;(first|rw [← Ny102.out] at ho9|(simp only [Int.reduceToNat] at ho9;rw [← Ny102.out] at ho9));have HO104:=za (zL ho9 (zo (by repeat (first|(with_reducible first|exact HB.out|apply zc|apply zd|apply zb|refine ze ?_ GE101.out)|exact HB.out))));replace BK101:=za (zu (g:=gb101) (o:=.cells #[.int .i64 a0_0,.int .i64 a0_1,.slice A0_2 l0_2.length c0_2] 43 (0,0)) (by apply_rules only [BK101.out,zh,zf,zi]) hb);replace HB:=za (zp (by repeat (first|(with_reducible first|exact HB.out|apply zc|apply zd|apply zb|refine ze ?_ GE101.out)|exact HB.out)) hb);clear hb ho9;have hcz10_0:w8.cell? ⟨gb101,0,none⟩=some (.int .i64 a0_0):=(zg BK101.out 0).trans rfl;have hcz10_1:w8.cell? ⟨gb101,1,none⟩=some (.int .i64 a0_1):=(zg BK101.out 1).trans rfl;have hcz10_2:w8.cell? ⟨gb101,2,none⟩=some (.slice A0_2 l0_2.length c0_2):=(zg BK101.out 2).trans rfl;have hfz10_0:=zm BK101.out 0;have hfz10_1:=zm BK101.out 1;have hfz10_2:=zm BK101.out 2)|((with_reducible refine zq (f:=91) rfl ?_);refine zr (some 12) rfl rfl Try.func91 (by kernel_rfl) rfl #[.int .i64 a0_0,.slice none 0 0] rfl (by first|rfl|simp only [z3_,z4_,z5_];try rfl) ?_;(refine (spec_hiAll.calls k a0_0 _ _ ([]:List Int) t105 _ ?side1 ?side2 A5.out).mono ?_);(case side1=>exact Kd.C_nil _ _);(case side2=>exact Nat.le_refl _);rintro e w11 ⟨v106,rfl,ho0,hb⟩;refine ⟨_,rfl,?_⟩;have HO107:=za (Kd.N_lower (Kd.N_mono (ok':=fun k_=>some k_ ≠ (v103:Value).ownBlock∧k_ ≠ gb101) ho0 (fun k_ hk_=>⟨(Kd.fresh' (Kd.R_lt (by (with_reducible repeat (first|apply zk|apply zl|apply zj));exact HO104.out)) k_ hk_),(Kd.freshB (g:=gb101) (o:=.cells #[.int .i64 a0_0,.int .i64 a0_1,.slice A0_2 l0_2.length c0_2] 43 (0,0)) (by apply_rules only [BK101.out,zh,zf,zi]) k_ hk_)⟩)) (zo (by repeat (first|(with_reducible first|exact HB.out|apply zc|apply zd|apply zb|refine ze ?_ GE101.out)|exact HB.out))));replace HO104:=za (zG (by (with_reducible repeat (first|apply zk|apply zl|apply zj));exact HO104.out) hb);replace BK101:=za (zu (g:=gb101) (o:=.cells #[.int .i64 a0_0,.int .i64 a0_1,.slice A0_2 l0_2.length c0_2] 43 (0,0)) (by apply_rules only [BK101.out,zh,zf,zi]) hb);replace HB:=za (zp (by repeat (first|(with_reducible first|exact HB.out|apply zc|apply zd|apply zb|refine ze ?_ GE101.out)|exact HB.out)) hb);obtain ⟨Ao12,co12,eo12⟩:=Kd.N_slice HO107.out;subst eo12)));(go_loopg [14] k (fun kq v14 w'=>∃ (x3_1:List Int) (x14_1:Int),v14=.int .i64 x14_1∧Aside0 (spec_hiNumbers.l0 kq x3_1 t105 (t105.length:Int) x14_1 a0_0 a0_1 l0_2=some r)∧Aside0 (kq≤k)∧Aside0 (Kd.R (Kd.int .i64) 3 w' w.heap.size (fun _=>True) v103 x3_1)∧Aside0 (Kd.N (Kd.slice 3 (Kd.int .i64)) 28 w' w.heap.size (fun k_=>some k_ ≠ (v103:Value).ownBlock∧k_ ≠ gb101) (.slice Ao12 t105.length co12) t105)∧Aside0 (w'.heap[gb101]?=some (.cells #[.int .i64 a0_0,.int .i64 a0_1,(.slice A0_2 l0_2.length c0_2)] 43 (0,0)))∧Aside0 (Below w.heap.size w w')));case atStart=>exact ⟨(y102),(0),(by first|rfl|(simp;done)|(simp [*];done)),H',⟨Nat.le_refl _⟩,⟨by (with_reducible repeat (first|apply zk|apply zl|apply zj));exact HO104.out⟩,⟨by (with_reducible repeat (first|apply Kd.N_alloc|apply Kd.N_drewN|apply Kd.N_drew));exact HO107.out⟩,⟨by (with_reducible repeat (first|refine zh ?_ _|refine zf ?_|refine zi ?_ _));exact BK101.out⟩,⟨by repeat (first|(with_reducible first|exact HB.out|apply zc|apply zd|apply zb|refine ze ?_ GE101.out)|exact HB.out)⟩⟩
   case round =>
    clear H';(try clear c1);(try clear p2);(try clear c3);(try clear c3b0);(try clear c3b1);(try clear c4);(try clear c4b0);(try clear c4b1);(try clear p6);(try clear c9);(try clear c11);(try clear hcz10_0);(try clear hcz10_1);(try clear hcz10_2);(try clear hcz7_0);(try clear hcz7_1);(try clear hcz7_2);(try clear hfz10_0);(try clear hfz10_1);(try clear hfz10_2);(try clear hfz7_0);(try clear hfz7_1);(try clear hfz7_2);obtain ⟨x3_1,x14_1,rfl,HA,HK1,HO_3,HO_12,BK101,HB⟩:=hrel
    cases gk with
   |zero=>exact absurd HA.out (by simp [spec_hiNumbers.l0])
   |succ k1 =>
     have H:=HA.out;clear HA;simp only [spec_hiNumbers.l0] at H;by_cases c13:x14_1 < (t105.length:Int)
     ·
      rw [if_pos c13] at H;have c13b0:decide (x14_1 < (t105.length:Int))=true:=decide_eq_true c13;clear c13;by_cases c14:0≤x14_1
      ·
       rw [if_pos c14] at H;have c14b0:decide (0≤x14_1)=true:=decide_eq_true c14;clear c14;by_cases c15:x14_1 < (t105.length:Int)
       ·
        rw [if_pos c15] at H;have c15b0:decide (x14_1 < (t105.length:Int))=true:=decide_eq_true c15;clear c15;obtain ⟨t109,A16,H⟩:=bindAside H;(try dsimp only at H);by_cases c17:0≤t109
        ·
         rw [if_pos c17] at H;have c17b0:decide (0≤t109)=true:=decide_eq_true c17;clear c17;by_cases c18:t109 < (x3_1.length:Int)
         · rw [if_pos c18] at H;have c18b0:decide (t109 < (x3_1.length:Int))=true:=decide_eq_true c18;clear c18;obtain ⟨y111,hy111⟩:∃ y_:List Int,y_=(x3_1.set (t109:Int).toNat (wrap64 ((rd x3_1 t109) + 1))):=⟨_,rfl⟩;(replace H:(spec_hiNumbers.l0 k1 y111 t105 (t105.length:Int) (wrap64 (x14_1 + 1)) a0_0 a0_1 l0_2)=some r:=by first|(rw [hy111];with_reducible exact H)|(have H2_:=(Option.bind_some _ _).symm.trans H;rw [hy111];with_reducible exact H2_)|(have H2_:=(Option.bind_some _ _).symm.trans H;with_reducible exact H2_)|with_reducible exact H|(rw [hy111];exact H)|exact H);have Ny111:=za hy111;clear hy111;have H':=za H;clear H;have p108:0≤(x14_1:Int):=of_decide_eq_true ‹_›;have q108:x14_1 < (t105.length:Int):=of_decide_eq_true ‹_›;obtain ⟨ad108,A108_0,c108_0,e108,hx108_0,hl108_0,hi108_0⟩:=at_L1 (Kd.N_reads' HO_12.out).2.2 x14_1 p108 q108;cases e108;obtain ⟨ce108,hce108,hMe108,hcc108⟩:=Kd.N_get HO_12.out [] x14_1 p108 (by first|exact q108|exact of_decide_eq_true ‹_›|(have e_:=(Kd.N_reads' HO_12.out).1;omega));obtain ⟨ua108_0,uc108_0,rfl,ul108_0,ge108_0⟩:=Kd.FK_slice_open hMe108;have hv108_0:=hcc108 0 _ rfl;rw [Nat.add_zero,show ((Kd.slice 3 (Kd.int .i64))).sz=1 from rfl,Nat.mul_one] at hv108_0;replace hv108_0:=Option.some.inj (hv108_0.symm.trans hx108_0);(injection hv108_0 with hva_ hvn_ hvc_);rw [hva_] at ge108_0;rw [hvc_] at ul108_0;have HL108_0:=za (show Kd.V (Kd.int .i64) 3 _ w.heap.size _ _ (rd_L1 t105 x14_1) from Kd.V_mk ul108_0 ge108_0);clear hva_ hvn_ hvc_ ge108_0 ul108_0;clear hcc108 hce108;have HR108_0:=za hi108_0;have HC108_0:=za hl108_0;clear hi108_0 hl108_0;replace p108:=eq_true p108;replace q108:=eq_true q108;have hcz20_0:wr.cell? ⟨gb101,0,none⟩=some (.int .i64 a0_0):=(zg BK101.out 0).trans rfl;have hcz20_1:wr.cell? ⟨gb101,1,none⟩=some (.int .i64 a0_1):=(zg BK101.out 1).trans rfl;have hcz20_2:wr.cell? ⟨gb101,2,none⟩=some (.slice A0_2 l0_2.length c0_2):=(zg BK101.out 2).trans rfl;have hfz20_0:=zm BK101.out 0;have hfz20_1:=zm BK101.out 1;have hfz20_2:=zm BK101.out 2;(go_wp2_with (first|((with_reducible refine zq (f:=92) rfl ?_);refine zr (some 21) rfl rfl Try.func92 (by kernel_rfl) rfl #[.agg #[.int .i64 a0_0,.int .i64 a0_1,.slice A0_2 l0_2.length c0_2],.slice A108_0 (rd_L1 t105 x14_1).length c108_0] rfl (by first|rfl|simp only [z3_,z4_,z5_];try rfl) ?_;(with_reducible refine (spec_hiHits.calls k1 a0_0 a0_1 _ _ l0_2 _ _ (rd_L1 t105 x14_1) t109 _ ?side1 ?side2 ?side3 ?side4 A16.out).mono ?_);(case side1=>repeat (first|exact (Kd.C_below HR0_2.out HB.out)|(with_reducible refine zC ?_ _)|(with_reducible refine zD ?_ _)|(with_reducible refine zE ?_)));(case side2=>exact HC0_2.out);(case side3=>repeat (first|exact (by repeat (first|(with_reducible exact HR108_0.out)|(with_reducible refine zC ?_ _)|(with_reducible refine zD ?_ _)|(with_reducible refine zE ?_)|exact HR108_0.out))|(with_reducible refine zC ?_ _)|(with_reducible refine zD ?_ _)|(with_reducible refine zE ?_)));(case side4=>exact HC108_0.out);rintro e w21 ⟨rfl,hb⟩;refine ⟨_,rfl,?_⟩;replace HO_3:=za (zG (by (with_reducible repeat (first|apply zk|apply zl|apply zj));exact HO_3.out) hb);replace HO_12:=za (Kd.N_below (by (with_reducible repeat (first|apply Kd.N_alloc|apply Kd.N_drewN|apply Kd.N_drew));exact HO_12.out) hb);replace HL108_0:=za (Kd.V_below (by (with_reducible repeat (first|apply Kd.V_alloc|apply Kd.V_drewN|apply Kd.V_drew));exact HL108_0.out) hb);replace BK101:=za (zu (g:=gb101) (o:=.cells #[.int .i64 a0_0,.int .i64 a0_1,.slice A0_2 l0_2.length c0_2] 43 (0,0)) (by apply_rules only [BK101.out,zh,zf,zi]) hb);replace HR108_0:=za (Kd.C_below (by repeat (first|(with_reducible exact HR108_0.out)|(with_reducible refine zC ?_ _)|(with_reducible refine zD ?_ _)|(with_reducible refine zE ?_)|exact HR108_0.out)) hb);replace HB:=za (zp (by repeat (first|(with_reducible first|exact HB.out|apply zc|apply zd|apply zb|refine ze ?_ GE101.out)|exact HB.out)) hb);obtain ⟨Ao22,co22,eo22⟩:=Kd.R_slice HO_3.out;subst eo22;have p110:0≤(t109:Int):=of_decide_eq_true ‹_›;have q110:t109 < (x3_1.length:Int):=of_decide_eq_true ‹_›;obtain ⟨ad110,e110,hx110_0⟩:=Kd.at_int (zB HO_3.out).2.2 t109 p110 q110;cases e110;replace p110:=eq_true p110;replace q110:=eq_true q110;have p19:0≤(t109:Int):=of_decide_eq_true ‹_›;have q19:(t109:Int) < ((x3_1.length:Int):Int):=of_decide_eq_true ‹_›;obtain ⟨go19,co19,eo19,gb19,gl19,cl19,HG19⟩:=Kd.R_form HO_3.out (by omega);(first|cases eo19|(injection eo19 with ea_ en_ ec_;(first|subst ea_|(injection ea_ with ea_;subst ea_));subst ec_;clear en_));have GB19:=za gb19;have GG19:=za HG19;clear gb19 gl19 HG19;(first|simp only [add_plain] at hx110_0|skip);obtain ⟨hx19_0,hf19_0⟩:=Kd.R_celln 0 HO_3.out (t109:Int) p19 q19;replace p19:=eq_true p19;replace q19:=eq_true q19;obtain ⟨hy23_,hz23_⟩:=Kd.R_celln 0 HO_3.out (t109:Int) (of_decide_eq_true ‹_›) (of_decide_eq_true ‹_›);have HP23:=Kd.R_putg HO_3.out (t109:Int) (wrap64 ((rd x3_1 t109) + 1)))|((with_reducible refine gate_store (t:=3) (p:=25) rfl ?_);refine store_event (t:=3) (p:=25) (v:=?vo_w24) (w1:=(w21.setCell ⟨go19,(t109:Int).toNat,none⟩ (.int .i64 (wrap64 ((rd x3_1 t109) + 1))))) ?hg ?ho ?hn ?hr ?_;(case ho=>rfl);(case hg=>rfl);(case hn=>rfl);(case hr=>first|(go_simp;done)|(go_simp;rfl));intro w24 hw;have hg:w21.grownBy w24 (some go19):=(by rw [hw];exact HP23.2);have hp_:Kd.R (Kd.int .i64) 3 w24 w.heap.size (fun _=>True) (.slice (some ⟨go19,0,none⟩) x3_1.length co22) y111:=(by rw [hw,Ny111.out];exact HP23.1);clear HP23;replace HO_12:=za (Kd.N_afterv (v:=(.slice (some ⟨go19,0,none⟩) x3_1.length co22)) (v1:=(.slice (some ⟨go19,0,none⟩) x3_1.length co22)) (ok:=(fun k_=>k_ ≠ gb101)) (by (with_reducible repeat (first|apply Kd.N_alloc|apply Kd.N_drewN|apply Kd.N_drew));exact Kd.N_mono HO_12.out (fun _ hk=>⟨hk.2,hk.1⟩)) hg (.inl rfl));replace BK101:=za (blk_grown (g:=gb101) (o:=.cells #[.int .i64 a0_0,.int .i64 a0_1,.slice A0_2 l0_2.length c0_2] 43 (0,0)) (by apply_rules only [BK101.out,zh,zf,zi]) hg (Kd.R_ne HO_3.out BK101.out (by decide)));replace HO_3:=za (hp_);replace HL108_0:=za (Kd.V_afterv (v:=(.slice (some ⟨go19,0,none⟩) x3_1.length co22)) (v1:=(.slice (some ⟨go19,0,none⟩) x3_1.length co22)) (ok:=(fun k_=>some k_ ≠ (.slice (some ad108) t105.length co12:Value).ownBlock∧k_ ≠ gb101)) (by (with_reducible repeat (first|apply Kd.V_alloc|apply Kd.V_drewN|apply Kd.V_drew));exact Kd.V_mono HL108_0.out (fun _ hk=>⟨⟨hk.2,hk.1.2⟩,hk.1.1⟩)) hg (.inl rfl));replace HB:=za ((by rw [hw];exact ze (HB.out) GB19.out:Below w.heap.size w w24));clear hg hw hp_)));(go_roundg k1);(case measure=>have:=HK1.out;omega);case rel=>exact ⟨(y111),(wrap64 (x14_1 + 1)),(by first|rfl|(simp;done)|(simp [*];done)),H',⟨by have:=HK1.out;omega⟩,⟨by (with_reducible repeat (first|apply zk|apply zl|apply zj));exact HO_3.out⟩,⟨by (with_reducible repeat (first|apply Kd.N_alloc|apply Kd.N_drewN|apply Kd.N_drew));exact Kd.N_mono HO_12.out (fun _ hk=>⟨hk.2,hk.1⟩)⟩,⟨by (with_reducible repeat (first|refine zh ?_ _|refine zf ?_|refine zi ?_ _));exact BK101.out⟩,⟨by repeat (first|(with_reducible first|exact HB.out|apply zc|apply zd|apply zb|refine ze ?_ GE101.out)|exact HB.out)⟩⟩
         · rw [if_neg c18] at H;exact absurd H (by simp)
        · rw [if_neg c17] at H;exact absurd H (by simp)
       · rw [if_neg c15] at H;exact absurd H (by simp)
      · rw [if_neg c14] at H;exact absurd H (by simp)
     · rw [if_neg c13] at H;have c13b0:decide (x14_1 < (t105.length:Int))=false:=decide_eq_false c13;clear c13;obtain rfl:=Option.some.inj H;(go_wp2);(go_ret);exact ⟨_,by first|rfl|(simp [errW_none,errW_some] <;> rfl)|(simp only [← hji2];first|rfl|(simp [errW_none,errW_some] <;> rfl))|(simp [*,errW_none,errW_some] <;> rfl),by (with_reducible repeat (first|apply zk|apply zl|apply zj));exact HO_3.out,by repeat (first|(with_reducible first|exact HB.out|apply zc|apply zd|apply zb|refine ze ?_ GE101.out)|exact HB.out)⟩
  · rw [if_neg c4] at H;exact absurd H (by simp)
 · rw [if_neg c3] at H;exact absurd H (by simp)
end Go.Proofs.Ytiopnmgcajohfaa.Q
end
section
namespace Go.Proofs.Ytiopnmgcajohfaa.Q
open Go.RowKit Go.Proofs.YtiopnmgcajohfaaW.PrintWords Go.Proofs.YtiopnmgcajohfaaW.PrintLast Go.Proofs.YtiopnmgcajohfaaW.PrintMore
attribute [local go_sem] max2_int min2_int max_two min_two max_three min_three max_four min_four   -- for this text's walks alone
set_option linter.unusedVariables false
set_option linter.unusedSimpArgs false
def spec_HitNumbers.f (k:Nat) (a0_0:Int) (a0_1:Int) (l0_2:List Int):Option (List Int × Bool):=(spec_hiGood.f k a0_0 a0_1 l0_2).bind fun t102=>(if t102=true then ((spec_hiNumbers.f k a0_0 a0_1 l0_2).bind fun t103=>(some (t103,true))) else (some (([]:List Int),false)))
set_option maxHeartbeats 8000000 in
set_option maxRecDepth 100000 in
theorem spec_HitNumbers.calls (k:Nat) (a0_0:Int) (a0_1:Int) (A0_2:Option Addr) (c0_2:Nat) (l0_2:List Int) (r1:List Int) (r2:Bool) (w:World) (hr0_2:Kd.C (Kd.int .i64) w A0_2 l0_2.length l0_2) (hc0_2:l0_2.length≤c0_2) (h:spec_HitNumbers.f k a0_0 a0_1 l0_2=some (r1,r2)) :
  Calls Try.prog 64 #[.agg #[.int .i64 a0_0,.int .i64 a0_1,.slice A0_2 l0_2.length c0_2]] w fun e w'=>∃ v0_:Value,e=.returned (.tuple #[v0_,.bool r2])∧Kd.R (Kd.int .i64) 3 w' w.heap.size (fun _=>True) v0_ r1∧Below w.heap.size w w':=by
 have hu43:=Try.underlying43;have HR0_2:=za hr0_2;have HC0_2:=za hc0_2;clear hr0_2 hc0_2;have HB:=za (Below.refl w.heap.size w);have H:((spec_hiGood.f k a0_0 a0_1 l0_2).bind fun t102=>(if t102=true then ((spec_hiNumbers.f k a0_0 a0_1 l0_2).bind fun t103=>(some (t103,true))) else (some (([]:List Int),false))))=some (r1,r2):=h;clear h;obtain ⟨t102,A2,H⟩:=bindAside H;(try dsimp only at H);by_cases c3:t102=true
 · subst c3;(have H1:((spec_hiNumbers.f k a0_0 a0_1 l0_2).bind fun t103=>(some (t103,true)))=some (r1,r2):=by rw [if_pos rfl] at H;exact H);clear H;have H:=H1;clear H1;obtain ⟨t103,A4,H⟩:=bindAside H;(try dsimp only at H);simp only [Option.some.injEq,Prod.mk.injEq] at H;obtain ⟨rfl,rfl⟩:=H;(go_enter Try.func64,Try.ntmps64);(go_wp2_with (first|((with_reducible refine zA (N:=1) rfl ?_);refine zF ?hg (N:=1) ?hd (cs:=#[.int .i64 a0_0,.int .i64 a0_1,.slice A0_2 l0_2.length c0_2]) (t:=43) ?hr ?_;(case hd=>rfl);(case hg=>rfl);(case hr=>first|(go_simp;done)|(go_simp;rfl));intro gb101 hg w5 hbox hb;have BK101:=za (hbox);have GW101:=za ((by rw [hg];exact (zo (by repeat (first|(with_reducible first|exact HB.out|apply zc|apply zd|apply zb)|exact HB.out))):w.heap.size≤gb101));have GE101:=za ((by rw [hg];exact (zo (by repeat (first|(with_reducible first|exact HB.out|apply zc|apply zd|apply zb)|exact HB.out))):w.heap.size≤gb101));replace HB:=za (zp (by repeat (first|(with_reducible first|exact HB.out|apply zc|apply zd|apply zb)|exact HB.out)) hb);clear hb hbox hg;have hcz6_0:w5.cell? ⟨gb101,0,none⟩=some (.int .i64 a0_0):=(zg BK101.out 0).trans rfl;have hcz6_1:w5.cell? ⟨gb101,1,none⟩=some (.int .i64 a0_1):=(zg BK101.out 1).trans rfl;have hcz6_2:w5.cell? ⟨gb101,2,none⟩=some (.slice A0_2 l0_2.length c0_2):=(zg BK101.out 2).trans rfl;have hfz6_0:=zm BK101.out 0;have hfz6_1:=zm BK101.out 1;have hfz6_2:=zm BK101.out 2)|((with_reducible refine zq (f:=90) rfl ?_);refine zr (some 5) rfl rfl Try.func90 (by kernel_rfl) rfl #[.agg #[.int .i64 a0_0,.int .i64 a0_1,.slice A0_2 l0_2.length c0_2]] rfl (by first|rfl|simp only [z3_,z4_,z5_];try rfl) ?_;(with_reducible refine (spec_hiGood.calls k a0_0 a0_1 _ _ l0_2 true _ ?side1 ?side2 A2.out).mono ?_);(case side1=>repeat (first|exact (Kd.C_below HR0_2.out HB.out)|(with_reducible refine zC ?_ _)|(with_reducible refine zD ?_ _)|(with_reducible refine zE ?_)));(case side2=>exact HC0_2.out);rintro e w7 ⟨rfl,hb⟩;refine ⟨_,rfl,?_⟩;replace BK101:=za (zu (g:=gb101) (o:=.cells #[.int .i64 a0_0,.int .i64 a0_1,.slice A0_2 l0_2.length c0_2] 43 (0,0)) (by apply_rules only [BK101.out,zh,zf,zi]) hb);replace HB:=za (zp (by repeat (first|(with_reducible first|exact HB.out|apply zc|apply zd|apply zb|refine ze ?_ GE101.out)|exact HB.out)) hb);have hcz8_0:w7.cell? ⟨gb101,0,none⟩=some (.int .i64 a0_0):=(zg BK101.out 0).trans rfl;have hcz8_1:w7.cell? ⟨gb101,1,none⟩=some (.int .i64 a0_1):=(zg BK101.out 1).trans rfl;have hcz8_2:w7.cell? ⟨gb101,2,none⟩=some (.slice A0_2 l0_2.length c0_2):=(zg BK101.out 2).trans rfl;have hfz8_0:=zm BK101.out 0;have hfz8_1:=zm BK101.out 1;have hfz8_2:=zm BK101.out 2)|((with_reducible refine zq (f:=116) rfl ?_);refine zr (some 8) rfl rfl Try.func116 (by kernel_rfl) rfl #[.agg #[.int .i64 a0_0,.int .i64 a0_1,.slice A0_2 l0_2.length c0_2]] rfl (by first|rfl|simp only [z3_,z4_,z5_];try rfl) ?_;(with_reducible refine (spec_hiNumbers.calls k a0_0 a0_1 _ _ l0_2 t103 _ ?side1 ?side2 A4.out).mono ?_);(case side1=>repeat (first|exact (Kd.C_below HR0_2.out HB.out)|(with_reducible refine zC ?_ _)|(with_reducible refine zD ?_ _)|(with_reducible refine zE ?_)));(case side2=>exact HC0_2.out);rintro e w9 ⟨v104,rfl,ho0,hb⟩;refine ⟨_,rfl,?_⟩;have HO105:=za (zL ho0 (zo (by repeat (first|(with_reducible first|exact HB.out|apply zc|apply zd|apply zb|refine ze ?_ GE101.out)|exact HB.out))));replace BK101:=za (zu (g:=gb101) (o:=.cells #[.int .i64 a0_0,.int .i64 a0_1,.slice A0_2 l0_2.length c0_2] 43 (0,0)) (by apply_rules only [BK101.out,zh,zf,zi]) hb);replace HB:=za (zp (by repeat (first|(with_reducible first|exact HB.out|apply zc|apply zd|apply zb|refine ze ?_ GE101.out)|exact HB.out)) hb))));(go_ret2);exact ⟨_,by first|rfl|simp [*,errW_none,errW_some] <;> rfl,by (with_reducible repeat (first|apply zk|apply zl|apply zj));exact HO105.out,by repeat (first|(with_reducible first|exact HB.out|apply zc|apply zd|apply zb|refine ze ?_ GE101.out)|exact HB.out)⟩
 · replace c3:=Bool.eq_false_iff.mpr c3;subst c3;(have H1:(some (([]:List Int),false))=some (r1,r2):=by rw [if_neg (show ¬ (false=true) by decide)] at H;exact H);clear H;have H:=H1;clear H1;simp only [Option.some.injEq,Prod.mk.injEq] at H;obtain ⟨rfl,rfl⟩:=H;(go_enter Try.func64,Try.ntmps64);(go_wp2_with (first|((with_reducible refine zA (N:=1) rfl ?_);refine zF ?hg (N:=1) ?hd (cs:=#[.int .i64 a0_0,.int .i64 a0_1,.slice A0_2 l0_2.length c0_2]) (t:=43) ?hr ?_;(case hd=>rfl);(case hg=>rfl);(case hr=>first|(go_simp;done)|(go_simp;rfl));intro gb101 hg w10 hbox hb;have BK101:=za (hbox);have GW101:=za ((by rw [hg];exact (zo (by repeat (first|(with_reducible first|exact HB.out|apply zc|apply zd|apply zb)|exact HB.out))):w.heap.size≤gb101));have GE101:=za ((by rw [hg];exact (zo (by repeat (first|(with_reducible first|exact HB.out|apply zc|apply zd|apply zb)|exact HB.out))):w.heap.size≤gb101));replace HB:=za (zp (by repeat (first|(with_reducible first|exact HB.out|apply zc|apply zd|apply zb)|exact HB.out)) hb);clear hb hbox hg;have hcz11_0:w10.cell? ⟨gb101,0,none⟩=some (.int .i64 a0_0):=(zg BK101.out 0).trans rfl;have hcz11_1:w10.cell? ⟨gb101,1,none⟩=some (.int .i64 a0_1):=(zg BK101.out 1).trans rfl;have hcz11_2:w10.cell? ⟨gb101,2,none⟩=some (.slice A0_2 l0_2.length c0_2):=(zg BK101.out 2).trans rfl;have hfz11_0:=zm BK101.out 0;have hfz11_1:=zm BK101.out 1;have hfz11_2:=zm BK101.out 2)|((with_reducible refine zq (f:=90) rfl ?_);refine zr (some 5) rfl rfl Try.func90 (by kernel_rfl) rfl #[.agg #[.int .i64 a0_0,.int .i64 a0_1,.slice A0_2 l0_2.length c0_2]] rfl (by first|rfl|simp only [z3_,z4_,z5_];try rfl) ?_;(with_reducible refine (spec_hiGood.calls k a0_0 a0_1 _ _ l0_2 false _ ?side1 ?side2 A2.out).mono ?_);(case side1=>repeat (first|exact (Kd.C_below HR0_2.out HB.out)|(with_reducible refine zC ?_ _)|(with_reducible refine zD ?_ _)|(with_reducible refine zE ?_)));(case side2=>exact HC0_2.out);rintro e w12 ⟨rfl,hb⟩;refine ⟨_,rfl,?_⟩;replace BK101:=za (zu (g:=gb101) (o:=.cells #[.int .i64 a0_0,.int .i64 a0_1,.slice A0_2 l0_2.length c0_2] 43 (0,0)) (by apply_rules only [BK101.out,zh,zf,zi]) hb);replace HB:=za (zp (by repeat (first|(with_reducible first|exact HB.out|apply zc|apply zd|apply zb|refine ze ?_ GE101.out)|exact HB.out)) hb))));(go_ret2);exact ⟨_,by first|rfl|simp [*,errW_none,errW_some] <;> rfl,by first|exact Kd.R_nil _ _ _ _ _|exact Kd.N_nil _ _ _ _ _|exact Kd.V_nil _ _ _ _ _|exact Kd.Q_nil _ _ _ _ _|exact Kd.S_nil _ _ _ _ _,by repeat (first|(with_reducible first|exact HB.out|apply zc|apply zd|apply zb|refine ze ?_ GE101.out)|exact HB.out)⟩
end Go.Proofs.Ytiopnmgcajohfaa.Q
end
section
namespace Go.Proofs.Ytiopnmgcajohfaa.WalkNum
set_option linter.unusedVariables false
open Go.RowKit Go.Proofs.YtiopnmgcajohfaaW.PrintWords Go.Proofs.YtiopnmgcajohfaaW.PrintLast Go.Proofs.YtiopnmgcajohfaaW.PrintMore
open Go.Proofs.YtiopnmgcajohfaaL Go.Proofs.Ytiopnmgcajohfaa.LawK Go.Proofs.Ytiopnmgcajohfaa.BoardK Go.Proofs.Ytiopnmgcajohfaa.Walk Go.Proofs.Ytiopnmgcajohfaa.Q
theorem run_store_func {P:Program} {w:World} {a:Addr} {m:Mode} (f:Fn) (xs:Array Value) (ys:Array Value):(store a (.func f xs ys) m).run P w=stored P w a (.func f xs ys) m:=run_store P w a _ m rfl
attribute [local go_sem] run_store_func
section
variable (k : Blks) (hk : k.Apart) (Inv : List (List Int) → World → Prop) (hI : ∀ vis w w', Inv vis w → Still k.has w w' → Inv vis w') (R C : Nat) (RI CI : Int) (hRI : RI = R) (hCI : CI = C) (l : List Int) (A0 : Option Addr) (c0 cp : Nat) (hc0 : l.length ≤ c0) (cc1 : Value)
  (hL : ∀ vis w, Inv vis w → Kd.C (Kd.int .i64) w A0 l.length l)
  (hl : l.length = R) (hR : R ≤ 6) (hC : C ≤ 6) (hb : ∀ i (hi : i < l.length), 0 ≤ l[i] ∧ l[i] < 2 ^ C)
  (P : List (List Int) → List Int → Prop) (hdo : ∀ vis ps w, ps.length = R → P vis ps → WSt k Inv RI CI R cp l A0 c0 (.func (.func 149) #[] #[cc1]) vis ps w →
    Calls Try.prog 149 #[.slice (some ⟨k.a, 0, none⟩) R cp, cc1] w fun e w' => e = .returned (.bool true) ∧ WSt k Inv RI CI R cp l A0 c0 (.func (.func 149) #[] #[cc1]) (vis ++ [ps]) ps w')
include hk hI hRI hCI hc0 hL hl hR hC hb hdo
set_option maxHeartbeats 4000000 in
set_option maxRecDepth 100000 in
theorem row_calls:∀ (d r t:Nat) (rI tI:Int),rI=r→tI=t→r + d=R→t < 64→∀ vis ps w,ps.length=R→(∀ a q b,waysFrom l C d r t (ps.take r)=a ++ q :: b→P (vis ++ a) q)→WSt k Inv RI CI R cp l A0 c0 (.func (.func 149) #[] #[cc1]) vis ps w →
  Calls Try.prog 152 #[.int .i64 rI,.int .i64 tI,.pointer (some ⟨k.b,0,none⟩),.pointer (some ⟨k.d,0,none⟩),.pointer (some ⟨k.p,0,none⟩),.pointer (some ⟨k.g,0,none⟩),.pointer (some ⟨k.r,0,none⟩)] w fun e w'=>e=.returned (.tuple #[]) ∧
   ∃ ps',ps'.length=R∧ps'.take r=ps.take r∧WSt k Inv RI CI R cp l A0 c0 (.func (.func 149) #[] #[cc1]) (vis ++ waysFrom l C d r t (ps.take r)) ps' w'
|0,r,t,rI,tI,hr,ht,hrd,ht6,vis,ps,w,hps,hPP,hst=>by
  have hP0:P vis ps:=by have:=hPP [] ps [] (by rw [waysFrom,List.take_of_length_le (by omega)];rfl);rwa [List.append_nil] at this
  have CX:=Lib.hid (fun W (h:Aside0 (WSt k Inv RI CI R cp l A0 c0 (.func (.func 149) #[] #[cc1]) vis ps W))=>hdo vis ps W hps hP0 h.out)
  have MV:=Lib.hid (fun W (h:Aside0 (WSt k Inv RI CI R cp l A0 c0 (.func (.func 149) #[] #[cc1]) (vis ++ [ps]) ps W))=>h.out.setG hI hk)
  have e0:(rI == RI)=true:=beq_iff_eq.mpr (by omega)
  have e1:=za (show ps.take r=ps from List.take_of_length_le (by omega))
  have hz1:w.cell? ⟨k.b,0,none⟩=some (.int .i64 RI):=(zg hst.cB 0).trans rfl
  have hz2:w.cell? ⟨k.d,0,none⟩=some (.func (.func 149) #[] #[cc1]):=(zg hst.cD 0).trans rfl
  have hz3:w.cell? ⟨k.p,0,none⟩=some (.slice (some ⟨k.a,0,none⟩) R cp):=(zg hst.cP 0).trans rfl
  have HS:=za hst
  have HP:=za hps
  have hu24:=Try.underlying43
  clear hdo hst hps hr ht hrd ht6 hRI hCI hk hI hL hl hR hC hb hc0 hPP hP0
  go_enter Try.func152,Try.ntmps152
  go_wp2_with (first|(go_at_call 149;(refine (CX.out _ HS).mono ?_);rintro e w2 ⟨rfl,hs2⟩;have hz4:w2.cell? ⟨k.g,0,none⟩=some (.bool true):=(zg hs2.cG 0).trans rfl;have hf4:=zm hs2.cG 0;have HS2:=za hs2;clear hs2))
  first|go_end0|((try simp only [Exit.inBlock,Exit.then]);refine bodyPost_ret (results_none rfl _ _ _) rfl ?_)
  refine ⟨rfl,ps,HP.out,rfl,?_⟩
  rw [e1.out]
  exact MV.out _ HS2
|d + 1,r,t,rI,tI,hr,ht,hrd,ht6,vis,ps,w,hps,hPP,hst=>by
  have IH:=Lib.hid (fun (t':Nat) (tI':Int) (h2:tI'=(t':Int)) (h3:t' < 64) vis ps W (h4:ps.length=R) (h5:∀ a q b,waysFrom l C d (r + 1) t' (ps.take (r + 1))=a ++ q :: b→P (vis ++ a) q) (h:WSt k Inv RI CI R cp l A0 c0 (.func (.func 149) #[] #[cc1]) vis ps W)=>row_calls d (r + 1) t' (wrap64 (rI + 1)) tI' (by rw [hr,w64 (by omega) (by omega)];rfl) h2 (by omega) h3 vis ps W h4 h5 h)
  have MVB:=Lib.hid (fun vis ps W W' (h:WSt k Inv RI CI R cp l A0 c0 (.func (.func 149) #[] #[cc1]) vis ps W) (hb:Below W.heap.size W W')=>h.below hI hb)
  have MVA:=Lib.hid (fun vis ps W (h:WSt k Inv RI CI R cp l A0 c0 (.func (.func 149) #[] #[cc1]) vis ps W) (i c:Int)=>h.setA hI hk i c)
  have HL:=Lib.hid (fun vis ps W (h:WSt k Inv RI CI R cp l A0 c0 (.func (.func 149) #[] #[cc1]) vis ps W)=>hL vis W h.inv)
  have HASF:=Lib.hid (fun (j:Nat) (hj:j≤64)=>has_f RI CI (l:=l) (i:=r) (j:=j) (by omega) (hb r (by omega)).1 (by have:=(hb r (by omega)).2;have:=two_pow_six hC;omega) hj)
  have e0:(rI == RI)=false:=beq_eq_false_iff_ne.mpr (by omega)
  have z1:w.cell? ⟨k.b,0,none⟩=some (.int .i64 RI):=(zg hst.cB 0).trans rfl
  have HS:=za hst
  have HP:=za hps
  have HR:=za hr
  have HT:=za ht
  have HT6:=za ht6
  have HRD:=za hrd
  have HCI:=za hCI
  have HC0:=za hc0
  have HC6:=za hC
  have HR6:=za hR
  have hu24:=Try.underlying43
  obtain ⟨pre,hpre⟩:∃ pre,pre=ps.take r:=⟨_,rfl⟩
  rw [← hpre] at hPP ⊢
  have HPP:=za hPP
  have HPRE:=za hpre
  have plt:=eq_true (show 0≤rI by omega)
  have plt2:=eq_true (show rI < (R:Int) by omega)
  clear hdo hst hps hr ht hrd ht6 hRI hCI hk hI hL hl hR hC hb hc0 hpre hPP row_calls
  go_enter Try.func152,Try.ntmps152
  go_wp2
  go_loopg [9] (C + 1) (fun kq v9 w'=>∃ (x9:Int),v9=.int .i64 x9∧Aside0 (∃ (j:Nat) (ps':List Int),x9=-1 + j∧j + kq=C + 1∧ps'.length=R∧ps'.take r=pre∧WSt k Inv RI CI R cp l A0 c0 (.func (.func 149) #[] #[cc1]) (vis ++ (iota (-1) j).flatMap (colWays l r t pre (waysFrom l C d (r + 1)))) ps' w'))
  case atStart=>exact ⟨-1,rfl,⟨0,ps,by omega,by omega,HP.out,HPRE.out.symm,by simpa [iota] using HS.out⟩⟩
  case round =>
   clear z1
   obtain ⟨x9,rfl,HX⟩:=hrel
   obtain ⟨j,qs,hx,hj,hql,hqt,hs⟩:=HX.out
   clear HX
   have HX:=za hx
   have HQL:=za hql
   have HQT:=za hqt
   have HS2:=za hs
   have HJ:=za hj
   have z1:wr.cell? ⟨k.b,1,none⟩=some (.int .i64 CI):=(zg hs.cB 1).trans rfl
   have z2:wr.cell? ⟨k.g,0,none⟩=some (.bool true):=(zg hs.cG 0).trans rfl
   have z3:wr.cell? ⟨k.b,0,none⟩=some (.int .i64 RI):=(zg hs.cB 0).trans rfl
   have z4:wr.cell? ⟨k.b,2,none⟩=some (.slice A0 l.length c0):=(zg hs.cB 2).trans rfl
   clear hx hj hql hqt hs
   by_cases c1:x9 < CI
   ·
    have c1b:decide (x9 < CI)=true:=decide_eq_true c1
    cases gk with
   |zero=>exact absurd c1 (by have:=HX.out;have:=HJ.out;have:=HCI.out;omega)
   |succ k1 =>
     have EW:=za (show wrap64 (x9 + 1)=-1 + ((j + 1:Nat):Int) by have:=HX.out;have:=HJ.out;have:=HC6.out;rw [w64 (by omega) (by omega)];omega)
     have EJ:=za (show j + 1 + k1=C + 1 by have:=HJ.out;omega)
     have ES:=za (show (iota (-1) (j + 1)).flatMap (colWays l r t pre (waysFrom l C d (r + 1)))=(iota (-1) j).flatMap (colWays l r t pre (waysFrom l C d (r + 1))) ++ colWays l r t pre (waysFrom l C d (r + 1)) x9 by rw [iota_snoc,List.flatMap_append,HX.out];simp)
     have C1:=za c1
     clear c1
     by_cases c2:0≤x9
     ·
      have c2b:decide (0≤x9)=true:=decide_eq_true c2
      have c2e:=eq_true c2
      obtain ⟨xn,hxn⟩:∃ xn:Nat,x9=xn:=⟨x9.toNat,by omega⟩
      have HXN:=za hxn
      have HX6:=za (show xn < 6 by have:=C1.out;have:=HCI.out;have:=HC6.out;omega)
      have A1:=za (show impl_Board_has.f RI CI l rI x9=some (cell l r xn) by rw [HR.out,hxn];exact HASF.out xn (by have:=HX6.out;omega))
      obtain ⟨sh,hsh⟩:∃ s:Int,shr .i64 tI x9=s:=⟨_,rfl⟩
      have hsh1:(tI / 2 ^ min x9.toNat 64)=sh:=hsh
      have BT:Go.bits .and .i64 sh 1=if t.testBit xn then 1 else 0:=by rw [← hsh,HT.out,hxn];exact bit_and t xn (by have:=HT6.out;omega) (by have:=HX6.out;omega)
      clear c2 hxn
      by_cases c3:cell l r xn=true
      ·
       rw [c3] at A1
       by_cases c4:t.testBit xn=true
       ·
        have c4b:(Go.bits .and .i64 sh 1 == 1)=true:=by rw [BT,if_pos c4];rfl
        have NIL:=za (show colWays l r t pre (waysFrom l C d (r + 1)) x9=[] by have:=HXN.out;unfold colWays;rw [if_neg (by omega),if_neg (by rw [HXN.out];simp [c4])])
        clear c3 c4 BT hsh
        go_wp2_with (first|(go_at_call 136;(refine (impl_Board_has.calls RI CI _ _ l rI x9 true _ ?side1 ?side2 A1.out).mono ?_);(case side1=>exact HL.out _ _ _ HS2.out);(case side2=>exact HC0.out);rintro e w2 ⟨rfl,hb2⟩;have HS3:=za (MVB.out _ _ _ _ HS2.out hb2);clear hb2))
        go_roundg k1
        case measure=>omega
        case rel=>exact ⟨wrap64 (x9 + 1),(by first|rfl|(simp;done)),⟨j + 1,qs,EW.out,EJ.out,HQL.out,HQT.out,by rw [ES.out,NIL.out,List.append_nil];exact HS3.out⟩⟩
       ·
        have c4b:(Go.bits .and .i64 sh 1 == 1)=false:=by rw [BT,if_neg c4];rfl
        have c4f:t.testBit xn=false:=by simpa using c4
        have ONE:=za (show colWays l r t pre (waysFrom l C d (r + 1)) x9=waysFrom l C d (r + 1) (t ||| 2 ^ xn) (pre ++ [x9]) by have:=HXN.out;unfold colWays;rw [if_neg (by omega),HXN.out,Int.toNat_natCast,if_pos (by rw [c3,c4f];rfl)])
        obtain ⟨ji,hji⟩:∃ s:Int,shl .i64 1 x9=s:=⟨_,rfl⟩
        have hji_:(IntKind.i64.wrap (1 * 2 ^ min x9.toNat 64))=ji:=hji
        have hjiu:(IntKind.i64.wrap (2 ^ min x9.toNat 64))=ji:=by have h_:=hji_;rw [Int.one_mul] at h_;exact h_
        have p2x:=Nat.pow_le_pow_right (show 0 < 2 by decide) (show xn≤5 by have:=HX6.out;omega)
        have OR:=za (show Go.bits .or .i64 tI ji=((t ||| 2 ^ xn:Nat):Int) by rw [← hji,HT.out,HXN.out,shl_one xn (by have:=HX6.out;omega)];exact or_nat _ _ (by have:=HT6.out;omega) (by omega))
        have OR6:=za (show t ||| 2 ^ xn < 64 from Nat.or_lt_two_pow (n:=6) HT6.out (by omega))
        clear c3 c4 c4f BT hsh hji p2x
        have HRT:=za (show rI.toNat=r by rw [HR.out];rfl)
        have HPT:=za (show (qs.set rI.toNat x9).take (r + 1)=pre ++ [x9] by have hrl:r < qs.length:=(by have:=HQL.out;have:=HRD.out;omega);rw [HRT.out,List.take_add_one,List.take_set_of_le (Nat.le_refl _),HQT.out];simp [hrl])
        have NXT:=za (show ∀ a q b,waysFrom l C d (r + 1) (t ||| 2 ^ xn) ((qs.set rI.toNat x9).take (r + 1))=a ++ q :: b→P ((vis ++ (iota (-1) j).flatMap (colWays l r t pre (waysFrom l C d (r + 1)))) ++ a) q from fun a q b hq=>by rw [HPT.out,← ONE.out] at hq;rw [List.append_assoc];exact HPP.out _ q (b ++ (iota (x9 + 1) (C + 1 - j - 1)).flatMap (colWays l r t pre (waysFrom l C d (r + 1)))) (by rw [ways_cut l C d r t pre j (by have:=HX.out;have:=C1.out;have:=HCI.out;omega) HX.out,hq,List.append_assoc,List.append_assoc];rfl))
        go_wp2_with (first|(go_at_call 136;(refine (impl_Board_has.calls RI CI _ _ l rI x9 true _ ?side1 ?side2 A1.out).mono ?_);(case side1=>exact HL.out _ _ _ HS2.out);(case side2=>exact HC0.out);rintro e w2 ⟨rfl,hb2⟩;have HS3:=za (MVB.out _ _ _ _ HS2.out hb2);clear hb2;have z5:w2.cell? ⟨k.p,0,none⟩=some (.slice (some ⟨k.a,0,none⟩) R cp):=(zg HS3.out.cP 0).trans rfl;obtain ⟨z6,f6⟩:=Kd.R_celln 0 HS3.out.cA rI (of_eq_true plt) (of_eq_true plt2))|((with_reducible refine gate_store (t:=3) (p:=46) rfl ?_);refine store_event (t:=3) (p:=46) (v:=?vo) (w1:=(w2.setCell ⟨k.a,rI.toNat,none⟩ (.int .i64 x9))) ?hg ?ho ?hn ?hr ?_;(case ho=>rfl);(case hg=>rfl);(case hn=>rfl);(case hr=>first|(go_simp;done)|(go_simp;rfl));intro w4 hw;have HS4:=za (by rw [hw];exact MVA.out _ _ _ HS3.out rI x9:WSt k Inv RI CI R cp l A0 c0 (.func (.func 149) #[] #[cc1]) (vis ++ (iota (-1) j).flatMap (colWays l r t pre (waysFrom l C d (r + 1)))) (qs.set rI.toNat x9) w4);clear hw;have z7:w4.cell? ⟨k.r,0,none⟩=_:=(zg HS4.out.cR 0).trans rfl)|(go_at_call 152;(refine (IH.out (t ||| 2 ^ xn) _ OR.out OR6.out _ (qs.set rI.toNat x9) _ (by rw [List.length_set];exact HQL.out) NXT.out HS4.out).mono ?_);rintro e w5 ⟨rfl,hex⟩;have HE:=za hex;clear hex))
        go_roundg k1
        case measure=>omega
        case rel =>
         obtain ⟨qs2,hl2,ht2,hs5⟩:=HE.out
         have hrt:=HRT.out
         have hrl:r < qs.length:=by have:=HQL.out;have:=HRD.out;omega
         have hpt:=HPT.out
         refine ⟨wrap64 (x9 + 1),(by first|rfl|(simp;done)),⟨j + 1,qs2,EW.out,EJ.out,hl2,?_,?_⟩⟩
         ·
          have h3:=congrArg (List.take r) ht2
          rw [List.take_take,List.take_take,Nat.min_eq_left (by omega),hrt,List.take_set_of_le (Nat.le_refl _),HQT.out] at h3
          exact h3
         ·
          rw [hpt,List.append_assoc] at hs5
          rw [ES.out,ONE.out]
          exact hs5
      ·
       have c3f:cell l r xn=false:=by simpa using c3
       rw [c3f] at A1
       have NIL:=za (show colWays l r t pre (waysFrom l C d (r + 1)) x9=[] by have:=HXN.out;unfold colWays;rw [if_neg (by omega),if_neg (by rw [HXN.out];simp [c3f])])
       clear c3 c3f BT hsh
       go_wp2_with (first|(go_at_call 136;(refine (impl_Board_has.calls RI CI _ _ l rI x9 false _ ?side1 ?side2 A1.out).mono ?_);(case side1=>exact HL.out _ _ _ HS2.out);(case side2=>exact HC0.out);rintro e w2 ⟨rfl,hb2⟩;have HS3:=za (MVB.out _ _ _ _ HS2.out hb2);clear hb2))
       go_roundg k1
       case measure=>omega
       case rel=>exact ⟨wrap64 (x9 + 1),(by first|rfl|(simp;done)),⟨j + 1,qs,EW.out,EJ.out,HQL.out,HQT.out,by rw [ES.out,NIL.out,List.append_nil];exact HS3.out⟩⟩
     ·
      have c2b:decide (0≤x9)=false:=decide_eq_false c2
      have ONE:=za (show colWays l r t pre (waysFrom l C d (r + 1)) x9=waysFrom l C d (r + 1) t (pre ++ [x9]) by unfold colWays;rw [if_pos (by omega)])
      clear c2
      have z5:wr.cell? ⟨k.p,0,none⟩=some (.slice (some ⟨k.a,0,none⟩) R cp):=(zg HS2.out.cP 0).trans rfl
      obtain ⟨z6,f6⟩:=Kd.R_celln 0 HS2.out.cA rI (of_eq_true plt) (of_eq_true plt2)
      have HRT:=za (show rI.toNat=r by rw [HR.out];rfl)
      have HPT:=za (show (qs.set rI.toNat x9).take (r + 1)=pre ++ [x9] by have hrl:r < qs.length:=(by have:=HQL.out;have:=HRD.out;omega);rw [HRT.out,List.take_add_one,List.take_set_of_le (Nat.le_refl _),HQT.out];simp [hrl])
      have NXT:=za (show ∀ a q b,waysFrom l C d (r + 1) t ((qs.set rI.toNat x9).take (r + 1))=a ++ q :: b→P ((vis ++ (iota (-1) j).flatMap (colWays l r t pre (waysFrom l C d (r + 1)))) ++ a) q from fun a q b hq=>by rw [HPT.out,← ONE.out] at hq;rw [List.append_assoc];exact HPP.out _ q (b ++ (iota (x9 + 1) (C + 1 - j - 1)).flatMap (colWays l r t pre (waysFrom l C d (r + 1)))) (by rw [ways_cut l C d r t pre j (by have:=HX.out;have:=C1.out;have:=HCI.out;omega) HX.out,hq,List.append_assoc,List.append_assoc];rfl))
      go_wp2_with (first|((with_reducible refine gate_store (t:=3) (p:=46) rfl ?_);refine store_event (t:=3) (p:=46) (v:=?vo) (w1:=(wr.setCell ⟨k.a,rI.toNat,none⟩ (.int .i64 x9))) ?hg ?ho ?hn ?hr ?_;(case ho=>rfl);(case hg=>rfl);(case hn=>rfl);(case hr=>first|(go_simp;done)|(go_simp;rfl));intro w4 hw;have HS4:=za (by rw [hw];exact MVA.out _ _ _ HS2.out rI x9:WSt k Inv RI CI R cp l A0 c0 (.func (.func 149) #[] #[cc1]) (vis ++ (iota (-1) j).flatMap (colWays l r t pre (waysFrom l C d (r + 1)))) (qs.set rI.toNat x9) w4);clear hw;have z7:w4.cell? ⟨k.r,0,none⟩=_:=(zg HS4.out.cR 0).trans rfl)|(go_at_call 152;(refine (IH.out t _ HT.out HT6.out _ (qs.set rI.toNat x9) _ (by rw [List.length_set];exact HQL.out) NXT.out HS4.out).mono ?_);rintro e w5 ⟨rfl,hex⟩;have HE:=za hex;clear hex))
      go_roundg k1
      case measure=>omega
      case rel =>
       obtain ⟨qs2,hl2,ht2,hs5⟩:=HE.out
       have hrt:=HRT.out
       have hrl:r < qs.length:=by have:=HQL.out;have:=HRD.out;omega
       have hpt:=HPT.out
       refine ⟨wrap64 (x9 + 1),(by first|rfl|(simp;done)),⟨j + 1,qs2,EW.out,EJ.out,hl2,?_,?_⟩⟩
       ·
        have h3:=congrArg (List.take r) ht2
        rw [List.take_take,List.take_take,Nat.min_eq_left (by omega),hrt,List.take_set_of_le (Nat.le_refl _),HQT.out] at h3
        exact h3
       ·
        rw [hpt,List.append_assoc] at hs5
        rw [ES.out,ONE.out]
        exact hs5
   ·
    have c1b:decide (x9 < CI)=false:=decide_eq_false c1
    have FIN:=za (show j=C + 1 by have:=HX.out;have:=HJ.out;have:=HCI.out;omega)
    clear c1
    go_wp2
    first|go_end0|((try simp only [Exit.inBlock,Exit.then]);refine bodyPost_ret (results_none rfl _ _ _) rfl ?_)
    exact ⟨rfl,qs,HQL.out,HQT.out,by have:=HS2.out;rw [FIN.out] at this;exact this⟩
end
section
variable (Inv : (Nat → Prop) → List (List Int) → World → Prop) (hI : ∀ S vis w w', Inv S vis w → Still S w w' → Inv S vis w') (R C : Nat) (RI CI : Int) (hRI : RI = R) (hCI : CI = C) (l : List Int) (A0 : Option Addr) (c0 : Nat) (hc0 : l.length ≤ c0) (cc1 : Value)
  (hL : ∀ S vis w, Inv S vis w → Kd.C (Kd.int .i64) w A0 l.length l)
  (hl : l.length = R) (h1R : 1 ≤ R) (hR : R ≤ 6) (hC : C ≤ 6) (hb : ∀ i (hi : i < l.length), 0 ≤ l[i] ∧ l[i] < 2 ^ C) (w0 : World)
  (h0 : ∀ S w, (∀ i, S i → w0.heap.size ≤ i) → Below w0.heap.size w0 w → Inv S [] w)
  (hdo : ∀ S vis ps w a cp, (∀ i, S i → w0.heap.size ≤ i) → (∀ i, S i → i < w.heap.size) → ps.length = R → (∃ b, waysFrom l C R 0 0 [] = vis ++ ps :: b) → S a → Kd.C (Kd.int .i64) w (some ⟨a, 0, none⟩) R ps → R ≤ cp → Inv S vis w →
    Calls Try.prog 149 #[.slice (some ⟨a, 0, none⟩) R cp, cc1] w fun e w' => e = .returned (.bool true) ∧ Inv S (vis ++ [ps]) w' ∧ (∀ i, S i → i < w.heap.size → w'.heap[i]? = w.heap[i]?))
include hI hRI hCI hc0 hL hl h1R hR hC hb h0 hdo
set_option maxHeartbeats 4000000 in
set_option maxRecDepth 100000 in
theorem walk_calls:Calls Try.prog 139 #[.agg #[.int .i64 RI,.int .i64 CI,.slice A0 l.length c0],.func (.func 149) #[] #[cc1]] w0 fun e w'=>e=.returned (.tuple #[])∧∃ S,(∀ i,S i→w0.heap.size≤i)∧Inv S (waysFrom l C R 0 0 []) w':=by
 have KEY:∀ (k:Blks) (cp:Nat) W,k.Apart→(∀ i,k.has i→w0.heap.size≤i)→R≤cp→WSt k (Inv k.has) RI CI R cp l A0 c0 (.func (.func 149) #[] #[cc1]) [] (List.replicate R 0) W →
   Calls Try.prog 152 #[.int .i64 0,.int .i64 0,.pointer (some ⟨k.b,0,none⟩),.pointer (some ⟨k.d,0,none⟩),.pointer (some ⟨k.p,0,none⟩),.pointer (some ⟨k.g,0,none⟩),.pointer (some ⟨k.r,0,none⟩)] W fun e w'=>e=.returned (.tuple #[])∧∃ S,(∀ i,S i→w0.heap.size≤i)∧Inv S (waysFrom l C R 0 0 []) w':=by
  intro k cp W hk hS hcp hst
  have:=row_calls k hk (Inv k.has) (hI k.has) R C RI CI hRI hCI l A0 c0 cp hc0 cc1 (hL k.has) hl hR hC hb (fun vis q=>∃ b,waysFrom l C R 0 0 []=vis ++ q :: b) (fun vis ps w hps hmem hs=>by
   obtain ⟨_,_,hC'⟩:=zB hs.cA
   rw [hps] at hC'
   have hlt:k.a < w.heap.size:=by obtain ⟨cells,hc⟩:=Kd.R_typed hs.cA k.a rfl;exact blk_lt hc
   have hSlt:∀ i,k.has i→i < w.heap.size:=by
    rintro i (rfl|rfl|rfl|rfl|rfl|rfl)
    ·
     exact blk_lt hs.cB
    ·
     exact blk_lt hs.cD
    ·
     exact hlt
    ·
     exact blk_lt hs.cP
    ·
     exact blk_lt hs.cG
    ·
     exact blk_lt hs.cR
   refine (hdo k.has vis ps w k.a cp hS hSlt hps hmem (.inr (.inr (.inl rfl))) hC' hcp hs.inv).mono ?_
   rintro e w' ⟨rfl,hi,hkeep⟩
   refine ⟨rfl,(hkeep _ (.inl rfl) (blk_lt hs.cB)).trans hs.cB,(hkeep _ (.inr (.inl rfl)) (blk_lt hs.cD)).trans hs.cD,Kd.R_step hs.cA (fun i hi _=>by subst hi;exact hkeep _ (.inr (.inr (.inl rfl))) hlt),(hkeep _ (.inr (.inr (.inr (.inl rfl)))) (blk_lt hs.cP)).trans hs.cP,(hkeep _ (.inr (.inr (.inr (.inr (.inl rfl))))) (blk_lt hs.cG)).trans hs.cG,(hkeep _ (.inr (.inr (.inr (.inr (.inr rfl))))) (blk_lt hs.cR)).trans hs.cR,hi⟩)
   R 0 0 0 0 rfl rfl (by omega) (by omega) [] (List.replicate R 0) W (by simp) (fun a q b hq=>⟨b,by simpa using hq⟩) hst
  refine this.mono ?_
  rintro e w' ⟨rfl,ps',_,_,hw⟩
  exact ⟨rfl,k.has,hS,by simpa using hw.inv⟩
 have KX:=Lib.hid KEY;have H0:=Lib.hid h0;have hu24:=Try.underlying43;have p1:=za (show 0≤RI by omega);have p2:=za (show RI.toNat * 8≤281474976710656 by omega);have p3:=za (show RI.toNat=R by omega);have p4:=za h1R;clear KEY h0 hdo hb hC hR hl hL hc0 hCI hRI hI h1R;go_enter Try.func139,Try.ntmps139
 go_wp2_with (first
 |((with_reducible refine zA (N:=2) rfl ?_);refine zF ?hg (N:=2) ?hd (cs:=#[.int .i64 RI,.int .i64 CI,.slice A0 l.length c0]) (t:=43) ?hr ?_;(case hd=>rfl);(case hg=>rfl);(case hr=>first|(go_simp;done)|(go_simp;rfl));intro gb hg w1 hbox hb;have G1:=za hg;have K1:=za hbox;have B1:=za hb;clear hg hbox hb;have z1:w1.cell? ⟨gb,0,none⟩=some (.int .i64 RI):=(zg K1.out 0).trans rfl)
 |((with_reducible refine zA (N:=3) rfl ?_);refine zF ?hg (N:=3) ?hd (cs:=#[.func (.func 149) #[] #[cc1]]) (t:=37) ?hr ?_;(case hd=>rfl);(case hg=>rfl);(case hr=>first|(go_simp;done)|(go_simp;rfl));intro gd hg w2 hbox hb;have G2:=za hg;have K2:=za hbox;have B2:=za hb;clear hg hbox hb;have z2:w2.cell? ⟨gb,0,none⟩=some (.int .i64 RI):=(zg (zu K1.out B2.out) 0).trans rfl)
 |((with_reducible refine zA (N:=9) rfl ?_);refine Kd.R_make (Kd.int .i64) (w0:=w2) w2.heap.size 3 rfl (N:=9) rfl 28 _ _ rfl RI rfl rfl Try.underlying28 (.int .i64 0) 8 info3 rfl (by decide) (by omega) 0 (ok:=fun _=>True) (okp:=fun _=>True) rfl (fun _ hk=>hk) trivial p1.out p2.out (Below.refl _ _) (Nat.le_refl _) ?_;intro v3 w3 ho3 hb hg_ hnew_;clear hg_ hnew_;rw [p3.out] at ho3;obtain ⟨ga,cp,hv3,hga,hga2,cells3,hc3⟩:=Kd.R_form ho3 (by rw [List.length_replicate];exact p4.out);rw [List.length_replicate] at hv3;subst hv3;have G3:=za (And.intro hga hga2);have K3:=za hc3;clear hga hga2 hc3;have B3:=za hb;have O3:=za ho3;clear hb ho3)
 |((with_reducible refine zA (N:=4) rfl ?_);refine zF ?hg (N:=4) ?hd (cs:=#[.slice none 0 0]) (t:=28) ?hr ?_;(case hd=>rfl);(case hg=>rfl);(case hr=>first|(go_simp;done)|(go_simp;rfl));intro gp hg w4 hbox hb;have G4:=za hg;have K4:=za hbox;have B4:=za hb;clear hg hbox hb)
 |((with_reducible refine zA (N:=5) rfl ?_);refine zF ?hg (N:=5) ?hd (cs:=#[.bool false]) (t:=4) ?hr ?_;(case hd=>rfl);(case hg=>rfl);(case hr=>first|(go_simp;done)|(go_simp;rfl));intro gg hg w5 hbox hb;have G5:=za hg;have K5:=za hbox;have B5:=za hb;clear hg hbox hb;have y1:w5.cell? ⟨gp,0,none⟩=some (.slice none 0 0):=(zg (zu K4.out B5.out) 0).trans rfl;have f1:w5.frozen? ⟨gp,0,none⟩=false:=zm (zu K4.out B5.out) 0)
 |((with_reducible refine gate_store (t:=28) (p:=4) rfl ?_);refine store_event (t:=28) (p:=4) (v:=?vo) (w1:=(w5.setCell ⟨gp,0,none⟩ (.slice (some ⟨ga,0,none⟩) R cp))) ?hg ?ho ?hn ?hr ?_;(case ho=>rfl);(case hg=>rfl);(case hn=>rfl);(case hr=>first|(go_simp;done)|(go_simp;rfl));intro w6 hw;have E6:=za hw;clear hw;have N65:=za (show gg ≠ gp by rw [G5.out];exact Nat.ne_of_gt (blk_lt K4.out));have K56:=za (show w6.heap[gg]?=some (.cells #[.bool false] 4 (0,0)) by rw [E6.out];exact blk_far K5.out N65.out _);have y2:w6.cell? ⟨gg,0,none⟩=some (.bool false):=(zg K56.out 0).trans rfl;have f2:w6.frozen? ⟨gg,0,none⟩=false:=zm K56.out 0)
 |((with_reducible refine zA (N:=6) rfl ?_);refine zF ?hg (N:=6) ?hd (cs:=#[.nilFunc]) (t:=106) ?hr ?_;(case hd=>rfl);(case hg=>rfl);(case hr=>first|(go_simp;done)|(go_simp;rfl));intro gr hg w8 hbox hb;have G8:=za hg;have K8:=za hbox;have B8:=za hb;clear hg hbox hb;have y3:w8.cell? ⟨gr,0,none⟩=some .nilFunc:=(zg K8.out 0).trans rfl;have f3:w8.frozen? ⟨gr,0,none⟩=false:=zm K8.out 0)
 |(go_at_call 152;(refine (KX.out ⟨gb,gd,ga,gp,gg,gr⟩ cp _ ?sa ?ss ?sc ?sw).mono ?_);(case sa=>(have o1:=blk_lt K1.out;have o2:=G2.out;have o3:=blk_lt K2.out;have o4:=G3.out;have o5:=G4.out;have o6:=blk_lt K4.out;have o7:=G5.out;have o8:=blk_lt K5.out;have o9:w6.heap.size=w5.heap.size:=(by rw [E6.out];simp [World.setCell]);have o10:(w6.setCell ⟨gg,0,none⟩ (.bool true)).heap.size=w6.heap.size:=(by simp [World.setCell]);have o11:=G8.out;have o12:=G1.out;constructor <;> (try simp only []) <;> omega));(case ss=>(have o1:=blk_lt K1.out;have o2:=G2.out;have o3:=blk_lt K2.out;have o4:=G3.out;have o5:=G4.out;have o6:=blk_lt K4.out;have o7:=G5.out;have o8:=blk_lt K5.out;have o9:w6.heap.size=w5.heap.size:=(by rw [E6.out];simp [World.setCell]);have o10:(w6.setCell ⟨gg,0,none⟩ (.bool true)).heap.size=w6.heap.size:=(by simp [World.setCell]);have o11:=G8.out;have o12:=G1.out;rintro i (rfl|rfl|rfl|rfl|rfl|rfl) <;> (try simp only []) <;> omega));(case sc=>exact (zB O3.out).2.1);(case sw=>(have o1:=blk_lt K1.out;have o2:=G2.out;have o3:=blk_lt K2.out;have o4:=G3.out;have o5:=G4.out;have o6:=blk_lt K4.out;have o7:=G5.out;have o8:=blk_lt K5.out;have o9:w6.heap.size=w5.heap.size:=(by rw [E6.out];simp [World.setCell]);have o10:(w6.setCell ⟨gg,0,none⟩ (.bool true)).heap.size=w6.heap.size:=(by simp [World.setCell]);have o11:=G8.out;have o12:=G1.out;have q1:=zu (zu (zu (zu K1.out B2.out) B3.out) B4.out) B5.out;have q2:=zu (zu (zu K2.out B3.out) B4.out) B5.out;have q3:=zG (zG (zs (zL (Kd.R_tight rfl O3.out) (Nat.zero_le _)) (fun i hi=>(by simpa [Value.ownBlock] using hi:i=ga))) B4.out) B5.out;have q4:=zu K4.out B5.out;have e1:gb ≠ gp:=(by omega);have e2:gd ≠ gp:=(by omega);have e3:ga ≠ gp:=(by omega);have e4:gb ≠ gg:=(by omega);have e5:gd ≠ gg:=(by omega);have e6:ga ≠ gg:=(by omega);have e7:gp ≠ gg:=(by omega);have e8:gb ≠ gr:=(by omega);have e9:gd ≠ gr:=(by omega);have e10:ga ≠ gr:=(by omega);have e11:gp ≠ gr:=(by omega);have e12:gg ≠ gr:=(by omega);have b5:Below w0.heap.size w0 w5:=(((B1.out.trans (B2.out.mono (by omega))).trans (B3.out.mono (by omega))).trans (B4.out.mono (by omega))).trans (B5.out.mono (by omega));have b7:Below w0.heap.size w0 (w6.setCell ⟨gg,0,none⟩ (.bool true)):=(by refine Below.setCell ?_ (by (try simp only []);omega) _;rw [E6.out];exact Below.setCell b5 (by (try simp only []);omega) _);have b9:Below w0.heap.size w0 (w8.setCell ⟨gr,0,none⟩ (.func (.func 152) #[] #[.pointer (some ⟨gb,0,none⟩),.pointer (some ⟨gd,0,none⟩),.pointer (some ⟨gp,0,none⟩),.pointer (some ⟨gg,0,none⟩),.pointer (some ⟨gr,0,none⟩)])):=(by exact Below.setCell (b7.trans (B8.out.mono (by omega))) (by (try simp only []);omega) _);exact ⟨(by refine blk_far (zu ?_ B8.out) e8 _;rw [E6.out];exact blk_far (blk_far q1 e1 _) e4 _),(by refine blk_far (zu ?_ B8.out) e9 _;rw [E6.out];exact blk_far (blk_far q2 e2 _) e5 _),(by refine zn (zG ?_ B8.out) (fun i hi=>(by rw [hi];exact e10)) _;rw [E6.out];exact zn (zn q3 (fun i hi=>(by rw [hi];exact e3)) _) (fun i hi=>(by rw [hi];exact e6)) _),(by refine blk_far (zu ?_ B8.out) e11 _;rw [E6.out];exact blk_far (zz q4 0 _ rfl) e7 _),(by refine blk_far (zu ?_ B8.out) e12 _;rw [E6.out];exact zz (blk_far K5.out e7.symm _) 0 _ rfl),(by exact zz K8.out 0 _ rfl),H0.out _ _ (by rintro i (rfl|rfl|rfl|rfl|rfl|rfl) <;> (try simp only []) <;> omega) b9⟩));rintro e w10 ⟨rfl,hfin⟩))
 (first|go_end0|((try simp only [Exit.inBlock,Exit.then]);refine bodyPost_ret (results_none rfl _ _ _) rfl ?_));exact ⟨rfl,hfin⟩
end
end Go.Proofs.Ytiopnmgcajohfaa.WalkNum
end
section
namespace Go.Proofs.Ytiopnmgcajohfaa.HitAllK
set_option linter.unusedVariables false
open Go.RowKit Go.Proofs.Ytiopnmgcajohfaa.Q Go.Proofs.YtiopnmgcajohfaaW.PrintWords Go.Proofs.YtiopnmgcajohfaaW.PrintLast Go.Proofs.YtiopnmgcajohfaaW.PrintMore
open Go.Proofs.YtiopnmgcajohfaaL Go.Proofs.Ytiopnmgcajohfaa.LawK Go.Proofs.Ytiopnmgcajohfaa.BoardK Go.Proofs.Ytiopnmgcajohfaa.PermK Go.Proofs.Ytiopnmgcajohfaa.Walk Go.Proofs.Ytiopnmgcajohfaa.HN
theorem evEq {α : Type} {g : Nat → Option α} {a b : α} (h : Ev g a) (e : a = b) : Ev g b := e ▸ h
def nextOf (pre : List Int) (f : List Int → List (List Int)) (x : Int) : List (List Int) := if x ∈ pre then [] else f (pre ++ [x])
def allFrom (n : Nat) : Nat → List Int → List (List Int)
  | 0, pre => [pre]
  | d + 1, pre => (iota 0 n).flatMap (nextOf pre (allFrom n d))
theorem len_flat {α β : Type} (f : α → List β) (B : Nat) : ∀ (l : List α), (∀ x ∈ l, (f x).length ≤ B) → (l.flatMap f).length ≤ l.length * B
  | [], _ => by simp
  | a :: t, h => by
    rw [List.flatMap_cons, List.length_append, List.length_cons, Nat.succ_mul]
    have := len_flat f B t (fun x hx => h x (List.mem_cons_of_mem _ hx))
    have := h a List.mem_cons_self
    omega
theorem flat_congr {α β : Type} {f g : α → List β} : ∀ {l : List α}, (∀ x ∈ l, f x = g x) → l.flatMap f = l.flatMap g
  | [], _ => rfl
  | a :: t, h => by rw [List.flatMap_cons, List.flatMap_cons, h a List.mem_cons_self, flat_congr (fun x hx => h x (List.mem_cons_of_mem _ hx))]
theorem allFrom_len (n : Nat) : ∀ d pre, (allFrom n d pre).length ≤ n ^ d
  | 0, pre => by simp [allFrom]
  | d + 1, pre => by
    have := len_flat (nextOf pre (allFrom n d)) (n ^ d) (iota 0 n) (fun x _ => by
      unfold nextOf
      split
      · simp
      · exact allFrom_len n d _)
    rw [iota_length] at this
    rw [allFrom, Nat.pow_succ, Nat.mul_comm]
    exact this
theorem pow_le {n d : Nat} (hn : n ≤ 6) (hd : d ≤ 6) : n ^ d ≤ 46656 := by
  have h1 : n ^ d ≤ 6 ^ d := Nat.pow_le_pow_left hn d
  have h2 : 6 ^ d ≤ 6 ^ 6 := Nat.pow_le_pow_right (by decide) hd
  omega
theorem own_f {l : List Int} (h : l.length < 1000000) : spec_l1Own.f l = some l := by
  unfold spec_l1Own.f; rw [Option.bind_some, if_pos (by simp; omega)]; rfl
theorem iota_drop (n j : Nat) (hj : j < n) : (iota 0 n).drop j = (j : Int) :: (iota 0 n).drop (j + 1) := by
  rw [List.drop_eq_getElem_cons (by rw [iota_length]; exact hj), iota_get]; simp
theorem spec_all {n : Nat} (hn : n ≤ 6) : ∀ (d : Nat) (pre : List Int), pre.length + d = n → Ev (fun k => spec_hiAll.f k n pre) (allFrom n d pre)
  | 0, pre, h => by
    refine Ev.step (f := fun _ => some [pre]) (fun k => ?_) (Ev.now _)
    rw [spec_hiAll.f, if_pos (by omega), own_f (by omega), Option.bind_some]
  | d + 1, pre, h => by
    have key : ∀ (e j : Nat) (x : List (List Int)), j + e = n → x.length ≤ j * 46656 → Ev (fun k => spec_hiAll.l0 k n pre x j) (x ++ ((iota 0 n).drop j).flatMap (nextOf pre (allFrom n d))) := by
      intro e
      induction e with
      | zero =>
        intro j x hj hx
        refine Ev.step (f := fun _ => some x) (fun k => ?_) (evEq (Ev.now _) (by rw [List.drop_eq_nil_of_le (by rw [iota_length]; omega)]; simp))
        rw [spec_hiAll.l0, if_neg (by omega)]
      | succ e ih =>
        intro j x hj hx
        have h1 : wrap64 ((j : Int) + 1) = ((j + 1 : Nat) : Int) := by rw [w64 (by omega) (by omega)]; rfl
        rw [iota_drop n j (by omega), List.flatMap_cons]
        refine Ev.step (fun k => by rw [spec_hiAll.l0, if_pos (by omega)]) ?_
        refine Ev.bind (l1Has (j : Int) (by omega)) ?_
        by_cases hm : (j : Int) ∈ pre
        · refine Ev.congr (fun k => by rw [if_pos (by simpa using hm), h1]) ?_
          rw [show nextOf pre (allFrom n d) (j : Int) = [] by unfold nextOf; rw [if_pos hm], List.nil_append]
          exact ih (j + 1) x (by omega) (Nat.le_trans hx (Nat.mul_le_mul_right _ (by omega)))
        · rw [show nextOf pre (allFrom n d) (j : Int) = allFrom n d (pre ++ [(j : Int)]) by unfold nextOf; rw [if_neg hm]]
          have hlen := Nat.le_trans (allFrom_len n d (pre ++ [(j : Int)])) (pow_le hn (by omega))
          refine Ev.congr (fun k => by rw [if_neg (by simpa using hm), own_f (by omega), Option.bind_some, if_pos (by omega)]) ?_
          refine Ev.bind (spec_all hn d (pre ++ [(j : Int)]) (by simp; omega)) ?_
          refine Ev.congr (fun k => by rw [if_pos (by have : j ≤ 6 := by omega
                                                      have : j * 46656 ≤ 6 * 46656 := Nat.mul_le_mul_right _ this
                                                      omega), h1]) ?_
          rw [← List.append_assoc]
          exact ih (j + 1) _ (by omega) (by rw [List.length_append, Nat.add_mul, Nat.one_mul]; exact Nat.add_le_add hx hlen)
    have := key n 0 [] (by omega) (by simp)
    rw [List.drop_zero, List.nil_append] at this
    rw [allFrom]
    refine Ev.step (fun k => ?_) this
    rw [spec_hiAll.f, if_neg (by omega)]; rfl
theorem ways_shape (l : List Int) (C : Nat) : ∀ (d r t : Nat) (pre : List Int), ∀ q ∈ waysFrom l C d r t pre, ∃ s, q = pre ++ s ∧ s.length = d
  | 0, r, t, pre, q, hq => by rw [waysFrom, List.mem_singleton] at hq; exact ⟨[], by simp [hq], rfl⟩
  | d + 1, r, t, pre, q, hq => by
    rw [waysFrom, List.mem_flatMap] at hq
    obtain ⟨c, hc, hq⟩ := hq
    unfold colWays at hq
    split at hq
    · obtain ⟨s, h1, h2⟩ := ways_shape l C d (r + 1) _ _ q hq
      exact ⟨c :: s, by rw [h1]; simp, by simp [h2]⟩
    · split at hq
      · obtain ⟨s, h1, h2⟩ := ways_shape l C d (r + 1) _ _ q hq
        exact ⟨c :: s, by rw [h1]; simp, by simp [h2]⟩
      · cases hq
theorem cell_full {n r c : Nat} (hr : r < n) (hc : c < n) : cell (fullRows n) r c = true := by
  unfold cell fullRows
  rw [gD_lt _ _ (by simpa using hr), List.getElem_replicate]
  have e : ((2 : Int) ^ n - 1).toNat = 2 ^ n - 1 := by
    have : 0 < 2 ^ n := Nat.two_pow_pos n
    have e2 : ((2 ^ n : Nat) : Int) = 2 ^ n := by simp
    omega
  rw [e, Nat.testBit_two_pow_sub_one]
  simpa using hc
theorem filter_none {n d r t : Nat} {pre : List Int} (hp : pre.length + d = n) (h : (-1 : Int) ∈ pre) : (waysFrom (fullRows n) n d r t pre).filter (fun p => rooksN p == n) = [] := by
  rw [List.filter_eq_nil_iff]
  intro q hq
  obtain ⟨s, rfl, hs⟩ := ways_shape _ _ d r t pre q hq
  simp only [beq_iff_eq]
  intro he
  have h1 : rooksN (pre ++ s) = (pre ++ s).length := by rw [he, List.length_append]; omega
  have h2 := List.countP_eq_length.1 h1 (-1) (List.mem_append_left _ h)
  simp at h2
theorem ways_all {n : Nat} : ∀ (d r t : Nat) (pre : List Int), r + d = n → pre.length = r → (∀ x ∈ pre, 0 ≤ x) → (∀ c : Nat, t.testBit c = decide ((c : Int) ∈ pre)) →
    (waysFrom (fullRows n) n d r t pre).filter (fun p => rooksN p == n) = allFrom n d pre
  | 0, r, t, pre, hr, hp, hin, ht => by
    rw [waysFrom, allFrom, List.filter_cons, if_pos, List.filter_nil]
    rw [beq_iff_eq, show n = pre.length by omega]
    exact List.countP_eq_length.2 (fun x hx => by have := hin x hx; simp; omega)
  | d + 1, r, t, pre, hr, hp, hin, ht => by
    rw [waysFrom, allFrom, List.filter_flatMap]
    have e : iota (-1) (n + 1) = (-1) :: iota 0 n := rfl
    rw [e, List.flatMap_cons]
    have h1 : (colWays (fullRows n) r t pre (waysFrom (fullRows n) n d (r + 1)) (-1)).filter (fun p => rooksN p == n) = [] := by
      unfold colWays
      rw [if_pos (by omega)]
      exact filter_none (by simp; omega) (by simp)
    rw [h1, List.nil_append]
    apply flat_congr
    intro x hx
    obtain ⟨i, hi, e⟩ := List.mem_iff_getElem.1 hx
    rw [iota_get] at e
    rw [iota_length] at hi
    obtain rfl : (i : Int) = x := by omega
    unfold colWays nextOf
    rw [if_neg (by omega), Int.toNat_natCast, cell_full (by omega) hi, Bool.true_and, ht i]
    by_cases hm : (i : Int) ∈ pre
    · rw [if_neg (by simp [hm]), if_pos hm, List.filter_nil]
    · rw [if_pos (by simp [hm]), if_neg hm]
      refine ways_all d (r + 1) _ _ (by omega) (by simp; omega) (fun y hy => ?_) (fun c => ?_)
      · rcases List.mem_append.1 hy with hy | hy
        · exact hin y hy
        · rw [List.mem_singleton.1 hy]; omega
      · rw [Nat.testBit_or, ht c, Nat.testBit_two_pow, ← Bool.decide_or]
        apply decide_eq_decide.2
        rw [List.mem_append, List.mem_singleton]
        constructor
        · rintro (h | h)
          · exact .inl h
          · exact .inr (by omega)
        · rintro (h | h)
          · exact .inl h
          · exact .inr (by omega)
theorem permsOf_all (n : Nat) : permsOf n = allFrom n n [] := ways_all n 0 0 [] (by omega) rfl (by simp) (by simp)
theorem step_count (l : List Int) (o p : List Int) : o.set (hitsF l p 0 0).toNat (wrap64 (rd o (hitsF l p 0 0) + 1)) = o.set (hitsF l p 0 0).toNat (IntKind.i64.wrap (rdOf 0 o (hitsF l p 0 0) + 1)) := by rw [wrap_i64']; rfl
theorem spec_numbers {RI CI : Int} {l : List Int} (hs : squareB RI CI l = true) (L : List (List Int)) (hL : L.length ≤ 46656) (hin : ∀ p ∈ L, p.length = l.length ∧ ∀ x ∈ p, 0 ≤ x ∧ x < l.length) :
    ∀ (d i : Nat) (o : List Int), i + d = L.length → o.length = l.length + 1 → Ev (fun k => spec_hiNumbers.l0 k o L (L.length : Int) i RI CI l) ((L.drop i).foldl (fun o p => o.set (hitsF l p 0 0).toNat (IntKind.i64.wrap (rdOf 0 o (hitsF l p 0 0) + 1))) o)
  | 0, i, o, hi, ho => by
    refine Ev.step (f := fun _ => some o) (fun k => ?_) (evEq (Ev.now _) (by rw [List.drop_eq_nil_of_le (by omega)]; rfl))
    rw [spec_hiNumbers.l0, if_neg (by omega)]
  | d + 1, i, o, hi, ho => by
    obtain ⟨q1, q2, q3, q4, q5⟩ := board_bits hs
    have h1 : wrap64 ((i : Int) + 1) = ((i + 1 : Nat) : Int) := by rw [w64 (by omega) (by omega)]; rfl
    have hi2 : i < L.length := by omega
    obtain ⟨p1, p2⟩ := hin L[i] (List.getElem_mem hi2)
    have hb := hitsF_bound l L[i] 0 0
    have hh : Ev (fun k => spec_hiHits.f k RI CI l L[i]) (hitsF l L[i] 0 0) := by
      have := spec_hits (l := l) (p := L[i]) RI CI p1 q1 q5 (fun x hx => by have := p2 x hx; omega) L[i].length 0 0 (by omega) (by omega) (by omega)
      rw [List.drop_zero] at this
      exact this
    have hrd : rd_L1 L (i : Int) = L[i] := by unfold rd_L1; simp [hi2]
    rw [List.drop_eq_getElem_cons hi2, List.foldl_cons]
    refine Ev.step (fun k => by rw [spec_hiNumbers.l0, if_pos (by omega), if_pos (by omega), if_pos (by omega), hrd]) ?_
    refine Ev.bind hh ?_
    refine Ev.congr (fun k => by rw [if_pos (by omega), if_pos (by omega), h1, step_count]) ?_
    exact spec_numbers hs L hL hin d (i + 1) _ (by omega) (by simp [ho])
theorem spec_hiNumbers {RI CI : Int} {l : List Int} (hs : squareB RI CI l = true) : Ev (fun k => spec_hiNumbers.f k RI CI l) (countsF l (l.length + 1) (permsOf l.length)) := by
  obtain ⟨q1, q2, q3, q4, q5⟩ := board_bits hs
  unfold spec_hiNumbers.f
  have e : wrap64 (RI + 1) = ((l.length + 1 : Nat) : Int) := by rw [w64 (by omega) (by omega)]; omega
  refine Ev.congr (fun k => by rw [e, if_pos (by omega), if_pos (by omega), Int.toNat_natCast, ← q2]) ?_
  refine Ev.bind (spec_all q1 l.length [] (by simp)) ?_
  rw [← permsOf_all]
  have hlen : (permsOf l.length).length ≤ 46656 := by rw [permsOf_all]; exact Nat.le_trans (allFrom_len _ _ _) (pow_le q1 q1)
  have := spec_numbers hs (permsOf l.length) hlen (fun p hp => by
    obtain ⟨s, h1, h2⟩ := ways_shape _ _ _ _ _ _ p (List.mem_filter.1 hp).1
    have hp2 : p.length = l.length := by rw [h1]; simpa using h2
    exact ⟨hp2, perms_in hp hp2⟩) (permsOf l.length).length 0 (List.replicate (l.length + 1) 0) (by omega) (by simp)
  rw [List.drop_zero, ← q4, ← q2] at this
  rw [q2] at this
  refine Ev.congr (fun k => ?_) this
  rw [← q4, q2]; rfl
end Go.Proofs.Ytiopnmgcajohfaa.HitAllK
end
section
namespace Go.Proofs.Ytiopnmgcajohfaa.PermsPH
set_option linter.unusedVariables false
set_option linter.unusedSectionVars false
open Go.RowKit Go.Proofs.YtiopnmgcajohfaaW.PrintWords Go.Proofs.YtiopnmgcajohfaaW.PrintLast Go.Proofs.YtiopnmgcajohfaaW.PrintMore
open Go.Proofs.YtiopnmgcajohfaaL Go.Proofs.Ytiopnmgcajohfaa.LawK Go.Proofs.Ytiopnmgcajohfaa.BoardK Go.Proofs.Ytiopnmgcajohfaa.Walk Go.Proofs.Ytiopnmgcajohfaa.Q
section
variable (dd1 dd2 dd3 : Value) (R : Nat) (nI : Int) (hnI : nI = R) (a cp gn gf : Nat) (ps : List Int) (hps : ps.length = R) (hR : R ≤ 6) (hcp : R ≤ cp) (w : World) (hr : Kd.C (Kd.int .i64) w (some ⟨a, 0, none⟩) R ps)
  (hn : w.heap[gn]? = some (.cells #[.int .i64 nI] 3 (0, 0))) (hf : w.heap[gf]? = some (.cells #[.func (.func 95) #[] #[dd1, dd2, dd3]] 84 (0, 0)))
include hnI hps hR hcp hr hn hf
set_option maxHeartbeats 4000000 in
set_option maxRecDepth 100000 in
theorem perm1_skip (hk : rooksN ps ≠ R) : Calls Try.prog 140 #[.slice (some ⟨a, 0, none⟩) R cp, .pointer (some ⟨gn, 0, none⟩), .pointer (some ⟨gf, 0, none⟩)] w fun e w' => e = .returned (.bool true) ∧ Drawn0 w w' := by
  obtain ⟨kk, hrk⟩ := rooks_f (l := ps) (by omega)
  obtain ⟨rk, hrk2⟩ : ∃ rk : Int, rk = (rooksN ps : Int) := ⟨_, rfl⟩
  rw [← hrk2] at hrk
  have c1 : (rk == nI) = false := beq_eq_false_iff_ne.mpr (by omega)
  have z1 : w.cell? ⟨gn, 0, none⟩ = some (.int .i64 nI) := (blk_cell hn 0).trans rfl
  have A1 := Aside0.mk hrk
  have HR := Aside0.mk hr
  have HP := Aside0.mk hps
  have HC := Aside0.mk hcp
  have CC : ∀ q, Calls Try.prog 141 #[.slice (some ⟨a, 0, none⟩) R cp] (w.drewN q) fun e w'' => e = .returned (.int .i64 rk) ∧ ∃ m, w'' = w.drewN m := by
    intro q
    have hh := impl_rooks.calls kk (some ⟨a, 0, none⟩) cp ps rk (w.drewN q) (by rw [HP.out]; exact Kd.C_drewN HR.out q) (by rw [HP.out]; exact HC.out) A1.out
    rw [HP.out] at hh
    exact Calls.quiet_of (hh.mono (by rintro e w' ⟨rfl, ⟨m, rfl⟩⟩; exact ⟨rfl, m, rfl⟩))
  have CX := Lib.hid CC
  clear CC hrk hrk2 hn hf hps hr hk hnI hR hcp
  go_enter Try.func140, Try.ntmps140
  go_wp2
  go_quiet ((go_at_call 141; exact CX.out _))
  go_wp2
  go_ret
  exact ⟨rfl, by repeat (first | exact Drawn0.refl _ | apply Drawn0.step)⟩
set_option maxHeartbeats 4000000 in
set_option maxRecDepth 100000 in
theorem perm1_do (hk : rooksN ps = R) (X : World → Prop) (hdo : ∀ q, Calls Try.prog 95 #[.slice (some ⟨a, 0, none⟩) R cp, dd1, dd2, dd3] (w.drewN q) fun e w' => e = .returned (.tuple #[]) ∧ X w') :
    Calls Try.prog 140 #[.slice (some ⟨a, 0, none⟩) R cp, .pointer (some ⟨gn, 0, none⟩), .pointer (some ⟨gf, 0, none⟩)] w fun e w' => e = .returned (.bool true) ∧ X w' := by
  obtain ⟨kk, hrk⟩ := rooks_f (l := ps) (by omega)
  obtain ⟨rk, hrk2⟩ : ∃ rk : Int, rk = (rooksN ps : Int) := ⟨_, rfl⟩
  rw [← hrk2] at hrk
  have c1 : (rk == nI) = true := beq_iff_eq.mpr (by omega)
  have z1 : w.cell? ⟨gn, 0, none⟩ = some (.int .i64 nI) := (blk_cell hn 0).trans rfl
  have z2 : w.cell? ⟨gf, 0, none⟩ = some (.func (.func 95) #[] #[dd1, dd2, dd3]) := (blk_cell hf 0).trans rfl
  have A1 := Aside0.mk hrk
  have HR := Aside0.mk hr
  have HP := Aside0.mk hps
  have HC := Aside0.mk hcp
  have CC : ∀ q, Calls Try.prog 141 #[.slice (some ⟨a, 0, none⟩) R cp] (w.drewN q) fun e w'' => e = .returned (.int .i64 rk) ∧ ∃ m, w'' = w.drewN m := by
    intro q
    have hh := impl_rooks.calls kk (some ⟨a, 0, none⟩) cp ps rk (w.drewN q) (by rw [HP.out]; exact Kd.C_drewN HR.out q) (by rw [HP.out]; exact HC.out) A1.out
    rw [HP.out] at hh
    exact Calls.quiet_of (hh.mono (by rintro e w' ⟨rfl, ⟨m, rfl⟩⟩; exact ⟨rfl, m, rfl⟩))
  have CX := Lib.hid CC
  have DX := Lib.hid hdo
  clear CC hrk hrk2 hn hf hps hr hk hnI hR hcp hdo
  go_enter Try.func140, Try.ntmps140
  go_wp2
  go_quiet ((go_at_call 141; exact CX.out _))
  go_wp2_with (first | (go_at_call 95; (refine (DX.out _).mono ?_); rintro e w2 ⟨rfl, hx⟩))
  go_ret
  exact ⟨rfl, hx⟩
end
section
variable (dd1 dd2 dd3 : Value) (R : Nat) (nI : Int) (hnI : nI = R) (h1R : 1 ≤ R) (hR : R ≤ 6) (base : Nat)
  (Inv : (Nat → Prop) → List (List Int) → World → Prop) (hI : ∀ S vis w w', Inv S vis w → Still S w w' → Inv S vis w') (w0 : World)
  (h0 : ∀ S w, (∀ i, S i → w0.heap.size ≤ i) → Below w0.heap.size w0 w → Inv S [] w)
  (hdo : ∀ S vis ps w a cp, (∀ i, S i → w0.heap.size ≤ i) → (∀ i, S i → i < w.heap.size) → ps.length = R → (∃ b, permsOf R = vis ++ ps :: b) → S a → Kd.C (Kd.int .i64) w (some ⟨a, 0, none⟩) R ps → R ≤ cp → Inv S vis w →
    Calls Try.prog 95 #[.slice (some ⟨a, 0, none⟩) R cp, dd1, dd2, dd3] w fun e w' => e = .returned (.tuple #[]) ∧ Inv S (vis ++ [ps]) w' ∧ (∀ i, S i → i < w.heap.size → w'.heap[i]? = w.heap[i]?))
include hnI h1R hR hI h0 hdo
theorem perms_walk (gn gf gl cl : Nat) (W : World) (hB : Below w0.heap.size w0 W) (bn : w0.heap.size ≤ gn) (bf : w0.heap.size ≤ gf) (bl : w0.heap.size ≤ gl)
    (hn : W.heap[gn]? = some (.cells #[.int .i64 nI] 3 (0, 0))) (hf : W.heap[gf]? = some (.cells #[.func (.func 95) #[] #[dd1, dd2, dd3]] 84 (0, 0)))
    (hl : Kd.R (Kd.int .i64) 3 W 0 (fun i => i = gl) (.slice (some ⟨gl, 0, none⟩) R cl) (fullRows R)) :
    Calls Try.prog 139 #[.agg #[.int .i64 nI, .int .i64 nI, .slice (some ⟨gl, 0, none⟩) R cl], .func (.func 140) #[] #[.pointer (some ⟨gn, 0, none⟩), .pointer (some ⟨gf, 0, none⟩)]] W
      fun e w' => e = .returned (.tuple #[]) ∧ ∃ S, (∀ i, S i → w0.heap.size ≤ i) ∧ Inv S (permsOf R) w' := by
  have fl : (fullRows R).length = R := by simp [fullRows]
  have hcl : R ≤ cl := (Kd.R_reads' hl).2.1
  have lgl : gl < W.heap.size := by obtain ⟨cells, hc⟩ := Kd.R_typed hl gl rfl; exact blk_lt hc
  have lgn := blk_lt hn
  have lgf := blk_lt hf
  have hb : ∀ i (hi : i < (fullRows R).length), 0 ≤ (fullRows R)[i] ∧ (fullRows R)[i] < 2 ^ R := by
    intro i hi
    have : 0 < 2 ^ R := Nat.two_pow_pos R
    have e : ((2 ^ R : Nat) : Int) = 2 ^ R := by simp
    simp only [fullRows, List.getElem_replicate]
    omega
  have key := WalkPerms.walk_calls
    (fun S vis w => Inv (fun i => S i ∨ i = gn ∨ i = gf ∨ i = gl) (vis.filter (fun p => rooksN p == R)) w ∧ w.heap[gn]? = some (.cells #[.int .i64 nI] 3 (0, 0)) ∧ w.heap[gf]? = some (.cells #[.func (.func 95) #[] #[dd1, dd2, dd3]] 84 (0, 0)) ∧
      Kd.R (Kd.int .i64) 3 w 0 (fun i => i = gl) (.slice (some ⟨gl, 0, none⟩) R cl) (fullRows R) ∧ ∀ i, S i → W.heap.size ≤ i)
    (by
      rintro S vis w w' ⟨i1, i2, i3, i4, i5⟩ hs
      have kp : ∀ g, g < W.heap.size → ∀ {o}, w.heap[g]? = some o → w'.heap[g]? = some o := fun g hg o ho => (hs.kept.2 g (blk_lt ho) (fun h => by have := i5 g h; omega)).trans ho
      refine ⟨hI _ _ _ _ i1 ⟨hs.kept.mono (fun k hk => .inl hk), hs.os, hs.tape, hs.output⟩, kp gn lgn i2, kp gf lgf i3, Kd.R_step i4 (fun i hi hlt => by subst hi; exact hs.kept.2 _ hlt (fun h => by have := i5 _ h; omega)), i5⟩)
    R R nI nI hnI hnI (fullRows R) (some ⟨gl, 0, none⟩) cl (by rw [fl]; exact hcl) (.pointer (some ⟨gn, 0, none⟩)) (.pointer (some ⟨gf, 0, none⟩))
    (fun S vis w h => by have := (Kd.R_reads' h.2.2.2.1).2.2; exact this)
    fl h1R hR hR hb W
    (by
      intro S w hS hBw
      refine ⟨h0 _ w (fun i hi => ?_) (hB.trans (hBw.mono hB.size)), blk_below hn hBw, blk_below hf hBw, Kd.R_below hl hBw, hS⟩
      rcases hi with hi | rfl | rfl | rfl
      · exact Nat.le_trans hB.size (hS i hi)
      · exact bn
      · exact bf
      · exact bl)
    (by
      rintro S vis ps w a cp hS hSlt hps hmem hSa hC hcp ⟨i1, i2, i3, i4, i5⟩
      have hSlt' : ∀ i, (S i ∨ i = gn ∨ i = gf ∨ i = gl) → i < w.heap.size := by
        rintro i (hi | rfl | rfl | rfl)
        · exact hSlt i hi
        · exact blk_lt i2
        · exact blk_lt i3
        · obtain ⟨cells, hc⟩ := Kd.R_typed i4 _ rfl; exact blk_lt hc
      have hS' : ∀ i, (S i ∨ i = gn ∨ i = gf ∨ i = gl) → w0.heap.size ≤ i := by
        rintro i (hi | rfl | rfl | rfl)
        · exact Nat.le_trans hB.size (hS i hi)
        · exact bn
        · exact bf
        · exact bl
      by_cases hk : rooksN ps = R
      · have hmem2 : ∃ b, permsOf R = vis.filter (fun p => rooksN p == R) ++ ps :: b := by
          obtain ⟨b, hb2⟩ := hmem
          exact ⟨b.filter (fun p => rooksN p == R), by unfold permsOf; rw [hb2, List.filter_append, List.filter_cons, if_pos (by simp [hk])]⟩
        refine (perm1_do dd1 dd2 dd3 R nI hnI a cp gn gf ps hps hR hcp w hC i2 i3 hk (fun w' => Inv (fun i => S i ∨ i = gn ∨ i = gf ∨ i = gl) (vis.filter (fun p => rooksN p == R) ++ [ps]) w' ∧ (∀ i, (S i ∨ i = gn ∨ i = gf ∨ i = gl) → i < w.heap.size → w'.heap[i]? = w.heap[i]?)) (fun q => hdo _ _ ps (w.drewN q) a cp hS' hSlt' hps hmem2 (.inl hSa) (Kd.C_drewN hC q) hcp (hI _ _ _ _ i1 (Still.drewN w q)))).mono ?_
        rintro e w' ⟨rfl, hx, hkeep⟩
        refine ⟨rfl, ⟨?_, (hkeep _ (.inr (.inl rfl)) (blk_lt i2)).trans i2, (hkeep _ (.inr (.inr (.inl rfl))) (blk_lt i3)).trans i3, Kd.R_step i4 (fun i hi hlt => by subst hi; exact hkeep _ (.inr (.inr (.inr rfl))) hlt), i5⟩, fun i hi hlt => hkeep i (.inl hi) hlt⟩
        rw [List.filter_append]
        simpa [hk] using hx
      · refine (perm1_skip dd1 dd2 dd3 R nI hnI a cp gn gf ps hps hR hcp w hC i2 i3 hk).mono ?_
        rintro e w' ⟨rfl, ⟨m, rfl⟩⟩
        refine ⟨rfl, ⟨?_, i2, i3, Kd.R_drewN i4 m, i5⟩, fun i hi hlt => rfl⟩
        rw [List.filter_append]
        simpa [hk] using hI _ _ _ _ i1 (Still.drewN w m))
  rw [fl] at key
  refine key.mono ?_
  rintro e w' ⟨rfl, S, hS, i1, _⟩
  refine ⟨rfl, _, ?_, i1⟩
  rintro i (hi | rfl | rfl | rfl)
  · exact Nat.le_trans hB.size (Nat.le_trans (Nat.le_refl _) (hS i hi))
  · exact bn
  · exact bf
  · exact bl
set_option maxHeartbeats 4000000 in
set_option maxRecDepth 100000 in
theorem perms_calls : Calls Try.prog 94 #[.int .i64 nI, .func (.func 95) #[] #[dd1, dd2, dd3]] w0
      fun e w' => e = .returned (.tuple #[]) ∧ ∃ S, (∀ i, S i → w0.heap.size ≤ i) ∧ Inv S (permsOf R) w' := by
  have KX := Lib.hid (perms_walk dd1 dd2 dd3 R nI hnI h1R hR Inv hI w0 h0 hdo)
  obtain ⟨kk, hfb⟩ := fullBoard_f h1R hR
  rw [← hnI] at hfb
  have A1 := Aside0.mk hfb
  have fl := Aside0.mk (show (fullRows R).length = R by simp [fullRows])
  have p1 := Aside0.mk h1R
  have hu24 := Try.underlying43
  clear hfb hnI h1R hR hI h0 hdo
  go_enter Try.func94, Try.ntmps94
  go_wp2_with (first
    | ((with_reducible refine gate_dst (N := 2) rfl ?_); refine box_event ?hg (N := 2) ?hd (cs := #[.int .i64 nI]) (t := 3) ?hr ?_; (case hd => rfl); (case hg => rfl); (case hr => first | (go_simp; done) | (go_simp; rfl)); intro gn hg w1 hbox hb; have G1 := Aside0.mk hg; have K1 := Aside0.mk hbox; have B1 := Aside0.mk hb; clear hg hbox hb)
    | ((with_reducible refine gate_dst (N := 3) rfl ?_); refine box_event ?hg (N := 3) ?hd (cs := #[.func (.func 95) #[] #[dd1, dd2, dd3]]) (t := 84) ?hr ?_; (case hd => rfl); (case hg => rfl); (case hr => first | (go_simp; done) | (go_simp; rfl)); intro gf hg w2 hbox hb; have G2 := Aside0.mk hg; have K2 := Aside0.mk hbox; have B2 := Aside0.mk hb; clear hg hbox hb; have z2 : w2.cell? ⟨gn, 0, none⟩ = some (.int .i64 nI) := (blk_cell (blk_below K1.out B2.out) 0).trans rfl)
    | (go_at_call 138; (refine (impl_FullBoard.calls kk nI nI nI nI (fullRows R) true _ A1.out).mono ?_); rintro e w3 ⟨v3, rfl, ho3, hb⟩; obtain ⟨gl, cl, hv3, hgl, hgl2, cells3, hc3⟩ := Kd.R_form ho3 (by rw [fl.out]; exact p1.out); rw [fl.out] at hv3; subst hv3; have G3 := Aside0.mk (And.intro hgl hgl2); have B3 := Aside0.mk hb; have O3 := Aside0.mk ho3; clear hgl hgl2 hc3 hb ho3)
    | ((with_reducible refine gate_dst (N := 4) rfl ?_); refine box_event ?hg (N := 4) ?hd (cs := #[.int .i64 0, .int .i64 0, .slice none 0 0]) (t := 43) ?hr ?_; (case hd => rfl); (case hg => rfl); (case hr => first | (go_simp; done) | (go_simp; rfl)); intro gb hg w4 hbox hb; have G4 := Aside0.mk hg; have K4 := Aside0.mk hbox; have B4 := Aside0.mk hb; clear hg hbox hb; have y0 : w4.cell? ⟨gb, 0, none⟩ = some (.int .i64 0) := (blk_cell K4.out 0).trans rfl; have y1 : w4.cell? ⟨gb, 1, none⟩ = some (.int .i64 0) := (blk_cell K4.out 1).trans rfl; have y2 : w4.cell? ⟨gb, 2, none⟩ = some (.slice none 0 0) := (blk_cell K4.out 2).trans rfl; have f0 := blk_frozen K4.out 0; have f1 := blk_frozen K4.out 1; have f2 := blk_frozen K4.out 2)
    | (go_at_call 139; (refine (KX.out gn gf gl cl _ ?sB ?s1 ?s2 ?s3 ?sn ?sf ?sl).mono ?_); (case sB => (have o1 := blk_lt K1.out; have o2 := G2.out; have o3 := blk_lt K2.out; have o4 := G3.out; have o5 := G4.out; have o6 := blk_lt K4.out; have o7 := G1.out; have b4 : Below w0.heap.size w0 w4 := (((B1.out.trans (B2.out.mono (by omega))).trans (B3.out.mono (by omega))).trans (B4.out.mono (by omega))); exact Below.setCell (Below.setCell (Below.setCell b4 (by (try simp only []); omega) _) (by (try simp only []); omega) _) (by (try simp only []); omega) _)); (case s1 => (have o1 := blk_lt K1.out; have o2 := G2.out; have o3 := blk_lt K2.out; have o4 := G3.out; have o5 := G4.out; have o6 := blk_lt K4.out; have o7 := G1.out; omega)); (case s2 => (have o1 := blk_lt K1.out; have o2 := G2.out; have o3 := blk_lt K2.out; have o4 := G3.out; have o5 := G4.out; have o6 := blk_lt K4.out; have o7 := G1.out; omega)); (case s3 => (have o1 := blk_lt K1.out; have o2 := G2.out; have o3 := blk_lt K2.out; have o4 := G3.out; have o5 := G4.out; have o6 := blk_lt K4.out; have o7 := G1.out; omega)); (case sn => (have o1 := blk_lt K1.out; have o2 := G2.out; have o3 := blk_lt K2.out; have o4 := G3.out; have o5 := G4.out; have o6 := blk_lt K4.out; have o7 := G1.out; have q := blk_below (blk_below (blk_below K1.out B2.out) B3.out) B4.out; have e : gn ≠ gb := (by omega); exact blk_far (blk_far (blk_far q e _) e _) e _)); (case sf => (have o1 := blk_lt K1.out; have o2 := G2.out; have o3 := blk_lt K2.out; have o4 := G3.out; have o5 := G4.out; have o6 := blk_lt K4.out; have o7 := G1.out; have q := blk_below (blk_below K2.out B3.out) B4.out; have e : gf ≠ gb := (by omega); exact blk_far (blk_far (blk_far q e _) e _) e _)); (case sl => (have o1 := blk_lt K1.out; have o2 := G2.out; have o3 := blk_lt K2.out; have o4 := G3.out; have o5 := G4.out; have o6 := blk_lt K4.out; have o7 := G1.out; have q := Kd.R_below (Kd.R_mono (Kd.R_lower (Kd.R_tight rfl O3.out) (Nat.zero_le _)) (fun i hi => (by simpa [Value.ownBlock] using hi : i = gl))) B4.out; have e : ∀ i, i = gl → i ≠ gb := (fun i hi => by omega); exact Kd.R_far (Kd.R_far (Kd.R_far q e _) e _) e _)); rintro e w5 ⟨rfl, hfin⟩))
  first | go_end0 | ((try simp only [Exit.inBlock, Exit.then]); refine bodyPost_ret (results_none rfl _ _ _) rfl ?_)
  exact ⟨rfl, hfin⟩
end
end Go.Proofs.Ytiopnmgcajohfaa.PermsPH
end
section
namespace Go.Proofs.Ytiopnmgcajohfaa.Q
open Go.RowKit Go.Proofs.YtiopnmgcajohfaaW.PrintWords Go.Proofs.YtiopnmgcajohfaaW.PrintLast Go.Proofs.YtiopnmgcajohfaaW.PrintMore
open Go.Proofs.YtiopnmgcajohfaaL
set_option linter.unusedVariables false
theorem run_eql_slice_nil_ {w : World} (a : Option Addr) (l c : Nat) : (binOp .eql 28 (.slice a l c) (.slice none 0 0)).run Try.prog w = .ok (.bool a.isNone) w := by
  simp only [binOp]
  simp [run_equal_slice_nil _ _ _ _ _ _ Try.underlying28]
attribute [local go_sem] run_eql_slice_nil_
end Go.Proofs.Ytiopnmgcajohfaa.Q
end
section
namespace Go.Proofs.Ytiopnmgcajohfaa.PH
set_option linter.unusedVariables false
set_option linter.unusedSectionVars false
open Go.RowKit Go.Proofs.YtiopnmgcajohfaaW.PrintWords Go.Proofs.YtiopnmgcajohfaaW.PrintLast Go.Proofs.YtiopnmgcajohfaaW.PrintMore
open Go.Proofs.YtiopnmgcajohfaaL Go.Proofs.Ytiopnmgcajohfaa.LawK Go.Proofs.Ytiopnmgcajohfaa.BoardK Go.Proofs.Ytiopnmgcajohfaa.Walk Go.Proofs.Ytiopnmgcajohfaa.Q Go.Proofs.Ytiopnmgcajohfaa.PermK
section
variable (RI CI hI kI : Int) (R cp a gb gk go kk : Nat) (l ps : List Int) (A0 : Option Addr) (c0 : Nat) (w : World)
  (hps : ps.length = R) (hcp : R ≤ cp) (hc0 : l.length ≤ c0) (hr : Kd.C (Kd.int .i64) w (some ⟨a, 0, none⟩) R ps) (hL : Kd.C (Kd.int .i64) w A0 l.length l)
  (hgb : w.heap[gb]? = some (.cells #[.int .i64 RI, .int .i64 CI, .slice A0 l.length c0] 43 (0, 0))) (hgk : w.heap[gk]? = some (.cells #[.int .i64 kI] 3 (0, 0)))
  (hh : impl_Board_hits.f kk RI CI l ps = some hI)
include hps hcp hc0 hr hL hgb hgk hh
end
section
variable (RI CI hI : Int) (R cp a gb gk go kk bs : Nat) (l ps : List Int) (out : List (List Int)) (A0 : Option Addr) (c0 : Nat) (v : Value) (OKP : Nat → Prop) (w : World)
  (hps : ps.length = R) (hR6 : R ≤ 6) (hcp : R ≤ cp) (hc0 : l.length ≤ c0) (hr : Kd.C (Kd.int .i64) w (some ⟨a, 0, none⟩) R ps) (hL : Kd.C (Kd.int .i64) w A0 l.length l)
  (hgb : w.heap[gb]? = some (.cells #[.int .i64 RI, .int .i64 CI, .slice A0 l.length c0] 43 (0, 0))) (hgk : w.heap[gk]? = some (.cells #[.int .i64 hI] 3 (0, 0)))
  (hgo : w.heap[go]? = some (.cells #[v] 29 (0, 0))) (hng : ∀ k, OKP k → k ≠ go) (hbs : bs ≤ w.heap.size) (hnew : ∀ k, w.heap.size ≤ k → OKP k)
  (ho : Kd.S (Kd.slice 3 (Kd.int .i64)) 28 w bs OKP v out) (hol : out.length ≤ 1000000)
  (hh : impl_Board_hits.f kk RI CI l ps = some hI)
include hps hR6 hcp hc0 hr hL hgb hgk hgo hng hbs hnew ho hol hh
end
end Go.Proofs.Ytiopnmgcajohfaa.PH
end
section
namespace Go.Proofs.Ytiopnmgcajohfaa.Q
set_option linter.unusedVariables false
open Go.RowKit Go.Proofs.YtiopnmgcajohfaaW.PrintWords Go.Proofs.YtiopnmgcajohfaaW.PrintLast Go.Proofs.YtiopnmgcajohfaaW.PrintMore
open Go.Proofs.YtiopnmgcajohfaaL Go.Proofs.Ytiopnmgcajohfaa.LawK Go.Proofs.Ytiopnmgcajohfaa.BoardK Go.Proofs.Ytiopnmgcajohfaa.Walk Go.Proofs.Ytiopnmgcajohfaa.PermK Go.Proofs.Ytiopnmgcajohfaa.HN Go.Proofs.Ytiopnmgcajohfaa.PH
def hitting (l : List Int) (k : Int) (vis : List (List Int)) : List (List Int) := vis.filter (fun p => decide (hitsF l p 0 0 = k))
theorem perms_len {R : Nat} (h : R ≤ 6) : (permsOf R).length ≤ 117649 := by
  have h1 := List.length_filter_le (fun p => rooksN p == R) (waysFrom (fullRows R) R R 0 0 [])
  have h2 := ways_len (fullRows R) R R 0 0 []
  have h3 : ∀ R : Fin 7, (R.val + 1) ^ R.val ≤ 117649 := by decide
  have h4 := h3 ⟨R, by omega⟩
  unfold permsOf
  simp only [] at h4
  omega
end Go.Proofs.Ytiopnmgcajohfaa.Q
end
