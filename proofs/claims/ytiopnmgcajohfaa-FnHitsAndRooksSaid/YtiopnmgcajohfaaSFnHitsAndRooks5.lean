/- Texts of this claim put together (5): words, what the functions compute, and plain facts. No conditions. -/
import Derived.Test.YtiopnmgcajohfaaSFnHitsAndRooks4
import Derived.Deep.QuietTactic
import Derived.BigQuiet
import Derived.Deep.RegionWith
import Derived.Test.YtiopnmgcajohfaaSFnHitsAndRooks0
section
namespace Go.Proofs.Ytiopnmgcajohfaa.Q
open Go.RowKit Go.Proofs.YtiopnmgcajohfaaW.PrintWords Go.Proofs.YtiopnmgcajohfaaW.PrintLast Go.Proofs.YtiopnmgcajohfaaW.PrintMore
attribute [local go_sem] max2_int min2_int max_two min_two max_three min_three max_four min_four   -- for this text's walks alone
set_option linter.unusedVariables false
set_option linter.unusedSimpArgs false
mutual
def impl_FullBoard.j0:Nat→Int→Int→Bool→Option (Int × Int × List Int × Bool)
|0,_,_,_=>none
|k + 1,x0,x1,x15=>if x15=true then (some (0,0,([]:List Int),false)) else ((impl_newBoard.f x0 x1).bind fun bt104=>(impl_FullBoard.l0 k x1 (bt104.2.2.length:Int) 0 bt104.1 bt104.2.1 bt104.2.2))
def impl_FullBoard.l0:Nat→Int→Int→Int→Int→Int→List Int→Option (Int × Int × List Int × Bool)
|0,_,_,_,_,_,_=>none
|k + 1,x1,x22,x23,x110000,x110001,x110002=>if x23 < x22 then (if 0≤x1 then (if 0≤x23 then (if x23 < (x110002.length:Int) then (impl_FullBoard.l0 k x1 x22 (wrap64 (x23 + 1)) x110000 x110001 (x110002.set (x23:Int).toNat (wrap64 ((shl .i64 1 x1) - 1)))) else (none)) else (none)) else (none)) else (some (x110000,x110001,x110002,true))
end
def impl_FullBoard.f (k:Nat) (a0:Int) (a1:Int):Option (Int × Int × List Int × Bool):=(impl_isSide.f a0).bind fun t102=>(if t102=true then ((impl_isSide.f a1).bind fun t103=>(impl_FullBoard.j0 k a0 a1 (!t103))) else (impl_FullBoard.j0 k a0 a1 true))
def impl_FullBoard.T7:Bool × List (List Nat × List Nat):=(true,[([],[]),([0],[0]),([],[]),([],[]),([3],[3]),([4],[4]),([1,2,0,1,2,3,4,5],[1,2]),([6,5,0,1,2,3,4,5],[5,6])])
def impl_FullBoard.B7:List Nat:=[0,1,0,0,8,24,63,127]
theorem impl_FullBoard.tab7:rtab .any (opsOf Try.f138 7)=impl_FullBoard.T7:=by kernel_rfl
theorem impl_FullBoard.bits7:waitsOk impl_FullBoard.T7.2 impl_FullBoard.B7=true:=by kernel_rfl
set_option maxHeartbeats 8000000 in
set_option maxRecDepth 100000 in
theorem impl_FullBoard.calls (k:Nat) (a0:Int) (a1:Int) (r1:Int) (r2:Int) (r3:List Int) (r4:Bool) (w:World) (h:impl_FullBoard.f k a0 a1=some (r1,r2,r3,r4)) :
  Calls Try.prog 138 #[.int .i64 a0,.int .i64 a1] w fun e w'=>∃ v2_:Value,e=.returned (.tuple #[.agg #[.int .i64 r1,.int .i64 r2,v2_],.bool r4])∧Kd.R (Kd.int .i64) 3 w' w.heap.size (fun _=>True) v2_ r3∧Below w.heap.size w w':=by
 have hu43:=Try.underlying43;have HB:=za (Below.refl w.heap.size w);have H:((impl_isSide.f a0).bind fun t102=>(if t102=true then ((impl_isSide.f a1).bind fun t103=>(impl_FullBoard.j0 k a0 a1 (!t103))) else (impl_FullBoard.j0 k a0 a1 true)))=some (r1,r2,r3,r4):=h;clear h;have HC3:=za H;clear H;(go_enter Try.func138,Try.ntmps138);(go_upto_region 1 with (first|((with_reducible refine zA (N:=4) rfl ?_);refine zF ?hg (N:=4) ?hd (cs:=#[.int .i64 0,.int .i64 0,.slice none 0 0]) (t:=43) ?hr ?_;(case hd=>rfl);(case hg=>rfl);(case hr=>first|(go_simp;done)|(go_simp;rfl));intro gb101 hg w4 hbox hb;have BK101:=za (hbox);have GW101:=za ((by rw [hg];exact (zo (by repeat (first|(with_reducible first|exact HB.out|apply zc|apply zd|apply zb)|exact HB.out))):w.heap.size≤gb101));have GE101:=za ((by rw [hg];exact (zo (by repeat (first|(with_reducible first|exact HB.out|apply zc|apply zd|apply zb)|exact HB.out))):w.heap.size≤gb101));replace HB:=za (zp (by repeat (first|(with_reducible first|exact HB.out|apply zc|apply zd|apply zb)|exact HB.out)) hb);clear hb hbox hg)));(try simp only [Act.put,z0_,z1_,z2_]);go_cut [15] (fun v15 wc=>∃ (kq:Nat) (x15_2:Bool),v15=.bool x15_2∧Aside0 (impl_FullBoard.j0 kq a0 a1 x15_2=some (r1,r2,r3,r4))∧Aside0 (kq≤k)∧Aside0 (wc.heap[gb101]?=some (.cells #[.int .i64 0,.int .i64 0,(.slice none 0 0)] 43 (0,0)))∧Aside0 (Below w.heap.size w wc))
 case first =>
  have H:=HC3.out;clear HC3;obtain ⟨t102,A5,H⟩:=bindAside H;(try dsimp only at H);by_cases c6:t102=true
  · subst c6;(have H1:((impl_isSide.f a1).bind fun t103=>(impl_FullBoard.j0 k a0 a1 (!t103)))=some (r1,r2,r3,r4):=by rw [if_pos rfl] at H;exact H);clear H;have H:=H1;clear H1;obtain ⟨t103,A7,H⟩:=bindAside H;(try dsimp only at H);have H':=za H;clear H;(go_wp2_with (first|((with_reducible refine zq (f:=104) rfl ?_);refine zr (some 9) rfl rfl Try.func104 (by kernel_rfl) rfl #[.int .i64 a0] rfl (by first|rfl|simp only [z3_,z4_,z5_];try rfl) ?_;(with_reducible refine (impl_isSide.calls a0 true _ A5.out).mono ?_);rintro e w' ⟨rfl,⟨nd,rfl⟩⟩;refine ⟨_,rfl,?_⟩)|(go_at_call 104;(with_reducible refine (impl_isSide.calls a1 t103 _ A7.out).mono ?_);rintro e w' ⟨rfl,⟨nd,rfl⟩⟩)));(go_meet);case rel=>exact ⟨_,(!t103),(by first|rfl|(simp;done)|(simp [*];done)),H',⟨by first|omega|exact Nat.le_refl _⟩,⟨by (with_reducible repeat (first|refine zh ?_ _|refine zf ?_|refine zi ?_ _));exact BK101.out⟩,⟨by repeat (first|(with_reducible first|exact HB.out|apply zc|apply zd|apply zb|refine ze ?_ GE101.out)|exact HB.out)⟩⟩
  · replace c6:=Bool.eq_false_iff.mpr c6;subst c6;(have H1:(impl_FullBoard.j0 k a0 a1 true)=some (r1,r2,r3,r4):=by rw [if_neg (show ¬ (false=true) by decide)] at H;exact H);clear H;have H:=H1;clear H1;have H':=za H;clear H;(go_wp2_with (first|((with_reducible refine zq (f:=104) rfl ?_);refine zr (some 9) rfl rfl Try.func104 (by kernel_rfl) rfl #[.int .i64 a0] rfl (by first|rfl|simp only [z3_,z4_,z5_];try rfl) ?_;(with_reducible refine (impl_isSide.calls a0 false _ A5.out).mono ?_);rintro e w' ⟨rfl,⟨nd,rfl⟩⟩;refine ⟨_,rfl,?_⟩)));(go_meet);case rel=>exact ⟨_,(true),(by first|rfl|(simp;done)|(simp [*];done)),H',⟨by first|omega|exact Nat.le_refl _⟩,⟨by (with_reducible repeat (first|refine zh ?_ _|refine zf ?_|refine zi ?_ _));exact BK101.out⟩,⟨by repeat (first|(with_reducible first|exact HB.out|apply zc|apply zd|apply zb|refine ze ?_ GE101.out)|exact HB.out)⟩⟩
 case rest =>
  clear HC3;(try clear c1);(try clear p2);(try clear c6);obtain ⟨kq,x15_2,rfl,HA,HJ2,BK101,HB⟩:=hcut
  cases kq with
 |zero=>exact absurd HA.out (by simp [impl_FullBoard.j0])
 |succ kj2 =>
   have H:=HA.out;clear HA;simp only [impl_FullBoard.j0] at H;by_cases c8:x15_2=true
   · subst c8;(have H1:(some (0,0,([]:List Int),false))=some (r1,r2,r3,r4):=by rw [if_pos rfl] at H;exact H);clear H;have H:=H1;clear H1;simp only [Option.some.injEq,Prod.mk.injEq] at H;obtain ⟨rfl,rfl,rfl,rfl⟩:=H;have hcz9_0:wc.cell? ⟨gb101,0,none⟩=some (.int .i64 0):=(zg BK101.out 0).trans rfl;have hcz9_1:wc.cell? ⟨gb101,1,none⟩=some (.int .i64 0):=(zg BK101.out 1).trans rfl;have hcz9_2:wc.cell? ⟨gb101,2,none⟩=some (.slice none 0 0):=(zg BK101.out 2).trans rfl;have hfz9_0:=zm BK101.out 0;have hfz9_1:=zm BK101.out 1;have hfz9_2:=zm BK101.out 2;(go_wp2);refine bodyPost_ret (results_ct rfl _ _ gb101 43 #[.int .i64 0,.int .i64 0,.slice none 0 0] (0,0) _ rfl (by (with_reducible repeat (first|refine zh ?_ _|refine zf ?_|refine zi ?_ _));refine zz (cs:=#[.int .i64 0,.int .i64 0,.slice none 0 0]) ?_ 2 _ rfl;(with_reducible repeat (first|refine zh ?_ _|refine zf ?_|refine zi ?_ _));refine zz (cs:=#[.int .i64 0,.int .i64 0,.slice none 0 0]) ?_ 1 _ rfl;(with_reducible repeat (first|refine zh ?_ _|refine zf ?_|refine zi ?_ _));refine zz (cs:=#[.int .i64 0,.int .i64 0,.slice none 0 0]) ?_ 0 _ rfl;(with_reducible repeat (first|refine zh ?_ _|refine zf ?_|refine zi ?_ _));exact BK101.out) Try.underlying43 rfl (by kernel_rfl)) rfl ?_;exact ⟨_,by first|rfl|simp [*,errW_none,errW_some] <;> rfl,by first|exact Kd.R_nil _ _ _ _ _|exact Kd.N_nil _ _ _ _ _|exact Kd.V_nil _ _ _ _ _|exact Kd.Q_nil _ _ _ _ _|exact Kd.S_nil _ _ _ _ _,by repeat (first|(with_reducible first|exact HB.out|apply zc|apply zd|apply zb|refine ze ?_ GE101.out)|exact HB.out)⟩
   ·
    replace c8:=Bool.eq_false_iff.mpr c8;subst c8;(have H1:((impl_newBoard.f a0 a1).bind fun bt104=>(impl_FullBoard.l0 kj2 a1 (bt104.2.2.length:Int) 0 bt104.1 bt104.2.1 bt104.2.2))=some (r1,r2,r3,r4):=by rw [if_neg (show ¬ (false=true) by decide)] at H;exact H);clear H;have H:=H1;clear H1;obtain ⟨⟨t104,t105,t106⟩,A10,H⟩:=bindAside H;(try dsimp only at H);have H':=za H;clear H;(go_wp2_with (first|((with_reducible refine zq (f:=145) rfl ?_);refine zr (some 19) rfl rfl Try.func145 (by kernel_rfl) rfl #[.int .i64 a0,.int .i64 a1] rfl (by first|rfl|simp only [z3_,z4_,z5_];try rfl) ?_;(with_reducible refine (impl_newBoard.calls a0 a1 t104 t105 t106 _ A10.out).mono ?_);rintro e w11 ⟨v107,rfl,ho0,hb⟩;refine ⟨_,rfl,?_⟩;have HO108:=za (zL ho0 (zo (by repeat (first|(with_reducible first|exact HB.out|apply zc|apply zd|apply zb|refine ze ?_ GE101.out)|exact HB.out))));replace BK101:=za (zu (g:=gb101) (o:=.cells #[.int .i64 0,.int .i64 0,.slice none 0 0] 43 (0,0)) (by apply_rules only [BK101.out,zh,zf,zi]) hb);replace HB:=za (zp (by repeat (first|(with_reducible first|exact HB.out|apply zc|apply zd|apply zb|refine ze ?_ GE101.out)|exact HB.out)) hb))|((with_reducible refine zA (N:=6) rfl ?_);refine zF ?hg (N:=6) ?hd (cs:=#[.int .i64 0,.int .i64 0,.slice none 0 0]) (t:=43) ?hr ?_;(case hd=>rfl);(case hg=>rfl);(case hr=>first|(go_simp;done)|(go_simp;rfl));intro gb109 hg w12 hbox hb;replace HO108:=za (zG (by (with_reducible repeat (first|apply zk|apply zl|apply zj));exact HO108.out) hb);have BK109:=za (hbox);have GW109:=za ((by rw [hg];exact (zo (by repeat (first|(with_reducible first|exact HB.out|apply zc|apply zd|apply zb|refine ze ?_ GE101.out)|exact HB.out))):w.heap.size≤gb109));have GE109:=za ((by rw [hg];exact (zo (by repeat (first|(with_reducible first|exact HB.out|apply zc|apply zd|apply zb|refine ze ?_ GE101.out)|exact HB.out))):w.heap.size≤gb109));replace HB:=za (zp (by repeat (first|(with_reducible first|exact HB.out|apply zc|apply zd|apply zb|refine ze ?_ GE101.out)|exact HB.out)) hb);have NB101_109:=za ((by rw [hg];exact Nat.ne_of_lt (blk_lt (g:=gb101) (o:=.cells #[.int .i64 0,.int .i64 0,.slice none 0 0] 43 (0,0)) (by apply_rules only [BK101.out,zh,zf,zi])):gb101 ≠ gb109));have NB109_101:=za ((by rw [hg];exact Nat.ne_of_gt (blk_lt (g:=gb101) (o:=.cells #[.int .i64 0,.int .i64 0,.slice none 0 0] 43 (0,0)) (by apply_rules only [BK101.out,zh,zf,zi])):gb109 ≠ gb101));replace BK101:=za (zu (g:=gb101) (o:=.cells #[.int .i64 0,.int .i64 0,.slice none 0 0] 43 (0,0)) (by apply_rules only [BK101.out,zh,zf,zi]) hb);clear hb hbox hg;have hnb13:=NB109_101.out;have hnc13:=NB101_109.out;have hcz14_0:w12.cell? ⟨gb109,0,none⟩=some (.int .i64 0):=(zg BK109.out 0).trans rfl;have hcz14_1:w12.cell? ⟨gb109,1,none⟩=some (.int .i64 0):=(zg BK109.out 1).trans rfl;have hcz14_2:w12.cell? ⟨gb109,2,none⟩=some (.slice none 0 0):=(zg BK109.out 2).trans rfl;have hfz14_0:=zm BK109.out 0;have hfz14_1:=zm BK109.out 1;have hfz14_2:=zm BK109.out 2;obtain ⟨Ao15,co15,eo15⟩:=Kd.R_slice HO108.out;subst eo15)));(go_loopg [23] kj2 (fun kq v23 w'=>∃ (x23_2:Int) (x110002_2:List Int) (u110002:Value),v23=.int .i64 x23_2∧Aside0 (impl_FullBoard.l0 kq a1 (t106.length:Int) x23_2 t104 t105 x110002_2=some (r1,r2,r3,r4))∧Aside0 (kq≤kj2)∧Aside0 (Kd.R (Kd.int .i64) 3 w' w.heap.size (fun _=>True) u110002 x110002_2)∧Aside0 (w'.heap[gb101]?=some (.cells #[.int .i64 0,.int .i64 0,(.slice none 0 0)] 43 (0,0)))∧Aside0 (w'.heap[gb109]?=some (.cells #[.int .i64 t104,.int .i64 t105,u110002] 43 (0,0)))∧Aside0 (Below w.heap.size w w')));case atStart=>exact ⟨(0),(t106),(.slice Ao15 t106.length co15),(by first|rfl|(simp;done)|(simp [*];done)),H',⟨Nat.le_refl _⟩,⟨by (with_reducible repeat (first|apply zk|apply zl|apply zj));exact zs (zn (p:=⟨gb109,2,none⟩) (zn (p:=⟨gb109,1,none⟩) (zn (p:=⟨gb109,0,none⟩) (zM HO108.out BK109.out (by decide)) (fun _ hk=>hk.2) (.int .i64 t104)) (fun _ hk=>hk.2) (.int .i64 t105)) (fun _ hk=>hk.2) (.slice Ao15 t106.length co15)) (fun _ hk=>trivial)⟩,⟨by (with_reducible repeat (first|refine zh ?_ _|refine zf ?_|refine zi ?_ _));refine blk_far ?_ NB101_109.out _;(with_reducible repeat (first|refine zh ?_ _|refine zf ?_|refine zi ?_ _));refine blk_far ?_ NB101_109.out _;(with_reducible repeat (first|refine zh ?_ _|refine zf ?_|refine zi ?_ _));refine blk_far ?_ NB101_109.out _;(with_reducible repeat (first|refine zh ?_ _|refine zf ?_|refine zi ?_ _));exact BK101.out⟩,⟨by (with_reducible repeat (first|refine zh ?_ _|refine zf ?_|refine zi ?_ _));refine zz (cs:=#[.int .i64 t104,.int .i64 t105,.slice none 0 0]) ?_ 2 _ rfl;(with_reducible repeat (first|refine zh ?_ _|refine zf ?_|refine zi ?_ _));refine zz (cs:=#[.int .i64 t104,.int .i64 0,.slice none 0 0]) ?_ 1 _ rfl;(with_reducible repeat (first|refine zh ?_ _|refine zf ?_|refine zi ?_ _));refine zz (cs:=#[.int .i64 0,.int .i64 0,.slice none 0 0]) ?_ 0 _ rfl;(with_reducible repeat (first|refine zh ?_ _|refine zf ?_|refine zi ?_ _));exact BK109.out⟩,⟨by repeat (first|(with_reducible first|exact HB.out|apply zc|apply zd|apply zb|refine ze ?_ GE101.out|refine ze ?_ GE109.out)|exact HB.out)⟩⟩
    case round =>
     clear H';(try clear c1);(try clear p2);(try clear c6);(try clear c8);(try clear c10);(try clear c13);(try clear c14);(try clear hcz14_0);(try clear hcz14_1);(try clear hcz14_2);(try clear hcz9_0);(try clear hcz9_1);(try clear hcz9_2);(try clear hfz14_0);(try clear hfz14_1);(try clear hfz14_2);(try clear hfz9_0);(try clear hfz9_1);(try clear hfz9_2);(try clear p2);obtain ⟨x23_2,x110002_2,u110002,rfl,HA,HK2,HO_110002,BK101,BK109,HB⟩:=hrel
     cases gk with
    |zero=>exact absurd HA.out (by simp [impl_FullBoard.l0])
    |succ k2 =>
      have H:=HA.out;clear HA;simp only [impl_FullBoard.l0] at H;by_cases c16:x23_2 < (t106.length:Int)
      ·
       rw [if_pos c16] at H;have c16b0:decide (x23_2 < (t106.length:Int))=true:=decide_eq_true c16;clear c16;by_cases c17:0≤a1
       ·
        rw [if_pos c17] at H;have c17b0:=eq_true c17;have c17b1:decide (0≤a1)=true:=decide_eq_true c17;clear c17;obtain ⟨ji18,hji18⟩:∃ j_:Int,(shl .i64 1 a1)=j_:=⟨_,rfl⟩;(replace H:(if 0≤x23_2 then (if x23_2 < (x110002_2.length:Int) then (impl_FullBoard.l0 k2 a1 (t106.length:Int) (wrap64 (x23_2 + 1)) t104 t105 (x110002_2.set (x23_2:Int).toNat (wrap64 ((ji18) - 1)))) else (none)) else (none))=some (r1,r2,r3,r4):=by first|(rw [hji18] at H;exact H)|(simp only [hji18] at H ⊢;exact H));have hji18_:(IntKind.i64.wrap (1 * 2 ^ min a1.toNat 64))=ji18:=hji18;have hji18z:a1≤64→(IntKind.i64.wrap (1 * 2 ^ a1.toNat))=ji18:=shl_small hji18;(have hji18u:(IntKind.i64.wrap (2 ^ min a1.toNat 64))=ji18:=by have h_:=hji18_;rw [Int.one_mul] at h_;exact h_);(have hji18v:a1≤64→(IntKind.i64.wrap (2 ^ a1.toNat))=ji18:=fun hle_=>by have h_:=hji18z hle_;rw [Int.one_mul] at h_;exact h_);have hji18y:(wrap64 (1 * 2 ^ min a1.toNat 64))=ji18:=(i64_w _).symm.trans hji18_;(have hji18x:a1≤64→(wrap64 (1 * 2 ^ a1.toNat))=ji18:=fun h_=>(i64_w _).symm.trans (hji18z h_));by_cases c19:0≤x23_2
        ·
         rw [if_pos c19] at H;have c19b0:decide (0≤x23_2)=true:=decide_eq_true c19;clear c19;by_cases c20:x23_2 < (x110002_2.length:Int)
         ·
          rw [if_pos c20] at H;have c20b0:decide (x23_2 < (x110002_2.length:Int))=true:=decide_eq_true c20;clear c20;obtain ⟨y110,hy110⟩:∃ y_:List Int,y_=(x110002_2.set (x23_2:Int).toNat (wrap64 ((ji18) - 1))):=⟨_,rfl⟩;(replace H:(impl_FullBoard.l0 k2 a1 (t106.length:Int) (wrap64 (x23_2 + 1)) t104 t105 y110)=some (r1,r2,r3,r4):=by first|(rw [hy110];with_reducible exact H)|(have H2_:=(Option.bind_some _ _).symm.trans H;rw [hy110];with_reducible exact H2_)|(have H2_:=(Option.bind_some _ _).symm.trans H;with_reducible exact H2_)|with_reducible exact H|(rw [hy110];exact H)|exact H);have Ny110:=za hy110;clear hy110;have H':=za H;clear H;(try go_wp2);replace HO_110002:=za (zj HO_110002.out);replace BK101:=za (zf BK101.out);replace BK109:=za (zf BK109.out);replace HB:=za (zb HB.out);have p21:0≤(x23_2:Int):=of_decide_eq_true ‹_›;have q21:(x23_2:Int) < ((x110002_2.length:Int):Int):=of_decide_eq_true ‹_›;obtain ⟨go21,co21,eo21,gb21,gl21,cl21,HG21⟩:=Kd.R_form HO_110002.out (by omega);(first|cases eo21|(injection eo21 with ea_ en_ ec_;(first|subst ea_|(injection ea_ with ea_;subst ea_));subst ec_;clear en_));have GB21:=za gb21;have GG21:=za HG21;clear gb21 gl21 HG21;obtain ⟨hx21_0,hf21_0⟩:=Kd.R_celln 0 HO_110002.out (x23_2:Int) p21 q21;replace p21:=eq_true p21;replace q21:=eq_true q21;have HP23:=Kd.R_putn HO_110002.out (x23_2:Int) (wrap64 ((ji18) - 1));rw [← Ny110.out] at HP23;have HQ23:=za HP23;clear HP23;refine start_ (n:=8) (S:=fun w'=>w'.cell? ⟨gb109,0,none⟩=some (.int .i64 t104)∧w'.cell? ⟨gb109,1,none⟩=some (.int .i64 t105)∧w'.cell? ⟨gb109,2,none⟩=some (.slice (some ⟨go21,0,none⟩) x110002_2.length co21)) (ds:=[7]) #[false,false,false,false,false,false,false,false] (by kernel_rfl) rfl rfl ⟨(zg BK109.out 0).trans rfl,(zg BK109.out 1).trans rfl,(zg BK109.out 2).trans rfl⟩ (fun hHeld=>?_);refine with_tabW impl_FullBoard.tab7 impl_FullBoard.bits7 (fun HT_ HW_=>?_);generalize wr.drew=w22 at HO_110002 BK101 BK109 HB GG21 HQ23 hf21_0 hx21_0 hHeld ⊢;refine pure_ (i:=0) (N:=some 26) (v:=?_) (a':=?_) #[true,false,false,false,false,false,false,false] rfl rfl (any_of HT_.out (by kernel_rfl)) (fun _ _ _ h=>h) (Or.inl ⟨by rfl,?_⟩) ?_ ?_;rotate_left
          · intro w';go_simp;with_reducible rfl
          rotate_left
          · simp only [Act.put,z0_,z1_,z2_,i64_w,i32_w];rfl
          refine pure_ (i:=2) (N:=some 28) (v:=?_) (a':=?_) #[true,false,true,false,false,false,false,false] rfl rfl (any_of HT_.out (by kernel_rfl)) (fun _ _ _ h=>h) (Or.inl ⟨by rfl,?_⟩) ?_ ?_;rotate_left
          · intro w';go_simp;with_reducible rfl
          rotate_left
          · simp only [Act.put,z0_,z1_,z2_,i64_w,i32_w];rfl
          refine pure_ (i:=3) (N:=some 29) (v:=?_) (a':=?_) #[true,false,true,true,false,false,false,false] rfl rfl (any_of HT_.out (by kernel_rfl)) (fun _ _ _ h=>h) (Or.inl ⟨by rfl,?_⟩) ?_ ?_;rotate_left
          · intro w';go_simp;with_reducible rfl
          rotate_left
          · simp only [Act.put,z0_,z1_,z2_,i64_w,i32_w];rfl
          refine pure_ (i:=4) (N:=some 30) (v:=?_) (a':=?_) #[true,false,true,true,true,false,false,false] rfl rfl (any_of HT_.out (by kernel_rfl)) (fun _ _ _ h=>h) (Or.inl ⟨by rfl,?_⟩) ?_ ?_;rotate_left
          · intro w';go_simp;with_reducible rfl
          rotate_left
          · simp only [Act.put,z0_,z1_,z2_,i64_w,i32_w];rfl
          refine pure_ (i:=5) (N:=some 31) (v:=?_) (a':=?_) #[true,false,true,true,true,true,false,false] rfl rfl (any_of HT_.out (by kernel_rfl)) (fun _ _ _ h=>h) (Or.inl ⟨by rfl,?_⟩) ?_ ?_;rotate_left
          · intro w';go_simp;with_reducible rfl
          rotate_left
          · simp only [Act.put,z0_,z1_,z2_,i64_w,i32_w];rfl
          refine take_ (i:=1) (N:=some 27) (v:=?_) (a':=?_) #[true,true,true,true,true,true,false,false] rfl rfl (take_ofW HT_.out HW_.out (by kernel_rfl)) (fun _ _ _ h=>h) (Or.inl ⟨by rfl,?_⟩) hHeld ?_ ?_;rotate_left
          · rintro w' ⟨s0,s1,s2⟩;go_simp;with_reducible rfl
          rotate_left
          · simp only [Act.put,z0_,z1_,z2_,i64_w,i32_w];rfl
          refine pure_ (i:=6) (N:=some 32) (v:=?_) (a':=?_) #[true,true,true,true,true,true,true,false] rfl rfl (any_of HT_.out (by kernel_rfl)) (fun _ _ _ h=>h) (Or.inl ⟨by rfl,?_⟩) ?_ ?_;rotate_left
          · intro w';go_simp;with_reducible rfl
          rotate_left
          · simp only [Act.put,z0_,z1_,z2_,i64_w,i32_w];rfl
          refine last_ (i:=7) (N:=none) #[true,true,true,true,true,true,true,true] rfl rfl (one_of HT_.out (by kernel_rfl)) (by decide) (fun K hK=>?_);refine skip_ (w1:=?_) (by rfl) rfl ?_ ?_;rotate_left
          · go_simp;rfl
          refine hK.out _ _ ?_;clear hK K;refine done_ (done_of HT_.out (by kernel_rfl)) ?_;(try go_wp2);(go_roundg k2);(case measure=>have:=HJ2.out;have:=HK2.out;omega);case rel=>exact ⟨(wrap64 (x23_2 + 1)),(y110),(.slice (some ⟨go21,0,none⟩) x110002_2.length co21),(by first|rfl|(simp;done)|(simp [*];done)),H',⟨by have:=HJ2.out;have:=HK2.out;omega⟩,⟨by (with_reducible repeat (first|apply zk|apply zl|apply zj));exact HQ23.out⟩,⟨by (with_reducible repeat (first|refine zh ?_ _|refine zf ?_|refine zi ?_ _));refine blk_far ?_ (by have h_:=Kd.R_ne HO_110002.out BK101.out (by decide);intro e_;exact h_ (by rw [e_];rfl)) _;(with_reducible repeat (first|refine zh ?_ _|refine zf ?_|refine zi ?_ _));exact BK101.out⟩,⟨by (with_reducible repeat (first|refine zh ?_ _|refine zf ?_|refine zi ?_ _));refine blk_far ?_ (by have h_:=Kd.R_ne HO_110002.out BK109.out (by decide);intro e_;exact h_ (by rw [e_];rfl)) _;(with_reducible repeat (first|refine zh ?_ _|refine zf ?_|refine zi ?_ _));exact BK109.out⟩,⟨by repeat (first|(with_reducible first|exact HB.out|apply zc|apply zd|apply zb|refine ze ?_ GB21.out|refine ze ?_ GE101.out|refine ze ?_ GE109.out)|exact HB.out)⟩⟩
         · rw [if_neg c20] at H;exact absurd H (by simp)
        · rw [if_neg c19] at H;exact absurd H (by simp)
       · rw [if_neg c17] at H;exact absurd H (by simp)
      · rw [if_neg c16] at H;have c16b0:decide (x23_2 < (t106.length:Int))=false:=decide_eq_false c16;clear c16;simp only [Option.some.injEq,Prod.mk.injEq] at H;obtain ⟨rfl,rfl,rfl,rfl⟩:=H;have hnb24:=NB109_101.out;have hnc24:=NB101_109.out;have hcz25_0:wr.cell? ⟨gb109,0,none⟩=some (.int .i64 t104):=(zg BK109.out 0).trans rfl;have hcz25_1:wr.cell? ⟨gb109,1,none⟩=some (.int .i64 t105):=(zg BK109.out 1).trans rfl;have hcz25_2:wr.cell? ⟨gb109,2,none⟩=some (u110002):=(zg BK109.out 2).trans rfl;have hfz25_0:=zm BK109.out 0;have hfz25_1:=zm BK109.out 1;have hfz25_2:=zm BK109.out 2;have hcz26_0:wr.cell? ⟨gb101,0,none⟩=some (.int .i64 0):=(zg BK101.out 0).trans rfl;have hcz26_1:wr.cell? ⟨gb101,1,none⟩=some (.int .i64 0):=(zg BK101.out 1).trans rfl;have hcz26_2:wr.cell? ⟨gb101,2,none⟩=some (.slice none 0 0):=(zg BK101.out 2).trans rfl;have hfz26_0:=zm BK101.out 0;have hfz26_1:=zm BK101.out 1;have hfz26_2:=zm BK101.out 2;obtain ⟨Ao27,co27,eo27⟩:=Kd.R_slice HO_110002.out;subst eo27;(go_wp2);refine bodyPost_ret (results_ct rfl _ _ gb101 43 #[.int .i64 t104,.int .i64 t105,.slice Ao27 x110002_2.length co27] (0,0) _ rfl (by (with_reducible repeat (first|refine zh ?_ _|refine zf ?_|refine zi ?_ _));refine zz (cs:=#[.int .i64 t104,.int .i64 t105,.slice none 0 0]) ?_ 2 _ rfl;(with_reducible repeat (first|refine zh ?_ _|refine zf ?_|refine zi ?_ _));refine zz (cs:=#[.int .i64 t104,.int .i64 0,.slice none 0 0]) ?_ 1 _ rfl;(with_reducible repeat (first|refine zh ?_ _|refine zf ?_|refine zi ?_ _));refine zz (cs:=#[.int .i64 0,.int .i64 0,.slice none 0 0]) ?_ 0 _ rfl;(with_reducible repeat (first|refine zh ?_ _|refine zf ?_|refine zi ?_ _));exact BK101.out) Try.underlying43 rfl (by kernel_rfl)) rfl ?_;exact ⟨_,by first|rfl|simp [*,errW_none,errW_some] <;> rfl,by (with_reducible repeat (first|apply zk|apply zl|apply zj));exact zs (zn (p:=⟨gb101,2,none⟩) (zn (p:=⟨gb101,1,none⟩) (zn (p:=⟨gb101,0,none⟩) (zM HO_110002.out BK101.out (by decide)) (fun _ hk=>hk.2) (.int .i64 t104)) (fun _ hk=>hk.2) (.int .i64 t105)) (fun _ hk=>hk.2) (.slice Ao27 x110002_2.length co27)) (fun _ hk=>trivial),by repeat (first|(with_reducible first|exact HB.out|apply zc|apply zd|apply zb|refine ze ?_ GE101.out|refine ze ?_ GE109.out)|exact HB.out)⟩
end Go.Proofs.Ytiopnmgcajohfaa.Q
end
section
namespace Go.Proofs.Ytiopnmgcajohfaa.Walk
set_option linter.unusedVariables false
open Go.RowKit Go.Proofs.YtiopnmgcajohfaaW.PrintWords Go.Proofs.YtiopnmgcajohfaaW.PrintLast Go.Proofs.YtiopnmgcajohfaaW.PrintMore
open Go.Proofs.YtiopnmgcajohfaaL Go.Proofs.Ytiopnmgcajohfaa.LawK Go.Proofs.Ytiopnmgcajohfaa.BoardK Go.Proofs.Ytiopnmgcajohfaa.Q
def fullRows (n : Nat) : List Int := List.replicate n (2 ^ n - 1)
set_option maxRecDepth 20000 in
theorem fullBoard_f {n : Nat} (h1 : 1 ≤ n) (h6 : n ≤ 6) : ∃ k, impl_FullBoard.f k n n = some ((n : Int), (n : Int), fullRows n, true) := by
  have : ∀ x : Fin 6, impl_FullBoard.f 12 ((x.val + 1 : Nat) : Int) ((x.val + 1 : Nat) : Int) = some (((x.val + 1 : Nat) : Int), ((x.val + 1 : Nat) : Int), fullRows (x.val + 1), true) := by decide +kernel
  have := this ⟨n - 1, by omega⟩
  simp only [] at this
  rw [show n - 1 + 1 = n by omega] at this
  exact ⟨12, this⟩
def permsOf (n : Nat) : List (List Int) := (waysFrom (fullRows n) n n 0 0 []).filter (fun p => rooksN p == n)
end Go.Proofs.Ytiopnmgcajohfaa.Walk
end
section
namespace Go.Proofs.Ytiopnmgcajohfaa.WalkPerms
set_option linter.unusedVariables false
open Go.RowKit Go.Proofs.YtiopnmgcajohfaaW.PrintWords Go.Proofs.YtiopnmgcajohfaaW.PrintLast Go.Proofs.YtiopnmgcajohfaaW.PrintMore
open Go.Proofs.YtiopnmgcajohfaaL Go.Proofs.Ytiopnmgcajohfaa.LawK Go.Proofs.Ytiopnmgcajohfaa.BoardK Go.Proofs.Ytiopnmgcajohfaa.Walk Go.Proofs.Ytiopnmgcajohfaa.Q
theorem run_store_func {P:Program} {w:World} {a:Addr} {m:Mode} (f:Fn) (xs:Array Value) (ys:Array Value):(store a (.func f xs ys) m).run P w=stored P w a (.func f xs ys) m:=run_store P w a _ m rfl
attribute [local go_sem] run_store_func
section
variable (k : Blks) (hk : k.Apart) (Inv : List (List Int) → World → Prop) (hI : ∀ vis w w', Inv vis w → Still k.has w w' → Inv vis w') (R C : Nat) (RI CI : Int) (hRI : RI = R) (hCI : CI = C) (l : List Int) (A0 : Option Addr) (c0 cp : Nat) (hc0 : l.length ≤ c0) (cc1 cc2 : Value)
  (hL : ∀ vis w, Inv vis w → Kd.C (Kd.int .i64) w A0 l.length l)
  (hl : l.length = R) (hR : R ≤ 6) (hC : C ≤ 6) (hb : ∀ i (hi : i < l.length), 0 ≤ l[i] ∧ l[i] < 2 ^ C)
  (P : List (List Int) → List Int → Prop) (hdo : ∀ vis ps w, ps.length = R → P vis ps → WSt k Inv RI CI R cp l A0 c0 (.func (.func 140) #[] #[cc1, cc2]) vis ps w →
    Calls Try.prog 140 #[.slice (some ⟨k.a, 0, none⟩) R cp, cc1, cc2] w fun e w' => e = .returned (.bool true) ∧ WSt k Inv RI CI R cp l A0 c0 (.func (.func 140) #[] #[cc1, cc2]) (vis ++ [ps]) ps w')
include hk hI hRI hCI hc0 hL hl hR hC hb hdo
set_option maxHeartbeats 4000000 in
set_option maxRecDepth 100000 in
theorem row_calls:∀ (d r t:Nat) (rI tI:Int),rI=r→tI=t→r + d=R→t < 64→∀ vis ps w,ps.length=R→(∀ a q b,waysFrom l C d r t (ps.take r)=a ++ q :: b→P (vis ++ a) q)→WSt k Inv RI CI R cp l A0 c0 (.func (.func 140) #[] #[cc1,cc2]) vis ps w →
  Calls Try.prog 152 #[.int .i64 rI,.int .i64 tI,.pointer (some ⟨k.b,0,none⟩),.pointer (some ⟨k.d,0,none⟩),.pointer (some ⟨k.p,0,none⟩),.pointer (some ⟨k.g,0,none⟩),.pointer (some ⟨k.r,0,none⟩)] w fun e w'=>e=.returned (.tuple #[]) ∧
   ∃ ps',ps'.length=R∧ps'.take r=ps.take r∧WSt k Inv RI CI R cp l A0 c0 (.func (.func 140) #[] #[cc1,cc2]) (vis ++ waysFrom l C d r t (ps.take r)) ps' w'
|0,r,t,rI,tI,hr,ht,hrd,ht6,vis,ps,w,hps,hPP,hst=>by
  have hP0:P vis ps:=by have:=hPP [] ps [] (by rw [waysFrom,List.take_of_length_le (by omega)];rfl);rwa [List.append_nil] at this
  have CX:=Lib.hid (fun W (h:Aside0 (WSt k Inv RI CI R cp l A0 c0 (.func (.func 140) #[] #[cc1,cc2]) vis ps W))=>hdo vis ps W hps hP0 h.out)
  have MV:=Lib.hid (fun W (h:Aside0 (WSt k Inv RI CI R cp l A0 c0 (.func (.func 140) #[] #[cc1,cc2]) (vis ++ [ps]) ps W))=>h.out.setG hI hk)
  have e0:(rI == RI)=true:=beq_iff_eq.mpr (by omega)
  have e1:=za (show ps.take r=ps from List.take_of_length_le (by omega))
  have hz1:w.cell? ⟨k.b,0,none⟩=some (.int .i64 RI):=(zg hst.cB 0).trans rfl
  have hz2:w.cell? ⟨k.d,0,none⟩=some (.func (.func 140) #[] #[cc1,cc2]):=(zg hst.cD 0).trans rfl
  have hz3:w.cell? ⟨k.p,0,none⟩=some (.slice (some ⟨k.a,0,none⟩) R cp):=(zg hst.cP 0).trans rfl
  have HS:=za hst
  have HP:=za hps
  have hu24:=Try.underlying43
  clear hdo hst hps hr ht hrd ht6 hRI hCI hk hI hL hl hR hC hb hc0 hPP hP0
  go_enter Try.func152,Try.ntmps152
  go_wp2_with (first|(go_at_call 140;(refine (CX.out _ HS).mono ?_);rintro e w2 ⟨rfl,hs2⟩;have hz4:w2.cell? ⟨k.g,0,none⟩=some (.bool true):=(zg hs2.cG 0).trans rfl;have hf4:=zm hs2.cG 0;have HS2:=za hs2;clear hs2))
  first|go_end0|((try simp only [Exit.inBlock,Exit.then]);refine bodyPost_ret (results_none rfl _ _ _) rfl ?_)
  refine ⟨rfl,ps,HP.out,rfl,?_⟩
  rw [e1.out]
  exact MV.out _ HS2
|d + 1,r,t,rI,tI,hr,ht,hrd,ht6,vis,ps,w,hps,hPP,hst=>by
  have IH:=Lib.hid (fun (t':Nat) (tI':Int) (h2:tI'=(t':Int)) (h3:t' < 64) vis ps W (h4:ps.length=R) (h5:∀ a q b,waysFrom l C d (r + 1) t' (ps.take (r + 1))=a ++ q :: b→P (vis ++ a) q) (h:WSt k Inv RI CI R cp l A0 c0 (.func (.func 140) #[] #[cc1,cc2]) vis ps W)=>row_calls d (r + 1) t' (wrap64 (rI + 1)) tI' (by rw [hr,w64 (by omega) (by omega)];rfl) h2 (by omega) h3 vis ps W h4 h5 h)
  have MVB:=Lib.hid (fun vis ps W W' (h:WSt k Inv RI CI R cp l A0 c0 (.func (.func 140) #[] #[cc1,cc2]) vis ps W) (hb:Below W.heap.size W W')=>h.below hI hb)
  have MVA:=Lib.hid (fun vis ps W (h:WSt k Inv RI CI R cp l A0 c0 (.func (.func 140) #[] #[cc1,cc2]) vis ps W) (i c:Int)=>h.setA hI hk i c)
  have HL:=Lib.hid (fun vis ps W (h:WSt k Inv RI CI R cp l A0 c0 (.func (.func 140) #[] #[cc1,cc2]) vis ps W)=>hL vis W h.inv)
  have HASF:=Lib.hid (fun (j:Nat) (hj:j≤64)=>has_f RI CI (l:=l) (i:=r) (j:=j) (by omega) (hb r (by omega)).1 (by have:=(hb r (by omega)).2;have:=two_pow_six hC;omega) hj)
  have e0:(rI == RI)=false:=beq_eq_false_iff_ne.mpr (by omega)
  have z1:w.cell? ⟨k.b,0,none⟩=some (.int .i64 RI):=(zg hst.cB 0).trans rfl
  have HS:=za hst
  have HP:=za hps
  have HR:=za hr
  have HT:=za ht
  have HT6:=za ht6
  have HRD:=za hrd
  have HCI:=za hCI
  have HC0:=za hc0
  have HC6:=za hC
  have HR6:=za hR
  have hu24:=Try.underlying43
  obtain ⟨pre,hpre⟩:∃ pre,pre=ps.take r:=⟨_,rfl⟩
  rw [← hpre] at hPP ⊢
  have HPP:=za hPP
  have HPRE:=za hpre
  have plt:=eq_true (show 0≤rI by omega)
  have plt2:=eq_true (show rI < (R:Int) by omega)
  clear hdo hst hps hr ht hrd ht6 hRI hCI hk hI hL hl hR hC hb hc0 hpre hPP row_calls
  go_enter Try.func152,Try.ntmps152
  go_wp2
  go_loopg [9] (C + 1) (fun kq v9 w'=>∃ (x9:Int),v9=.int .i64 x9∧Aside0 (∃ (j:Nat) (ps':List Int),x9=-1 + j∧j + kq=C + 1∧ps'.length=R∧ps'.take r=pre∧WSt k Inv RI CI R cp l A0 c0 (.func (.func 140) #[] #[cc1,cc2]) (vis ++ (iota (-1) j).flatMap (colWays l r t pre (waysFrom l C d (r + 1)))) ps' w'))
  case atStart=>exact ⟨-1,rfl,⟨0,ps,by omega,by omega,HP.out,HPRE.out.symm,by simpa [iota] using HS.out⟩⟩
  case round =>
   clear z1
   obtain ⟨x9,rfl,HX⟩:=hrel
   obtain ⟨j,qs,hx,hj,hql,hqt,hs⟩:=HX.out
   clear HX
   have HX:=za hx
   have HQL:=za hql
   have HQT:=za hqt
   have HS2:=za hs
   have HJ:=za hj
   have z1:wr.cell? ⟨k.b,1,none⟩=some (.int .i64 CI):=(zg hs.cB 1).trans rfl
   have z2:wr.cell? ⟨k.g,0,none⟩=some (.bool true):=(zg hs.cG 0).trans rfl
   have z3:wr.cell? ⟨k.b,0,none⟩=some (.int .i64 RI):=(zg hs.cB 0).trans rfl
   have z4:wr.cell? ⟨k.b,2,none⟩=some (.slice A0 l.length c0):=(zg hs.cB 2).trans rfl
   clear hx hj hql hqt hs
   by_cases c1:x9 < CI
   ·
    have c1b:decide (x9 < CI)=true:=decide_eq_true c1
    cases gk with
   |zero=>exact absurd c1 (by have:=HX.out;have:=HJ.out;have:=HCI.out;omega)
   |succ k1 =>
     have EW:=za (show wrap64 (x9 + 1)=-1 + ((j + 1:Nat):Int) by have:=HX.out;have:=HJ.out;have:=HC6.out;rw [w64 (by omega) (by omega)];omega)
     have EJ:=za (show j + 1 + k1=C + 1 by have:=HJ.out;omega)
     have ES:=za (show (iota (-1) (j + 1)).flatMap (colWays l r t pre (waysFrom l C d (r + 1)))=(iota (-1) j).flatMap (colWays l r t pre (waysFrom l C d (r + 1))) ++ colWays l r t pre (waysFrom l C d (r + 1)) x9 by rw [iota_snoc,List.flatMap_append,HX.out];simp)
     have C1:=za c1
     clear c1
     by_cases c2:0≤x9
     ·
      have c2b:decide (0≤x9)=true:=decide_eq_true c2
      have c2e:=eq_true c2
      obtain ⟨xn,hxn⟩:∃ xn:Nat,x9=xn:=⟨x9.toNat,by omega⟩
      have HXN:=za hxn
      have HX6:=za (show xn < 6 by have:=C1.out;have:=HCI.out;have:=HC6.out;omega)
      have A1:=za (show impl_Board_has.f RI CI l rI x9=some (cell l r xn) by rw [HR.out,hxn];exact HASF.out xn (by have:=HX6.out;omega))
      obtain ⟨sh,hsh⟩:∃ s:Int,shr .i64 tI x9=s:=⟨_,rfl⟩
      have hsh1:(tI / 2 ^ min x9.toNat 64)=sh:=hsh
      have BT:Go.bits .and .i64 sh 1=if t.testBit xn then 1 else 0:=by rw [← hsh,HT.out,hxn];exact bit_and t xn (by have:=HT6.out;omega) (by have:=HX6.out;omega)
      clear c2 hxn
      by_cases c3:cell l r xn=true
      ·
       rw [c3] at A1
       by_cases c4:t.testBit xn=true
       ·
        have c4b:(Go.bits .and .i64 sh 1 == 1)=true:=by rw [BT,if_pos c4];rfl
        have NIL:=za (show colWays l r t pre (waysFrom l C d (r + 1)) x9=[] by have:=HXN.out;unfold colWays;rw [if_neg (by omega),if_neg (by rw [HXN.out];simp [c4])])
        clear c3 c4 BT hsh
        go_wp2_with (first|(go_at_call 136;(refine (impl_Board_has.calls RI CI _ _ l rI x9 true _ ?side1 ?side2 A1.out).mono ?_);(case side1=>exact HL.out _ _ _ HS2.out);(case side2=>exact HC0.out);rintro e w2 ⟨rfl,hb2⟩;have HS3:=za (MVB.out _ _ _ _ HS2.out hb2);clear hb2))
        go_roundg k1
        case measure=>omega
        case rel=>exact ⟨wrap64 (x9 + 1),(by first|rfl|(simp;done)),⟨j + 1,qs,EW.out,EJ.out,HQL.out,HQT.out,by rw [ES.out,NIL.out,List.append_nil];exact HS3.out⟩⟩
       ·
        have c4b:(Go.bits .and .i64 sh 1 == 1)=false:=by rw [BT,if_neg c4];rfl
        have c4f:t.testBit xn=false:=by simpa using c4
        have ONE:=za (show colWays l r t pre (waysFrom l C d (r + 1)) x9=waysFrom l C d (r + 1) (t ||| 2 ^ xn) (pre ++ [x9]) by have:=HXN.out;unfold colWays;rw [if_neg (by omega),HXN.out,Int.toNat_natCast,if_pos (by rw [c3,c4f];rfl)])
        obtain ⟨ji,hji⟩:∃ s:Int,shl .i64 1 x9=s:=⟨_,rfl⟩
        have hji_:(IntKind.i64.wrap (1 * 2 ^ min x9.toNat 64))=ji:=hji
        have hjiu:(IntKind.i64.wrap (2 ^ min x9.toNat 64))=ji:=by have h_:=hji_;rw [Int.one_mul] at h_;exact h_
        have p2x:=Nat.pow_le_pow_right (show 0 < 2 by decide) (show xn≤5 by have:=HX6.out;omega)
        have OR:=za (show Go.bits .or .i64 tI ji=((t ||| 2 ^ xn:Nat):Int) by rw [← hji,HT.out,HXN.out,shl_one xn (by have:=HX6.out;omega)];exact or_nat _ _ (by have:=HT6.out;omega) (by omega))
        have OR6:=za (show t ||| 2 ^ xn < 64 from Nat.or_lt_two_pow (n:=6) HT6.out (by omega))
        clear c3 c4 c4f BT hsh hji p2x
        have HRT:=za (show rI.toNat=r by rw [HR.out];rfl)
        have HPT:=za (show (qs.set rI.toNat x9).take (r + 1)=pre ++ [x9] by have hrl:r < qs.length:=(by have:=HQL.out;have:=HRD.out;omega);rw [HRT.out,List.take_add_one,List.take_set_of_le (Nat.le_refl _),HQT.out];simp [hrl])
        have NXT:=za (show ∀ a q b,waysFrom l C d (r + 1) (t ||| 2 ^ xn) ((qs.set rI.toNat x9).take (r + 1))=a ++ q :: b→P ((vis ++ (iota (-1) j).flatMap (colWays l r t pre (waysFrom l C d (r + 1)))) ++ a) q from fun a q b hq=>by rw [HPT.out,← ONE.out] at hq;rw [List.append_assoc];exact HPP.out _ q (b ++ (iota (x9 + 1) (C + 1 - j - 1)).flatMap (colWays l r t pre (waysFrom l C d (r + 1)))) (by rw [ways_cut l C d r t pre j (by have:=HX.out;have:=C1.out;have:=HCI.out;omega) HX.out,hq,List.append_assoc,List.append_assoc];rfl))
        go_wp2_with (first|(go_at_call 136;(refine (impl_Board_has.calls RI CI _ _ l rI x9 true _ ?side1 ?side2 A1.out).mono ?_);(case side1=>exact HL.out _ _ _ HS2.out);(case side2=>exact HC0.out);rintro e w2 ⟨rfl,hb2⟩;have HS3:=za (MVB.out _ _ _ _ HS2.out hb2);clear hb2;have z5:w2.cell? ⟨k.p,0,none⟩=some (.slice (some ⟨k.a,0,none⟩) R cp):=(zg HS3.out.cP 0).trans rfl;obtain ⟨z6,f6⟩:=Kd.R_celln 0 HS3.out.cA rI (of_eq_true plt) (of_eq_true plt2))|((with_reducible refine gate_store (t:=3) (p:=46) rfl ?_);refine store_event (t:=3) (p:=46) (v:=?vo) (w1:=(w2.setCell ⟨k.a,rI.toNat,none⟩ (.int .i64 x9))) ?hg ?ho ?hn ?hr ?_;(case ho=>rfl);(case hg=>rfl);(case hn=>rfl);(case hr=>first|(go_simp;done)|(go_simp;rfl));intro w4 hw;have HS4:=za (by rw [hw];exact MVA.out _ _ _ HS3.out rI x9:WSt k Inv RI CI R cp l A0 c0 (.func (.func 140) #[] #[cc1,cc2]) (vis ++ (iota (-1) j).flatMap (colWays l r t pre (waysFrom l C d (r + 1)))) (qs.set rI.toNat x9) w4);clear hw;have z7:w4.cell? ⟨k.r,0,none⟩=_:=(zg HS4.out.cR 0).trans rfl)|(go_at_call 152;(refine (IH.out (t ||| 2 ^ xn) _ OR.out OR6.out _ (qs.set rI.toNat x9) _ (by rw [List.length_set];exact HQL.out) NXT.out HS4.out).mono ?_);rintro e w5 ⟨rfl,hex⟩;have HE:=za hex;clear hex))
        go_roundg k1
        case measure=>omega
        case rel =>
         obtain ⟨qs2,hl2,ht2,hs5⟩:=HE.out
         have hrt:=HRT.out
         have hrl:r < qs.length:=by have:=HQL.out;have:=HRD.out;omega
         have hpt:=HPT.out
         refine ⟨wrap64 (x9 + 1),(by first|rfl|(simp;done)),⟨j + 1,qs2,EW.out,EJ.out,hl2,?_,?_⟩⟩
         ·
          have h3:=congrArg (List.take r) ht2
          rw [List.take_take,List.take_take,Nat.min_eq_left (by omega),hrt,List.take_set_of_le (Nat.le_refl _),HQT.out] at h3
          exact h3
         ·
          rw [hpt,List.append_assoc] at hs5
          rw [ES.out,ONE.out]
          exact hs5
      ·
       have c3f:cell l r xn=false:=by simpa using c3
       rw [c3f] at A1
       have NIL:=za (show colWays l r t pre (waysFrom l C d (r + 1)) x9=[] by have:=HXN.out;unfold colWays;rw [if_neg (by omega),if_neg (by rw [HXN.out];simp [c3f])])
       clear c3 c3f BT hsh
       go_wp2_with (first|(go_at_call 136;(refine (impl_Board_has.calls RI CI _ _ l rI x9 false _ ?side1 ?side2 A1.out).mono ?_);(case side1=>exact HL.out _ _ _ HS2.out);(case side2=>exact HC0.out);rintro e w2 ⟨rfl,hb2⟩;have HS3:=za (MVB.out _ _ _ _ HS2.out hb2);clear hb2))
       go_roundg k1
       case measure=>omega
       case rel=>exact ⟨wrap64 (x9 + 1),(by first|rfl|(simp;done)),⟨j + 1,qs,EW.out,EJ.out,HQL.out,HQT.out,by rw [ES.out,NIL.out,List.append_nil];exact HS3.out⟩⟩
     ·
      have c2b:decide (0≤x9)=false:=decide_eq_false c2
      have ONE:=za (show colWays l r t pre (waysFrom l C d (r + 1)) x9=waysFrom l C d (r + 1) t (pre ++ [x9]) by unfold colWays;rw [if_pos (by omega)])
      clear c2
      have z5:wr.cell? ⟨k.p,0,none⟩=some (.slice (some ⟨k.a,0,none⟩) R cp):=(zg HS2.out.cP 0).trans rfl
      obtain ⟨z6,f6⟩:=Kd.R_celln 0 HS2.out.cA rI (of_eq_true plt) (of_eq_true plt2)
      have HRT:=za (show rI.toNat=r by rw [HR.out];rfl)
      have HPT:=za (show (qs.set rI.toNat x9).take (r + 1)=pre ++ [x9] by have hrl:r < qs.length:=(by have:=HQL.out;have:=HRD.out;omega);rw [HRT.out,List.take_add_one,List.take_set_of_le (Nat.le_refl _),HQT.out];simp [hrl])
      have NXT:=za (show ∀ a q b,waysFrom l C d (r + 1) t ((qs.set rI.toNat x9).take (r + 1))=a ++ q :: b→P ((vis ++ (iota (-1) j).flatMap (colWays l r t pre (waysFrom l C d (r + 1)))) ++ a) q from fun a q b hq=>by rw [HPT.out,← ONE.out] at hq;rw [List.append_assoc];exact HPP.out _ q (b ++ (iota (x9 + 1) (C + 1 - j - 1)).flatMap (colWays l r t pre (waysFrom l C d (r + 1)))) (by rw [ways_cut l C d r t pre j (by have:=HX.out;have:=C1.out;have:=HCI.out;omega) HX.out,hq,List.append_assoc,List.append_assoc];rfl))
      go_wp2_with (first|((with_reducible refine gate_store (t:=3) (p:=46) rfl ?_);refine store_event (t:=3) (p:=46) (v:=?vo) (w1:=(wr.setCell ⟨k.a,rI.toNat,none⟩ (.int .i64 x9))) ?hg ?ho ?hn ?hr ?_;(case ho=>rfl);(case hg=>rfl);(case hn=>rfl);(case hr=>first|(go_simp;done)|(go_simp;rfl));intro w4 hw;have HS4:=za (by rw [hw];exact MVA.out _ _ _ HS2.out rI x9:WSt k Inv RI CI R cp l A0 c0 (.func (.func 140) #[] #[cc1,cc2]) (vis ++ (iota (-1) j).flatMap (colWays l r t pre (waysFrom l C d (r + 1)))) (qs.set rI.toNat x9) w4);clear hw;have z7:w4.cell? ⟨k.r,0,none⟩=_:=(zg HS4.out.cR 0).trans rfl)|(go_at_call 152;(refine (IH.out t _ HT.out HT6.out _ (qs.set rI.toNat x9) _ (by rw [List.length_set];exact HQL.out) NXT.out HS4.out).mono ?_);rintro e w5 ⟨rfl,hex⟩;have HE:=za hex;clear hex))
      go_roundg k1
      case measure=>omega
      case rel =>
       obtain ⟨qs2,hl2,ht2,hs5⟩:=HE.out
       have hrt:=HRT.out
       have hrl:r < qs.length:=by have:=HQL.out;have:=HRD.out;omega
       have hpt:=HPT.out
       refine ⟨wrap64 (x9 + 1),(by first|rfl|(simp;done)),⟨j + 1,qs2,EW.out,EJ.out,hl2,?_,?_⟩⟩
       ·
        have h3:=congrArg (List.take r) ht2
        rw [List.take_take,List.take_take,Nat.min_eq_left (by omega),hrt,List.take_set_of_le (Nat.le_refl _),HQT.out] at h3
        exact h3
       ·
        rw [hpt,List.append_assoc] at hs5
        rw [ES.out,ONE.out]
        exact hs5
   ·
    have c1b:decide (x9 < CI)=false:=decide_eq_false c1
    have FIN:=za (show j=C + 1 by have:=HX.out;have:=HJ.out;have:=HCI.out;omega)
    clear c1
    go_wp2
    first|go_end0|((try simp only [Exit.inBlock,Exit.then]);refine bodyPost_ret (results_none rfl _ _ _) rfl ?_)
    exact ⟨rfl,qs,HQL.out,HQT.out,by have:=HS2.out;rw [FIN.out] at this;exact this⟩
end
section
variable (Inv : (Nat → Prop) → List (List Int) → World → Prop) (hI : ∀ S vis w w', Inv S vis w → Still S w w' → Inv S vis w') (R C : Nat) (RI CI : Int) (hRI : RI = R) (hCI : CI = C) (l : List Int) (A0 : Option Addr) (c0 : Nat) (hc0 : l.length ≤ c0) (cc1 cc2 : Value)
  (hL : ∀ S vis w, Inv S vis w → Kd.C (Kd.int .i64) w A0 l.length l)
  (hl : l.length = R) (h1R : 1 ≤ R) (hR : R ≤ 6) (hC : C ≤ 6) (hb : ∀ i (hi : i < l.length), 0 ≤ l[i] ∧ l[i] < 2 ^ C) (w0 : World)
  (h0 : ∀ S w, (∀ i, S i → w0.heap.size ≤ i) → Below w0.heap.size w0 w → Inv S [] w)
  (hdo : ∀ S vis ps w a cp, (∀ i, S i → w0.heap.size ≤ i) → (∀ i, S i → i < w.heap.size) → ps.length = R → (∃ b, waysFrom l C R 0 0 [] = vis ++ ps :: b) → S a → Kd.C (Kd.int .i64) w (some ⟨a, 0, none⟩) R ps → R ≤ cp → Inv S vis w →
    Calls Try.prog 140 #[.slice (some ⟨a, 0, none⟩) R cp, cc1, cc2] w fun e w' => e = .returned (.bool true) ∧ Inv S (vis ++ [ps]) w' ∧ (∀ i, S i → i < w.heap.size → w'.heap[i]? = w.heap[i]?))
include hI hRI hCI hc0 hL hl h1R hR hC hb h0 hdo
set_option maxHeartbeats 4000000 in
set_option maxRecDepth 100000 in
theorem walk_calls:Calls Try.prog 139 #[.agg #[.int .i64 RI,.int .i64 CI,.slice A0 l.length c0],.func (.func 140) #[] #[cc1,cc2]] w0 fun e w'=>e=.returned (.tuple #[])∧∃ S,(∀ i,S i→w0.heap.size≤i)∧Inv S (waysFrom l C R 0 0 []) w':=by
 have KEY:∀ (k:Blks) (cp:Nat) W,k.Apart→(∀ i,k.has i→w0.heap.size≤i)→R≤cp→WSt k (Inv k.has) RI CI R cp l A0 c0 (.func (.func 140) #[] #[cc1,cc2]) [] (List.replicate R 0) W →
   Calls Try.prog 152 #[.int .i64 0,.int .i64 0,.pointer (some ⟨k.b,0,none⟩),.pointer (some ⟨k.d,0,none⟩),.pointer (some ⟨k.p,0,none⟩),.pointer (some ⟨k.g,0,none⟩),.pointer (some ⟨k.r,0,none⟩)] W fun e w'=>e=.returned (.tuple #[])∧∃ S,(∀ i,S i→w0.heap.size≤i)∧Inv S (waysFrom l C R 0 0 []) w':=by
  intro k cp W hk hS hcp hst
  have:=row_calls k hk (Inv k.has) (hI k.has) R C RI CI hRI hCI l A0 c0 cp hc0 cc1 cc2 (hL k.has) hl hR hC hb (fun vis q=>∃ b,waysFrom l C R 0 0 []=vis ++ q :: b) (fun vis ps w hps hmem hs=>by
   obtain ⟨_,_,hC'⟩:=zB hs.cA
   rw [hps] at hC'
   have hlt:k.a < w.heap.size:=by obtain ⟨cells,hc⟩:=Kd.R_typed hs.cA k.a rfl;exact blk_lt hc
   have hSlt:∀ i,k.has i→i < w.heap.size:=by
    rintro i (rfl|rfl|rfl|rfl|rfl|rfl)
    ·
     exact blk_lt hs.cB
    ·
     exact blk_lt hs.cD
    ·
     exact hlt
    ·
     exact blk_lt hs.cP
    ·
     exact blk_lt hs.cG
    ·
     exact blk_lt hs.cR
   refine (hdo k.has vis ps w k.a cp hS hSlt hps hmem (.inr (.inr (.inl rfl))) hC' hcp hs.inv).mono ?_
   rintro e w' ⟨rfl,hi,hkeep⟩
   refine ⟨rfl,(hkeep _ (.inl rfl) (blk_lt hs.cB)).trans hs.cB,(hkeep _ (.inr (.inl rfl)) (blk_lt hs.cD)).trans hs.cD,Kd.R_step hs.cA (fun i hi _=>by subst hi;exact hkeep _ (.inr (.inr (.inl rfl))) hlt),(hkeep _ (.inr (.inr (.inr (.inl rfl)))) (blk_lt hs.cP)).trans hs.cP,(hkeep _ (.inr (.inr (.inr (.inr (.inl rfl))))) (blk_lt hs.cG)).trans hs.cG,(hkeep _ (.inr (.inr (.inr (.inr (.inr rfl))))) (blk_lt hs.cR)).trans hs.cR,hi⟩)
   R 0 0 0 0 rfl rfl (by omega) (by omega) [] (List.replicate R 0) W (by simp) (fun a q b hq=>⟨b,by simpa using hq⟩) hst
  refine this.mono ?_
  rintro e w' ⟨rfl,ps',_,_,hw⟩
  exact ⟨rfl,k.has,hS,by simpa using hw.inv⟩
 have KX:=Lib.hid KEY;have H0:=Lib.hid h0;have hu24:=Try.underlying43;have p1:=za (show 0≤RI by omega);have p2:=za (show RI.toNat * 8≤281474976710656 by omega);have p3:=za (show RI.toNat=R by omega);have p4:=za h1R;clear KEY h0 hdo hb hC hR hl hL hc0 hCI hRI hI h1R;go_enter Try.func139,Try.ntmps139
 go_wp2_with (first
 |((with_reducible refine zA (N:=2) rfl ?_);refine zF ?hg (N:=2) ?hd (cs:=#[.int .i64 RI,.int .i64 CI,.slice A0 l.length c0]) (t:=43) ?hr ?_;(case hd=>rfl);(case hg=>rfl);(case hr=>first|(go_simp;done)|(go_simp;rfl));intro gb hg w1 hbox hb;have G1:=za hg;have K1:=za hbox;have B1:=za hb;clear hg hbox hb;have z1:w1.cell? ⟨gb,0,none⟩=some (.int .i64 RI):=(zg K1.out 0).trans rfl)
 |((with_reducible refine zA (N:=3) rfl ?_);refine zF ?hg (N:=3) ?hd (cs:=#[.func (.func 140) #[] #[cc1,cc2]]) (t:=37) ?hr ?_;(case hd=>rfl);(case hg=>rfl);(case hr=>first|(go_simp;done)|(go_simp;rfl));intro gd hg w2 hbox hb;have G2:=za hg;have K2:=za hbox;have B2:=za hb;clear hg hbox hb;have z2:w2.cell? ⟨gb,0,none⟩=some (.int .i64 RI):=(zg (zu K1.out B2.out) 0).trans rfl)
 |((with_reducible refine zA (N:=9) rfl ?_);refine Kd.R_make (Kd.int .i64) (w0:=w2) w2.heap.size 3 rfl (N:=9) rfl 28 _ _ rfl RI rfl rfl Try.underlying28 (.int .i64 0) 8 info3 rfl (by decide) (by omega) 0 (ok:=fun _=>True) (okp:=fun _=>True) rfl (fun _ hk=>hk) trivial p1.out p2.out (Below.refl _ _) (Nat.le_refl _) ?_;intro v3 w3 ho3 hb hg_ hnew_;clear hg_ hnew_;rw [p3.out] at ho3;obtain ⟨ga,cp,hv3,hga,hga2,cells3,hc3⟩:=Kd.R_form ho3 (by rw [List.length_replicate];exact p4.out);rw [List.length_replicate] at hv3;subst hv3;have G3:=za (And.intro hga hga2);have K3:=za hc3;clear hga hga2 hc3;have B3:=za hb;have O3:=za ho3;clear hb ho3)
 |((with_reducible refine zA (N:=4) rfl ?_);refine zF ?hg (N:=4) ?hd (cs:=#[.slice none 0 0]) (t:=28) ?hr ?_;(case hd=>rfl);(case hg=>rfl);(case hr=>first|(go_simp;done)|(go_simp;rfl));intro gp hg w4 hbox hb;have G4:=za hg;have K4:=za hbox;have B4:=za hb;clear hg hbox hb)
 |((with_reducible refine zA (N:=5) rfl ?_);refine zF ?hg (N:=5) ?hd (cs:=#[.bool false]) (t:=4) ?hr ?_;(case hd=>rfl);(case hg=>rfl);(case hr=>first|(go_simp;done)|(go_simp;rfl));intro gg hg w5 hbox hb;have G5:=za hg;have K5:=za hbox;have B5:=za hb;clear hg hbox hb;have y1:w5.cell? ⟨gp,0,none⟩=some (.slice none 0 0):=(zg (zu K4.out B5.out) 0).trans rfl;have f1:w5.frozen? ⟨gp,0,none⟩=false:=zm (zu K4.out B5.out) 0)
 |((with_reducible refine gate_store (t:=28) (p:=4) rfl ?_);refine store_event (t:=28) (p:=4) (v:=?vo) (w1:=(w5.setCell ⟨gp,0,none⟩ (.slice (some ⟨ga,0,none⟩) R cp))) ?hg ?ho ?hn ?hr ?_;(case ho=>rfl);(case hg=>rfl);(case hn=>rfl);(case hr=>first|(go_simp;done)|(go_simp;rfl));intro w6 hw;have E6:=za hw;clear hw;have N65:=za (show gg ≠ gp by rw [G5.out];exact Nat.ne_of_gt (blk_lt K4.out));have K56:=za (show w6.heap[gg]?=some (.cells #[.bool false] 4 (0,0)) by rw [E6.out];exact blk_far K5.out N65.out _);have y2:w6.cell? ⟨gg,0,none⟩=some (.bool false):=(zg K56.out 0).trans rfl;have f2:w6.frozen? ⟨gg,0,none⟩=false:=zm K56.out 0)
 |((with_reducible refine zA (N:=6) rfl ?_);refine zF ?hg (N:=6) ?hd (cs:=#[.nilFunc]) (t:=106) ?hr ?_;(case hd=>rfl);(case hg=>rfl);(case hr=>first|(go_simp;done)|(go_simp;rfl));intro gr hg w8 hbox hb;have G8:=za hg;have K8:=za hbox;have B8:=za hb;clear hg hbox hb;have y3:w8.cell? ⟨gr,0,none⟩=some .nilFunc:=(zg K8.out 0).trans rfl;have f3:w8.frozen? ⟨gr,0,none⟩=false:=zm K8.out 0)
 |(go_at_call 152;(refine (KX.out ⟨gb,gd,ga,gp,gg,gr⟩ cp _ ?sa ?ss ?sc ?sw).mono ?_);(case sa=>(have o1:=blk_lt K1.out;have o2:=G2.out;have o3:=blk_lt K2.out;have o4:=G3.out;have o5:=G4.out;have o6:=blk_lt K4.out;have o7:=G5.out;have o8:=blk_lt K5.out;have o9:w6.heap.size=w5.heap.size:=(by rw [E6.out];simp [World.setCell]);have o10:(w6.setCell ⟨gg,0,none⟩ (.bool true)).heap.size=w6.heap.size:=(by simp [World.setCell]);have o11:=G8.out;have o12:=G1.out;constructor <;> (try simp only []) <;> omega));(case ss=>(have o1:=blk_lt K1.out;have o2:=G2.out;have o3:=blk_lt K2.out;have o4:=G3.out;have o5:=G4.out;have o6:=blk_lt K4.out;have o7:=G5.out;have o8:=blk_lt K5.out;have o9:w6.heap.size=w5.heap.size:=(by rw [E6.out];simp [World.setCell]);have o10:(w6.setCell ⟨gg,0,none⟩ (.bool true)).heap.size=w6.heap.size:=(by simp [World.setCell]);have o11:=G8.out;have o12:=G1.out;rintro i (rfl|rfl|rfl|rfl|rfl|rfl) <;> (try simp only []) <;> omega));(case sc=>exact (zB O3.out).2.1);(case sw=>(have o1:=blk_lt K1.out;have o2:=G2.out;have o3:=blk_lt K2.out;have o4:=G3.out;have o5:=G4.out;have o6:=blk_lt K4.out;have o7:=G5.out;have o8:=blk_lt K5.out;have o9:w6.heap.size=w5.heap.size:=(by rw [E6.out];simp [World.setCell]);have o10:(w6.setCell ⟨gg,0,none⟩ (.bool true)).heap.size=w6.heap.size:=(by simp [World.setCell]);have o11:=G8.out;have o12:=G1.out;have q1:=zu (zu (zu (zu K1.out B2.out) B3.out) B4.out) B5.out;have q2:=zu (zu (zu K2.out B3.out) B4.out) B5.out;have q3:=zG (zG (zs (zL (Kd.R_tight rfl O3.out) (Nat.zero_le _)) (fun i hi=>(by simpa [Value.ownBlock] using hi:i=ga))) B4.out) B5.out;have q4:=zu K4.out B5.out;have e1:gb ≠ gp:=(by omega);have e2:gd ≠ gp:=(by omega);have e3:ga ≠ gp:=(by omega);have e4:gb ≠ gg:=(by omega);have e5:gd ≠ gg:=(by omega);have e6:ga ≠ gg:=(by omega);have e7:gp ≠ gg:=(by omega);have e8:gb ≠ gr:=(by omega);have e9:gd ≠ gr:=(by omega);have e10:ga ≠ gr:=(by omega);have e11:gp ≠ gr:=(by omega);have e12:gg ≠ gr:=(by omega);have b5:Below w0.heap.size w0 w5:=(((B1.out.trans (B2.out.mono (by omega))).trans (B3.out.mono (by omega))).trans (B4.out.mono (by omega))).trans (B5.out.mono (by omega));have b7:Below w0.heap.size w0 (w6.setCell ⟨gg,0,none⟩ (.bool true)):=(by refine Below.setCell ?_ (by (try simp only []);omega) _;rw [E6.out];exact Below.setCell b5 (by (try simp only []);omega) _);have b9:Below w0.heap.size w0 (w8.setCell ⟨gr,0,none⟩ (.func (.func 152) #[] #[.pointer (some ⟨gb,0,none⟩),.pointer (some ⟨gd,0,none⟩),.pointer (some ⟨gp,0,none⟩),.pointer (some ⟨gg,0,none⟩),.pointer (some ⟨gr,0,none⟩)])):=(by exact Below.setCell (b7.trans (B8.out.mono (by omega))) (by (try simp only []);omega) _);exact ⟨(by refine blk_far (zu ?_ B8.out) e8 _;rw [E6.out];exact blk_far (blk_far q1 e1 _) e4 _),(by refine blk_far (zu ?_ B8.out) e9 _;rw [E6.out];exact blk_far (blk_far q2 e2 _) e5 _),(by refine zn (zG ?_ B8.out) (fun i hi=>(by rw [hi];exact e10)) _;rw [E6.out];exact zn (zn q3 (fun i hi=>(by rw [hi];exact e3)) _) (fun i hi=>(by rw [hi];exact e6)) _),(by refine blk_far (zu ?_ B8.out) e11 _;rw [E6.out];exact blk_far (zz q4 0 _ rfl) e7 _),(by refine blk_far (zu ?_ B8.out) e12 _;rw [E6.out];exact zz (blk_far K5.out e7.symm _) 0 _ rfl),(by exact zz K8.out 0 _ rfl),H0.out _ _ (by rintro i (rfl|rfl|rfl|rfl|rfl|rfl) <;> (try simp only []) <;> omega) b9⟩));rintro e w10 ⟨rfl,hfin⟩))
 (first|go_end0|((try simp only [Exit.inBlock,Exit.then]);refine bodyPost_ret (results_none rfl _ _ _) rfl ?_));exact ⟨rfl,hfin⟩
end
end Go.Proofs.Ytiopnmgcajohfaa.WalkPerms
end
section
namespace Go.Proofs.Ytiopnmgcajohfaa.PermsHN
set_option linter.unusedVariables false
set_option linter.unusedSectionVars false
open Go.RowKit Go.Proofs.YtiopnmgcajohfaaW.PrintWords Go.Proofs.YtiopnmgcajohfaaW.PrintLast Go.Proofs.YtiopnmgcajohfaaW.PrintMore
open Go.Proofs.YtiopnmgcajohfaaL Go.Proofs.Ytiopnmgcajohfaa.LawK Go.Proofs.Ytiopnmgcajohfaa.BoardK Go.Proofs.Ytiopnmgcajohfaa.Walk Go.Proofs.Ytiopnmgcajohfaa.Q
section
variable (dd1 dd2 : Value) (R : Nat) (nI : Int) (hnI : nI = R) (a cp gn gf : Nat) (ps : List Int) (hps : ps.length = R) (hR : R ≤ 6) (hcp : R ≤ cp) (w : World) (hr : Kd.C (Kd.int .i64) w (some ⟨a, 0, none⟩) R ps)
  (hn : w.heap[gn]? = some (.cells #[.int .i64 nI] 3 (0, 0))) (hf : w.heap[gf]? = some (.cells #[.func (.func 144) #[] #[dd1, dd2]] 84 (0, 0)))
include hnI hps hR hcp hr hn hf
set_option maxHeartbeats 4000000 in
set_option maxRecDepth 100000 in
theorem perm1_skip (hk : rooksN ps ≠ R) : Calls Try.prog 140 #[.slice (some ⟨a, 0, none⟩) R cp, .pointer (some ⟨gn, 0, none⟩), .pointer (some ⟨gf, 0, none⟩)] w fun e w' => e = .returned (.bool true) ∧ Drawn0 w w' := by
  obtain ⟨kk, hrk⟩ := rooks_f (l := ps) (by omega)
  obtain ⟨rk, hrk2⟩ : ∃ rk : Int, rk = (rooksN ps : Int) := ⟨_, rfl⟩
  rw [← hrk2] at hrk
  have c1 : (rk == nI) = false := beq_eq_false_iff_ne.mpr (by omega)
  have z1 : w.cell? ⟨gn, 0, none⟩ = some (.int .i64 nI) := (blk_cell hn 0).trans rfl
  have A1 := Aside0.mk hrk
  have HR := Aside0.mk hr
  have HP := Aside0.mk hps
  have HC := Aside0.mk hcp
  have CC : ∀ q, Calls Try.prog 141 #[.slice (some ⟨a, 0, none⟩) R cp] (w.drewN q) fun e w'' => e = .returned (.int .i64 rk) ∧ ∃ m, w'' = w.drewN m := by
    intro q
    have hh := impl_rooks.calls kk (some ⟨a, 0, none⟩) cp ps rk (w.drewN q) (by rw [HP.out]; exact Kd.C_drewN HR.out q) (by rw [HP.out]; exact HC.out) A1.out
    rw [HP.out] at hh
    exact Calls.quiet_of (hh.mono (by rintro e w' ⟨rfl, ⟨m, rfl⟩⟩; exact ⟨rfl, m, rfl⟩))
  have CX := Lib.hid CC
  clear CC hrk hrk2 hn hf hps hr hk hnI hR hcp
  go_enter Try.func140, Try.ntmps140
  go_wp2
  go_quiet ((go_at_call 141; exact CX.out _))
  go_wp2
  go_ret
  exact ⟨rfl, by repeat (first | exact Drawn0.refl _ | apply Drawn0.step)⟩
set_option maxHeartbeats 4000000 in
set_option maxRecDepth 100000 in
theorem perm1_do (hk : rooksN ps = R) (X : World → Prop) (hdo : ∀ q, Calls Try.prog 144 #[.slice (some ⟨a, 0, none⟩) R cp, dd1, dd2] (w.drewN q) fun e w' => e = .returned (.tuple #[]) ∧ X w') :
    Calls Try.prog 140 #[.slice (some ⟨a, 0, none⟩) R cp, .pointer (some ⟨gn, 0, none⟩), .pointer (some ⟨gf, 0, none⟩)] w fun e w' => e = .returned (.bool true) ∧ X w' := by
  obtain ⟨kk, hrk⟩ := rooks_f (l := ps) (by omega)
  obtain ⟨rk, hrk2⟩ : ∃ rk : Int, rk = (rooksN ps : Int) := ⟨_, rfl⟩
  rw [← hrk2] at hrk
  have c1 : (rk == nI) = true := beq_iff_eq.mpr (by omega)
  have z1 : w.cell? ⟨gn, 0, none⟩ = some (.int .i64 nI) := (blk_cell hn 0).trans rfl
  have z2 : w.cell? ⟨gf, 0, none⟩ = some (.func (.func 144) #[] #[dd1, dd2]) := (blk_cell hf 0).trans rfl
  have A1 := Aside0.mk hrk
  have HR := Aside0.mk hr
  have HP := Aside0.mk hps
  have HC := Aside0.mk hcp
  have CC : ∀ q, Calls Try.prog 141 #[.slice (some ⟨a, 0, none⟩) R cp] (w.drewN q) fun e w'' => e = .returned (.int .i64 rk) ∧ ∃ m, w'' = w.drewN m := by
    intro q
    have hh := impl_rooks.calls kk (some ⟨a, 0, none⟩) cp ps rk (w.drewN q) (by rw [HP.out]; exact Kd.C_drewN HR.out q) (by rw [HP.out]; exact HC.out) A1.out
    rw [HP.out] at hh
    exact Calls.quiet_of (hh.mono (by rintro e w' ⟨rfl, ⟨m, rfl⟩⟩; exact ⟨rfl, m, rfl⟩))
  have CX := Lib.hid CC
  have DX := Lib.hid hdo
  clear CC hrk hrk2 hn hf hps hr hk hnI hR hcp hdo
  go_enter Try.func140, Try.ntmps140
  go_wp2
  go_quiet ((go_at_call 141; exact CX.out _))
  go_wp2_with (first | (go_at_call 144; (refine (DX.out _).mono ?_); rintro e w2 ⟨rfl, hx⟩))
  go_ret
  exact ⟨rfl, hx⟩
end
section
variable (dd1 dd2 : Value) (R : Nat) (nI : Int) (hnI : nI = R) (h1R : 1 ≤ R) (hR : R ≤ 6) (base : Nat)
  (Inv : (Nat → Prop) → List (List Int) → World → Prop) (hI : ∀ S vis w w', Inv S vis w → Still S w w' → Inv S vis w') (w0 : World)
  (h0 : ∀ S w, (∀ i, S i → w0.heap.size ≤ i) → Below w0.heap.size w0 w → Inv S [] w)
  (hdo : ∀ S vis ps w a cp, (∀ i, S i → w0.heap.size ≤ i) → (∀ i, S i → i < w.heap.size) → ps.length = R → (∃ b, permsOf R = vis ++ ps :: b) → S a → Kd.C (Kd.int .i64) w (some ⟨a, 0, none⟩) R ps → R ≤ cp → Inv S vis w →
    Calls Try.prog 144 #[.slice (some ⟨a, 0, none⟩) R cp, dd1, dd2] w fun e w' => e = .returned (.tuple #[]) ∧ Inv S (vis ++ [ps]) w' ∧ (∀ i, S i → i < w.heap.size → w'.heap[i]? = w.heap[i]?))
include hnI h1R hR hI h0 hdo
theorem perms_walk (gn gf gl cl : Nat) (W : World) (hB : Below w0.heap.size w0 W) (bn : w0.heap.size ≤ gn) (bf : w0.heap.size ≤ gf) (bl : w0.heap.size ≤ gl)
    (hn : W.heap[gn]? = some (.cells #[.int .i64 nI] 3 (0, 0))) (hf : W.heap[gf]? = some (.cells #[.func (.func 144) #[] #[dd1, dd2]] 84 (0, 0)))
    (hl : Kd.R (Kd.int .i64) 3 W 0 (fun i => i = gl) (.slice (some ⟨gl, 0, none⟩) R cl) (fullRows R)) :
    Calls Try.prog 139 #[.agg #[.int .i64 nI, .int .i64 nI, .slice (some ⟨gl, 0, none⟩) R cl], .func (.func 140) #[] #[.pointer (some ⟨gn, 0, none⟩), .pointer (some ⟨gf, 0, none⟩)]] W
      fun e w' => e = .returned (.tuple #[]) ∧ ∃ S, (∀ i, S i → w0.heap.size ≤ i) ∧ Inv S (permsOf R) w' := by
  have fl : (fullRows R).length = R := by simp [fullRows]
  have hcl : R ≤ cl := (Kd.R_reads' hl).2.1
  have lgl : gl < W.heap.size := by obtain ⟨cells, hc⟩ := Kd.R_typed hl gl rfl; exact blk_lt hc
  have lgn := blk_lt hn
  have lgf := blk_lt hf
  have hb : ∀ i (hi : i < (fullRows R).length), 0 ≤ (fullRows R)[i] ∧ (fullRows R)[i] < 2 ^ R := by
    intro i hi
    have : 0 < 2 ^ R := Nat.two_pow_pos R
    have e : ((2 ^ R : Nat) : Int) = 2 ^ R := by simp
    simp only [fullRows, List.getElem_replicate]
    omega
  have key := WalkPerms.walk_calls
    (fun S vis w => Inv (fun i => S i ∨ i = gn ∨ i = gf ∨ i = gl) (vis.filter (fun p => rooksN p == R)) w ∧ w.heap[gn]? = some (.cells #[.int .i64 nI] 3 (0, 0)) ∧ w.heap[gf]? = some (.cells #[.func (.func 144) #[] #[dd1, dd2]] 84 (0, 0)) ∧
      Kd.R (Kd.int .i64) 3 w 0 (fun i => i = gl) (.slice (some ⟨gl, 0, none⟩) R cl) (fullRows R) ∧ ∀ i, S i → W.heap.size ≤ i)
    (by
      rintro S vis w w' ⟨i1, i2, i3, i4, i5⟩ hs
      have kp : ∀ g, g < W.heap.size → ∀ {o}, w.heap[g]? = some o → w'.heap[g]? = some o := fun g hg o ho => (hs.kept.2 g (blk_lt ho) (fun h => by have := i5 g h; omega)).trans ho
      refine ⟨hI _ _ _ _ i1 ⟨hs.kept.mono (fun k hk => .inl hk), hs.os, hs.tape, hs.output⟩, kp gn lgn i2, kp gf lgf i3, Kd.R_step i4 (fun i hi hlt => by subst hi; exact hs.kept.2 _ hlt (fun h => by have := i5 _ h; omega)), i5⟩)
    R R nI nI hnI hnI (fullRows R) (some ⟨gl, 0, none⟩) cl (by rw [fl]; exact hcl) (.pointer (some ⟨gn, 0, none⟩)) (.pointer (some ⟨gf, 0, none⟩))
    (fun S vis w h => by have := (Kd.R_reads' h.2.2.2.1).2.2; exact this)
    fl h1R hR hR hb W
    (by
      intro S w hS hBw
      refine ⟨h0 _ w (fun i hi => ?_) (hB.trans (hBw.mono hB.size)), blk_below hn hBw, blk_below hf hBw, Kd.R_below hl hBw, hS⟩
      rcases hi with hi | rfl | rfl | rfl
      · exact Nat.le_trans hB.size (hS i hi)
      · exact bn
      · exact bf
      · exact bl)
    (by
      rintro S vis ps w a cp hS hSlt hps hmem hSa hC hcp ⟨i1, i2, i3, i4, i5⟩
      have hSlt' : ∀ i, (S i ∨ i = gn ∨ i = gf ∨ i = gl) → i < w.heap.size := by
        rintro i (hi | rfl | rfl | rfl)
        · exact hSlt i hi
        · exact blk_lt i2
        · exact blk_lt i3
        · obtain ⟨cells, hc⟩ := Kd.R_typed i4 _ rfl; exact blk_lt hc
      have hS' : ∀ i, (S i ∨ i = gn ∨ i = gf ∨ i = gl) → w0.heap.size ≤ i := by
        rintro i (hi | rfl | rfl | rfl)
        · exact Nat.le_trans hB.size (hS i hi)
        · exact bn
        · exact bf
        · exact bl
      by_cases hk : rooksN ps = R
      · have hmem2 : ∃ b, permsOf R = vis.filter (fun p => rooksN p == R) ++ ps :: b := by
          obtain ⟨b, hb2⟩ := hmem
          exact ⟨b.filter (fun p => rooksN p == R), by unfold permsOf; rw [hb2, List.filter_append, List.filter_cons, if_pos (by simp [hk])]⟩
        refine (perm1_do dd1 dd2 R nI hnI a cp gn gf ps hps hR hcp w hC i2 i3 hk (fun w' => Inv (fun i => S i ∨ i = gn ∨ i = gf ∨ i = gl) (vis.filter (fun p => rooksN p == R) ++ [ps]) w' ∧ (∀ i, (S i ∨ i = gn ∨ i = gf ∨ i = gl) → i < w.heap.size → w'.heap[i]? = w.heap[i]?)) (fun q => hdo _ _ ps (w.drewN q) a cp hS' hSlt' hps hmem2 (.inl hSa) (Kd.C_drewN hC q) hcp (hI _ _ _ _ i1 (Still.drewN w q)))).mono ?_
        rintro e w' ⟨rfl, hx, hkeep⟩
        refine ⟨rfl, ⟨?_, (hkeep _ (.inr (.inl rfl)) (blk_lt i2)).trans i2, (hkeep _ (.inr (.inr (.inl rfl))) (blk_lt i3)).trans i3, Kd.R_step i4 (fun i hi hlt => by subst hi; exact hkeep _ (.inr (.inr (.inr rfl))) hlt), i5⟩, fun i hi hlt => hkeep i (.inl hi) hlt⟩
        rw [List.filter_append]
        simpa [hk] using hx
      · refine (perm1_skip dd1 dd2 R nI hnI a cp gn gf ps hps hR hcp w hC i2 i3 hk).mono ?_
        rintro e w' ⟨rfl, ⟨m, rfl⟩⟩
        refine ⟨rfl, ⟨?_, i2, i3, Kd.R_drewN i4 m, i5⟩, fun i hi hlt => rfl⟩
        rw [List.filter_append]
        simpa [hk] using hI _ _ _ _ i1 (Still.drewN w m))
  rw [fl] at key
  refine key.mono ?_
  rintro e w' ⟨rfl, S, hS, i1, _⟩
  refine ⟨rfl, _, ?_, i1⟩
  rintro i (hi | rfl | rfl | rfl)
  · exact Nat.le_trans hB.size (Nat.le_trans (Nat.le_refl _) (hS i hi))
  · exact bn
  · exact bf
  · exact bl
set_option maxHeartbeats 4000000 in
set_option maxRecDepth 100000 in
theorem perms_calls : Calls Try.prog 94 #[.int .i64 nI, .func (.func 144) #[] #[dd1, dd2]] w0
      fun e w' => e = .returned (.tuple #[]) ∧ ∃ S, (∀ i, S i → w0.heap.size ≤ i) ∧ Inv S (permsOf R) w' := by
  have KX := Lib.hid (perms_walk dd1 dd2 R nI hnI h1R hR Inv hI w0 h0 hdo)
  obtain ⟨kk, hfb⟩ := fullBoard_f h1R hR
  rw [← hnI] at hfb
  have A1 := Aside0.mk hfb
  have fl := Aside0.mk (show (fullRows R).length = R by simp [fullRows])
  have p1 := Aside0.mk h1R
  have hu24 := Try.underlying43
  clear hfb hnI h1R hR hI h0 hdo
  go_enter Try.func94, Try.ntmps94
  go_wp2_with (first
    | ((with_reducible refine gate_dst (N := 2) rfl ?_); refine box_event ?hg (N := 2) ?hd (cs := #[.int .i64 nI]) (t := 3) ?hr ?_; (case hd => rfl); (case hg => rfl); (case hr => first | (go_simp; done) | (go_simp; rfl)); intro gn hg w1 hbox hb; have G1 := Aside0.mk hg; have K1 := Aside0.mk hbox; have B1 := Aside0.mk hb; clear hg hbox hb)
    | ((with_reducible refine gate_dst (N := 3) rfl ?_); refine box_event ?hg (N := 3) ?hd (cs := #[.func (.func 144) #[] #[dd1, dd2]]) (t := 84) ?hr ?_; (case hd => rfl); (case hg => rfl); (case hr => first | (go_simp; done) | (go_simp; rfl)); intro gf hg w2 hbox hb; have G2 := Aside0.mk hg; have K2 := Aside0.mk hbox; have B2 := Aside0.mk hb; clear hg hbox hb; have z2 : w2.cell? ⟨gn, 0, none⟩ = some (.int .i64 nI) := (blk_cell (blk_below K1.out B2.out) 0).trans rfl)
    | (go_at_call 138; (refine (impl_FullBoard.calls kk nI nI nI nI (fullRows R) true _ A1.out).mono ?_); rintro e w3 ⟨v3, rfl, ho3, hb⟩; obtain ⟨gl, cl, hv3, hgl, hgl2, cells3, hc3⟩ := Kd.R_form ho3 (by rw [fl.out]; exact p1.out); rw [fl.out] at hv3; subst hv3; have G3 := Aside0.mk (And.intro hgl hgl2); have B3 := Aside0.mk hb; have O3 := Aside0.mk ho3; clear hgl hgl2 hc3 hb ho3)
    | ((with_reducible refine gate_dst (N := 4) rfl ?_); refine box_event ?hg (N := 4) ?hd (cs := #[.int .i64 0, .int .i64 0, .slice none 0 0]) (t := 43) ?hr ?_; (case hd => rfl); (case hg => rfl); (case hr => first | (go_simp; done) | (go_simp; rfl)); intro gb hg w4 hbox hb; have G4 := Aside0.mk hg; have K4 := Aside0.mk hbox; have B4 := Aside0.mk hb; clear hg hbox hb; have y0 : w4.cell? ⟨gb, 0, none⟩ = some (.int .i64 0) := (blk_cell K4.out 0).trans rfl; have y1 : w4.cell? ⟨gb, 1, none⟩ = some (.int .i64 0) := (blk_cell K4.out 1).trans rfl; have y2 : w4.cell? ⟨gb, 2, none⟩ = some (.slice none 0 0) := (blk_cell K4.out 2).trans rfl; have f0 := blk_frozen K4.out 0; have f1 := blk_frozen K4.out 1; have f2 := blk_frozen K4.out 2)
    | (go_at_call 139; (refine (KX.out gn gf gl cl _ ?sB ?s1 ?s2 ?s3 ?sn ?sf ?sl).mono ?_); (case sB => (have o1 := blk_lt K1.out; have o2 := G2.out; have o3 := blk_lt K2.out; have o4 := G3.out; have o5 := G4.out; have o6 := blk_lt K4.out; have o7 := G1.out; have b4 : Below w0.heap.size w0 w4 := (((B1.out.trans (B2.out.mono (by omega))).trans (B3.out.mono (by omega))).trans (B4.out.mono (by omega))); exact Below.setCell (Below.setCell (Below.setCell b4 (by (try simp only []); omega) _) (by (try simp only []); omega) _) (by (try simp only []); omega) _)); (case s1 => (have o1 := blk_lt K1.out; have o2 := G2.out; have o3 := blk_lt K2.out; have o4 := G3.out; have o5 := G4.out; have o6 := blk_lt K4.out; have o7 := G1.out; omega)); (case s2 => (have o1 := blk_lt K1.out; have o2 := G2.out; have o3 := blk_lt K2.out; have o4 := G3.out; have o5 := G4.out; have o6 := blk_lt K4.out; have o7 := G1.out; omega)); (case s3 => (have o1 := blk_lt K1.out; have o2 := G2.out; have o3 := blk_lt K2.out; have o4 := G3.out; have o5 := G4.out; have o6 := blk_lt K4.out; have o7 := G1.out; omega)); (case sn => (have o1 := blk_lt K1.out; have o2 := G2.out; have o3 := blk_lt K2.out; have o4 := G3.out; have o5 := G4.out; have o6 := blk_lt K4.out; have o7 := G1.out; have q := blk_below (blk_below (blk_below K1.out B2.out) B3.out) B4.out; have e : gn ≠ gb := (by omega); exact blk_far (blk_far (blk_far q e _) e _) e _)); (case sf => (have o1 := blk_lt K1.out; have o2 := G2.out; have o3 := blk_lt K2.out; have o4 := G3.out; have o5 := G4.out; have o6 := blk_lt K4.out; have o7 := G1.out; have q := blk_below (blk_below K2.out B3.out) B4.out; have e : gf ≠ gb := (by omega); exact blk_far (blk_far (blk_far q e _) e _) e _)); (case sl => (have o1 := blk_lt K1.out; have o2 := G2.out; have o3 := blk_lt K2.out; have o4 := G3.out; have o5 := G4.out; have o6 := blk_lt K4.out; have o7 := G1.out; have q := Kd.R_below (Kd.R_mono (Kd.R_lower (Kd.R_tight rfl O3.out) (Nat.zero_le _)) (fun i hi => (by simpa [Value.ownBlock] using hi : i = gl))) B4.out; have e : ∀ i, i = gl → i ≠ gb := (fun i hi => by omega); exact Kd.R_far (Kd.R_far (Kd.R_far q e _) e _) e _)); rintro e w5 ⟨rfl, hfin⟩))
  first | go_end0 | ((try simp only [Exit.inBlock, Exit.then]); refine bodyPost_ret (results_none rfl _ _ _) rfl ?_)
  exact ⟨rfl, hfin⟩
end
end Go.Proofs.Ytiopnmgcajohfaa.PermsHN
end
section
namespace Go.Proofs.Ytiopnmgcajohfaa.Q
open Go.RowKit Go.Proofs.YtiopnmgcajohfaaW.PrintWords Go.Proofs.YtiopnmgcajohfaaW.PrintLast Go.Proofs.YtiopnmgcajohfaaW.PrintMore
attribute [local go_sem] max2_int min2_int max_two min_two max_three min_three max_four min_four   -- for this text's walks alone
set_option linter.unusedVariables false
set_option linter.unusedSimpArgs false
def impl_Board_hits.l0:Nat→Int→List Int→Int→Int→Int→Int→List Int→Option (Int)
|0,_,_,_,_,_,_,_=>none
|k + 1,x5,x8,x9,x10,x102000,x102001,x102002=>if x10 < x9 then (if 0≤x10 then (if x10 < (x8.length:Int) then ((impl_Board_has.f x102000 x102001 x102002 x10 (rd x8 x10)).bind fun t103=>(if t103=true then (impl_Board_hits.l0 k (wrap64 (x5 + 1)) x8 x9 (wrap64 (x10 + 1)) x102000 x102001 x102002) else (impl_Board_hits.l0 k x5 x8 x9 (wrap64 (x10 + 1)) x102000 x102001 x102002))) else (none)) else (none)) else (some x5)
def impl_Board_hits.f (k:Nat) (a0_0:Int) (a0_1:Int) (l0_2:List Int) (l1:List Int):Option (Int):=impl_Board_hits.l0 k 0 l1 (l1.length:Int) 0 a0_0 a0_1 l0_2
set_option maxHeartbeats 8000000 in
set_option maxRecDepth 100000 in
theorem impl_Board_hits.calls (k:Nat) (a0_0:Int) (a0_1:Int) (A0_2:Option Addr) (c0_2:Nat) (l0_2:List Int) (A1:Option Addr) (c1:Nat) (l1:List Int) (r:Int) (w:World) (hr0_2:Kd.C (Kd.int .i64) w A0_2 l0_2.length l0_2) (hc0_2:l0_2.length≤c0_2) (hr1:Kd.C (Kd.int .i64) w A1 l1.length l1) (hc1:l1.length≤c1) (h:impl_Board_hits.f k a0_0 a0_1 l0_2 l1=some r) :
  Calls Try.prog 96 #[.agg #[.int .i64 a0_0,.int .i64 a0_1,.slice A0_2 l0_2.length c0_2],.slice A1 l1.length c1] w fun e w'=>e=.returned (.int .i64 r)∧Below w.heap.size w w':=by
 have hu43:=Try.underlying43;have HR0_2:=za hr0_2;have HC0_2:=za hc0_2;clear hr0_2 hc0_2;have HR1:=za hr1;have HC1:=za hc1;clear hr1 hc1;have HB:=za (Below.refl w.heap.size w);have H:(impl_Board_hits.l0 k 0 l1 (l1.length:Int) 0 a0_0 a0_1 l0_2)=some r:=h;clear h;have H':=za H;clear H;(go_enter Try.func96,Try.ntmps96);(go_wp2_with (first|((with_reducible refine zA (N:=2) rfl ?_);refine zF ?hg (N:=2) ?hd (cs:=#[.int .i64 a0_0,.int .i64 a0_1,.slice A0_2 l0_2.length c0_2]) (t:=43) ?hr ?_;(case hd=>rfl);(case hg=>rfl);(case hr=>first|(go_simp;done)|(go_simp;rfl));intro gb101 hg w3 hbox hb;have BK101:=za (hbox);have GW101:=za ((by rw [hg];exact (zo (by repeat (first|(with_reducible first|exact HB.out|apply zc|apply zd|apply zb)|exact HB.out))):w.heap.size≤gb101));have GE101:=za ((by rw [hg];exact (zo (by repeat (first|(with_reducible first|exact HB.out|apply zc|apply zd|apply zb)|exact HB.out))):w.heap.size≤gb101));replace HB:=za (zp (by repeat (first|(with_reducible first|exact HB.out|apply zc|apply zd|apply zb)|exact HB.out)) hb);clear hb hbox hg)));(go_loopg [5,10] k (fun kq v5 v10 w'=>∃ (x5_1:Int) (x10_1:Int),v5=.int .i64 x5_1∧v10=.int .i64 x10_1∧Aside0 (impl_Board_hits.l0 kq x5_1 l1 (l1.length:Int) x10_1 a0_0 a0_1 l0_2=some r)∧Aside0 (kq≤k)∧Aside0 (w'.heap[gb101]?=some (.cells #[.int .i64 a0_0,.int .i64 a0_1,(.slice A0_2 l0_2.length c0_2)] 43 (0,0)))∧Aside0 (Below w.heap.size w w')));case atStart=>exact ⟨(0),(0),(by first|rfl|(simp;done)|(simp [*];done)),(by first|rfl|(simp;done)|(simp [*];done)),H',⟨Nat.le_refl _⟩,⟨by (with_reducible repeat (first|refine zh ?_ _|refine zf ?_|refine zi ?_ _));exact BK101.out⟩,⟨by repeat (first|(with_reducible first|exact HB.out|apply zc|apply zd|apply zb|refine ze ?_ GE101.out)|exact HB.out)⟩⟩
 case round =>
  clear H';(try clear c1);(try clear p2);obtain ⟨x5_1,x10_1,rfl,rfl,HA,HK1,BK101,HB⟩:=hrel
  cases gk with
 |zero=>exact absurd HA.out (by simp [impl_Board_hits.l0])
 |succ k1 =>
   have H:=HA.out;clear HA;simp only [impl_Board_hits.l0] at H;by_cases c4:x10_1 < (l1.length:Int)
   ·
    rw [if_pos c4] at H;have c4b0:decide (x10_1 < (l1.length:Int))=true:=decide_eq_true c4;clear c4;by_cases c5:0≤x10_1
    ·
     rw [if_pos c5] at H;have c5b0:decide (0≤x10_1)=true:=decide_eq_true c5;clear c5;by_cases c6:x10_1 < (l1.length:Int)
     ·
      rw [if_pos c6] at H;have c6b0:decide (x10_1 < (l1.length:Int))=true:=decide_eq_true c6;clear c6;obtain ⟨t103,A7,H⟩:=bindAside H;(try dsimp only at H);by_cases c8:t103=true
      · subst c8;(have H1:(impl_Board_hits.l0 k1 (wrap64 (x5_1 + 1)) l1 (l1.length:Int) (wrap64 (x10_1 + 1)) a0_0 a0_1 l0_2)=some r:=by rw [if_pos rfl] at H;exact H);clear H;have H:=H1;clear H1;have H':=za H;clear H;have p102:0≤(x10_1:Int):=of_decide_eq_true ‹_›;have q102:x10_1 < (l1.length:Int):=of_decide_eq_true ‹_›;obtain ⟨ad102,e102,hx102_0⟩:=Kd.at_int HR1.out x10_1 p102 q102;cases e102;replace hx102_0:=(HB.out.cell (World.block_lt_of_cell? w _ hx102_0)).trans hx102_0;replace p102:=eq_true p102;replace q102:=eq_true q102;have hcz9_0:wr.cell? ⟨gb101,0,none⟩=some (.int .i64 a0_0):=(zg BK101.out 0).trans rfl;have hcz9_1:wr.cell? ⟨gb101,1,none⟩=some (.int .i64 a0_1):=(zg BK101.out 1).trans rfl;have hcz9_2:wr.cell? ⟨gb101,2,none⟩=some (.slice A0_2 l0_2.length c0_2):=(zg BK101.out 2).trans rfl;have hfz9_0:=zm BK101.out 0;have hfz9_1:=zm BK101.out 1;have hfz9_2:=zm BK101.out 2;(go_wp2_with (first|((with_reducible refine zq (f:=136) rfl ?_);refine zr (some 18) rfl rfl Try.func136 (by kernel_rfl) rfl #[.agg #[.int .i64 a0_0,.int .i64 a0_1,.slice A0_2 l0_2.length c0_2],.int .i64 x10_1,.int .i64 (rd l1 x10_1)] rfl (by first|rfl|simp only [z3_,z4_,z5_];try rfl) ?_;(with_reducible refine (impl_Board_has.calls a0_0 a0_1 _ _ l0_2 x10_1 (rd l1 x10_1) true _ ?side1 ?side2 A7.out).mono ?_);(case side1=>repeat (first|exact (Kd.C_below HR0_2.out HB.out)|(with_reducible refine zC ?_ _)|(with_reducible refine zD ?_ _)|(with_reducible refine zE ?_)));(case side2=>exact HC0_2.out);rintro e w10 ⟨rfl,hb⟩;refine ⟨_,rfl,?_⟩;replace BK101:=za (zu (g:=gb101) (o:=.cells #[.int .i64 a0_0,.int .i64 a0_1,.slice A0_2 l0_2.length c0_2] 43 (0,0)) (by apply_rules only [BK101.out,zh,zf,zi]) hb);replace HB:=za (zp (by repeat (first|(with_reducible first|exact HB.out|apply zc|apply zd|apply zb|refine ze ?_ GE101.out)|exact HB.out)) hb))));(go_roundg k1);(case measure=>have:=HK1.out;omega);case rel=>exact ⟨(wrap64 (x5_1 + 1)),(wrap64 (x10_1 + 1)),(by first|rfl|(simp;done)|(simp [*];done)),(by first|rfl|(simp;done)|(simp [*];done)),H',⟨by have:=HK1.out;omega⟩,⟨by (with_reducible repeat (first|refine zh ?_ _|refine zf ?_|refine zi ?_ _));exact BK101.out⟩,⟨by repeat (first|(with_reducible first|exact HB.out|apply zc|apply zd|apply zb|refine ze ?_ GE101.out)|exact HB.out)⟩⟩
      · replace c8:=Bool.eq_false_iff.mpr c8;subst c8;(have H1:(impl_Board_hits.l0 k1 x5_1 l1 (l1.length:Int) (wrap64 (x10_1 + 1)) a0_0 a0_1 l0_2)=some r:=by rw [if_neg (show ¬ (false=true) by decide)] at H;exact H);clear H;have H:=H1;clear H1;have H':=za H;clear H;have p102:0≤(x10_1:Int):=of_decide_eq_true ‹_›;have q102:x10_1 < (l1.length:Int):=of_decide_eq_true ‹_›;obtain ⟨ad102,e102,hx102_0⟩:=Kd.at_int HR1.out x10_1 p102 q102;cases e102;replace hx102_0:=(HB.out.cell (World.block_lt_of_cell? w _ hx102_0)).trans hx102_0;replace p102:=eq_true p102;replace q102:=eq_true q102;have hcz11_0:wr.cell? ⟨gb101,0,none⟩=some (.int .i64 a0_0):=(zg BK101.out 0).trans rfl;have hcz11_1:wr.cell? ⟨gb101,1,none⟩=some (.int .i64 a0_1):=(zg BK101.out 1).trans rfl;have hcz11_2:wr.cell? ⟨gb101,2,none⟩=some (.slice A0_2 l0_2.length c0_2):=(zg BK101.out 2).trans rfl;have hfz11_0:=zm BK101.out 0;have hfz11_1:=zm BK101.out 1;have hfz11_2:=zm BK101.out 2;(go_wp2_with (first|((with_reducible refine zq (f:=136) rfl ?_);refine zr (some 18) rfl rfl Try.func136 (by kernel_rfl) rfl #[.agg #[.int .i64 a0_0,.int .i64 a0_1,.slice A0_2 l0_2.length c0_2],.int .i64 x10_1,.int .i64 (rd l1 x10_1)] rfl (by first|rfl|simp only [z3_,z4_,z5_];try rfl) ?_;(with_reducible refine (impl_Board_has.calls a0_0 a0_1 _ _ l0_2 x10_1 (rd l1 x10_1) false _ ?side1 ?side2 A7.out).mono ?_);(case side1=>repeat (first|exact (Kd.C_below HR0_2.out HB.out)|(with_reducible refine zC ?_ _)|(with_reducible refine zD ?_ _)|(with_reducible refine zE ?_)));(case side2=>exact HC0_2.out);rintro e w12 ⟨rfl,hb⟩;refine ⟨_,rfl,?_⟩;replace BK101:=za (zu (g:=gb101) (o:=.cells #[.int .i64 a0_0,.int .i64 a0_1,.slice A0_2 l0_2.length c0_2] 43 (0,0)) (by apply_rules only [BK101.out,zh,zf,zi]) hb);replace HB:=za (zp (by repeat (first|(with_reducible first|exact HB.out|apply zc|apply zd|apply zb|refine ze ?_ GE101.out)|exact HB.out)) hb))));(go_roundg k1);(case measure=>have:=HK1.out;omega);case rel=>exact ⟨(x5_1),(wrap64 (x10_1 + 1)),(by first|rfl|(simp;done)|(simp [*];done)),(by first|rfl|(simp;done)|(simp [*];done)),H',⟨by have:=HK1.out;omega⟩,⟨by (with_reducible repeat (first|refine zh ?_ _|refine zf ?_|refine zi ?_ _));exact BK101.out⟩,⟨by repeat (first|(with_reducible first|exact HB.out|apply zc|apply zd|apply zb|refine ze ?_ GE101.out)|exact HB.out)⟩⟩
     · rw [if_neg c6] at H;exact absurd H (by simp)
    · rw [if_neg c5] at H;exact absurd H (by simp)
   · rw [if_neg c4] at H;have c4b0:decide (x10_1 < (l1.length:Int))=false:=decide_eq_false c4;clear c4;obtain rfl:=Option.some.inj H;(go_wp2);(go_ret);exact ⟨by first|rfl|simp [*,errW_none,errW_some] <;> rfl,by repeat (first|(with_reducible first|exact HB.out|apply zc|apply zd|apply zb|refine ze ?_ GE101.out)|exact HB.out)⟩
end Go.Proofs.Ytiopnmgcajohfaa.Q
end
section
namespace Go.Proofs.Ytiopnmgcajohfaa.Q
open Go.RowKit Go.Proofs.YtiopnmgcajohfaaW.PrintWords Go.Proofs.YtiopnmgcajohfaaW.PrintLast Go.Proofs.YtiopnmgcajohfaaW.PrintMore
attribute [local go_sem] max2_int min2_int max_two min_two max_three min_three max_four min_four   -- for this text's walks alone
set_option linter.unusedVariables false
set_option linter.unusedSimpArgs false
def spec_hiGood.f (k:Nat) (a0_0:Int) (a0_1:Int) (l0_2:List Int):Option (Bool):=(spec_boGood.f k a0_0 a0_1 l0_2).bind fun t102=>(if t102=true then (some (a0_0 == a0_1)) else (some false))
set_option maxHeartbeats 8000000 in
set_option maxRecDepth 100000 in
theorem spec_hiGood.calls (k:Nat) (a0_0:Int) (a0_1:Int) (A0_2:Option Addr) (c0_2:Nat) (l0_2:List Int) (r:Bool) (w:World) (hr0_2:Kd.C (Kd.int .i64) w A0_2 l0_2.length l0_2) (hc0_2:l0_2.length≤c0_2) (h:spec_hiGood.f k a0_0 a0_1 l0_2=some r) :
  Calls Try.prog 90 #[.agg #[.int .i64 a0_0,.int .i64 a0_1,.slice A0_2 l0_2.length c0_2]] w fun e w'=>e=.returned (.bool r)∧Below w.heap.size w w':=by
 have hu43:=Try.underlying43;have HR0_2:=za hr0_2;have HC0_2:=za hc0_2;clear hr0_2 hc0_2;have HB:=za (Below.refl w.heap.size w);have H:((spec_boGood.f k a0_0 a0_1 l0_2).bind fun t102=>(if t102=true then (some (a0_0 == a0_1)) else (some false)))=some r:=h;clear h;obtain ⟨t102,A2,H⟩:=bindAside H;(try dsimp only at H);by_cases c3:t102=true
 · subst c3;(have H1:(some (a0_0 == a0_1))=some r:=by rw [if_pos rfl] at H;exact H);clear H;have H:=H1;clear H1;obtain rfl:=Option.some.inj H;(go_enter Try.func90,Try.ntmps90);(go_wp2_with (first|((with_reducible refine zA (N:=1) rfl ?_);refine zF ?hg (N:=1) ?hd (cs:=#[.int .i64 a0_0,.int .i64 a0_1,.slice A0_2 l0_2.length c0_2]) (t:=43) ?hr ?_;(case hd=>rfl);(case hg=>rfl);(case hr=>first|(go_simp;done)|(go_simp;rfl));intro gb101 hg w4 hbox hb;have BK101:=za (hbox);have GW101:=za ((by rw [hg];exact (zo (by repeat (first|(with_reducible first|exact HB.out|apply zc|apply zd|apply zb)|exact HB.out))):w.heap.size≤gb101));have GE101:=za ((by rw [hg];exact (zo (by repeat (first|(with_reducible first|exact HB.out|apply zc|apply zd|apply zb)|exact HB.out))):w.heap.size≤gb101));replace HB:=za (zp (by repeat (first|(with_reducible first|exact HB.out|apply zc|apply zd|apply zb)|exact HB.out)) hb);clear hb hbox hg;have hcz5_0:w4.cell? ⟨gb101,0,none⟩=some (.int .i64 a0_0):=(zg BK101.out 0).trans rfl;have hcz5_1:w4.cell? ⟨gb101,1,none⟩=some (.int .i64 a0_1):=(zg BK101.out 1).trans rfl;have hcz5_2:w4.cell? ⟨gb101,2,none⟩=some (.slice A0_2 l0_2.length c0_2):=(zg BK101.out 2).trans rfl;have hfz5_0:=zm BK101.out 0;have hfz5_1:=zm BK101.out 1;have hfz5_2:=zm BK101.out 2)|((with_reducible refine zq (f:=101) rfl ?_);refine zr (some 4) rfl rfl Try.func101 (by kernel_rfl) rfl #[.agg #[.int .i64 a0_0,.int .i64 a0_1,.slice A0_2 l0_2.length c0_2]] rfl (by first|rfl|simp only [z3_,z4_,z5_];try rfl) ?_;(with_reducible refine (spec_boGood.calls k a0_0 a0_1 _ _ l0_2 true _ ?side1 ?side2 A2.out).mono ?_);(case side1=>repeat (first|exact (Kd.C_below HR0_2.out HB.out)|(with_reducible refine zC ?_ _)|(with_reducible refine zD ?_ _)|(with_reducible refine zE ?_)));(case side2=>exact HC0_2.out);rintro e w6 ⟨rfl,hb⟩;refine ⟨_,rfl,?_⟩;replace BK101:=za (zu (g:=gb101) (o:=.cells #[.int .i64 a0_0,.int .i64 a0_1,.slice A0_2 l0_2.length c0_2] 43 (0,0)) (by apply_rules only [BK101.out,zh,zf,zi]) hb);replace HB:=za (zp (by repeat (first|(with_reducible first|exact HB.out|apply zc|apply zd|apply zb|refine ze ?_ GE101.out)|exact HB.out)) hb);have hcz7_0:w6.cell? ⟨gb101,0,none⟩=some (.int .i64 a0_0):=(zg BK101.out 0).trans rfl;have hcz7_1:w6.cell? ⟨gb101,1,none⟩=some (.int .i64 a0_1):=(zg BK101.out 1).trans rfl;have hcz7_2:w6.cell? ⟨gb101,2,none⟩=some (.slice A0_2 l0_2.length c0_2):=(zg BK101.out 2).trans rfl;have hfz7_0:=zm BK101.out 0;have hfz7_1:=zm BK101.out 1;have hfz7_2:=zm BK101.out 2)));(go_ret);exact ⟨by first|rfl|simp [*,errW_none,errW_some] <;> rfl,by repeat (first|(with_reducible first|exact HB.out|apply zc|apply zd|apply zb|refine ze ?_ GE101.out)|exact HB.out)⟩
 · replace c3:=Bool.eq_false_iff.mpr c3;subst c3;(have H1:(some false)=some r:=by rw [if_neg (show ¬ (false=true) by decide)] at H;exact H);clear H;have H:=H1;clear H1;obtain rfl:=Option.some.inj H;(go_enter Try.func90,Try.ntmps90);(go_wp2_with (first|((with_reducible refine zA (N:=1) rfl ?_);refine zF ?hg (N:=1) ?hd (cs:=#[.int .i64 a0_0,.int .i64 a0_1,.slice A0_2 l0_2.length c0_2]) (t:=43) ?hr ?_;(case hd=>rfl);(case hg=>rfl);(case hr=>first|(go_simp;done)|(go_simp;rfl));intro gb101 hg w8 hbox hb;have BK101:=za (hbox);have GW101:=za ((by rw [hg];exact (zo (by repeat (first|(with_reducible first|exact HB.out|apply zc|apply zd|apply zb)|exact HB.out))):w.heap.size≤gb101));have GE101:=za ((by rw [hg];exact (zo (by repeat (first|(with_reducible first|exact HB.out|apply zc|apply zd|apply zb)|exact HB.out))):w.heap.size≤gb101));replace HB:=za (zp (by repeat (first|(with_reducible first|exact HB.out|apply zc|apply zd|apply zb)|exact HB.out)) hb);clear hb hbox hg;have hcz9_0:w8.cell? ⟨gb101,0,none⟩=some (.int .i64 a0_0):=(zg BK101.out 0).trans rfl;have hcz9_1:w8.cell? ⟨gb101,1,none⟩=some (.int .i64 a0_1):=(zg BK101.out 1).trans rfl;have hcz9_2:w8.cell? ⟨gb101,2,none⟩=some (.slice A0_2 l0_2.length c0_2):=(zg BK101.out 2).trans rfl;have hfz9_0:=zm BK101.out 0;have hfz9_1:=zm BK101.out 1;have hfz9_2:=zm BK101.out 2)|((with_reducible refine zq (f:=101) rfl ?_);refine zr (some 4) rfl rfl Try.func101 (by kernel_rfl) rfl #[.agg #[.int .i64 a0_0,.int .i64 a0_1,.slice A0_2 l0_2.length c0_2]] rfl (by first|rfl|simp only [z3_,z4_,z5_];try rfl) ?_;(with_reducible refine (spec_boGood.calls k a0_0 a0_1 _ _ l0_2 false _ ?side1 ?side2 A2.out).mono ?_);(case side1=>repeat (first|exact (Kd.C_below HR0_2.out HB.out)|(with_reducible refine zC ?_ _)|(with_reducible refine zD ?_ _)|(with_reducible refine zE ?_)));(case side2=>exact HC0_2.out);rintro e w10 ⟨rfl,hb⟩;refine ⟨_,rfl,?_⟩;replace BK101:=za (zu (g:=gb101) (o:=.cells #[.int .i64 a0_0,.int .i64 a0_1,.slice A0_2 l0_2.length c0_2] 43 (0,0)) (by apply_rules only [BK101.out,zh,zf,zi]) hb);replace HB:=za (zp (by repeat (first|(with_reducible first|exact HB.out|apply zc|apply zd|apply zb|refine ze ?_ GE101.out)|exact HB.out)) hb))));(go_ret);exact ⟨by first|rfl|simp [*,errW_none,errW_some] <;> rfl,by repeat (first|(with_reducible first|exact HB.out|apply zc|apply zd|apply zb|refine ze ?_ GE101.out)|exact HB.out)⟩
end Go.Proofs.Ytiopnmgcajohfaa.Q
end
section
namespace Go.Proofs.Ytiopnmgcajohfaa.Q
open Go.RowKit Go.Proofs.YtiopnmgcajohfaaW.PrintWords Go.Proofs.YtiopnmgcajohfaaW.PrintLast Go.Proofs.YtiopnmgcajohfaaW.PrintMore
attribute [local go_sem] max2_int min2_int max_two min_two max_three min_three max_four min_four   -- for this text's walks alone
set_option linter.unusedVariables false
set_option linter.unusedSimpArgs false
def spec_hiHits.l0:Nat→Int→List Int→Int→Int→Int→Int→List Int→Option (Int)
|0,_,_,_,_,_,_,_=>none
|k + 1,x5,x8,x9,x10,x102000,x102001,x102002=>if x10 < x9 then (if 0≤x10 then (if x10 < (x8.length:Int) then ((spec_boHas.f x102000 x102001 x102002 x10 (rd x8 x10)).bind fun t103=>(if t103=true then (spec_hiHits.l0 k (wrap64 (x5 + 1)) x8 x9 (wrap64 (x10 + 1)) x102000 x102001 x102002) else (spec_hiHits.l0 k x5 x8 x9 (wrap64 (x10 + 1)) x102000 x102001 x102002))) else (none)) else (none)) else (some x5)
def spec_hiHits.f (k:Nat) (a0_0:Int) (a0_1:Int) (l0_2:List Int) (l1:List Int):Option (Int):=spec_hiHits.l0 k 0 l1 (l1.length:Int) 0 a0_0 a0_1 l0_2
set_option maxHeartbeats 8000000 in
set_option maxRecDepth 100000 in
theorem spec_hiHits.calls (k:Nat) (a0_0:Int) (a0_1:Int) (A0_2:Option Addr) (c0_2:Nat) (l0_2:List Int) (A1:Option Addr) (c1:Nat) (l1:List Int) (r:Int) (w:World) (hr0_2:Kd.C (Kd.int .i64) w A0_2 l0_2.length l0_2) (hc0_2:l0_2.length≤c0_2) (hr1:Kd.C (Kd.int .i64) w A1 l1.length l1) (hc1:l1.length≤c1) (h:spec_hiHits.f k a0_0 a0_1 l0_2 l1=some r) :
  Calls Try.prog 92 #[.agg #[.int .i64 a0_0,.int .i64 a0_1,.slice A0_2 l0_2.length c0_2],.slice A1 l1.length c1] w fun e w'=>e=.returned (.int .i64 r)∧Below w.heap.size w w':=by
 have hu43:=Try.underlying43;have HR0_2:=za hr0_2;have HC0_2:=za hc0_2;clear hr0_2 hc0_2;have HR1:=za hr1;have HC1:=za hc1;clear hr1 hc1;have HB:=za (Below.refl w.heap.size w);have H:(spec_hiHits.l0 k 0 l1 (l1.length:Int) 0 a0_0 a0_1 l0_2)=some r:=h;clear h;have H':=za H;clear H;(go_enter Try.func92,Try.ntmps92);(go_wp2_with (first|((with_reducible refine zA (N:=2) rfl ?_);refine zF ?hg (N:=2) ?hd (cs:=#[.int .i64 a0_0,.int .i64 a0_1,.slice A0_2 l0_2.length c0_2]) (t:=43) ?hr ?_;(case hd=>rfl);(case hg=>rfl);(case hr=>first|(go_simp;done)|(go_simp;rfl));intro gb101 hg w3 hbox hb;have BK101:=za (hbox);have GW101:=za ((by rw [hg];exact (zo (by repeat (first|(with_reducible first|exact HB.out|apply zc|apply zd|apply zb)|exact HB.out))):w.heap.size≤gb101));have GE101:=za ((by rw [hg];exact (zo (by repeat (first|(with_reducible first|exact HB.out|apply zc|apply zd|apply zb)|exact HB.out))):w.heap.size≤gb101));replace HB:=za (zp (by repeat (first|(with_reducible first|exact HB.out|apply zc|apply zd|apply zb)|exact HB.out)) hb);clear hb hbox hg)));(go_loopg [5,10] k (fun kq v5 v10 w'=>∃ (x5_1:Int) (x10_1:Int),v5=.int .i64 x5_1∧v10=.int .i64 x10_1∧Aside0 (spec_hiHits.l0 kq x5_1 l1 (l1.length:Int) x10_1 a0_0 a0_1 l0_2=some r)∧Aside0 (kq≤k)∧Aside0 (w'.heap[gb101]?=some (.cells #[.int .i64 a0_0,.int .i64 a0_1,(.slice A0_2 l0_2.length c0_2)] 43 (0,0)))∧Aside0 (Below w.heap.size w w')));case atStart=>exact ⟨(0),(0),(by first|rfl|(simp;done)|(simp [*];done)),(by first|rfl|(simp;done)|(simp [*];done)),H',⟨Nat.le_refl _⟩,⟨by (with_reducible repeat (first|refine zh ?_ _|refine zf ?_|refine zi ?_ _));exact BK101.out⟩,⟨by repeat (first|(with_reducible first|exact HB.out|apply zc|apply zd|apply zb|refine ze ?_ GE101.out)|exact HB.out)⟩⟩
 case round =>
  clear H';(try clear c1);(try clear p2);obtain ⟨x5_1,x10_1,rfl,rfl,HA,HK1,BK101,HB⟩:=hrel
  cases gk with
 |zero=>exact absurd HA.out (by simp [spec_hiHits.l0])
 |succ k1 =>
   have H:=HA.out;clear HA;simp only [spec_hiHits.l0] at H;by_cases c4:x10_1 < (l1.length:Int)
   ·
    rw [if_pos c4] at H;have c4b0:decide (x10_1 < (l1.length:Int))=true:=decide_eq_true c4;clear c4;by_cases c5:0≤x10_1
    ·
     rw [if_pos c5] at H;have c5b0:decide (0≤x10_1)=true:=decide_eq_true c5;clear c5;by_cases c6:x10_1 < (l1.length:Int)
     ·
      rw [if_pos c6] at H;have c6b0:decide (x10_1 < (l1.length:Int))=true:=decide_eq_true c6;clear c6;obtain ⟨t103,A7,H⟩:=bindAside H;(try dsimp only at H);by_cases c8:t103=true
      · subst c8;(have H1:(spec_hiHits.l0 k1 (wrap64 (x5_1 + 1)) l1 (l1.length:Int) (wrap64 (x10_1 + 1)) a0_0 a0_1 l0_2)=some r:=by rw [if_pos rfl] at H;exact H);clear H;have H:=H1;clear H1;have H':=za H;clear H;have p102:0≤(x10_1:Int):=of_decide_eq_true ‹_›;have q102:x10_1 < (l1.length:Int):=of_decide_eq_true ‹_›;obtain ⟨ad102,e102,hx102_0⟩:=Kd.at_int HR1.out x10_1 p102 q102;cases e102;replace hx102_0:=(HB.out.cell (World.block_lt_of_cell? w _ hx102_0)).trans hx102_0;replace p102:=eq_true p102;replace q102:=eq_true q102;have hcz9_0:wr.cell? ⟨gb101,0,none⟩=some (.int .i64 a0_0):=(zg BK101.out 0).trans rfl;have hcz9_1:wr.cell? ⟨gb101,1,none⟩=some (.int .i64 a0_1):=(zg BK101.out 1).trans rfl;have hcz9_2:wr.cell? ⟨gb101,2,none⟩=some (.slice A0_2 l0_2.length c0_2):=(zg BK101.out 2).trans rfl;have hfz9_0:=zm BK101.out 0;have hfz9_1:=zm BK101.out 1;have hfz9_2:=zm BK101.out 2;(go_wp2_with (first|((with_reducible refine zq (f:=132) rfl ?_);refine zr (some 18) rfl rfl Try.func132 (by kernel_rfl) rfl #[.agg #[.int .i64 a0_0,.int .i64 a0_1,.slice A0_2 l0_2.length c0_2],.int .i64 x10_1,.int .i64 (rd l1 x10_1)] rfl (by first|rfl|simp only [z3_,z4_,z5_];try rfl) ?_;(with_reducible refine (spec_boHas.calls a0_0 a0_1 _ _ l0_2 x10_1 (rd l1 x10_1) true _ ?side1 ?side2 A7.out).mono ?_);(case side1=>repeat (first|exact (Kd.C_below HR0_2.out HB.out)|(with_reducible refine zC ?_ _)|(with_reducible refine zD ?_ _)|(with_reducible refine zE ?_)));(case side2=>exact HC0_2.out);rintro e w10 ⟨rfl,hb⟩;refine ⟨_,rfl,?_⟩;replace BK101:=za (zu (g:=gb101) (o:=.cells #[.int .i64 a0_0,.int .i64 a0_1,.slice A0_2 l0_2.length c0_2] 43 (0,0)) (by apply_rules only [BK101.out,zh,zf,zi]) hb);replace HB:=za (zp (by repeat (first|(with_reducible first|exact HB.out|apply zc|apply zd|apply zb|refine ze ?_ GE101.out)|exact HB.out)) hb))));(go_roundg k1);(case measure=>have:=HK1.out;omega);case rel=>exact ⟨(wrap64 (x5_1 + 1)),(wrap64 (x10_1 + 1)),(by first|rfl|(simp;done)|(simp [*];done)),(by first|rfl|(simp;done)|(simp [*];done)),H',⟨by have:=HK1.out;omega⟩,⟨by (with_reducible repeat (first|refine zh ?_ _|refine zf ?_|refine zi ?_ _));exact BK101.out⟩,⟨by repeat (first|(with_reducible first|exact HB.out|apply zc|apply zd|apply zb|refine ze ?_ GE101.out)|exact HB.out)⟩⟩
      · replace c8:=Bool.eq_false_iff.mpr c8;subst c8;(have H1:(spec_hiHits.l0 k1 x5_1 l1 (l1.length:Int) (wrap64 (x10_1 + 1)) a0_0 a0_1 l0_2)=some r:=by rw [if_neg (show ¬ (false=true) by decide)] at H;exact H);clear H;have H:=H1;clear H1;have H':=za H;clear H;have p102:0≤(x10_1:Int):=of_decide_eq_true ‹_›;have q102:x10_1 < (l1.length:Int):=of_decide_eq_true ‹_›;obtain ⟨ad102,e102,hx102_0⟩:=Kd.at_int HR1.out x10_1 p102 q102;cases e102;replace hx102_0:=(HB.out.cell (World.block_lt_of_cell? w _ hx102_0)).trans hx102_0;replace p102:=eq_true p102;replace q102:=eq_true q102;have hcz11_0:wr.cell? ⟨gb101,0,none⟩=some (.int .i64 a0_0):=(zg BK101.out 0).trans rfl;have hcz11_1:wr.cell? ⟨gb101,1,none⟩=some (.int .i64 a0_1):=(zg BK101.out 1).trans rfl;have hcz11_2:wr.cell? ⟨gb101,2,none⟩=some (.slice A0_2 l0_2.length c0_2):=(zg BK101.out 2).trans rfl;have hfz11_0:=zm BK101.out 0;have hfz11_1:=zm BK101.out 1;have hfz11_2:=zm BK101.out 2;(go_wp2_with (first|((with_reducible refine zq (f:=132) rfl ?_);refine zr (some 18) rfl rfl Try.func132 (by kernel_rfl) rfl #[.agg #[.int .i64 a0_0,.int .i64 a0_1,.slice A0_2 l0_2.length c0_2],.int .i64 x10_1,.int .i64 (rd l1 x10_1)] rfl (by first|rfl|simp only [z3_,z4_,z5_];try rfl) ?_;(with_reducible refine (spec_boHas.calls a0_0 a0_1 _ _ l0_2 x10_1 (rd l1 x10_1) false _ ?side1 ?side2 A7.out).mono ?_);(case side1=>repeat (first|exact (Kd.C_below HR0_2.out HB.out)|(with_reducible refine zC ?_ _)|(with_reducible refine zD ?_ _)|(with_reducible refine zE ?_)));(case side2=>exact HC0_2.out);rintro e w12 ⟨rfl,hb⟩;refine ⟨_,rfl,?_⟩;replace BK101:=za (zu (g:=gb101) (o:=.cells #[.int .i64 a0_0,.int .i64 a0_1,.slice A0_2 l0_2.length c0_2] 43 (0,0)) (by apply_rules only [BK101.out,zh,zf,zi]) hb);replace HB:=za (zp (by repeat (first|(with_reducible first|exact HB.out|apply zc|apply zd|apply zb|refine ze ?_ GE101.out)|exact HB.out)) hb))));(go_roundg k1);(case measure=>have:=HK1.out;omega);case rel=>exact ⟨(x5_1),(wrap64 (x10_1 + 1)),(by first|rfl|(simp;done)|(simp [*];done)),(by first|rfl|(simp;done)|(simp [*];done)),H',⟨by have:=HK1.out;omega⟩,⟨by (with_reducible repeat (first|refine zh ?_ _|refine zf ?_|refine zi ?_ _));exact BK101.out⟩,⟨by repeat (first|(with_reducible first|exact HB.out|apply zc|apply zd|apply zb|refine ze ?_ GE101.out)|exact HB.out)⟩⟩
     · rw [if_neg c6] at H;exact absurd H (by simp)
    · rw [if_neg c5] at H;exact absurd H (by simp)
   · rw [if_neg c4] at H;have c4b0:decide (x10_1 < (l1.length:Int))=false:=decide_eq_false c4;clear c4;obtain rfl:=Option.some.inj H;(go_wp2);(go_ret);exact ⟨by first|rfl|simp [*,errW_none,errW_some] <;> rfl,by repeat (first|(with_reducible first|exact HB.out|apply zc|apply zd|apply zb|refine ze ?_ GE101.out)|exact HB.out)⟩
end Go.Proofs.Ytiopnmgcajohfaa.Q
end
section
namespace Go.Proofs.Ytiopnmgcajohfaa.Q
open Go.RowKit Go.Proofs.YtiopnmgcajohfaaW.PrintWords Go.Proofs.YtiopnmgcajohfaaW.PrintLast Go.Proofs.YtiopnmgcajohfaaW.PrintMore
attribute [local go_sem] max2_int min2_int max_two min_two max_three min_three max_four min_four   -- for this text's walks alone
set_option linter.unusedVariables false
set_option linter.unusedSimpArgs false
def spec_l1Has.l0:Nat→Int→List Int→Int→Int→Option (Bool)
|0,_,_,_,_=>none
|k + 1,x1,x7,x8,x9=>if x9 < x8 then (if 0≤x9 then (if x9 < (x7.length:Int) then (if (rd x7 x9)=x1 then (some true) else (spec_l1Has.l0 k x1 x7 x8 (wrap64 (x9 + 1)))) else (none)) else (none)) else (some false)
def spec_l1Has.f (k:Nat) (l0:List Int) (a1:Int):Option (Bool):=spec_l1Has.l0 k a1 l0 (l0.length:Int) 0
set_option maxHeartbeats 8000000 in
set_option maxRecDepth 100000 in
theorem spec_l1Has.calls (k:Nat) (A0:Option Addr) (c0:Nat) (l0:List Int) (a1:Int) (r:Bool) (w:World) (hr0:Kd.C (Kd.int .i64) w A0 l0.length l0) (hc0:l0.length≤c0) (h:spec_l1Has.f k l0 a1=some r) :
  Calls Try.prog 133 #[.slice A0 l0.length c0,.int .i64 a1] w fun e w'=>e=.returned (.bool r)∧Drawn0 w w':=by
 have HR0:=za hr0;have HC0:=za hc0;clear hr0 hc0;have H:(spec_l1Has.l0 k a1 l0 (l0.length:Int) 0)=some r:=h;clear h;have H':=za H;clear H;(go_enter Try.func133,Try.ntmps133);(go_wp2);(go_loopg [9] k (fun kq v9 w'=>∃ (x9_1:Int),v9=.int .i64 x9_1∧Aside0 (spec_l1Has.l0 kq a1 l0 (l0.length:Int) x9_1=some r)∧Aside0 (kq≤k)∧Drawn0 w w'));case atStart=>exact ⟨(0),(by first|rfl|(simp;done)|(simp [*];done)),H',⟨Nat.le_refl _⟩,by repeat (first|exact Drawn0.refl _|apply Drawn0.step)⟩
 case round =>
  clear H';(try clear c1);(try clear p2);obtain ⟨x9_1,rfl,HA,HK1,⟨m1,rfl⟩⟩:=hrel
  cases gk with
 |zero=>exact absurd HA.out (by simp [spec_l1Has.l0])
 |succ k1 =>
   have H:=HA.out;clear HA;simp only [spec_l1Has.l0] at H;by_cases c3:x9_1 < (l0.length:Int)
   ·
    rw [if_pos c3] at H;have c3b0:decide (x9_1 < (l0.length:Int))=true:=decide_eq_true c3;clear c3;by_cases c4:0≤x9_1
    ·
     rw [if_pos c4] at H;have c4b0:decide (0≤x9_1)=true:=decide_eq_true c4;clear c4;by_cases c5:x9_1 < (l0.length:Int)
     ·
      rw [if_pos c5] at H;have c5b0:decide (x9_1 < (l0.length:Int))=true:=decide_eq_true c5;clear c5;by_cases c6:(rd l0 x9_1)=a1
      · rw [if_pos c6] at H;have c6b0:((rd l0 x9_1) == a1)=true:=beq_iff_eq.mpr c6;have c6b1:((rd l0 x9_1) != a1)=false:=bne_eq_false_iff_eq.mpr c6;clear c6;obtain rfl:=Option.some.inj H;have p101:0≤(x9_1:Int):=of_decide_eq_true ‹_›;have q101:x9_1 < (l0.length:Int):=of_decide_eq_true ‹_›;obtain ⟨ad101,e101,hx101_0⟩:=Kd.at_int HR0.out x9_1 p101 q101;cases e101;replace p101:=eq_true p101;replace q101:=eq_true q101;(go_wp2);(go_ret);exact ⟨by first|rfl|(simp;done)|(simp [*];done),by repeat (first|exact Drawn0.refl _|apply Drawn0.step)⟩
      · rw [if_neg c6] at H;have c6b0:((rd l0 x9_1) == a1)=false:=beq_eq_false_iff_ne.mpr c6;have c6b1:((rd l0 x9_1) != a1)=true:=bne_iff_ne.mpr c6;have H':=za H;clear H;have p101:0≤(x9_1:Int):=of_decide_eq_true ‹_›;have q101:x9_1 < (l0.length:Int):=of_decide_eq_true ‹_›;obtain ⟨ad101,e101,hx101_0⟩:=Kd.at_int HR0.out x9_1 p101 q101;cases e101;replace p101:=eq_true p101;replace q101:=eq_true q101;(go_wp2);(go_roundg k1);(case measure=>have:=HK1.out;omega);case rel=>exact ⟨(wrap64 (x9_1 + 1)),(by first|rfl|(simp;done)|(simp [*];done)),H',⟨by have:=HK1.out;omega⟩,by repeat (first|exact Drawn0.refl _|apply Drawn0.step)⟩
     · rw [if_neg c5] at H;exact absurd H (by simp)
    · rw [if_neg c4] at H;exact absurd H (by simp)
   · rw [if_neg c3] at H;have c3b0:decide (x9_1 < (l0.length:Int))=false:=decide_eq_false c3;clear c3;obtain rfl:=Option.some.inj H;(go_wp2);(go_ret);exact ⟨by first|rfl|(simp;done)|(simp [*];done),by repeat (first|exact Drawn0.refl _|apply Drawn0.step)⟩
end Go.Proofs.Ytiopnmgcajohfaa.Q
end
section
namespace Go.Proofs.Ytiopnmgcajohfaa.Q
open Go.RowKit Go.Proofs.YtiopnmgcajohfaaW.PrintWords Go.Proofs.YtiopnmgcajohfaaW.PrintLast Go.Proofs.YtiopnmgcajohfaaW.PrintMore
attribute [local go_sem] max2_int min2_int max_two min_two max_three min_three max_four min_four   -- for this text's walks alone
set_option linter.unusedVariables false
set_option linter.unusedSimpArgs false
end Go.Proofs.Ytiopnmgcajohfaa.Q
end
section
namespace Go.Proofs.Ytiopnmgcajohfaa.Q
open Go.RowKit Go.Proofs.YtiopnmgcajohfaaW.PrintWords Go.Proofs.YtiopnmgcajohfaaW.PrintLast Go.Proofs.YtiopnmgcajohfaaW.PrintMore
attribute [local go_sem] max2_int min2_int max_two min_two max_three min_three max_four min_four   -- for this text's walks alone
set_option linter.unusedVariables false
set_option linter.unusedSimpArgs false
end Go.Proofs.Ytiopnmgcajohfaa.Q
end
section
namespace Go.Proofs.Ytiopnmgcajohfaa.Q
open Go.RowKit Go.Proofs.YtiopnmgcajohfaaW.PrintWords Go.Proofs.YtiopnmgcajohfaaW.PrintLast Go.Proofs.YtiopnmgcajohfaaW.PrintMore
attribute [local go_sem] max2_int min2_int max_two min_two max_three min_three max_four min_four   -- for this text's walks alone
set_option linter.unusedVariables false
set_option linter.unusedSimpArgs false
def slices_Index_int_int.l0:Nat→List Int→Int→Int→Int→Option (Int)
|0,_,_,_,_=>none
|k + 1,x0,x1,x7,x8=>if x8 < x7 then (if 0≤x8 then (if x8 < (x0.length:Int) then (if x1=(rd x0 x8) then (some x8) else (slices_Index_int_int.l0 k x0 x1 x7 (wrap64 (x8 + 1)))) else (none)) else (none)) else (some (-1))
def slices_Index_int_int.f (k:Nat) (l0:List Int) (a1:Int):Option (Int):=slices_Index_int_int.l0 k l0 a1 (l0.length:Int) 0
end Go.Proofs.Ytiopnmgcajohfaa.Q
end
section
namespace Go.Proofs.Ytiopnmgcajohfaa.Q
open Go.RowKit Go.Proofs.YtiopnmgcajohfaaW.PrintWords Go.Proofs.YtiopnmgcajohfaaW.PrintLast Go.Proofs.YtiopnmgcajohfaaW.PrintMore
attribute [local go_sem] max2_int min2_int max_two min_two max_three min_three max_four min_four   -- for this text's walks alone
set_option linter.unusedVariables false
set_option linter.unusedSimpArgs false
def slices_Contains_int_int.f (k:Nat) (l0:List Int) (a1:Int):Option (Bool):=(slices_Index_int_int.f k l0 a1).bind fun t101=>(some (decide (t101 ≥ 0)))
end Go.Proofs.Ytiopnmgcajohfaa.Q
end
section
namespace Go.Proofs.Ytiopnmgcajohfaa.Q
open Go.RowKit Go.Proofs.YtiopnmgcajohfaaW.PrintWords Go.Proofs.YtiopnmgcajohfaaW.PrintLast Go.Proofs.YtiopnmgcajohfaaW.PrintMore
attribute [local go_sem] max2_int min2_int max_two min_two max_three min_three max_four min_four   -- for this text's walks alone
set_option linter.unusedVariables false
set_option linter.unusedSimpArgs false
end Go.Proofs.Ytiopnmgcajohfaa.Q
end
section
namespace Go.Proofs.Ytiopnmgcajohfaa.Q
open Go.RowKit Go.Proofs.YtiopnmgcajohfaaW.PrintWords Go.Proofs.YtiopnmgcajohfaaW.PrintLast Go.Proofs.YtiopnmgcajohfaaW.PrintMore
attribute [local go_sem] max2_int min2_int max_two min_two max_three min_three max_four min_four   -- for this text's walks alone
set_option linter.unusedVariables false
set_option linter.unusedSimpArgs false
end Go.Proofs.Ytiopnmgcajohfaa.Q
end
section
namespace Go.Proofs.Ytiopnmgcajohfaa.PermK
set_option linter.unusedVariables false
open Go.RowKit Go.Proofs.Ytiopnmgcajohfaa.Q Go.Proofs.YtiopnmgcajohfaaW.PrintWords Go.Proofs.YtiopnmgcajohfaaW.PrintLast Go.Proofs.YtiopnmgcajohfaaW.PrintMore
open Go.Proofs.YtiopnmgcajohfaaL Go.Proofs.Ytiopnmgcajohfaa.LawK Go.Proofs.Ytiopnmgcajohfaa.BoardK
theorem l1Has_l0 {l : List Int} (x : Int) (hl : l.length ≤ 4611686018427387904) : ∀ (d i : Nat), i + d = l.length → Ev (fun k => spec_l1Has.l0 k x l (l.length : Int) i) (decide (x ∈ l.drop i))
  | 0, i, hi => by
    refine Ev.step (f := fun _ => some (decide (x ∈ l.drop i))) (fun k => ?_) (Ev.now _)
    rw [spec_l1Has.l0, if_neg (by omega), List.drop_eq_nil_of_le (by omega)]; rfl
  | d + 1, i, hi => by
    have h1 : wrap64 ((i : Int) + 1) = ((i + 1 : Nat) : Int) := by rw [w64 (by omega) (by omega)]; rfl
    have hi2 : i < l.length := by omega
    rw [List.drop_eq_getElem_cons hi2]
    by_cases e : l[i] = x
    · refine Ev.step (f := fun _ => some (decide (x ∈ l[i] :: l.drop (i + 1)))) (fun k => ?_) (Ev.now _)
      rw [spec_l1Has.l0, if_pos (by omega), if_pos (by omega), if_pos (by omega), rd_lt _ _ hi2, if_pos e, decide_eq_true (by simp [e])]
    · have : (x ∈ l[i] :: l.drop (i + 1)) ↔ x ∈ l.drop (i + 1) := by
        rw [List.mem_cons]; exact ⟨fun h => h.resolve_left (fun h => e h.symm), Or.inr⟩
      rw [decide_eq_decide.mpr this]
      refine Ev.step (fun k => ?_) (l1Has_l0 x hl d (i + 1) (by omega))
      rw [spec_l1Has.l0, if_pos (by omega), if_pos (by omega), if_pos (by omega), rd_lt _ _ hi2, if_neg e, h1]
theorem l1Has {l : List Int} (x : Int) (hl : l.length ≤ 4611686018427387904) : Ev (fun k => spec_l1Has.f k l x) (decide (x ∈ l)) := by
  refine Ev.congr (fun k => ?_) (l1Has_l0 x hl l.length 0 (by omega))
  unfold spec_l1Has.f; rfl
theorem index_l0 {l : List Int} (x : Int) (hl : l.length ≤ 4611686018427387904) : ∀ (d i : Nat), i + d = l.length → ∃ r : Int, (decide (r ≥ 0) = decide (x ∈ l.drop i)) ∧ Ev (fun k => slices_Index_int_int.l0 k l x (l.length : Int) i) r
  | 0, i, hi => by
    refine ⟨-1, by rw [List.drop_eq_nil_of_le (by omega)]; rfl, Ev.step (f := fun _ => some (-1)) (fun k => ?_) (Ev.now _)⟩
    rw [slices_Index_int_int.l0, if_neg (by omega)]
  | d + 1, i, hi => by
    have h1 : wrap64 ((i : Int) + 1) = ((i + 1 : Nat) : Int) := by rw [w64 (by omega) (by omega)]; rfl
    have hi2 : i < l.length := by omega
    rw [List.drop_eq_getElem_cons hi2]
    by_cases e : x = l[i]
    · refine ⟨i, by rw [decide_eq_true (show x ∈ l[i] :: l.drop (i + 1) from List.mem_cons.2 (Or.inl e))]; simp, Ev.step (f := fun _ => some (i : Int)) (fun k => ?_) (Ev.now _)⟩
      rw [slices_Index_int_int.l0, if_pos (by omega), if_pos (by omega), if_pos (by omega), rd_lt _ _ hi2, if_pos e]
    · have : (x ∈ l[i] :: l.drop (i + 1)) ↔ x ∈ l.drop (i + 1) := by
        rw [List.mem_cons]; exact ⟨fun h => h.resolve_left e, Or.inr⟩
      rw [decide_eq_decide.mpr this]
      obtain ⟨r, hr, hev⟩ := index_l0 x hl d (i + 1) (by omega)
      refine ⟨r, hr, Ev.step (fun k => ?_) hev⟩
      rw [slices_Index_int_int.l0, if_pos (by omega), if_pos (by omega), if_pos (by omega), rd_lt _ _ hi2, if_neg e, h1]
theorem contains {l : List Int} (x : Int) (hl : l.length ≤ 4611686018427387904) : Ev (fun k => slices_Contains_int_int.f k l x) (decide (x ∈ l)) := by
  obtain ⟨r, hr, hev⟩ := index_l0 x hl l.length 0 (by omega)
  rw [List.drop_zero] at hr
  rw [← hr]
  unfold slices_Contains_int_int.f slices_Index_int_int.f
  exact Ev.bind (a := r) hev (Ev.now _)
def permI (n : Int) : List Int → List Int → Bool
  | [], _ => true
  | x :: t, pre => inR 0 (n - 1) x && (!decide (x ∈ pre) && permI n t (pre ++ [x]))
def hitsF (l : List Int) : List Int → Nat → Int → Int
  | [], _, s => s
  | c :: t, i, s => hitsF l t (i + 1) (if cell l i c.toNat then s + 1 else s)
theorem spec_hits {l p : List Int} (r c : Int) (hp : p.length = l.length) (hl6 : l.length ≤ 6) (hb : ∀ i (hi : i < l.length), 0 ≤ l[i] ∧ l[i] < 64) (hin : ∀ x ∈ p, 0 ≤ x ∧ x < 64) : ∀ (d i : Nat) (s : Int), i + d = p.length → 0 ≤ s → s ≤ i → Ev (fun k => spec_hiHits.l0 k s p (p.length : Int) i r c l) (hitsF l (p.drop i) i s)
  | 0, i, s, hi, h0, hs => by
    refine Ev.step (f := fun _ => some (hitsF l (p.drop i) i s)) (fun k => ?_) (Ev.now _)
    rw [spec_hiHits.l0, if_neg (by omega), List.drop_eq_nil_of_le (by omega)]; rfl
  | d + 1, i, s, hi, h0, hs => by
    have h1 : wrap64 ((i : Int) + 1) = ((i + 1 : Nat) : Int) := by rw [w64 (by omega) (by omega)]; rfl
    have h2 : wrap64 (s + 1) = s + 1 := w64 (by omega) (by omega)
    have hi2 : i < p.length := by omega
    have hx := hin p[i] (List.getElem_mem hi2)
    obtain ⟨m, hm⟩ : ∃ m : Nat, p[i] = m := ⟨p[i].toNat, by omega⟩
    have hil : i < l.length := by omega
    have hc := boHas_f r c hil (hb i hil).1 (hb i hil).2 (show m ≤ 64 by omega)
    rw [List.drop_eq_getElem_cons hi2, hitsF, hm, Int.toNat_natCast]
    by_cases e : cell l i m = true
    · rw [if_pos e]
      refine Ev.step (fun k => ?_) (spec_hits r c hp hl6 hb hin d (i + 1) (s + 1) (by omega) (by omega) (by omega))
      rw [spec_hiHits.l0, if_pos (by omega), if_pos (by omega), if_pos (by omega), rd_lt _ _ hi2, hm, hc, Option.bind_some, if_pos e, h1, h2]
    · rw [if_neg e]
      refine Ev.step (fun k => ?_) (spec_hits r c hp hl6 hb hin d (i + 1) s (by omega) (by omega) (by omega))
      rw [spec_hiHits.l0, if_pos (by omega), if_pos (by omega), if_pos (by omega), rd_lt _ _ hi2, hm, hc, Option.bind_some, if_neg e, h1]
theorem impl_hits {l p : List Int} (r c : Int) (hp : p.length = l.length) (hl6 : l.length ≤ 6) (hb : ∀ i (hi : i < l.length), 0 ≤ l[i] ∧ l[i] < 64) (hin : ∀ x ∈ p, 0 ≤ x ∧ x < 64) : ∀ (d i : Nat) (s : Int), i + d = p.length → 0 ≤ s → s ≤ i → Ev (fun k => impl_Board_hits.l0 k s p (p.length : Int) i r c l) (hitsF l (p.drop i) i s)
  | 0, i, s, hi, h0, hs => by
    refine Ev.step (f := fun _ => some (hitsF l (p.drop i) i s)) (fun k => ?_) (Ev.now _)
    rw [impl_Board_hits.l0, if_neg (by omega), List.drop_eq_nil_of_le (by omega)]; rfl
  | d + 1, i, s, hi, h0, hs => by
    have h1 : wrap64 ((i : Int) + 1) = ((i + 1 : Nat) : Int) := by rw [w64 (by omega) (by omega)]; rfl
    have h2 : wrap64 (s + 1) = s + 1 := w64 (by omega) (by omega)
    have hi2 : i < p.length := by omega
    have hx := hin p[i] (List.getElem_mem hi2)
    obtain ⟨m, hm⟩ : ∃ m : Nat, p[i] = m := ⟨p[i].toNat, by omega⟩
    have hil : i < l.length := by omega
    have hc := has_f r c hil (hb i hil).1 (hb i hil).2 (show m ≤ 64 by omega)
    rw [List.drop_eq_getElem_cons hi2, hitsF, hm, Int.toNat_natCast]
    by_cases e : cell l i m = true
    · rw [if_pos e]
      refine Ev.step (fun k => ?_) (impl_hits r c hp hl6 hb hin d (i + 1) (s + 1) (by omega) (by omega) (by omega))
      rw [impl_Board_hits.l0, if_pos (by omega), if_pos (by omega), if_pos (by omega), rd_lt _ _ hi2, hm, hc, Option.bind_some, if_pos e, h1, h2]
    · rw [if_neg e]
      refine Ev.step (fun k => ?_) (impl_hits r c hp hl6 hb hin d (i + 1) s (by omega) (by omega) (by omega))
      rw [impl_Board_hits.l0, if_pos (by omega), if_pos (by omega), if_pos (by omega), rd_lt _ _ hi2, hm, hc, Option.bind_some, if_neg e, h1]
def squareB (r c : Int) (l : List Int) : Bool := isBoardB r c l && (r == c)
theorem hiGood {l : List Int} (r c : Int) (hl : l.length ≤ 4611686018427387904) : Ev (fun k => spec_hiGood.f k r c l) (squareB r c l) := by
  unfold spec_hiGood.f squareB
  refine Ev.bind (boGood r c hl) ?_
  by_cases h : isBoardB r c l = true
  · rw [h, Bool.true_and]
    exact Ev.congr (fun k => by rw [if_pos rfl]) (Ev.now _)
  · have hf : isBoardB r c l = false := by simpa using h
    rw [hf, Bool.false_and]
    exact Ev.congr (fun k => by rw [if_neg (by simp)]) (Ev.now _)
theorem isSquare_f (r c : Int) (l : List Int) : impl_isSquare.f r c l = some (squareB r c l) := by
  unfold impl_isSquare.f squareB impl_IsBoard.f
  rw [Option.bind_some]
  by_cases h : isBoardB r c l = true
  · rw [if_pos h, h, Bool.true_and]
  · have hf : isBoardB r c l = false := by simpa using h
    rw [if_neg h, hf, Bool.false_and]
theorem board_bits {r c : Int} {l : List Int} (h : squareB r c l = true) : l.length ≤ 6 ∧ (l.length : Int) = r ∧ 1 ≤ l.length ∧ r = c ∧ ∀ i (hi : i < l.length), 0 ≤ l[i] ∧ l[i] < 64 := by
  unfold squareB at h
  simp only [Bool.and_eq_true, beq_iff_eq] at h
  obtain ⟨R, C, rfl, rfl, h3, h4, h5, h6, h7, hb⟩ := board_of h.1
  have h64 := two_pow_six h7
  exact ⟨by omega, by omega, by omega, h.2, fun i hi => ⟨(hb i hi).1, by have := (hb i hi).2; omega⟩⟩
end Go.Proofs.Ytiopnmgcajohfaa.PermK
end
section
namespace Go.Proofs.Ytiopnmgcajohfaa.HN
set_option linter.unusedVariables false
open Go.RowKit Go.Proofs.YtiopnmgcajohfaaW.PrintWords Go.Proofs.YtiopnmgcajohfaaW.PrintLast Go.Proofs.YtiopnmgcajohfaaW.PrintMore
open Go.Proofs.YtiopnmgcajohfaaL Go.Proofs.Ytiopnmgcajohfaa.LawK Go.Proofs.Ytiopnmgcajohfaa.BoardK Go.Proofs.Ytiopnmgcajohfaa.Walk Go.Proofs.Ytiopnmgcajohfaa.Q Go.Proofs.Ytiopnmgcajohfaa.PermK
def countsF (l : List Int) (m : Nat) (vis : List (List Int)) : List Int := vis.foldl (fun o p => o.set (hitsF l p 0 0).toNat (IntKind.i64.wrap (rdOf 0 o (hitsF l p 0 0) + 1))) (List.replicate m 0)
theorem hitsF_bound (l : List Int) : ∀ (p : List Int) (i : Nat) (s : Int), s ≤ hitsF l p i s ∧ hitsF l p i s ≤ s + p.length
  | [], i, s => by simp [hitsF]
  | c :: t, i, s => by
    rw [hitsF]
    by_cases e : cell l i c.toNat = true
    · have := hitsF_bound l t (i + 1) (s + 1); rw [if_pos e, List.length_cons]; omega
    · have := hitsF_bound l t (i + 1) s; rw [if_neg e, List.length_cons]; omega
theorem ways_in (l : List Int) (C : Nat) : ∀ (d r t : Nat) (pre : List Int), (∀ x ∈ pre, -1 ≤ x ∧ x < C) → ∀ q ∈ waysFrom l C d r t pre, ∀ x ∈ q, -1 ≤ x ∧ x < C
  | 0, r, t, pre, h, q, hq => by rw [waysFrom, List.mem_singleton] at hq; subst hq; exact h
  | d + 1, r, t, pre, h, q, hq => by
    rw [waysFrom, List.mem_flatMap] at hq
    obtain ⟨c, hc, hq⟩ := hq
    have hc2 : -1 ≤ c ∧ c < C := by
      obtain ⟨i, hi, e⟩ := List.mem_iff_getElem.1 hc
      rw [iota_get] at e; rw [iota_length] at hi; omega
    have hn : ∀ x ∈ pre ++ [c], -1 ≤ x ∧ x < C := by
      intro x hx
      rcases List.mem_append.1 hx with hx | hx
      · exact h x hx
      · rw [List.mem_singleton.1 hx]; exact hc2
    unfold colWays at hq
    split at hq
    · exact ways_in l C d (r + 1) t _ hn q hq
    · split at hq
      · exact ways_in l C d (r + 1) _ _ hn q hq
      · cases hq
theorem perms_in {R : Nat} {p : List Int} (h : p ∈ permsOf R) (hp : p.length = R) : ∀ x ∈ p, 0 ≤ x ∧ x < R := by
  obtain ⟨h1, h2⟩ := List.mem_filter.1 h
  have h3 := ways_in _ R R 0 0 [] (by simp) p h1
  intro x hx
  have h4 : rooksN p = p.length := by rw [hp]; simpa using h2
  have h5 := List.countP_eq_length.1 h4 x hx
  have := h3 x hx
  simp at h5
  omega
theorem hits_ok {RI CI : Int} {l p : List Int} (hs : squareB RI CI l = true) (hp : p.length = l.length) (hin : ∀ x ∈ p, 0 ≤ x ∧ x < l.length) : ∃ kk, impl_Board_hits.f kk RI CI l p = some (hitsF l p 0 0) := by
  obtain ⟨h1, h2, h3, h4, h5⟩ := board_bits hs
  have := impl_hits (l := l) (p := p) RI CI hp h1 h5 (fun x hx => by have := hin x hx; omega) p.length 0 0 (by omega) (by omega) (by omega)
  rw [List.drop_zero] at this
  obtain ⟨kk, hk⟩ := this.rounds
  exact ⟨kk, hk⟩
end Go.Proofs.Ytiopnmgcajohfaa.HN
end
section
namespace Go.Proofs.Ytiopnmgcajohfaa.HN
set_option linter.unusedVariables false
set_option linter.unusedSectionVars false
open Go.RowKit Go.Proofs.YtiopnmgcajohfaaW.PrintWords Go.Proofs.YtiopnmgcajohfaaW.PrintLast Go.Proofs.YtiopnmgcajohfaaW.PrintMore
open Go.Proofs.YtiopnmgcajohfaaL Go.Proofs.Ytiopnmgcajohfaa.LawK Go.Proofs.Ytiopnmgcajohfaa.BoardK Go.Proofs.Ytiopnmgcajohfaa.Walk Go.Proofs.Ytiopnmgcajohfaa.Q Go.Proofs.Ytiopnmgcajohfaa.PermK
section
variable (RI CI hI : Int) (R m cp a go gb ga cp2 kk bs : Nat) (l ps out : List Int) (A0 : Option Addr) (c0 : Nat) (w : World)
  (hps : ps.length = R) (hcp : R ≤ cp) (hc0 : l.length ≤ c0) (hr : Kd.C (Kd.int .i64) w (some ⟨a, 0, none⟩) R ps) (hL : Kd.C (Kd.int .i64) w A0 l.length l)
  (hgo : w.heap[go]? = some (.cells #[.slice (some ⟨ga, 0, none⟩) m cp2] 28 (0, 0))) (hgb : w.heap[gb]? = some (.cells #[.int .i64 RI, .int .i64 CI, .slice A0 l.length c0] 43 (0, 0)))
  (ho : Kd.R (Kd.int .i64) 3 w bs (fun i => i = ga) (.slice (some ⟨ga, 0, none⟩) m cp2) out)
  (hh : impl_Board_hits.f kk RI CI l ps = some hI) (h0 : 0 ≤ hI) (h1 : hI < (m : Int))
include hps hcp hc0 hr hL hgo hgb ho hh h0 h1
set_option maxHeartbeats 4000000 in
set_option maxRecDepth 100000 in
theorem hn1 : Calls Try.prog 144 #[.slice (some ⟨a, 0, none⟩) R cp, .pointer (some ⟨go, 0, none⟩), .pointer (some ⟨gb, 0, none⟩)] w
    fun e w' => e = .returned (.tuple #[]) ∧ ∃ W2, Below w.heap.size w W2 ∧ w' = W2.setCell ⟨ga, hI.toNat, none⟩ (.int .i64 (IntKind.i64.wrap (rdOf 0 out hI + 1))) := by
  have CX := Lib.hid (fun (W : World) (hb : Below w.heap.size w W) => by
    have := impl_Board_hits.calls kk RI CI A0 c0 l (some ⟨a, 0, none⟩) cp ps hI W (Kd.C_below hL hb) hc0 (by rw [hps]; exact Kd.C_below hr hb) (by rw [hps]; exact hcp) hh
    rw [hps] at this
    have h2 : Calls Try.prog 96 #[.agg #[.int .i64 RI, .int .i64 CI, .slice A0 l.length c0], .slice (some ⟨a, 0, none⟩) R cp] W fun e w' => e = .returned (.int .i64 hI) ∧ Below w.heap.size w w' := this.mono (by rintro e w' ⟨rfl, h3⟩; exact ⟨rfl, hb.trans (h3.mono hb.size)⟩)
    exact h2)
  have FX := Lib.hid (fun (W : World) (hb : Below w.heap.size w W) => Kd.R_celln 0 (Kd.R_below ho hb) hI h0 h1)
  have BO := Aside0.mk hgo
  have hz1 : w.cell? ⟨go, 0, none⟩ = some (.slice (some ⟨ga, 0, none⟩) m cp2) := (blk_cell hgo 0).trans rfl
  have hz2 : w.cell? ⟨gb, 0, none⟩ = some (.int .i64 RI) := (blk_cell hgb 0).trans rfl
  have hz3 : w.cell? ⟨gb, 1, none⟩ = some (.int .i64 CI) := (blk_cell hgb 1).trans rfl
  have hz4 : w.cell? ⟨gb, 2, none⟩ = some (.slice A0 l.length c0) := (blk_cell hgb 2).trans rfl
  have p1 := eq_true h0
  have p2 := eq_true h1
  have hu24 := Try.underlying43
  clear hps hcp hc0 hr hL hgo hgb ho hh h0 h1
  go_enter Try.func144, Try.ntmps144
  go_wp2
  go_region_with ((go_at_call 96; refine (CX.out _ (by repeat (first | exact Below.refl _ _ | apply below_drew1 | apply pw_below_drewN))).mono ?_; rintro e w2 ⟨rfl, hb⟩; have hb2 := Aside0.mk hb; have hz5 : w2.cell? ⟨go, 0, none⟩ = some (.slice (some ⟨ga, 0, none⟩) m cp2) := (blk_cell (blk_below BO.out hb) 0).trans rfl; obtain ⟨hx, hf⟩ := FX.out w2 hb; clear hb))
  all_goals first | go_end0 | ((try simp only [Exit.inBlock, Exit.then]); refine bodyPost_ret (results_none rfl _ _ _) rfl ?_)
  all_goals exact ⟨rfl, w2, hb2.out, rfl⟩
end
end Go.Proofs.Ytiopnmgcajohfaa.HN
namespace Go.Proofs.Ytiopnmgcajohfaa.Q
open Go.RowKit Go.Proofs.YtiopnmgcajohfaaW.PrintWords Go.Proofs.YtiopnmgcajohfaaW.PrintLast Go.Proofs.YtiopnmgcajohfaaW.PrintMore
open Go.Proofs.YtiopnmgcajohfaaL Go.Proofs.Ytiopnmgcajohfaa.LawK Go.Proofs.Ytiopnmgcajohfaa.BoardK Go.Proofs.Ytiopnmgcajohfaa.Walk Go.Proofs.Ytiopnmgcajohfaa.PermK Go.Proofs.Ytiopnmgcajohfaa.HN
def impl_Board_hitNumbers.f (a0_0 : Int) (a0_1 : Int) (l0_2 : List Int) : Option (List Int) := if squareB a0_0 a0_1 l0_2 = true then some (countsF l0_2 (l0_2.length + 1) (permsOf l0_2.length)) else none
structure HInv (RI CI : Int) (m go gb ga cp2 : Nat) (l : List Int) (A0 : Option Addr) (c0 : Nat) (w0 W : World) (S : Nat → Prop) (vis : List (List Int)) (w : World) : Prop where
  o : w.heap[go]? = some (.cells #[.slice (some ⟨ga, 0, none⟩) m cp2] 28 (0, 0))
  b : w.heap[gb]? = some (.cells #[.int .i64 RI, .int .i64 CI, .slice A0 l.length c0] 43 (0, 0))
  r : Kd.R (Kd.int .i64) 3 w w0.heap.size (fun i => i = ga) (.slice (some ⟨ga, 0, none⟩) m cp2) (countsF l m vis)
  B : Below w0.heap.size w0 w
  s : ∀ i, S i → W.heap.size ≤ i
set_option maxHeartbeats 4000000 in
set_option maxRecDepth 100000 in
theorem impl_Board_hitNumbers.calls (a0_0 a0_1 : Int) (A0_2 : Option Addr) (c0_2 : Nat) (l0_2 : List Int) (r : List Int) (w : World) (hr0_2 : Kd.C (Kd.int .i64) w A0_2 l0_2.length l0_2) (hc0_2 : l0_2.length ≤ c0_2) (h : impl_Board_hitNumbers.f a0_0 a0_1 l0_2 = some r) :
    Calls Try.prog 99 #[.agg #[.int .i64 a0_0, .int .i64 a0_1, .slice A0_2 l0_2.length c0_2]] w fun e w' => ∃ v0_ : Value, e = .returned (v0_) ∧ Kd.R (Kd.int .i64) 3 w' w.heap.size (fun _ => True) v0_ r ∧ Below w.heap.size w w' := by
  by_cases hs : squareB a0_0 a0_1 l0_2 = true
  rotate_left
  · rw [impl_Board_hitNumbers.f, if_neg hs] at h; cases h
  rw [impl_Board_hitNumbers.f, if_pos hs] at h
  have h := Option.some.inj h
  obtain ⟨hl6, hlr, hl1, hrc, hbits⟩ := board_bits hs
  obtain ⟨m, hm⟩ : ∃ m, m = l0_2.length + 1 := ⟨_, rfl⟩
  rw [← hm] at h
  have KEY : ∀ (W : World) (go gb ga cp2 : Nat), Below w.heap.size w W → w.heap.size ≤ go → w.heap.size ≤ gb → w.heap.size ≤ ga → go ≠ ga → gb ≠ ga → go < W.heap.size → gb < W.heap.size → ga < W.heap.size →
      HInv a0_0 a0_1 m go gb ga cp2 l0_2 A0_2 c0_2 w W (fun _ => False) [] W →
      Calls Try.prog 94 #[.int .i64 a0_0, .func (.func 144) #[] #[.pointer (some ⟨go, 0, none⟩), .pointer (some ⟨gb, 0, none⟩)]] W fun e w' => e = .returned (.tuple #[]) ∧
        w'.heap[go]? = some (.cells #[.slice (some ⟨ga, 0, none⟩) m cp2] 28 (0, 0)) ∧ Kd.R (Kd.int .i64) 3 w' w.heap.size (fun i => i = ga) (.slice (some ⟨ga, 0, none⟩) m cp2) r ∧ Below w.heap.size w w' := by
    intro W go gb ga cp2 hBW bo bb ba noa nba lo lb la hst
    refine (PermsHN.perms_calls (.pointer (some ⟨go, 0, none⟩)) (.pointer (some ⟨gb, 0, none⟩)) l0_2.length a0_0 hlr.symm hl1 hl6
      (HInv a0_0 a0_1 m go gb ga cp2 l0_2 A0_2 c0_2 w W)
      (by
        intro S vis w1 w2 hi hs1
        have kp : ∀ g, g < W.heap.size → ∀ {o}, w1.heap[g]? = some o → w2.heap[g]? = some o := fun g hg o ho => (hs1.kept.2 g (blk_lt ho) (fun h => by have := hi.s g h; omega)).trans ho
        exact ⟨kp go lo hi.o, kp gb lb hi.b, Kd.R_step hi.r (fun i e hlt => by subst e; exact hs1.kept.2 _ hlt (fun h => by have := hi.s _ h; omega)), Still.below hi.B hs1 (fun i h => Nat.le_trans hBW.size (hi.s i h)), hi.s⟩)
      W
      (by
        intro S w1 hS hB1
        exact ⟨blk_below hst.o hB1, blk_below hst.b hB1, Kd.R_below hst.r hB1, hBW.trans (hB1.mono hBW.size), hS⟩)
      (by
        intro S vis ps w1 a cp hS _ hps hmem hSa hC hcp hi
        have hin := perms_in (by obtain ⟨b, hb2⟩ := hmem; rw [hb2]; simp) hps
        obtain ⟨kk, hk⟩ := hits_ok hs hps hin
        have hbd := hitsF_bound l0_2 ps 0 0
        refine (hn1 a0_0 a0_1 (hitsF l0_2 ps 0 0) l0_2.length m cp a go gb ga cp2 kk w.heap.size l0_2 ps (countsF l0_2 m vis) A0_2 c0_2 w1 hps hcp hc0_2 hC (Kd.C_below hr0_2 hi.B) hi.o hi.b hi.r hk (by omega) (by omega)).mono ?_
        rintro e w2 ⟨rfl, W2, hb2, rfl⟩
        have hga : a ≠ ga := fun e => by have := hi.s a hSa; omega
        refine ⟨rfl, ⟨blk_far (blk_below hi.o hb2) noa _, blk_far (blk_below hi.b hb2) nba _, ?_, Below.setCell (hi.B.trans (hb2.mono hi.B.size)) (by (try simp only []); exact ba) _, hi.s⟩, fun i hSi hlt => ?_⟩
        · have := Kd.R_putn (Kd.R_below hi.r hb2) (hitsF l0_2 ps 0 0) (IntKind.i64.wrap (rdOf 0 (countsF l0_2 m vis) (hitsF l0_2 ps 0 0) + 1))
          unfold countsF at this ⊢
          rw [List.foldl_append]
          exact this
        · have := hi.s i hSi
          rw [Below.heap_setCell _ _ _ _ (by (try simp only []); omega)]
          exact hb2.block i hlt)).mono ?_
    rintro e w' ⟨rfl, S, hS, hi⟩
    exact ⟨rfl, hi.o, by rw [← h]; exact hi.r, hi.B⟩
  have KX := Lib.hid KEY
  have p1 := Aside0.mk (show 0 ≤ wrap64 (a0_0 + 1) by rw [w64 (by omega) (by omega)]; omega)
  have p2 := Aside0.mk (show (wrap64 (a0_0 + 1)).toNat * 8 ≤ 281474976710656 by rw [w64 (by omega) (by omega)]; omega)
  have p3 := Aside0.mk (show (wrap64 (a0_0 + 1)).toNat = m by rw [w64 (by omega) (by omega)]; omega)
  have p4 := Aside0.mk (show 0 < m by omega)
  have hu24 := Try.underlying43
  clear KEY h hs hl6 hlr hl1 hrc hbits hm hr0_2 hc0_2
  go_enter Try.func99, Try.ntmps99
  go_wp2_with (first
    | ((with_reducible refine gate_dst (N := 1) rfl ?_); refine box_event ?hg (N := 1) ?hd (cs := #[.int .i64 a0_0, .int .i64 a0_1, .slice A0_2 l0_2.length c0_2]) (t := 43) ?hr ?_; (case hd => rfl); (case hg => rfl); (case hr => first | (go_simp; done) | (go_simp; rfl)); intro gb hg w1 hbox hb; have G1 := Aside0.mk hg; have K1 := Aside0.mk hbox; have B1 := Aside0.mk hb; clear hg hbox hb; have z1 : w1.cell? ⟨gb, 0, none⟩ = some (.int .i64 a0_0) := (blk_cell K1.out 0).trans rfl)
    | ((with_reducible refine gate_dst (N := 7) rfl ?_); refine Kd.R_make (Kd.int .i64) (w0 := w1) w1.heap.size 3 rfl (N := 7) rfl 28 _ _ rfl (wrap64 (a0_0 + 1)) rfl rfl Try.underlying28 (.int .i64 0) 8 info3 rfl (by decide) (by omega) 0 (ok := fun _ => True) (okp := fun _ => True) rfl (fun _ hk => hk) trivial p1.out p2.out (Below.refl _ _) (Nat.le_refl _) ?_; intro v3 w3 ho3 hb hg_ hnew_; clear hg_ hnew_; rw [p3.out] at ho3; obtain ⟨ga, cp2, hv3, hga, hga2, cells3, hc3⟩ := Kd.R_form ho3 (by rw [List.length_replicate]; exact p4.out); rw [List.length_replicate] at hv3; subst hv3; have G3 := Aside0.mk (And.intro hga hga2); clear hga hga2 hc3; have B3 := Aside0.mk hb; have O3 := Aside0.mk ho3; clear hb ho3)
    | ((with_reducible refine gate_dst (N := 3) rfl ?_); refine box_event ?hg (N := 3) ?hd (cs := #[.slice none 0 0]) (t := 28) ?hr ?_; (case hd => rfl); (case hg => rfl); (case hr => first | (go_simp; done) | (go_simp; rfl)); intro go hg w4 hbox hb; have G4 := Aside0.mk hg; have K4 := Aside0.mk hbox; have B4 := Aside0.mk hb; clear hg hbox hb; have y1 : w4.cell? ⟨go, 0, none⟩ = some (.slice none 0 0) := (blk_cell K4.out 0).trans rfl; have f1 : w4.frozen? ⟨go, 0, none⟩ = false := blk_frozen K4.out 0; have nbo := Aside0.mk (show gb ≠ go from Nat.ne_of_lt (by rw [G4.out]; exact Nat.lt_of_lt_of_le (blk_lt K1.out) B3.out.size)); have z2 : (w4.setCell ⟨go, 0, none⟩ (.slice (some ⟨ga, 0, none⟩) m cp2)).cell? ⟨gb, 0, none⟩ = some (.int .i64 a0_0) := (blk_cell (blk_far (blk_below (blk_below K1.out B3.out) B4.out) nbo.out _) 0).trans rfl)
    | (go_at_call 94; (refine (KX.out _ go gb ga cp2 ?sB ?s1 ?s2 ?s3 ?s4 ?s5 ?s6 ?s7 ?s8 ?s9).mono ?_); (case sB => (have o1 := blk_lt K1.out; have o2 := G1.out; have o4 := G3.out; have o5 := G4.out; have o6 := blk_lt K4.out; have o7 := B4.out.size; have o8 : ∀ v, (w4.setCell ⟨go, 0, none⟩ v).heap.size = w4.heap.size := (fun v => by simp [World.setCell]); exact Below.setCell ((B1.out.trans (B3.out.mono (by omega))).trans (B4.out.mono (by omega))) (by (try simp only []); omega) _)); (case s1 => (have o1 := blk_lt K1.out; have o2 := G1.out; have o4 := G3.out; have o5 := G4.out; have o6 := blk_lt K4.out; have o7 := B4.out.size; have o8 : ∀ v, (w4.setCell ⟨go, 0, none⟩ v).heap.size = w4.heap.size := (fun v => by simp [World.setCell]); omega)); (case s2 => (have o1 := blk_lt K1.out; have o2 := G1.out; have o4 := G3.out; have o5 := G4.out; have o6 := blk_lt K4.out; have o7 := B4.out.size; have o8 : ∀ v, (w4.setCell ⟨go, 0, none⟩ v).heap.size = w4.heap.size := (fun v => by simp [World.setCell]); omega)); (case s3 => (have o1 := blk_lt K1.out; have o2 := G1.out; have o4 := G3.out; have o5 := G4.out; have o6 := blk_lt K4.out; have o7 := B4.out.size; have o8 : ∀ v, (w4.setCell ⟨go, 0, none⟩ v).heap.size = w4.heap.size := (fun v => by simp [World.setCell]); omega)); (case s4 => (have o1 := blk_lt K1.out; have o2 := G1.out; have o4 := G3.out; have o5 := G4.out; have o6 := blk_lt K4.out; have o7 := B4.out.size; have o8 : ∀ v, (w4.setCell ⟨go, 0, none⟩ v).heap.size = w4.heap.size := (fun v => by simp [World.setCell]); omega)); (case s5 => (have o1 := blk_lt K1.out; have o2 := G1.out; have o4 := G3.out; have o5 := G4.out; have o6 := blk_lt K4.out; have o7 := B4.out.size; have o8 : ∀ v, (w4.setCell ⟨go, 0, none⟩ v).heap.size = w4.heap.size := (fun v => by simp [World.setCell]); omega)); (case s6 => (have o1 := blk_lt K1.out; have o2 := G1.out; have o4 := G3.out; have o5 := G4.out; have o6 := blk_lt K4.out; have o7 := B4.out.size; have o8 : ∀ v, (w4.setCell ⟨go, 0, none⟩ v).heap.size = w4.heap.size := (fun v => by simp [World.setCell]); rw [o8]; omega)); (case s7 => (have o1 := blk_lt K1.out; have o2 := G1.out; have o4 := G3.out; have o5 := G4.out; have o6 := blk_lt K4.out; have o7 := B4.out.size; have o8 : ∀ v, (w4.setCell ⟨go, 0, none⟩ v).heap.size = w4.heap.size := (fun v => by simp [World.setCell]); rw [o8]; omega)); (case s8 => (have o1 := blk_lt K1.out; have o2 := G1.out; have o4 := G3.out; have o5 := G4.out; have o6 := blk_lt K4.out; have o7 := B4.out.size; have o8 : ∀ v, (w4.setCell ⟨go, 0, none⟩ v).heap.size = w4.heap.size := (fun v => by simp [World.setCell]); rw [o8]; omega)); (case s9 => (have o1 := blk_lt K1.out; have o2 := G1.out; have o4 := G3.out; have o5 := G4.out; have o6 := blk_lt K4.out; have o7 := B4.out.size; have o8 : ∀ v, (w4.setCell ⟨go, 0, none⟩ v).heap.size = w4.heap.size := (fun v => by simp [World.setCell]); refine ⟨blk_put K4.out 0 _ rfl, blk_far (blk_below (blk_below K1.out B3.out) B4.out) nbo.out _, ?_, Below.setCell ((B1.out.trans (B3.out.mono (by omega))).trans (B4.out.mono (by omega))) (by (try simp only []); omega) _, fun i hi => hi.elim⟩; exact Kd.R_far (Kd.R_below (Kd.R_mono (Kd.R_lower (Kd.R_tight rfl O3.out) (by omega)) (fun i hi => (by simpa [Value.ownBlock] using hi : i = ga))) B4.out) (fun i hi => by (try simp only []); omega) _)); rintro e w5 ⟨rfl, hfo, hfr, hfb⟩; have HFR := Aside0.mk hfr; have HFB := Aside0.mk hfb; have y5 : w5.cell? ⟨go, 0, none⟩ = some (.slice (some ⟨ga, 0, none⟩) m cp2) := (blk_cell hfo 0).trans rfl; clear hfo hfr hfb))
  go_ret
  exact ⟨_, rfl, Kd.R_mono HFR.out (fun _ _ => trivial), HFB.out⟩
end Go.Proofs.Ytiopnmgcajohfaa.Q
end
