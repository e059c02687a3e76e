/- Texts of this claim put together (8): words, what the functions compute, and plain facts. No conditions. -/
import Derived.Test.YtadkkcdhgepbkaaSFnMatricesOfRanks4
import Derived.Test.YtadkkcdhgepbkaaSFnMatricesOfRanks5
import Derived.Test.YtadkkcdhgepbkaaSFnMatricesOfRanks6
import Derived.Test.YtadkkcdhgepbkaaSFnMatricesOfRanks7
import Derived.Test.YtadkkcdhgepbkaaSFnMatricesOfRanks0
section
namespace Go.Proofs.Ytadkkcdhgepbkaa.Q
open Go.RowKit Go.Proofs.YtadkkcdhgepbkaaW.PrintWords Go.Proofs.YtadkkcdhgepbkaaW.PrintLast Go.Proofs.YtadkkcdhgepbkaaW.PrintMore
attribute [local go_sem] max2_int min2_int max_two min_two max_three min_three max_four min_four   -- for this text's walks alone
set_option linter.unusedVariables false
set_option linter.unusedSimpArgs false
def impl_newBoard.f (a0:Int) (a1:Int):Option (Int × Int × List Int):=if 0≤a0 then (if (a0:Int).toNat≤35184372088832 then (some (a0,a1,(List.replicate (a0:Int).toNat 0))) else (none)) else (none)
set_option maxHeartbeats 8000000 in
set_option maxRecDepth 100000 in
theorem impl_newBoard.calls (a0:Int) (a1:Int) (r1:Int) (r2:Int) (r3:List Int) (w:World) (h:impl_newBoard.f a0 a1=some (r1,r2,r3)) :
  Calls Try.prog 81 #[.int .i64 a0,.int .i64 a1] w fun e w'=>∃ v2_:Value,e=.returned (.agg #[.int .i64 r1,.int .i64 r2,v2_])∧Kd.R (Kd.int .i64) 3 w' w.heap.size (fun _=>True) v2_ r3∧Below w.heap.size w w':=by
 have hu73:=Try.underlying73;have HB:=za (Below.refl w.heap.size w);have H:(if 0≤a0 then (if (a0:Int).toNat≤35184372088832 then (some (a0,a1,(List.replicate (a0:Int).toNat 0))) else (none)) else (none))=some (r1,r2,r3):=h;clear h;by_cases c3:0≤a0
 ·
  rw [if_pos c3] at H;have c3b0:=eq_true c3;have c3b1:decide (0≤a0)=true:=decide_eq_true c3;clear c3;by_cases c4:(a0:Int).toNat≤35184372088832
  · rw [if_pos c4] at H;have c4b0:=eq_true c4;have c4b1:decide ((a0:Int).toNat≤35184372088832)=true:=decide_eq_true c4;clear c4;obtain ⟨y102,hy102⟩:∃ y_:List Int,y_=(List.replicate (a0:Int).toNat 0):=⟨_,rfl⟩;(replace H:(some (a0,a1,y102))=some (r1,r2,r3):=by first|(rw [hy102];with_reducible exact H)|(have H2_:=(Option.bind_some _ _).symm.trans H;rw [hy102];with_reducible exact H2_)|(have H2_:=(Option.bind_some _ _).symm.trans H;with_reducible exact H2_)|with_reducible exact H|(rw [hy102];exact H)|exact H);have Ny102:=za hy102;clear hy102;simp only [Option.some.injEq,Prod.mk.injEq] at H;obtain ⟨rfl,rfl,rfl⟩:=H;(go_enter Try.func81,Try.ntmps81);(go_wp2_with (first|((with_reducible refine gate_dst (N:=4) rfl ?_);refine box_event ?hg (N:=4) ?hd (cs:=#[.int .i64 0,.int .i64 0,.slice none 0 0]) (t:=73) ?hr ?_;(case hd=>rfl);(case hg=>rfl);(case hr=>first|(go_simp;done)|(go_simp;rfl));intro gb101 hg w5 hbox hb;have BK101:=za (hbox);have GW101:=za ((by rw [hg];exact (zr (by repeat (first|(with_reducible first|exact HB.out|apply zc|apply zd|apply zb)|exact HB.out))):w.heap.size≤gb101));have GE101:=za ((by rw [hg];exact (zr (by repeat (first|(with_reducible first|exact HB.out|apply zc|apply zd|apply zb)|exact HB.out))):w.heap.size≤gb101));replace HB:=za (below_step (by repeat (first|(with_reducible first|exact HB.out|apply zc|apply zd|apply zb)|exact HB.out)) hb);clear hb hbox hg)|((with_reducible refine gate_dst (N:=8) rfl ?_);refine Kd.R_make (Kd.int .i64) _ 3 rfl (N:=8) rfl 29 _ _ rfl a0 rfl rfl Try.underlying29 (.int .i64 0) 8 info3 rfl (by decide) (by omega) 0 (ok:=fun _=>True) (okp:=fun _=>True) rfl (fun _ hk=>hk) trivial (of_decide_eq_true ‹_›) (Nat.le_trans (Nat.mul_le_mul_right _ (of_decide_eq_true ‹_›:a0.toNat≤35184372088832)) (by omega)) (Below.refl _ _) (Nat.le_refl _) ?_;intro v103 w6 ho7 hb hg_ hnew_;clear hg_ hnew_;(first|rw [← Ny102.out] at ho7|(simp only [Int.reduceToNat] at ho7;rw [← Ny102.out] at ho7));have HO104:=za (Kd.R_lower ho7 (zr (by repeat (first|(with_reducible first|exact HB.out|apply zc|apply zd|apply zb|refine zm ?_ GE101.out)|exact HB.out))));replace BK101:=za (blk_below (g:=gb101) (o:=.cells #[.int .i64 0,.int .i64 0,.slice none 0 0] 73 (0,0)) (by apply_rules only [BK101.out,blk_drewN,blk_drew,blk_alloc]) hb);replace HB:=za (below_step (by repeat (first|(with_reducible first|exact HB.out|apply zc|apply zd|apply zb|refine zm ?_ GE101.out)|exact HB.out)) hb);clear hb ho7;obtain ⟨Ao8,co8,eo8⟩:=Kd.R_slice HO104.out;subst eo8;have hcz9_0:w6.cell? ⟨gb101,0,none⟩=some (.int .i64 0):=(blk_cell BK101.out 0).trans rfl;have hcz9_1:w6.cell? ⟨gb101,1,none⟩=some (.int .i64 0):=(blk_cell BK101.out 1).trans rfl;have hcz9_2:w6.cell? ⟨gb101,2,none⟩=some (.slice none 0 0):=(blk_cell BK101.out 2).trans rfl;have hfz9_0:=blk_frozen BK101.out 0;have hfz9_1:=blk_frozen BK101.out 1;have hfz9_2:=blk_frozen BK101.out 2)));refine bodyPost_ret (results_cell_row rfl _ _ gb101 73 #[.int .i64 a0,.int .i64 a1,.slice Ao8 y102.length co8] (0,0) _ rfl (by (with_reducible repeat (first|refine blk_drewN ?_ _|refine blk_drew ?_|refine blk_alloc ?_ _));refine blk_put (cs:=#[.int .i64 a0,.int .i64 a1,.slice none 0 0]) ?_ 2 _ rfl;(with_reducible repeat (first|refine blk_drewN ?_ _|refine blk_drew ?_|refine blk_alloc ?_ _));refine blk_put (cs:=#[.int .i64 a0,.int .i64 0,.slice none 0 0]) ?_ 1 _ rfl;(with_reducible repeat (first|refine blk_drewN ?_ _|refine blk_drew ?_|refine blk_alloc ?_ _));refine blk_put (cs:=#[.int .i64 0,.int .i64 0,.slice none 0 0]) ?_ 0 _ rfl;(with_reducible repeat (first|refine blk_drewN ?_ _|refine blk_drew ?_|refine blk_alloc ?_ _));exact BK101.out) Try.underlying73 rfl (by kernel_rfl)) rfl ?_;exact ⟨_,by first|rfl|simp [*,errW_none,errW_some] <;> rfl,by (with_reducible repeat (first|apply zf|apply zg|apply ze));exact Kd.R_mono (Kd.R_far (p:=⟨gb101,2,none⟩) (Kd.R_far (p:=⟨gb101,1,none⟩) (Kd.R_far (p:=⟨gb101,0,none⟩) (Kd.R_types HO104.out BK101.out (by decide)) (fun _ hk=>hk.2) (.int .i64 a0)) (fun _ hk=>hk.2) (.int .i64 a1)) (fun _ hk=>hk.2) (.slice Ao8 y102.length co8)) (fun _ hk=>trivial),by repeat (first|(with_reducible first|exact HB.out|apply zc|apply zd|apply zb|refine zm ?_ GE101.out)|exact HB.out)⟩
  · rw [if_neg c4] at H;exact absurd H (by simp)
 · rw [if_neg c3] at H;exact absurd H (by simp)
end Go.Proofs.Ytadkkcdhgepbkaa.Q
end
section
namespace Go.Proofs.Ytadkkcdhgepbkaa.Q
open Go.RowKit Go.Proofs.YtadkkcdhgepbkaaW.PrintWords Go.Proofs.YtadkkcdhgepbkaaW.PrintLast Go.Proofs.YtadkkcdhgepbkaaW.PrintMore
attribute [local go_sem] max2_int min2_int max_two min_two max_three min_three max_four min_four   -- for this text's walks alone
set_option linter.unusedVariables false
set_option linter.unusedSimpArgs false
def impl_boardOf.l0:Nat→List Int→Int→Int→Int→Int→List Int→Option (Int × Int × List Int)
|0,_,_,_,_,_,_=>none
|k + 1,x11,x12,x13,x108000,x108001,x108002=>if x13 < x12 then (if 0≤x13 then (if x13 < (x11.length:Int) then (if 0≤(rd x11 x13) then (if x13 < (x108002.length:Int) then (impl_boardOf.l0 k x11 x12 (wrap64 (x13 + 1)) x108000 x108001 (x108002.set (x13:Int).toNat (wrap64 ((shl .i64 1 (rd x11 x13)) - 1)))) else (none)) else (none)) else (none)) else (none)) else (some (x108000,x108001,x108002))
def impl_boardOf.f (k:Nat) (l0:List Int):Option (Int × Int × List Int):=(impl_newBoard.f (l0.length:Int) (l0.length:Int)).bind fun bt102=>(impl_boardOf.l0 k l0 (l0.length:Int) 0 bt102.1 bt102.2.1 bt102.2.2)
def impl_boardOf.T5:Bool × List (List Nat × List Nat):=(true,[([],[]),([0],[0]),([],[]),([],[]),([3],[3]),([4],[4]),([1,2,0,1,2,3,4,5],[1,2]),([6,5,0,1,2,3,4,5],[5,6])])
def impl_boardOf.B5:List Nat:=[0,1,0,0,8,24,63,127]
theorem impl_boardOf.tab5:rtab .any (opsOf Try.f74 5)=impl_boardOf.T5:=by kernel_rfl
theorem impl_boardOf.bits5:waitsOk impl_boardOf.T5.2 impl_boardOf.B5=true:=by kernel_rfl
set_option maxHeartbeats 8000000 in
set_option maxRecDepth 100000 in
theorem impl_boardOf.calls (k:Nat) (A0:Option Addr) (c0:Nat) (l0:List Int) (r1:Int) (r2:Int) (r3:List Int) (w:World) (hr0:Kd.C (Kd.int .i64) w A0 l0.length l0) (hc0:l0.length≤c0) (h:impl_boardOf.f k l0=some (r1,r2,r3)) :
  Calls Try.prog 74 #[.slice A0 l0.length c0] w fun e w'=>∃ v2_:Value,e=.returned (.agg #[.int .i64 r1,.int .i64 r2,v2_])∧Kd.R (Kd.int .i64) 3 w' w.heap.size (fun _=>True) v2_ r3∧Below w.heap.size w w':=by
 have hu73:=Try.underlying73;have HR0:=za hr0;have HC0:=za hc0;clear hr0 hc0;have HB:=za (Below.refl w.heap.size w);have H:((impl_newBoard.f (l0.length:Int) (l0.length:Int)).bind fun bt102=>(impl_boardOf.l0 k l0 (l0.length:Int) 0 bt102.1 bt102.2.1 bt102.2.2))=some (r1,r2,r3):=h;clear h;obtain ⟨⟨t102,t103,t104⟩,A2,H⟩:=bindAside H;(try dsimp only at H);have H':=za H;clear H;(go_enter Try.func74,Try.ntmps74);(go_wp2_with (first|((with_reducible refine gate_dst (N:=2) rfl ?_);refine box_event ?hg (N:=2) ?hd (cs:=#[.int .i64 0,.int .i64 0,.slice none 0 0]) (t:=73) ?hr ?_;(case hd=>rfl);(case hg=>rfl);(case hr=>first|(go_simp;done)|(go_simp;rfl));intro gb101 hg w3 hbox hb;have BK101:=za (hbox);have GW101:=za ((by rw [hg];exact (zr (by repeat (first|(with_reducible first|exact HB.out|apply zc|apply zd|apply zb)|exact HB.out))):w.heap.size≤gb101));have GE101:=za ((by rw [hg];exact (zr (by repeat (first|(with_reducible first|exact HB.out|apply zc|apply zd|apply zb)|exact HB.out))):w.heap.size≤gb101));replace HB:=za (below_step (by repeat (first|(with_reducible first|exact HB.out|apply zc|apply zd|apply zb)|exact HB.out)) hb);clear hb hbox hg)|((with_reducible refine zh (f:=81) rfl ?_);refine goesL_ (some 10) rfl rfl Try.func81 (by kernel_rfl) rfl #[.int .i64 (l0.length:Int),.int .i64 (l0.length:Int)] rfl (by first|rfl|simp only [z3_,z4_,z5_];try rfl) ?_;(with_reducible refine (impl_newBoard.calls (l0.length:Int) (l0.length:Int) t102 t103 t104 _ A2.out).mono ?_);rintro e w4 ⟨v105,rfl,ho0,hb⟩;refine ⟨_,rfl,?_⟩;have HO106:=za (Kd.R_lower ho0 (zr (by repeat (first|(with_reducible first|exact HB.out|apply zc|apply zd|apply zb|refine zm ?_ GE101.out)|exact HB.out))));replace BK101:=za (blk_below (g:=gb101) (o:=.cells #[.int .i64 0,.int .i64 0,.slice none 0 0] 73 (0,0)) (by apply_rules only [BK101.out,blk_drewN,blk_drew,blk_alloc]) hb);replace HB:=za (below_step (by repeat (first|(with_reducible first|exact HB.out|apply zc|apply zd|apply zb|refine zm ?_ GE101.out)|exact HB.out)) hb))|((with_reducible refine gate_dst (N:=3) rfl ?_);refine box_event ?hg (N:=3) ?hd (cs:=#[.int .i64 0,.int .i64 0,.slice none 0 0]) (t:=73) ?hr ?_;(case hd=>rfl);(case hg=>rfl);(case hr=>first|(go_simp;done)|(go_simp;rfl));intro gb107 hg w5 hbox hb;replace HO106:=za (Kd.R_below (by (with_reducible repeat (first|apply zf|apply zg|apply ze));exact HO106.out) hb);have BK107:=za (hbox);have GW107:=za ((by rw [hg];exact (zr (by repeat (first|(with_reducible first|exact HB.out|apply zc|apply zd|apply zb|refine zm ?_ GE101.out)|exact HB.out))):w.heap.size≤gb107));have GE107:=za ((by rw [hg];exact (zr (by repeat (first|(with_reducible first|exact HB.out|apply zc|apply zd|apply zb|refine zm ?_ GE101.out)|exact HB.out))):w.heap.size≤gb107));replace HB:=za (below_step (by repeat (first|(with_reducible first|exact HB.out|apply zc|apply zd|apply zb|refine zm ?_ GE101.out)|exact HB.out)) hb);have NB101_107:=za ((by rw [hg];exact Nat.ne_of_lt (blk_lt (g:=gb101) (o:=.cells #[.int .i64 0,.int .i64 0,.slice none 0 0] 73 (0,0)) (by apply_rules only [BK101.out,blk_drewN,blk_drew,blk_alloc])):gb101 ≠ gb107));have NB107_101:=za ((by rw [hg];exact Nat.ne_of_gt (blk_lt (g:=gb101) (o:=.cells #[.int .i64 0,.int .i64 0,.slice none 0 0] 73 (0,0)) (by apply_rules only [BK101.out,blk_drewN,blk_drew,blk_alloc])):gb107 ≠ gb101));replace BK101:=za (blk_below (g:=gb101) (o:=.cells #[.int .i64 0,.int .i64 0,.slice none 0 0] 73 (0,0)) (by apply_rules only [BK101.out,blk_drewN,blk_drew,blk_alloc]) hb);clear hb hbox hg;have hnb6:=NB107_101.out;have hnc6:=NB101_107.out;have hcz7_0:w5.cell? ⟨gb107,0,none⟩=some (.int .i64 0):=(blk_cell BK107.out 0).trans rfl;have hcz7_1:w5.cell? ⟨gb107,1,none⟩=some (.int .i64 0):=(blk_cell BK107.out 1).trans rfl;have hcz7_2:w5.cell? ⟨gb107,2,none⟩=some (.slice none 0 0):=(blk_cell BK107.out 2).trans rfl;have hfz7_0:=blk_frozen BK107.out 0;have hfz7_1:=blk_frozen BK107.out 1;have hfz7_2:=blk_frozen BK107.out 2;obtain ⟨Ao8,co8,eo8⟩:=Kd.R_slice HO106.out;subst eo8)));(go_loopg [13] k (fun kq v13 w'=>∃ (x13_1:Int) (x108002_1:List Int) (u108002:Value),v13=.int .i64 x13_1∧Aside0 (impl_boardOf.l0 kq l0 (l0.length:Int) x13_1 t102 t103 x108002_1=some (r1,r2,r3))∧Aside0 (kq≤k)∧Aside0 (Kd.R (Kd.int .i64) 3 w' w.heap.size (fun _=>True) u108002 x108002_1)∧Aside0 (w'.heap[gb101]?=some (.cells #[.int .i64 0,.int .i64 0,(.slice none 0 0)] 73 (0,0)))∧Aside0 (w'.heap[gb107]?=some (.cells #[.int .i64 t102,.int .i64 t103,u108002] 73 (0,0)))∧Aside0 (Below w.heap.size w w')));case atStart=>exact ⟨(0),(t104),(.slice Ao8 t104.length co8),(by first|rfl|(simp;done)|(simp [*];done)),H',⟨Nat.le_refl _⟩,⟨by (with_reducible repeat (first|apply zf|apply zg|apply ze));exact Kd.R_mono (Kd.R_far (p:=⟨gb107,2,none⟩) (Kd.R_far (p:=⟨gb107,1,none⟩) (Kd.R_far (p:=⟨gb107,0,none⟩) (Kd.R_types HO106.out BK107.out (by decide)) (fun _ hk=>hk.2) (.int .i64 t102)) (fun _ hk=>hk.2) (.int .i64 t103)) (fun _ hk=>hk.2) (.slice Ao8 t104.length co8)) (fun _ hk=>trivial)⟩,⟨by (with_reducible repeat (first|refine blk_drewN ?_ _|refine blk_drew ?_|refine blk_alloc ?_ _));refine blk_far ?_ NB101_107.out _;(with_reducible repeat (first|refine blk_drewN ?_ _|refine blk_drew ?_|refine blk_alloc ?_ _));refine blk_far ?_ NB101_107.out _;(with_reducible repeat (first|refine blk_drewN ?_ _|refine blk_drew ?_|refine blk_alloc ?_ _));refine blk_far ?_ NB101_107.out _;(with_reducible repeat (first|refine blk_drewN ?_ _|refine blk_drew ?_|refine blk_alloc ?_ _));exact BK101.out⟩,⟨by (with_reducible repeat (first|refine blk_drewN ?_ _|refine blk_drew ?_|refine blk_alloc ?_ _));refine blk_put (cs:=#[.int .i64 t102,.int .i64 t103,.slice none 0 0]) ?_ 2 _ rfl;(with_reducible repeat (first|refine blk_drewN ?_ _|refine blk_drew ?_|refine blk_alloc ?_ _));refine blk_put (cs:=#[.int .i64 t102,.int .i64 0,.slice none 0 0]) ?_ 1 _ rfl;(with_reducible repeat (first|refine blk_drewN ?_ _|refine blk_drew ?_|refine blk_alloc ?_ _));refine blk_put (cs:=#[.int .i64 0,.int .i64 0,.slice none 0 0]) ?_ 0 _ rfl;(with_reducible repeat (first|refine blk_drewN ?_ _|refine blk_drew ?_|refine blk_alloc ?_ _));exact BK107.out⟩,⟨by repeat (first|(with_reducible first|exact HB.out|apply zc|apply zd|apply zb|refine zm ?_ GE101.out|refine zm ?_ GE107.out)|exact HB.out)⟩⟩
 case round =>
  clear H';(try clear p2);(try clear c6);(try clear c7);(try clear c8);(try clear hcz7_0);(try clear hcz7_1);(try clear hcz7_2);(try clear hfz7_0);(try clear hfz7_1);(try clear hfz7_2);obtain ⟨x13_1,x108002_1,u108002,rfl,HA,HK1,HO_108002,BK101,BK107,HB⟩:=hrel
  cases gk with
 |zero=>exact absurd HA.out (by simp [impl_boardOf.l0])
 |succ k1 =>
   have H:=HA.out;clear HA;simp only [impl_boardOf.l0] at H;by_cases c9:x13_1 < (l0.length:Int)
   ·
    rw [if_pos c9] at H;have c9b0:decide (x13_1 < (l0.length:Int))=true:=decide_eq_true c9;clear c9;by_cases c10:0≤x13_1
    ·
     rw [if_pos c10] at H;have c10b0:decide (0≤x13_1)=true:=decide_eq_true c10;clear c10;by_cases c11:x13_1 < (l0.length:Int)
     ·
      rw [if_pos c11] at H;have c11b0:decide (x13_1 < (l0.length:Int))=true:=decide_eq_true c11;clear c11;by_cases c12:0≤(rd l0 x13_1)
      ·
       rw [if_pos c12] at H;have c12b0:=eq_true c12;have c12b1:decide (0≤(rd l0 x13_1))=true:=decide_eq_true c12;clear c12;obtain ⟨ji13,hji13⟩:∃ j_:Int,(shl .i64 1 (rd l0 x13_1))=j_:=⟨_,rfl⟩;(replace H:(if x13_1 < (x108002_1.length:Int) then (impl_boardOf.l0 k1 l0 (l0.length:Int) (wrap64 (x13_1 + 1)) t102 t103 (x108002_1.set (x13_1:Int).toNat (wrap64 ((ji13) - 1)))) else (none))=some (r1,r2,r3):=by first|(rw [hji13] at H;exact H)|(simp only [hji13] at H ⊢;exact H));have hji13_:(IntKind.i64.wrap (1 * 2 ^ min (rd l0 x13_1).toNat 64))=ji13:=hji13;have hji13z:(rd l0 x13_1)≤64→(IntKind.i64.wrap (1 * 2 ^ (rd l0 x13_1).toNat))=ji13:=shl_small hji13;(have hji13u:(IntKind.i64.wrap (2 ^ min (rd l0 x13_1).toNat 64))=ji13:=by have h_:=hji13_;rw [Int.one_mul] at h_;exact h_);(have hji13v:(rd l0 x13_1)≤64→(IntKind.i64.wrap (2 ^ (rd l0 x13_1).toNat))=ji13:=fun hle_=>by have h_:=hji13z hle_;rw [Int.one_mul] at h_;exact h_);have hji13y:(wrap64 (1 * 2 ^ min (rd l0 x13_1).toNat 64))=ji13:=(i64_w _).symm.trans hji13_;(have hji13x:(rd l0 x13_1)≤64→(wrap64 (1 * 2 ^ (rd l0 x13_1).toNat))=ji13:=fun h_=>(i64_w _).symm.trans (hji13z h_));by_cases c14:x13_1 < (x108002_1.length:Int)
       ·
        rw [if_pos c14] at H;have c14b0:decide (x13_1 < (x108002_1.length:Int))=true:=decide_eq_true c14;clear c14;obtain ⟨y109,hy109⟩:∃ y_:List Int,y_=(x108002_1.set (x13_1:Int).toNat (wrap64 ((ji13) - 1))):=⟨_,rfl⟩;(replace H:(impl_boardOf.l0 k1 l0 (l0.length:Int) (wrap64 (x13_1 + 1)) t102 t103 y109)=some (r1,r2,r3):=by first|(rw [hy109];with_reducible exact H)|(have H2_:=(Option.bind_some _ _).symm.trans H;rw [hy109];with_reducible exact H2_)|(have H2_:=(Option.bind_some _ _).symm.trans H;with_reducible exact H2_)|with_reducible exact H|(rw [hy109];exact H)|exact H);have Ny109:=za hy109;clear hy109;have H':=za H;clear H;have p108:0≤(x13_1:Int):=of_decide_eq_true ‹_›;have q108:x13_1 < (l0.length:Int):=of_decide_eq_true ‹_›;obtain ⟨ad108,e108,hx108_0⟩:=Kd.at_int HR0.out x13_1 p108 q108;cases e108;replace hx108_0:=(HB.out.cell (World.block_lt_of_cell? w _ hx108_0)).trans hx108_0;replace p108:=eq_true p108;replace q108:=eq_true q108;(try go_wp2);replace HO_108002:=za (ze HO_108002.out);replace BK101:=za (blk_drew BK101.out);replace BK107:=za (blk_drew BK107.out);replace HB:=za (zb HB.out);have p15:0≤(x13_1:Int):=of_decide_eq_true ‹_›;have q15:(x13_1:Int) < ((x108002_1.length:Int):Int):=of_decide_eq_true ‹_›;obtain ⟨go15,co15,eo15,gb15,gl15,cl15,HG15⟩:=Kd.R_form HO_108002.out (by omega);(first|cases eo15|(injection eo15 with ea_ en_ ec_;(first|subst ea_|(injection ea_ with ea_;subst ea_));subst ec_;clear en_));have GB15:=za gb15;have GG15:=za HG15;clear gb15 gl15 HG15;obtain ⟨hx15_0,hf15_0⟩:=Kd.R_celln 0 HO_108002.out (x13_1:Int) p15 q15;replace p15:=eq_true p15;replace q15:=eq_true q15;have HP17:=Kd.R_putn HO_108002.out (x13_1:Int) (wrap64 ((ji13) - 1));rw [← Ny109.out] at HP17;have HQ17:=za HP17;clear HP17;refine start_ (n:=8) (S:=fun w'=>w'.cell? ⟨gb107,0,none⟩=some (.int .i64 t102)∧w'.cell? ⟨gb107,1,none⟩=some (.int .i64 t103)∧w'.cell? ⟨gb107,2,none⟩=some (.slice (some ⟨go15,0,none⟩) x108002_1.length co15)) (ds:=[7]) #[false,false,false,false,false,false,false,false] (by kernel_rfl) rfl rfl ⟨(blk_cell BK107.out 0).trans rfl,(blk_cell BK107.out 1).trans rfl,(blk_cell BK107.out 2).trans rfl⟩ (fun hHeld=>?_);refine with_tabW impl_boardOf.tab5 impl_boardOf.bits5 (fun HT_ HW_=>?_);generalize wr.drew=w16 at HO_108002 BK101 BK107 HB GG15 HQ17 hf15_0 hx15_0 hHeld ⊢;refine pure_ (i:=0) (N:=some 18) (v:=?_) (a':=?_) #[true,false,false,false,false,false,false,false] rfl rfl (any_of HT_.out (by kernel_rfl)) (fun _ _ _ h=>h) (Or.inl ⟨by rfl,?_⟩) ?_ ?_;rotate_left
        · intro w';go_simp;with_reducible rfl
        rotate_left
        · simp only [Act.put,z0_,z1_,z2_,i64_w,i32_w];rfl
        refine pure_ (i:=2) (N:=some 20) (v:=?_) (a':=?_) #[true,false,true,false,false,false,false,false] rfl rfl (any_of HT_.out (by kernel_rfl)) (fun _ _ _ h=>h) (Or.inl ⟨by rfl,?_⟩) ?_ ?_;rotate_left
        · intro w';go_simp;with_reducible rfl
        rotate_left
        · simp only [Act.put,z0_,z1_,z2_,i64_w,i32_w];rfl
        refine pure_ (i:=3) (N:=some 21) (v:=?_) (a':=?_) #[true,false,true,true,false,false,false,false] rfl rfl (any_of HT_.out (by kernel_rfl)) (fun _ _ _ h=>h) (Or.inl ⟨by rfl,?_⟩) ?_ ?_;rotate_left
        · intro w';go_simp;with_reducible rfl
        rotate_left
        · simp only [Act.put,z0_,z1_,z2_,i64_w,i32_w];rfl
        refine pure_ (i:=4) (N:=some 22) (v:=?_) (a':=?_) #[true,false,true,true,true,false,false,false] rfl rfl (any_of HT_.out (by kernel_rfl)) (fun _ _ _ h=>h) (Or.inl ⟨by rfl,?_⟩) ?_ ?_;rotate_left
        · intro w';go_simp;with_reducible rfl
        rotate_left
        · simp only [Act.put,z0_,z1_,z2_,i64_w,i32_w];rfl
        refine pure_ (i:=5) (N:=some 23) (v:=?_) (a':=?_) #[true,false,true,true,true,true,false,false] rfl rfl (any_of HT_.out (by kernel_rfl)) (fun _ _ _ h=>h) (Or.inl ⟨by rfl,?_⟩) ?_ ?_;rotate_left
        · intro w';go_simp;with_reducible rfl
        rotate_left
        · simp only [Act.put,z0_,z1_,z2_,i64_w,i32_w];rfl
        refine take_ (i:=1) (N:=some 19) (v:=?_) (a':=?_) #[true,true,true,true,true,true,false,false] rfl rfl (take_ofW HT_.out HW_.out (by kernel_rfl)) (fun _ _ _ h=>h) (Or.inl ⟨by rfl,?_⟩) hHeld ?_ ?_;rotate_left
        · rintro w' ⟨s0,s1,s2⟩;go_simp;with_reducible rfl
        rotate_left
        · simp only [Act.put,z0_,z1_,z2_,i64_w,i32_w];rfl
        refine pure_ (i:=6) (N:=some 24) (v:=?_) (a':=?_) #[true,true,true,true,true,true,true,false] rfl rfl (any_of HT_.out (by kernel_rfl)) (fun _ _ _ h=>h) (Or.inl ⟨by rfl,?_⟩) ?_ ?_;rotate_left
        · intro w';go_simp;with_reducible rfl
        rotate_left
        · simp only [Act.put,z0_,z1_,z2_,i64_w,i32_w];rfl
        refine last_ (i:=7) (N:=none) #[true,true,true,true,true,true,true,true] rfl rfl (one_of HT_.out (by kernel_rfl)) (by decide) (fun K hK=>?_);refine skip_ (w1:=?_) (by rfl) rfl ?_ ?_;rotate_left
        · go_simp;rfl
        refine hK.out _ _ ?_;clear hK K;refine done_ (done_of HT_.out (by kernel_rfl)) ?_;(try go_wp2);(go_roundg k1);(case measure=>have:=HK1.out;omega);case rel=>exact ⟨(wrap64 (x13_1 + 1)),(y109),(.slice (some ⟨go15,0,none⟩) x108002_1.length co15),(by first|rfl|(simp;done)|(simp [*];done)),H',⟨by have:=HK1.out;omega⟩,⟨by (with_reducible repeat (first|apply zf|apply zg|apply ze));exact HQ17.out⟩,⟨by (with_reducible repeat (first|refine blk_drewN ?_ _|refine blk_drew ?_|refine blk_alloc ?_ _));refine blk_far ?_ (by have h_:=Kd.R_ne HO_108002.out BK101.out (by decide);intro e_;exact h_ (by rw [e_];rfl)) _;(with_reducible repeat (first|refine blk_drewN ?_ _|refine blk_drew ?_|refine blk_alloc ?_ _));exact BK101.out⟩,⟨by (with_reducible repeat (first|refine blk_drewN ?_ _|refine blk_drew ?_|refine blk_alloc ?_ _));refine blk_far ?_ (by have h_:=Kd.R_ne HO_108002.out BK107.out (by decide);intro e_;exact h_ (by rw [e_];rfl)) _;(with_reducible repeat (first|refine blk_drewN ?_ _|refine blk_drew ?_|refine blk_alloc ?_ _));exact BK107.out⟩,⟨by repeat (first|(with_reducible first|exact HB.out|apply zc|apply zd|apply zb|refine zm ?_ GB15.out|refine zm ?_ GE101.out|refine zm ?_ GE107.out)|exact HB.out)⟩⟩
       · rw [if_neg c14] at H;exact absurd H (by simp)
      · rw [if_neg c12] at H;exact absurd H (by simp)
     · rw [if_neg c11] at H;exact absurd H (by simp)
    · rw [if_neg c10] at H;exact absurd H (by simp)
   · rw [if_neg c9] at H;have c9b0:decide (x13_1 < (l0.length:Int))=false:=decide_eq_false c9;clear c9;simp only [Option.some.injEq,Prod.mk.injEq] at H;obtain ⟨rfl,rfl,rfl⟩:=H;have hnb18:=NB107_101.out;have hnc18:=NB101_107.out;have hcz19_0:wr.cell? ⟨gb107,0,none⟩=some (.int .i64 t102):=(blk_cell BK107.out 0).trans rfl;have hcz19_1:wr.cell? ⟨gb107,1,none⟩=some (.int .i64 t103):=(blk_cell BK107.out 1).trans rfl;have hcz19_2:wr.cell? ⟨gb107,2,none⟩=some (u108002):=(blk_cell BK107.out 2).trans rfl;have hfz19_0:=blk_frozen BK107.out 0;have hfz19_1:=blk_frozen BK107.out 1;have hfz19_2:=blk_frozen BK107.out 2;have hcz20_0:wr.cell? ⟨gb101,0,none⟩=some (.int .i64 0):=(blk_cell BK101.out 0).trans rfl;have hcz20_1:wr.cell? ⟨gb101,1,none⟩=some (.int .i64 0):=(blk_cell BK101.out 1).trans rfl;have hcz20_2:wr.cell? ⟨gb101,2,none⟩=some (.slice none 0 0):=(blk_cell BK101.out 2).trans rfl;have hfz20_0:=blk_frozen BK101.out 0;have hfz20_1:=blk_frozen BK101.out 1;have hfz20_2:=blk_frozen BK101.out 2;obtain ⟨Ao21,co21,eo21⟩:=Kd.R_slice HO_108002.out;subst eo21;(go_wp2);refine bodyPost_ret (results_cell_row rfl _ _ gb101 73 #[.int .i64 t102,.int .i64 t103,.slice Ao21 x108002_1.length co21] (0,0) _ rfl (by (with_reducible repeat (first|refine blk_drewN ?_ _|refine blk_drew ?_|refine blk_alloc ?_ _));refine blk_put (cs:=#[.int .i64 t102,.int .i64 t103,.slice none 0 0]) ?_ 2 _ rfl;(with_reducible repeat (first|refine blk_drewN ?_ _|refine blk_drew ?_|refine blk_alloc ?_ _));refine blk_put (cs:=#[.int .i64 t102,.int .i64 0,.slice none 0 0]) ?_ 1 _ rfl;(with_reducible repeat (first|refine blk_drewN ?_ _|refine blk_drew ?_|refine blk_alloc ?_ _));refine blk_put (cs:=#[.int .i64 0,.int .i64 0,.slice none 0 0]) ?_ 0 _ rfl;(with_reducible repeat (first|refine blk_drewN ?_ _|refine blk_drew ?_|refine blk_alloc ?_ _));exact BK101.out) Try.underlying73 rfl (by kernel_rfl)) rfl ?_;exact ⟨_,by first|rfl|simp [*,errW_none,errW_some] <;> rfl,by (with_reducible repeat (first|apply zf|apply zg|apply ze));exact Kd.R_mono (Kd.R_far (p:=⟨gb101,2,none⟩) (Kd.R_far (p:=⟨gb101,1,none⟩) (Kd.R_far (p:=⟨gb101,0,none⟩) (Kd.R_types HO_108002.out BK101.out (by decide)) (fun _ hk=>hk.2) (.int .i64 t102)) (fun _ hk=>hk.2) (.int .i64 t103)) (fun _ hk=>hk.2) (.slice Ao21 x108002_1.length co21)) (fun _ hk=>trivial),by repeat (first|(with_reducible first|exact HB.out|apply zc|apply zd|apply zb|refine zm ?_ GE101.out|refine zm ?_ GE107.out)|exact HB.out)⟩
end Go.Proofs.Ytadkkcdhgepbkaa.Q
end
section
namespace Go.Proofs.Ytadkkcdhgepbkaa.LensK
set_option linter.unusedVariables false
open Go.RowKit Go.Proofs.Ytadkkcdhgepbkaa.Q Go.Proofs.YtadkkcdhgepbkaaW.PrintWords Go.Proofs.YtadkkcdhgepbkaaW.PrintLast Go.Proofs.YtadkkcdhgepbkaaW.PrintMore
open Go.Proofs.YtadkkcdhgepbkaaL Go.Proofs.Ytadkkcdhgepbkaa.LawK Go.Proofs.Ytadkkcdhgepbkaa.BoardK
theorem evEq {α : Type} {g : Nat → Option α} {a b : α} (h : Ev g a) (e : a = b) : Ev g b := e ▸ h
def riseFrom (l : List Int) (i : Nat) : Bool := decide (∀ j, j < l.length - 1 → i ≤ j + 1 → l.getD j 0 ≤ l.getD (j + 1) 0)
def riseTo (l : List Int) (i : Nat) : Bool := decide (∀ j, j < i → l.getD j 0 ≤ l.getD (j + 1) 0)
theorem spec_rise {l : List Int} (hl : l.length ≤ 6) : ∀ (d i : Nat), i + d = l.length → 1 ≤ i → Ev (fun k => spec_feGood.l0 k l i) (riseFrom l i)
  | 0, i, hi, h1 => by
    refine Ev.step (f := fun _ => some true) (fun k => ?_) (evEq (Ev.now _) (Eq.symm (decide_eq_true (fun j hj h => by omega))))
    rw [spec_feGood.l0, if_neg (by omega)]
  | d + 1, i, hi, h1 => by
    have e1 : wrap64 ((i : Int) + 1) = ((i + 1 : Nat) : Int) := by rw [w64 (by omega) (by omega)]; rfl
    have e2 : wrap64 ((i : Int) - 1) = ((i - 1 : Nat) : Int) := by rw [w64 (by omega) (by omega)]; omega
    have hstep : ∀ k, spec_feGood.l0 (k + 1) l i = if l.getD i 0 < l.getD (i - 1) 0 then some false else spec_feGood.l0 k l ((i + 1 : Nat) : Int) := by
      intro k
      rw [spec_feGood.l0, if_pos (by omega), if_pos (by omega), e2, if_pos (by omega), if_pos (by omega), e1, rd_nat, rd_nat]
    by_cases hc : l.getD i 0 < l.getD (i - 1) 0
    · refine Ev.step (f := fun _ => some false) (fun k => by rw [hstep, if_pos hc]) (evEq (Ev.now _) (Eq.symm (decide_eq_false (fun h => ?_))))
      have := h (i - 1) (by omega) (by omega)
      rw [show i - 1 + 1 = i by omega] at this
      omega
    · refine Ev.step (fun k => by rw [hstep, if_neg hc]) (evEq (spec_rise hl d (i + 1) (by omega) (by omega)) ?_)
      apply decide_eq_decide.2
      constructor
      · intro h j hj hij
        by_cases e : j + 1 = i
        · subst e; simp only [Nat.add_sub_cancel] at hc; omega
        · exact h j hj (by omega)
      · intro h j hj hij
        exact h j hj (by omega)
theorem less_f (a b : Int) : cmp_Less_int.f a b = some (decide (a < b)) := by
  unfold cmp_Less_int.f cmp_isNaN_int.f
  rw [Option.bind_some, if_neg (by simp)]
theorem impl_rise {l : List Int} (hl : l.length ≤ 6) : ∀ (i : Nat), i < l.length → Ev (fun k => slices_IsSorted_int_int.l0 k l i) (riseTo l i)
  | 0, hi => by
    refine Ev.step (f := fun _ => some true) (fun k => ?_) (evEq (Ev.now _) (Eq.symm (decide_eq_true (fun j hj => by omega))))
    rw [slices_IsSorted_int_int.l0, if_neg (by omega)]
  | i + 1, hi => by
    have e2 : wrap64 (((i + 1 : Nat) : Int) - 1) = ((i : Nat) : Int) := by rw [w64 (by omega) (by omega)]; omega
    have hstep : ∀ k, slices_IsSorted_int_int.l0 (k + 1) l ((i + 1 : Nat) : Int) = if l.getD (i + 1) 0 < l.getD i 0 then some false else slices_IsSorted_int_int.l0 k l (i : Int) := by
      intro k
      rw [slices_IsSorted_int_int.l0, if_pos (by omega), if_pos (by omega), if_pos (by omega), e2, if_pos (by omega), if_pos (by omega), less_f, Option.bind_some, rd_nat, rd_nat]
      by_cases hc : l.getD (i + 1) 0 < l.getD i 0
      · rw [if_pos (decide_eq_true hc), if_pos hc]
      · rw [if_neg (by simpa using hc), if_neg hc]
    by_cases hc : l.getD (i + 1) 0 < l.getD i 0
    · refine Ev.step (f := fun _ => some false) (fun k => by rw [hstep, if_pos hc]) (evEq (Ev.now _) (Eq.symm (decide_eq_false (fun h => ?_))))
      have := h i (by omega)
      omega
    · refine Ev.step (fun k => by rw [hstep, if_neg hc]) (evEq (impl_rise hl i (by omega)) ?_)
      apply decide_eq_decide.2
      constructor
      · intro h j hj
        by_cases e : j = i
        · subst e; omega
        · exact h j (by omega)
      · intro h j hj
        exact h j (by omega)
def lenB (l : List Int) : Bool := inR 1 6 l.length && l.all (inR 0 l.length) && riseFrom l 1
theorem spec_good {l : List Int} (hl : l.length ≤ 1048576) : Ev (fun k => spec_feGood.f k l) (lenB l) := by
  unfold spec_feGood.f lenB
  by_cases h1 : inR 1 6 l.length = true
  · have h6 : 1 ≤ l.length ∧ l.length ≤ 6 := by unfold inR at h1; simp only [decide_eq_true_eq] at h1; omega
    refine Ev.congr (fun k => by rw [boSide_f, Option.bind_some, if_pos h1]) ?_
    refine Ev.bind (l1All 0 l.length (by omega)) ?_
    rw [h1, Bool.true_and]
    by_cases h2 : l.all (inR 0 l.length) = true
    · rw [h2, Bool.true_and]
      refine Ev.step (fun k => by rw [spec_feGood.j0, if_neg (by simp)]) ?_
      exact spec_rise h6.2 (l.length - 1) 1 (by omega) (by omega)
    · have h2f : l.all (inR 0 l.length) = false := by simpa using h2
      rw [h2f, Bool.false_and]
      refine Ev.step (fun k => by rw [spec_feGood.j0, if_pos (by simp)]) (Ev.now _)
  · have h1f : inR 1 6 l.length = false := by simpa using h1
    rw [h1f, Bool.false_and, Bool.false_and]
    refine Ev.step (fun k => by rw [boSide_f, Option.bind_some, if_neg h1, spec_feGood.j0, if_pos rfl]) (Ev.now _)
theorem rise_le {l : List Int} (h : riseFrom l 1 = true) : ∀ d i, i + d < l.length → l.getD i 0 ≤ l.getD (i + d) 0
  | 0, i, _ => Int.le_refl _
  | d + 1, i, hi => by
    have h1 := rise_le h d i (by omega)
    have h2 := of_decide_eq_true h (i + d) (by omega) (by omega)
    rw [show i + (d + 1) = i + d + 1 by omega]
    omega
theorem impl_good {l : List Int} (hl : l.length ≤ 1048576) : Ev (fun k => impl_AreLengths.f k l) (lenB l) := by
  unfold impl_AreLengths.f lenB
  by_cases h1 : inR 1 6 l.length = true
  · have h6 : 1 ≤ l.length ∧ l.length ≤ 6 := by unfold inR at h1; simp only [decide_eq_true_eq] at h1; omega
    have e0 : wrap64 ((l.length : Int) - 1) = ((l.length - 1 : Nat) : Int) := by rw [w64 (by omega) (by omega)]; omega
    refine Ev.congr (fun k => by rw [isSide_f, Option.bind_some, if_pos (show decide (1 ≤ (l.length : Int) ∧ (l.length : Int) ≤ 6) = true from h1)]) ?_
    rw [h1, Bool.true_and]
    have er : riseTo l (l.length - 1) = riseFrom l 1 := decide_eq_decide.2 ⟨fun h j hj _ => h j hj, fun h j hj => h j hj (by omega)⟩
    refine Ev.bind (a := riseFrom l 1) (by unfold slices_IsSorted_int_int.f; rw [e0, ← er]; exact impl_rise h6.2 (l.length - 1) (by omega)) ?_
    by_cases h2 : riseFrom l 1 = true
    · rw [h2, Bool.and_true]
      refine Ev.congr (fun k => by rw [if_pos rfl, if_pos (by omega), within_f, Option.bind_some, e0]) ?_
      have hall : l.all (inR 0 l.length) = (inR 0 l.length (l.getD 0 0) && inR 0 l.length (l.getD (l.length - 1) 0)) := by
        rw [Bool.eq_iff_iff, Bool.and_eq_true, List.all_eq_true]
        constructor
        · intro h
          rw [gD_lt _ _ (by omega), gD_lt _ _ (by omega)]
          exact ⟨h _ (List.getElem_mem _), h _ (List.getElem_mem _)⟩
        · rintro ⟨ha, hb⟩ x hx
          obtain ⟨i, hi, e⟩ := List.mem_iff_getElem.1 hx
          have q1 := rise_le h2 i 0 (by omega)
          have q2 := rise_le h2 (l.length - 1 - i) i (by omega)
          rw [show i + (l.length - 1 - i) = l.length - 1 by omega] at q2
          rw [Nat.zero_add, gD_lt l 0 hi, e] at q1
          rw [gD_lt l 0 hi, e] at q2
          unfold inR at ha hb ⊢
          simp only [decide_eq_true_eq] at ha hb ⊢
          omega
      rw [hall]
      have r0 : rd l 0 = l.getD 0 0 := rd_nat l 0
      by_cases h3 : inR 0 l.length (l.getD 0 0) = true
      · rw [h3, Bool.true_and]
        refine Ev.congr (fun k => by rw [r0, if_pos (show decide (0 ≤ l.getD 0 0 ∧ l.getD 0 0 ≤ (l.length : Int)) = true from h3), if_pos (by omega), if_pos (by omega), within_f, Option.bind_some, rd_nat]; rfl) (Ev.now _)
      · have h3f : inR 0 l.length (l.getD 0 0) = false := by simpa using h3
        rw [h3f, Bool.false_and]
        exact Ev.congr (fun k => by rw [r0, if_neg (show ¬ decide (0 ≤ l.getD 0 0 ∧ l.getD 0 0 ≤ (l.length : Int)) = true from h3)]) (Ev.now _)
    · have h2f : riseFrom l 1 = false := by simpa using h2
      rw [h2f, Bool.and_false]
      exact Ev.congr (fun k => by rw [if_neg (by simp)]) (Ev.now _)
  · have h1f : inR 1 6 l.length = false := by simpa using h1
    rw [h1f, Bool.false_and, Bool.false_and]
    exact Ev.congr (fun k => by rw [isSide_f, Option.bind_some, if_neg (show ¬ decide (1 ≤ (l.length : Int) ∧ (l.length : Int) ≤ 6) = true from h1)]) (Ev.now _)
def rowsOf (l : List Int) : List Int := l.map fun m => 2 ^ m.toNat - 1
theorem len_of {l : List Int} (h : lenB l = true) : 1 ≤ l.length ∧ l.length ≤ 6 ∧ ∀ i (hi : i < l.length), 0 ≤ l[i] ∧ l[i] ≤ l.length := by
  unfold lenB at h
  simp only [Bool.and_eq_true, List.all_eq_true] at h
  obtain ⟨⟨h1, h2⟩, h3⟩ := h
  unfold inR at h1 h2
  simp only [decide_eq_true_eq] at h1 h2
  exact ⟨by omega, by omega, fun i hi => h2 _ (List.getElem_mem hi)⟩
def board0 (l : List Int) (i : Nat) : List Int := (rowsOf l).take i ++ List.replicate (l.length - i) 0
theorem board0_length (l : List Int) (i : Nat) (hi : i ≤ l.length) : (board0 l i).length = l.length := by simp [board0, rowsOf]; omega
theorem board0_set (l : List Int) (i : Nat) (hi : i < l.length) : (board0 l i).set i (2 ^ l[i].toNat - 1) = board0 l (i + 1) := by
  unfold board0
  have hr : (rowsOf l).length = l.length := by simp [rowsOf]
  have ht : ((rowsOf l).take i).length = i := by rw [List.length_take, hr]; omega
  have e1 : List.replicate (l.length - i) (0 : Int) = 0 :: List.replicate (l.length - (i + 1)) 0 := by rw [show l.length - i = (l.length - (i + 1)) + 1 by omega]; rfl
  rw [e1, List.set_append_right (h := by omega), ht, Nat.sub_self, List.set_cons_zero, List.take_add_one, List.append_assoc]
  congr 1
  simp [rowsOf, hi]
theorem mask_f {m : Int} (h0 : 0 ≤ m) (h6 : m ≤ 6) : wrap64 (shl .i64 1 m - 1) = 2 ^ m.toNat - 1 := by
  obtain ⟨n, rfl⟩ : ∃ n : Nat, m = n := ⟨m.toNat, by omega⟩
  have h4 : 2 ^ n ≤ 2 ^ 6 := Nat.pow_le_pow_right (by decide) (by omega)
  have h5 : 0 < 2 ^ n := Nat.two_pow_pos n
  rw [shl_one n (by omega), w64 (by omega) (by omega), Int.toNat_natCast]; simp
theorem impl_board {l : List Int} (h : lenB l = true) : Ev (fun k => impl_boardOf.f k l) ((l.length : Int), (l.length : Int), rowsOf l) := by
  obtain ⟨h1, h2, h3⟩ := len_of h
  have key : ∀ d i, i + d = l.length → Ev (fun k => impl_boardOf.l0 k l (l.length : Int) i (l.length : Int) (l.length : Int) (board0 l i)) ((l.length : Int), (l.length : Int), rowsOf l) := by
    intro d
    induction d with
    | zero =>
      intro i hi
      refine Ev.step (f := fun _ => some ((l.length : Int), (l.length : Int), board0 l i)) (fun k => ?_) (evEq (Ev.now _) (by rw [show i = l.length by omega]; unfold board0; rw [List.take_of_length_le (by simp [rowsOf])]; simp))
      rw [impl_boardOf.l0, if_neg (by omega)]
    | succ d ih =>
      intro i hi
      have hi2 : i < l.length := by omega
      have e1 : wrap64 ((i : Int) + 1) = ((i + 1 : Nat) : Int) := by rw [w64 (by omega) (by omega)]; rfl
      have := h3 i hi2
      refine Ev.step (fun k => ?_) (ih (i + 1) (by omega))
      rw [impl_boardOf.l0, if_pos (by omega), if_pos (by omega), if_pos (by omega), rd_lt _ _ hi2, if_pos this.1, if_pos (by rw [board0_length _ _ (by omega)]; omega), e1, mask_f this.1 (by omega), Int.toNat_natCast, board0_set _ _ hi2]
  unfold impl_boardOf.f impl_newBoard.f
  refine Ev.congr (fun k => ?_) (key l.length 0 (by omega))
  rw [if_pos (by omega), if_pos (by omega), Option.bind_some, Int.toNat_natCast]
  simp [board0]
end Go.Proofs.Ytadkkcdhgepbkaa.LensK
end
section
namespace Go.Proofs.Ytadkkcdhgepbkaa.PermK
set_option linter.unusedVariables false
open Go.RowKit Go.Proofs.Ytadkkcdhgepbkaa.Q Go.Proofs.YtadkkcdhgepbkaaW.PrintWords Go.Proofs.YtadkkcdhgepbkaaW.PrintLast Go.Proofs.YtadkkcdhgepbkaaW.PrintMore
open Go.Proofs.YtadkkcdhgepbkaaL
theorem index_l0 {l : List Int} (x : Int) (hl : l.length ≤ 4611686018427387904) : ∀ (d i : Nat), i + d = l.length → ∃ r : Int, (decide (r ≥ 0) = decide (x ∈ l.drop i)) ∧ Ev (fun k => slices_Index_int_int.l0 k l x (l.length : Int) i) r
  | 0, i, hi => by
    refine ⟨-1, by rw [List.drop_eq_nil_of_le (by omega)]; rfl, Ev.step (f := fun _ => some (-1)) (fun k => ?_) (Ev.now _)⟩
    rw [slices_Index_int_int.l0, if_neg (by omega)]
  | d + 1, i, hi => by
    have h1 : wrap64 ((i : Int) + 1) = ((i + 1 : Nat) : Int) := by rw [w64 (by omega) (by omega)]; rfl
    have hi2 : i < l.length := by omega
    rw [List.drop_eq_getElem_cons hi2]
    by_cases e : x = l[i]
    · refine ⟨i, by rw [decide_eq_true (show x ∈ l[i] :: l.drop (i + 1) from List.mem_cons.2 (Or.inl e))]; simp, Ev.step (f := fun _ => some (i : Int)) (fun k => ?_) (Ev.now _)⟩
      rw [slices_Index_int_int.l0, if_pos (by omega), if_pos (by omega), if_pos (by omega), rd_lt _ _ hi2, if_pos e]
    · have : (x ∈ l[i] :: l.drop (i + 1)) ↔ x ∈ l.drop (i + 1) := by
        rw [List.mem_cons]; exact ⟨fun h => h.resolve_left e, Or.inr⟩
      rw [decide_eq_decide.mpr this]
      obtain ⟨r, hr, hev⟩ := index_l0 x hl d (i + 1) (by omega)
      refine ⟨r, hr, Ev.step (fun k => ?_) hev⟩
      rw [slices_Index_int_int.l0, if_pos (by omega), if_pos (by omega), if_pos (by omega), rd_lt _ _ hi2, if_neg e, h1]
theorem contains {l : List Int} (x : Int) (hl : l.length ≤ 4611686018427387904) : Ev (fun k => slices_Contains_int_int.f k l x) (decide (x ∈ l)) := by
  obtain ⟨r, hr, hev⟩ := index_l0 x hl l.length 0 (by omega)
  rw [List.drop_zero] at hr
  rw [← hr]
  unfold slices_Contains_int_int.f slices_Index_int_int.f
  exact Ev.bind (a := r) hev (Ev.now _)
end Go.Proofs.Ytadkkcdhgepbkaa.PermK
end
section
namespace Go.Proofs.Ytadkkcdhgepbkaa.FreeK
set_option linter.unusedVariables false
set_option linter.unusedSectionVars false
open Go.RowKit Go.Proofs.Ytadkkcdhgepbkaa.Q Go.Proofs.YtadkkcdhgepbkaaW.PrintWords Go.Proofs.YtadkkcdhgepbkaaW.PrintLast Go.Proofs.YtadkkcdhgepbkaaW.PrintMore
open Go.Proofs.YtadkkcdhgepbkaaL Go.Proofs.Ytadkkcdhgepbkaa.LawK Go.Proofs.Ytadkkcdhgepbkaa.BoardK Go.Proofs.Ytadkkcdhgepbkaa.PermK Go.Proofs.Ytadkkcdhgepbkaa.LensK
def taken (p : List Int) (i : Nat) (c : Nat) : Bool := (decide (p.getD i 0 ≠ -1) && decide (p.getD i 0 ≤ c)) || decide ((c : Int) ∈ p.take i)
def rowFree (p : List Int) (i : Nat) : Nat → Nat → Int → Int
  | 0, _, n => n
  | d + 1, c, n => rowFree p i d (c + 1) (if taken p i c then n else n + 1)
def allFree (p : List Int) : List Int → Nat → Int → Int
  | [], _, n => n
  | m :: t, i, n => allFree p t (i + 1) (rowFree p i m.toNat 0 n)
theorem rowFree_bound (p : List Int) (i : Nat) : ∀ d c n, n ≤ rowFree p i d c n ∧ rowFree p i d c n ≤ n + d
  | 0, c, n => by simp [rowFree]
  | d + 1, c, n => by
    rw [rowFree]
    by_cases h : taken p i c = true
    · rw [if_pos h]; have := rowFree_bound p i d (c + 1) n; omega
    · rw [if_neg h]; have := rowFree_bound p i d (c + 1) (n + 1); omega
section
variable {l p : List Int} (hl6 : l.length ≤ 6) (hin : ∀ i (hi : i < l.length), 0 ≤ l[i] ∧ l[i] ≤ 6) (hp : p.length = l.length)
include hl6 hin hp
theorem impl_row {i m : Nat} (hi : i < l.length) (hm : m ≤ 6) {g : Int} : ∀ (d c : Nat) (n : Int), c + d = m → 0 ≤ n → n ≤ 6 * i + c →
    Ev (fun k => impl_free.l0 k p (rowFree p i d c n) l (l.length : Int) ((i + 1 : Nat) : Int)) g → Ev (fun k => impl_free.l1 k p n i l (l.length : Int) i m c) g
  | 0, c, n, hc, h0, hn, next => by
    have e1 : wrap64 ((i : Int) + 1) = ((i + 1 : Nat) : Int) := by rw [w64 (by omega) (by omega)]; rfl
    refine Ev.step (fun k => ?_) next
    rw [impl_free.l1, if_neg (by omega), e1]; rfl
  | d + 1, c, n, hc, h0, hn, next => by
    have e1 : wrap64 ((c : Int) + 1) = ((c + 1 : Nat) : Int) := by rw [w64 (by omega) (by omega)]; rfl
    have e2 : wrap64 (n + 1) = n + 1 := w64 (by omega) (by omega)
    rw [rowFree] at next
    have ihT := fun (h : taken p i c = true) => impl_row hi hm d (c + 1) n (by omega) h0 (by omega) (by rw [if_pos h] at next; exact next)
    have ihF := fun (h : ¬ taken p i c = true) => impl_row hi hm d (c + 1) (n + 1) (by omega) (by omega) (by omega) (by rw [if_neg h] at next; exact next)
    have hstep : ∀ k, impl_free.l1 (k + 1) p n i l (l.length : Int) i m c = _ := fun k => by rw [impl_free.l1, if_pos (by omega), if_pos (by omega), if_pos (by omega), rd_nat, e1, e2, Int.toNat_natCast]
    have hhas := contains (l := p.take i) (c : Int) (by simp; omega)
    by_cases h1 : p.getD i 0 = -1
    · refine Ev.step (fun k => by rw [hstep, if_pos h1, if_pos (by omega)]) (Ev.bind hhas ?_)
      by_cases h2 : (c : Int) ∈ p.take i
      · exact Ev.congr (fun k => by rw [if_pos (by simpa using h2)]) (ihT (by unfold taken; rw [decide_eq_true h2, Bool.or_true]))
      · exact Ev.congr (fun k => by rw [if_neg (by simpa using h2)]) (ihF (by unfold taken; rw [decide_eq_false (show ¬ p.getD i 0 ≠ -1 from fun h => h h1), decide_eq_false h2]; simp))
    · by_cases h3 : p.getD i 0 ≤ c
      · exact Ev.step (fun k => by rw [hstep, if_neg h1, if_pos h3]) (ihT (by unfold taken; rw [decide_eq_true h1, decide_eq_true h3]; rfl))
      · refine Ev.step (fun k => by rw [hstep, if_neg h1, if_neg h3, if_pos (by omega)]) (Ev.bind hhas ?_)
        by_cases h2 : (c : Int) ∈ p.take i
        · exact Ev.congr (fun k => by rw [if_pos (by simpa using h2)]) (ihT (by unfold taken; rw [decide_eq_true h2, Bool.or_true]))
        · exact Ev.congr (fun k => by rw [if_neg (by simpa using h2)]) (ihF (by unfold taken; rw [decide_eq_false h2, decide_eq_false h3]; simp))
theorem impl_rows : ∀ (d i : Nat) (n : Int), i + d = l.length → 0 ≤ n → n ≤ 6 * i → Ev (fun k => impl_free.l0 k p n l (l.length : Int) i) (allFree p (l.drop i) i n)
  | 0, i, n, hi, h0, hn => by
    refine Ev.step (f := fun _ => some n) (fun k => ?_) (evEq (Ev.now _) (by rw [List.drop_eq_nil_of_le (by omega)]; rfl))
    rw [impl_free.l0, if_neg (by omega)]
  | d + 1, i, n, hi, h0, hn => by
    have hi2 : i < l.length := by omega
    obtain ⟨m, hm⟩ : ∃ m : Nat, l[i] = m := ⟨l[i].toNat, by have := hin i hi2; omega⟩
    have hm6 : m ≤ 6 := by have := hin i hi2; omega
    rw [List.drop_eq_getElem_cons hi2, allFree, hm, Int.toNat_natCast]
    have hbd := rowFree_bound p i m 0 n
    refine Ev.step (fun k => ?_) (impl_row hl6 hin hp hi2 hm6 m 0 n (by omega) h0 (by omega) (impl_rows d (i + 1) _ (by omega) (by omega) (by omega)))
    rw [impl_free.l0, if_pos (by omega), if_pos (by omega), if_pos (by omega), rd_lt _ _ hi2, hm]; rfl
end
end Go.Proofs.Ytadkkcdhgepbkaa.FreeK
end
section
namespace Go.Proofs.Ytadkkcdhgepbkaa.BagK
set_option linter.unusedVariables false
open Go.RowKit Go.Proofs.YtadkkcdhgepbkaaW.PrintWords Go.Proofs.YtadkkcdhgepbkaaW.PrintLast Go.Proofs.YtadkkcdhgepbkaaW.PrintMore
open Go.Proofs.YtadkkcdhgepbkaaL Go.Proofs.Ytadkkcdhgepbkaa.LawK Go.Proofs.Ytadkkcdhgepbkaa.W1 Go.Proofs.Ytadkkcdhgepbkaa.Walk Go.Proofs.Ytadkkcdhgepbkaa.FreeK Go.Proofs.Ytadkkcdhgepbkaa.LensK Go.Proofs.Ytadkkcdhgepbkaa.BoardK
structure RepC (r : List Int) (c : Nat → Nat) : Prop where
  get : ∀ i, r.getD i 0 = (c i : Int)
  last : ∀ i, r.length = i + 1 → c i ≠ 0
theorem RepC.nil : RepC [] (fun _ => 0) := ⟨fun i => rfl, fun i h => by simp at h⟩
theorem RepC.congr {r : List Int} {c d : Nat → Nat} (h : RepC r c) (e : ∀ i, c i = d i) : RepC r d := ⟨fun i => by rw [h.get, e], fun i hi => by rw [← e]; exact h.last i hi⟩
theorem RepC.eq {r s : List Int} {c d : Nat → Nat} (h : RepC r c) (k : RepC s d) (e : ∀ i, c i = d i) : r = s := by
  have hl : r.length = s.length := by
    rcases Nat.lt_trichotomy r.length s.length with hlt | heq | hgt
    · exfalso
      obtain ⟨i, hi⟩ : ∃ i, s.length = i + 1 := ⟨s.length - 1, by omega⟩
      have h1 := k.last i hi
      have h2 := h.get i
      rw [gD_ge r 0 (by omega)] at h2
      have := e i
      omega
    · exact heq
    · exfalso
      obtain ⟨i, hi⟩ : ∃ i, r.length = i + 1 := ⟨r.length - 1, by omega⟩
      have h1 := h.last i hi
      have h2 := k.get i
      rw [gD_ge s 0 (by omega)] at h2
      have := e i
      omega
  refine List.ext_getElem hl (fun i h1 h2 => ?_)
  have a := h.get i
  have b := k.get i
  rw [gD_lt r 0 h1] at a
  rw [gD_lt s 0 h2] at b
  rw [a, b, e i]
theorem pad_length (row : List Int) (e : Nat) : (pad row e).length = max row.length (e + 1) := by
  unfold pad; rw [List.length_append, List.length_replicate]; omega
theorem app0_getD (row : List Int) (n i : Nat) : (row ++ List.replicate n (0 : Int)).getD i 0 = row.getD i 0 := by
  by_cases h : i < row.length
  · rw [gD_lt _ _ (by rw [List.length_append]; omega), gD_lt _ _ h, List.getElem_append_left h]
  · rw [gD_ge row 0 (by omega)]
    by_cases h2 : i < (row ++ List.replicate n (0 : Int)).length
    · rw [gD_lt _ _ h2, List.getElem_append_right (by omega), List.getElem_replicate]
    · exact gD_ge _ _ (by omega)
theorem pad_getD (row : List Int) (e i : Nat) : (pad row e).getD i 0 = row.getD i 0 := app0_getD _ _ _
def addAt (row : List Int) (p : Nat) (n : Int) : List Int := (pad row p).set p (wrap64 (rd (pad row p) (p : Int) + n))
theorem bump_eq (row : List Int) (e : Nat) : bump row e = addAt row e 1 := rfl
theorem addAt_length (row : List Int) (p : Nat) (n : Int) : (addAt row p n).length = max row.length (p + 1) := by
  unfold addAt; rw [List.length_set, pad_length]
theorem set_getD (l : List Int) (p i : Nat) (x : Int) (hp : p < l.length) : (l.set p x).getD i 0 = if i = p then x else l.getD i 0 := by
  rw [List.getD_eq_getElem?_getD, List.getElem?_set, List.getD_eq_getElem?_getD]
  by_cases h : p = i
  · subst h; simp [hp]
  · rw [if_neg h, if_neg (fun e => h e.symm)]
theorem addAt_rep {row : List Int} {c : Nat → Nat} {p n : Nat} (h : RepC row c) (hn : 0 < n) (hb : c p + n ≤ 4611686018427387904) : RepC (addAt row p (n : Int)) (fun i => if i = p then c i + n else c i) := by
  have hp : p < (pad row p).length := by rw [pad_length]; omega
  refine ⟨fun i => ?_, fun i hi => ?_⟩
  · unfold addAt
    rw [set_getD _ _ _ _ hp, rd_nat, pad_getD, pad_getD, h.get, h.get]
    by_cases e : i = p
    · rw [if_pos e, if_pos e, e, w64 (by omega) (by omega)]; simp
    · rw [if_neg e, if_neg e]
  · rw [addAt_length] at hi
    by_cases e : i = p
    · rw [if_pos e]; omega
    · rw [if_neg e]; exact h.last i (by omega)
def step (m : Nat) (x : Nat × Nat) : List (Nat × Nat) := (x.1, x.2 + (m - x.1)) :: (List.range (m - x.1)).map fun i => (x.1 + 1, x.2 + i)
def cnt (F : List (Nat × Nat)) (k e : Nat) : Nat := F.count (k, e)
def sumTo : Nat → (Nat → Nat) → Nat
  | 0, _ => 0
  | n + 1, f => sumTo n f + f n
theorem sumTo_add (f g : Nat → Nat) : ∀ n, sumTo n (fun b => f b + g b) = sumTo n f + sumTo n g
  | 0 => rfl
  | n + 1 => by rw [sumTo, sumTo, sumTo, sumTo_add f g n]; omega
theorem sumTo_congr {f g : Nat → Nat} (n : Nat) (h : ∀ b, b < n → f b = g b) : sumTo n f = sumTo n g := by
  induction n with
  | zero => rfl
  | succ n ih => rw [sumTo, sumTo, ih (fun b hb => h b (by omega)), h n (by omega)]
theorem sumTo_zero : ∀ n, sumTo n (fun _ => 0) = 0
  | 0 => rfl
  | n + 1 => by rw [sumTo, sumTo_zero n]
theorem sumTo_le {f : Nat → Nat} {B : Nat} (h : ∀ b, f b ≤ B) : ∀ n, sumTo n f ≤ n * B
  | 0 => by simp [sumTo]
  | n + 1 => by rw [sumTo, Nat.succ_mul]; have := sumTo_le h n; have := h n; omega
theorem sumTo_one (e e0 : Nat) : ∀ n, sumTo n (fun b => if b ≤ e ∧ e - b = e0 then 1 else 0) = if e0 ≤ e ∧ e - e0 < n then 1 else 0
  | 0 => by rw [sumTo, if_neg (by omega)]
  | n + 1 => by
    rw [sumTo, sumTo_one e e0 n]
    by_cases h1 : e0 ≤ e ∧ e - e0 < n
    · rw [if_pos h1, if_neg (by omega), if_pos (by omega)]
    · rw [if_neg h1]
      by_cases h2 : n ≤ e ∧ e - n = e0
      · rw [if_pos h2, if_pos (by omega)]
      · rw [if_neg h2, if_neg (by omega)]
theorem cnt_cons (x : Nat × Nat) (F : List (Nat × Nat)) (k e : Nat) : cnt (x :: F) k e = cnt F k e + if k = x.1 ∧ e = x.2 then 1 else 0 := by
  unfold cnt
  rw [List.count_cons]
  congr 1
  by_cases h : k = x.1 ∧ e = x.2
  · rw [if_pos h, if_pos (by rw [beq_iff_eq]; exact Prod.ext h.1.symm h.2.symm)]
  · rw [if_neg h, if_neg (by rw [beq_iff_eq]; rintro rfl; exact h ⟨rfl, rfl⟩)]
theorem cnt_nil (k e : Nat) : cnt [] k e = 0 := rfl
theorem cnt_append (F G : List (Nat × Nat)) (k e : Nat) : cnt (F ++ G) k e = cnt F k e + cnt G k e := List.count_append
theorem cnt_range (j e0 k e : Nat) : ∀ n, cnt ((List.range n).map fun i => (j, e0 + i)) k e = if k = j ∧ e0 ≤ e ∧ e - e0 < n then 1 else 0
  | 0 => by rw [if_neg (by omega)]; rfl
  | n + 1 => by
    rw [List.range_succ, List.map_append, cnt_append, cnt_range j e0 k e n, List.map_cons, List.map_nil, cnt_cons, cnt_nil, Nat.zero_add]
    simp only []
    by_cases h1 : k = j ∧ e0 ≤ e ∧ e - e0 < n
    · rw [if_pos h1, if_neg (by omega), if_pos (by omega)]
    · rw [if_neg h1]
      by_cases h2 : k = j ∧ e = e0 + n
      · rw [if_pos h2, if_pos (by omega)]
      · rw [if_neg h2, if_neg (by omega)]
def nextC (F : List (Nat × Nat)) (m k e : Nat) : Nat := (if k ≤ m ∧ m - k ≤ e then cnt F k (e - (m - k)) else 0) + (if k = 0 then 0 else sumTo (m + 1 - k) (fun b => if b ≤ e then cnt F (k - 1) (e - b) else 0))
theorem cnt_step (m k e : Nat) : ∀ F : List (Nat × Nat), (∀ x ∈ F, x.1 ≤ m) → cnt (F.flatMap (step m)) k e = nextC F m k e
  | [], _ => by
    unfold nextC
    simp only [List.flatMap_nil, cnt_nil, ite_self, sumTo_zero]
  | x :: F, h => by
    have hx := h x (List.mem_cons_self)
    rw [List.flatMap_cons, cnt_append, cnt_step m k e F (fun y hy => h y (List.mem_cons_of_mem _ hy)), step, cnt_cons, cnt_range]
    simp only []
    have e1 : nextC (x :: F) m k e = nextC F m k e + ((if k ≤ m ∧ m - k ≤ e then (if k = x.1 ∧ e - (m - k) = x.2 then 1 else 0) else 0) + (if k = 0 then 0 else sumTo (m + 1 - k) (fun b => if b ≤ e then (if k - 1 = x.1 ∧ e - b = x.2 then 1 else 0) else 0))) := by
      unfold nextC
      have e2 : (fun b => if b ≤ e then cnt (x :: F) (k - 1) (e - b) else 0) = fun b => (if b ≤ e then cnt F (k - 1) (e - b) else 0) + (if b ≤ e then (if k - 1 = x.1 ∧ e - b = x.2 then 1 else 0) else 0) := by
        funext b
        by_cases hb : b ≤ e
        · rw [if_pos hb, if_pos hb, if_pos hb, cnt_cons]
        · rw [if_neg hb, if_neg hb, if_neg hb]
      rw [e2, sumTo_add, cnt_cons]
      by_cases h1 : k ≤ m ∧ m - k ≤ e
      · rw [if_pos h1, if_pos h1, if_pos h1]
        by_cases h2 : k = 0
        · rw [if_pos h2, if_pos h2, if_pos h2]; omega
        · rw [if_neg h2, if_neg h2, if_neg h2]; omega
      · rw [if_neg h1, if_neg h1, if_neg h1]
        by_cases h2 : k = 0
        · rw [if_pos h2, if_pos h2, if_pos h2]
        · rw [if_neg h2, if_neg h2, if_neg h2]; omega
    rw [e1, Nat.add_comm]
    congr 1
    rw [Nat.add_comm]
    congr 1
    · by_cases h1 : k = x.1 ∧ e = x.2 + (m - x.1)
      · rw [if_pos h1, if_pos (by omega), if_pos (by omega)]
      · rw [if_neg h1]
        by_cases h2 : k ≤ m ∧ m - k ≤ e
        · rw [if_pos h2, if_neg (by omega)]
        · rw [if_neg h2]
    · by_cases h0 : k = 0
      · rw [if_pos h0, if_neg (by omega)]
      · rw [if_neg h0]
        by_cases h1 : k - 1 = x.1
        · rw [sumTo_congr (g := fun b => if b ≤ e ∧ e - b = x.2 then 1 else 0) _ (fun b _ => by
            by_cases hb : b ≤ e
            · rw [if_pos hb]
              by_cases h2 : e - b = x.2
              · rw [if_pos ⟨h1, h2⟩, if_pos ⟨hb, h2⟩]
              · rw [if_neg (by omega), if_neg (by omega)]
            · rw [if_neg hb, if_neg (by omega)]), sumTo_one]
          by_cases h3 : x.2 ≤ e ∧ e - x.2 < m + 1 - k
          · rw [if_pos h3, if_pos (by omega)]
          · rw [if_neg h3, if_neg (by omega)]
        · rw [sumTo_congr (g := fun _ => 0) _ (fun b _ => by
            by_cases hb : b ≤ e
            · rw [if_pos hb, if_neg (by omega)]
            · rw [if_neg hb]), sumTo_zero, if_neg (by omega)]
def Fk (l : List Int) : Nat → List (Nat × Nat)
  | 0 => [(0, 0)]
  | r + 1 => (Fk l r).flatMap (step (l.getD r 0).toNat)
def Gk (l : List Int) : Nat → Nat → Nat × Nat → List (Nat × Nat)
  | 0, _, x => [x]
  | d + 1, r, x => (step (l.getD r 0).toNat x).flatMap (Gk l d (r + 1))
theorem flat_self {α : Type} : ∀ F : List α, F.flatMap (fun x => [x]) = F
  | [] => rfl
  | x :: F => by rw [List.flatMap_cons, flat_self F]; rfl
theorem F_G (l : List Int) : ∀ d r, (Fk l r).flatMap (Gk l d r) = Fk l (r + d)
  | 0, r => flat_self _
  | d + 1, r => by
    have e : Gk l (d + 1) r = fun x => (step (l.getD r 0).toNat x).flatMap (Gk l d (r + 1)) := rfl
    rw [e, ← List.flatMap_assoc, show r + (d + 1) = r + 1 + d by omega, ← F_G l d (r + 1)]
    rfl
theorem step_len {m : Nat} (hm : m ≤ 6) (x : Nat × Nat) : (step m x).length ≤ 7 := by
  unfold step; rw [List.length_cons, List.length_map, List.length_range]; omega
theorem flat_len {α β : Type} {f : α → List β} {B : Nat} : ∀ F : List α, (∀ x ∈ F, (f x).length ≤ B) → (F.flatMap f).length ≤ F.length * B
  | [], _ => by simp
  | x :: F, h => by
    rw [List.flatMap_cons, List.length_append, List.length_cons, Nat.succ_mul]
    have h1 := h x List.mem_cons_self
    have h2 := flat_len F (fun y hy => h y (List.mem_cons_of_mem _ hy))
    omega
theorem Fk_len {l : List Int} (hm : ∀ r, (l.getD r 0).toNat ≤ 6) : ∀ r, (Fk l r).length ≤ 7 ^ r
  | 0 => by simp [Fk]
  | r + 1 => by
    rw [Fk, Nat.pow_succ]
    exact Nat.le_trans (flat_len _ (fun x _ => step_len (hm r) x)) (Nat.mul_le_mul_right _ (Fk_len hm r))
theorem Fk_rooks {l : List Int} : ∀ r x, x ∈ Fk l r → x.1 ≤ r ∧ (∀ m : Nat, (∀ i, i < r → (l.getD i 0).toNat ≤ m) → x.1 ≤ m)
  | 0, x, h => by rw [Fk, List.mem_singleton] at h; subst h; exact ⟨Nat.le_refl _, fun m _ => Nat.zero_le _⟩
  | r + 1, x, h => by
    rw [Fk, List.mem_flatMap] at h
    obtain ⟨y, hy, hx⟩ := h
    obtain ⟨q1, q2⟩ := Fk_rooks r y hy
    rw [step, List.mem_cons, List.mem_map] at hx
    rcases hx with rfl | ⟨i, hi, rfl⟩
    · exact ⟨by simp only []; omega, fun m hm => q2 m (fun i hi => hm i (by omega))⟩
    · rw [List.mem_range] at hi
      exact ⟨by simp only []; omega, fun m hm => by have := hm r (by omega); simp only []; omega⟩
def fr (t : Nat) : Nat → Nat
  | 0 => 0
  | x + 1 => fr t x + if t.testBit x then 0 else 1
theorem rowFree_fr {q : List Int} {r t X m : Nat} (ht : ∀ c, c < m → taken q r c = (decide (X ≤ c) || t.testBit c)) : ∀ (d c : Nat) (n : Int), c + d = m → rowFree q r d c n = n + ((fr t (min m X) : Int) - fr t (min c X))
  | 0, c, n, h => by rw [rowFree, show c = m by omega]; omega
  | d + 1, c, n, h => by
    rw [rowFree, rowFree_fr ht d (c + 1) _ (by omega), ht c (by omega)]
    by_cases h1 : X ≤ c
    · rw [decide_eq_true h1, Bool.true_or, if_pos rfl, show min (c + 1) X = min c X by omega]
    · rw [decide_eq_false h1, Bool.false_or, show min (c + 1) X = c + 1 by omega, show min c X = c by omega, fr]
      by_cases h2 : t.testBit c = true
      · rw [if_pos h2, if_pos h2, Nat.add_zero]
      · rw [if_neg h2, if_neg h2]; omega
theorem fr_or {t c : Nat} (hc : t.testBit c = false) : ∀ x, c < x → fr (t ||| 2 ^ c) x + 1 = fr t x
  | 0, h => by omega
  | x + 1, h => by
    have low : ∀ y, y ≤ c → fr (t ||| 2 ^ c) y = fr t y := by
      intro y
      induction y with
      | zero => intro _; rfl
      | succ y ih =>
        intro hy
        rw [fr, fr, ih (by omega), Nat.testBit_or, Nat.testBit_two_pow, decide_eq_false (show ¬ c = y by omega), Bool.or_false]
    by_cases e : c = x
    · subst e
      rw [fr, fr, low c (Nat.le_refl _), Nat.testBit_or, Nat.testBit_two_pow_self, Bool.or_true, if_pos rfl, hc]
      simp
    · have ih := fr_or hc x (by omega)
      rw [fr, fr, Nat.testBit_or, Nat.testBit_two_pow, decide_eq_false (show ¬ c = x by omega), Bool.or_false]
      omega
theorem ways_pre (rows : List Int) (C : Nat) : ∀ (d r t : Nat) (pre : List Int), ∀ q ∈ waysFrom rows C d r t pre, ∃ s, q = pre ++ s ∧ s.length = d
  | 0, r, t, pre, q, hq => by rw [waysFrom, List.mem_singleton] at hq; exact ⟨[], by simp [hq], rfl⟩
  | d + 1, r, t, pre, q, hq => by
    rw [waysFrom, List.mem_flatMap] at hq
    obtain ⟨c, hc, hq⟩ := hq
    unfold colWays at hq
    split at hq
    · obtain ⟨s, h1, h2⟩ := ways_pre rows C d (r + 1) _ _ q hq
      exact ⟨c :: s, by rw [h1]; simp, by simp [h2]⟩
    · split at hq
      · obtain ⟨s, h1, h2⟩ := ways_pre rows C d (r + 1) _ _ q hq
        exact ⟨c :: s, by rw [h1]; simp, by simp [h2]⟩
      · cases hq
theorem cell_rows {l : List Int} {r c : Nat} (hr : r < l.length) (h0 : 0 ≤ l.getD r 0) : cell (rowsOf l) r c = decide (c < (l.getD r 0).toNat) := by
  unfold cell rowsOf
  rw [gD_lt _ _ (by simpa using hr), List.getElem_map, gD_lt _ _ hr]
  have e : ((2 : Int) ^ l[r].toNat - 1).toNat = 2 ^ l[r].toNat - 1 := by
    have : 0 < 2 ^ l[r].toNat := Nat.two_pow_pos _
    have e2 : ((2 ^ l[r].toNat : Nat) : Int) = 2 ^ l[r].toNat := by simp
    omega
  rw [e, Nat.testBit_two_pow_sub_one]
def keyFrom (l : List Int) (r : Nat) (n : Int) (q : List Int) : Nat × Nat := (rooksN q, (allFree q (l.drop r) r n).toNat)
theorem rooksN_snoc (pre : List Int) (x : Int) : rooksN (pre ++ [x]) = rooksN pre + if x = -1 then 0 else 1 := by
  unfold rooksN
  rw [List.countP_append, List.countP_singleton]
  by_cases h : x = -1 <;> simp [h]
theorem keyFrom_next {l : List Int} {r t X m C d t2 : Nat} {n x : Int} {pre : List Int} (hr : r < l.length) (hp : pre.length = r) (hm : (l.getD r 0).toNat = m)
    (ht : ∀ c : Nat, t.testBit c = decide ((c : Int) ∈ pre)) (hX : ∀ c : Nat, c < m → (decide (x ≠ -1) && decide (x ≤ c)) = decide (X ≤ c)) {q : List Int} (hq : q ∈ waysFrom (rowsOf l) C d (r + 1) t2 (pre ++ [x])) :
    keyFrom l r n q = keyFrom l (r + 1) (n + fr t (min m X)) q := by
  obtain ⟨s, rfl, hs⟩ := ways_pre _ _ _ _ _ _ q hq
  unfold keyFrom
  rw [List.drop_eq_getElem_cons hr, allFree]
  have e1 : (pre ++ [x] ++ s).getD r 0 = x := by
    rw [List.append_assoc, gD_lt _ _ (by simp; omega), List.getElem_append_right (by omega)]; simp [hp]
  have e2 : (pre ++ [x] ++ s).take r = pre := by rw [List.append_assoc, List.take_left' hp]
  have e3 : l[r].toNat = m := by rw [← gD_lt l 0 hr]; exact hm
  have e4 := rowFree_fr (q := pre ++ [x] ++ s) (r := r) (t := t) (X := X) (m := m) (fun c hc => by
    unfold taken
    rw [e1, e2, ht c, hX c hc]) m 0 n (by omega)
  rw [e3, e4, Nat.zero_min]
  rw [show fr t 0 = 0 from rfl]
  congr 3
theorem ways_key {l : List Int} (hlen : ∀ i, i < l.length → 0 ≤ l.getD i 0 ∧ l.getD i 0 ≤ l.length) (hrise : ∀ i, i + 1 < l.length → l.getD i 0 ≤ l.getD (i + 1) 0) :
    ∀ (d r t : Nat) (pre : List Int) (n : Nat), r + d = l.length → pre.length = r → (∀ c : Nat, t.testBit c = decide ((c : Int) ∈ pre)) → (∀ c : Nat, t.testBit c = true → r < l.length → (c : Int) < l.getD r 0) →
      (∀ x : Nat, (∀ c : Nat, t.testBit c = true → c < x) → fr t x + rooksN pre = x) →
      (waysFrom (rowsOf l) l.length d r t pre).map (keyFrom l r n) = Gk l d r (rooksN pre, n)
  | 0, r, t, pre, n, hr, hp, ht, hlt, hfr => by
    rw [waysFrom, Gk, List.map_singleton, keyFrom, List.drop_eq_nil_of_le (by omega)]
    rfl
  | d + 1, r, t, pre, n, hr, hp, ht, hlt, hfr => by
    have hr2 : r < l.length := by omega
    obtain ⟨b1, b2⟩ := hlen r hr2
    obtain ⟨m, hm⟩ : ∃ m, m = (l.getD r 0).toNat := ⟨_, rfl⟩
    have hfm : fr t m + rooksN pre = m := hfr m (fun c hc => by have := hlt c hc hr2; omega)
    have hnxt : ∀ c : Nat, (c : Int) < l.getD r 0 → r + 1 < l.length → (c : Int) < l.getD (r + 1) 0 := fun c hc h => by have := hrise r h; omega
    have hit : ∀ x, x ≤ l.length → (iota 0 x).flatMap (fun c => (colWays (rowsOf l) r t pre (waysFrom (rowsOf l) l.length d (r + 1)) c).map (keyFrom l r n)) = (List.range (fr t (min m x))).flatMap (fun i => Gk l d (r + 1) (rooksN pre + 1, n + i)) := by
      intro x
      induction x with
      | zero => intro _; rw [Nat.min_zero]; rfl
      | succ x ih =>
        intro hx
        rw [iota_snoc, List.flatMap_append, ih (by omega), List.flatMap_cons, List.flatMap_nil, List.append_nil, Int.zero_add]
        have hcell := cell_rows (l := l) (r := r) (c := x) hr2 b1
        unfold colWays
        rw [if_neg (by omega), Int.toNat_natCast, hcell, ← hm]
        by_cases h1 : x < m
        · rw [decide_eq_true h1, Bool.true_and, show min m (x + 1) = x + 1 by omega, show min m x = x by omega, fr]
          by_cases h2 : t.testBit x = true
          · rw [h2, if_neg (by simp), if_pos rfl, Nat.add_zero]; simp
          · have h2f : t.testBit x = false := by simpa using h2
            rw [h2f, if_pos (by simp), if_neg (by simp), List.range_succ, List.flatMap_append, List.flatMap_cons, List.flatMap_nil, List.append_nil]
            congr 1
            have hnm : ¬ (x : Int) ∈ pre := by have := ht x; rw [h2f] at this; simpa using this.symm
            have e5 := List.map_congr_left (f := keyFrom l r n) (g := keyFrom l (r + 1) ((n + fr t x : Nat) : Int)) (l := waysFrom (rowsOf l) l.length d (r + 1) (t ||| 2 ^ x) (pre ++ [(x : Int)])) (fun q hq => by
              have := keyFrom_next (n := n) (X := x) hr2 hp hm.symm ht (fun c hc => by
                rw [decide_eq_true (show (x : Int) ≠ -1 by omega), Bool.true_and]
                exact decide_eq_decide.2 (by omega)) hq
              rw [this, show min m x = x by omega]
              simp)
            rw [e5]
            have ih2 := ways_key hlen hrise d (r + 1) (t ||| 2 ^ x) (pre ++ [(x : Int)]) (n + fr t x) (by omega) (by simp; omega)
              (fun c => by
                rw [Nat.testBit_or, ht c, Nat.testBit_two_pow, ← Bool.decide_or]
                apply decide_eq_decide.2
                rw [List.mem_append, List.mem_singleton]
                constructor
                · rintro (h | h)
                  · exact .inl h
                  · exact .inr (by omega)
                · rintro (h | h)
                  · exact .inl h
                  · exact .inr (by omega))
              (fun c hc h => by
                rw [Nat.testBit_or, Nat.testBit_two_pow, Bool.or_eq_true] at hc
                rcases hc with hc | hc
                · exact hnxt c (hlt c hc hr2) h
                · have : x = c := of_decide_eq_true hc
                  exact hnxt c (by omega) h)
              (fun y hy => by
                rw [rooksN_snoc, if_neg (by omega)]
                have q1 := hy x (by rw [Nat.testBit_or, Nat.testBit_two_pow_self, Bool.or_true])
                have q2 := fr_or h2f y q1
                have q3 := hfr y (fun c hc => hy c (by rw [Nat.testBit_or, hc, Bool.true_or]))
                omega)
            rw [ih2, rooksN_snoc, if_neg (by omega)]
        · rw [decide_eq_false h1, Bool.false_and, if_neg (by simp), show min m (x + 1) = min m x by omega]; simp
    have e0 : iota (-1) (l.length + 1) = (-1) :: iota 0 l.length := rfl
    rw [waysFrom, List.map_flatMap, e0, List.flatMap_cons, hit l.length (Nat.le_refl _), Gk, ← hm, step, List.flatMap_cons, List.flatMap_map]
    simp only []
    have hmn : m ≤ l.length := by omega
    rw [Nat.min_eq_left hmn, show m - rooksN pre = fr t m by omega]
    congr 1
    have e5 := List.map_congr_left (f := keyFrom l r n) (g := keyFrom l (r + 1) ((n + fr t m : Nat) : Int)) (l := waysFrom (rowsOf l) l.length d (r + 1) t (pre ++ [(-1 : Int)])) (fun q hq => by
      have := keyFrom_next (n := n) (X := m) hr2 hp hm.symm ht (fun c hc => by
        rw [decide_eq_false (show ¬ (-1 : Int) ≠ -1 by simp), Bool.false_and]
        exact (decide_eq_false (by omega)).symm) hq
      rw [this, Nat.min_self]
      simp)
    unfold colWays
    rw [if_pos (by omega), e5, ways_key hlen hrise d (r + 1) t (pre ++ [(-1 : Int)]) (n + fr t m) (by omega) (by simp; omega)
      (fun c => by
        rw [ht c]
        apply decide_eq_decide.2
        rw [List.mem_append, List.mem_singleton]
        constructor
        · exact .inl
        · rintro (h | h)
          · exact h
          · omega)
      (fun c hc h => hnxt c (hlt c hc hr2) h)
      (fun y hy => by rw [rooksN_snoc, if_pos rfl]; exact hfr y hy)]
    rw [rooksN_snoc, if_pos rfl]
    rfl
theorem ways_keys {l : List Int} (h : lenB l = true) : (waysFrom (rowsOf l) l.length l.length 0 0 []).map (keyFrom l 0 0) = Fk l l.length := by
  obtain ⟨h1, h2, h3⟩ := len_of h
  have hr : riseFrom l 1 = true := by unfold lenB at h; simp only [Bool.and_eq_true] at h; exact h.2
  have e := ways_key (l := l) (fun i hi => by rw [gD_lt _ _ hi]; exact h3 i hi) (fun i hi => of_decide_eq_true hr i (by omega) (by omega)) l.length 0 0 [] 0 (by omega) rfl (fun c => by simp) (fun c hc => by simp at hc) (fun x hx => by
    have : ∀ y, fr 0 y = y := by
      intro y
      induction y with
      | zero => rfl
      | succ y ih => rw [fr, ih]; simp
    rw [this]; rfl)
  have e2 := F_G l l.length 0
  rw [Nat.zero_add] at e2
  rw [← e2, Fk, List.flatMap_cons, List.flatMap_nil, List.append_nil]
  exact e
structure RepT (n : Nat) (out : List (List Int)) (F : List (Nat × Nat)) : Prop where
  len : out.length = n + 1
  rep : ∀ k, k ≤ n → RepC (out.getD k []) (cnt F k)
theorem RepT.eq {n : Nat} {a b : List (List Int)} {F : List (Nat × Nat)} (h : RepT n a F) (k : RepT n b F) : a = b := by
  refine List.ext_getElem (by rw [h.len, k.len]) (fun i h1 h2 => ?_)
  have hi : i ≤ n := by have := h.len; omega
  have := (h.rep i hi).eq (k.rep i hi) (fun _ => rfl)
  rwa [gD_lt _ _ h1, gD_lt _ _ h2] at this
theorem RepT.start (n : Nat) : RepT n (List.replicate (n + 1) []) [] := by
  refine ⟨by simp, fun k hk => ?_⟩
  rw [gD_lt _ _ (by simp; omega), List.getElem_replicate]
  exact RepC.nil
def tab (l : List Int) (out : List (List Int)) (p : List Int) : List (List Int) := out.set (rooksN p) (bump (out.getD (rooksN p) []) (allFree p l 0 0).toNat)
theorem RepT.tab {n : Nat} {l : List Int} {out : List (List Int)} {F : List (Nat × Nat)} {p : List Int} (h : RepT n out F) (hp : rooksN p ≤ n) (hF : F.length ≤ 1000000) : RepT n (tab l out p) (F ++ [keyFrom l 0 0 p]) := by
  refine ⟨by unfold BagK.tab; rw [List.length_set]; exact h.len, fun k hk => ?_⟩
  have hkl : rooksN p < out.length := by rw [h.len]; omega
  have hc : ∀ k e, cnt F k e ≤ 1000000 := fun k e => Nat.le_trans (List.count_le_length) hF
  unfold BagK.tab
  rw [List.getD_eq_getElem?_getD, List.getElem?_set]
  by_cases e : rooksN p = k
  · rw [if_pos e, if_pos hkl, Option.getD_some, bump_eq]
    have := addAt_rep (p := (allFree p l 0 0).toNat) (n := 1) (h.rep (rooksN p) (by omega)) (by omega) (by have := hc (rooksN p) (allFree p l 0 0).toNat; omega)
    refine RepC.congr this (fun i => ?_)
    rw [cnt_append, cnt_cons, cnt_nil, Nat.zero_add, e, keyFrom, List.drop_zero]
    simp only []
    by_cases hi : i = (allFree p l 0 0).toNat
    · rw [if_pos hi, if_pos ⟨e.symm, hi⟩]
    · rw [if_neg hi, if_neg (fun h => hi h.2)]; rfl
  · rw [if_neg e, ← List.getD_eq_getElem?_getD]
    refine RepC.congr (h.rep k hk) (fun i => ?_)
    rw [cnt_append, cnt_cons, cnt_nil, Nat.zero_add, keyFrom]
    simp only []
    rw [if_neg (fun h => e h.1.symm), Nat.add_zero]
theorem RepT.fold {n : Nat} {l : List Int} : ∀ (V : List (List Int)) {out : List (List Int)} {F : List (Nat × Nat)}, RepT n out F → (∀ p ∈ V, rooksN p ≤ n) → F.length + V.length ≤ 1000000 → RepT n (V.foldl (BagK.tab l) out) (F ++ V.map (keyFrom l 0 0))
  | [], out, F, h, _, _ => by simpa using h
  | p :: V, out, F, h, hp, hF => by
    rw [List.length_cons] at hF
    have := RepT.fold (l := l) V (h.tab (l := l) (hp p List.mem_cons_self) (by omega)) (fun q hq => hp q (List.mem_cons_of_mem _ hq)) (by rw [List.length_append, List.length_singleton]; omega)
    rw [List.foldl_cons, List.map_cons]
    rwa [List.append_assoc, List.singleton_append] at this
def wtab (l : List Int) : List (List Int) := (waysFrom (rowsOf l) l.length l.length 0 0 []).foldl (BagK.tab l) (List.replicate (l.length + 1) [])
theorem rooksN_le (p : List Int) : rooksN p ≤ p.length := List.countP_le_length
theorem ways_len6 {l : List Int} (h : lenB l = true) : (waysFrom (rowsOf l) l.length l.length 0 0 []).length ≤ 117649 := by
  obtain ⟨h1, h2, h3⟩ := len_of h
  have a := ways_len (rowsOf l) l.length l.length 0 0 []
  have b : ∀ R : Fin 7, (R.val + 1) ^ R.val ≤ 117649 := by decide
  have c := b ⟨l.length, by omega⟩
  simp only [] at c
  omega
theorem wtab_rep {l : List Int} (h : lenB l = true) : RepT l.length (wtab l) (Fk l l.length) := by
  have hl := ways_len6 h
  have := RepT.fold (n := l.length) (l := l) (waysFrom (rowsOf l) l.length l.length 0 0 []) (RepT.start l.length) (fun p hp => by
    obtain ⟨s, h1, h2⟩ := ways_pre _ _ _ _ _ _ p hp
    have := rooksN_le p
    rw [h1, List.nil_append] at this
    rw [h1, List.nil_append]
    omega) (by simp; omega)
  rw [ways_keys h, List.nil_append] at this
  exact this
end Go.Proofs.Ytadkkcdhgepbkaa.BagK
end
section
namespace Go.Proofs.Ytadkkcdhgepbkaa.Q
set_option linter.unusedVariables false
open Go.RowKit Go.Proofs.YtadkkcdhgepbkaaW.PrintWords Go.Proofs.YtadkkcdhgepbkaaW.PrintLast Go.Proofs.YtadkkcdhgepbkaaW.PrintMore
open Go.Proofs.YtadkkcdhgepbkaaL Go.Proofs.Ytadkkcdhgepbkaa.LawK Go.Proofs.Ytadkkcdhgepbkaa.BoardK Go.Proofs.Ytadkkcdhgepbkaa.Walk Go.Proofs.Ytadkkcdhgepbkaa.LensK Go.Proofs.Ytadkkcdhgepbkaa.FreeK Go.Proofs.Ytadkkcdhgepbkaa.BagK
def impl_weights.f (l0 : List Int) : Option (List (List Int)) := if lenB l0 = true then some (wtab l0) else none
def OkW (n : Nat) (S : Nat → Prop) (gl go ab i : Nat) : Prop := n ≤ i ∧ ¬ S i ∧ i ≠ gl ∧ i ≠ go ∧ i ≠ ab
structure WInv (gl go g c1 ab cb : Nat) (l : List Int) (A0 : Option Addr) (c0 : Nat) (w0 W : World) (S : Nat → Prop) (vis : List (List Int)) (w : World) : Prop where
  cl : w.heap[gl]? = some (.cells #[.slice A0 l.length c0] 29 (0, 0))
  o : w.heap[go]? = some (.cells #[.slice (some ⟨g, 0, none⟩) (l.length + 1) c1] 24 (0, 0))
  b : Kd.R (Kd.int .i64) 3 w 0 (fun i => i = ab) (.slice (some ⟨ab, 0, none⟩) l.length cb) (rowsOf l)
  r : Kd.S (Kd.slice 3 (Kd.int .i64)) 29 w w0.heap.size (OkW w0.heap.size S gl go ab) (.slice (some ⟨g, 0, none⟩) (l.length + 1) c1) (vis.foldl (tab l) (List.replicate (l.length + 1) []))
  B : Below w0.heap.size w0 w
  s : ∀ i, S i → W.heap.size ≤ i
theorem allFree_bd (p : List Int) : ∀ (l : List Int) (i : Nat) (n : Int), (∀ x ∈ l, x ≤ 6) → n ≤ allFree p l i n ∧ allFree p l i n ≤ n + 6 * l.length
  | [], i, n, _ => by simp [allFree]
  | m :: t, i, n, h => by
    have h1 := rowFree_bound p i m.toNat 0 n
    have h2 := allFree_bd p t (i + 1) (rowFree p i m.toNat 0 n) (fun x hx => h x (List.mem_cons_of_mem _ hx))
    have h3 := h m List.mem_cons_self
    rw [allFree, List.length_cons]
    omega
theorem two_ev {α β : Type} {f : Nat → Option α} {g : Nat → Option β} {a : α} {b : β} (h : Ev f a) (k : Ev g b) : ∃ n, f n = some a ∧ g n = some b := by
  obtain ⟨K, h⟩ := h
  obtain ⟨K', k⟩ := k
  exact ⟨max K K', h _ (by omega), k _ (by omega)⟩
theorem rowsOf_bits {l : List Int} (h : lenB l = true) : ∀ i (hi : i < (rowsOf l).length), 0 ≤ (rowsOf l)[i] ∧ (rowsOf l)[i] < 2 ^ l.length := by
  obtain ⟨h1, h2, h3⟩ := len_of h
  intro i hi
  have hi2 : i < l.length := by simpa [rowsOf] using hi
  have h4 := h3 i hi2
  have e : (rowsOf l)[i] = 2 ^ l[i].toNat - 1 := by simp [rowsOf]
  have h5 : 2 ^ l[i].toNat ≤ 2 ^ l.length := Nat.pow_le_pow_right (by decide) (by omega)
  have h6 : 0 < 2 ^ l[i].toNat := Nat.two_pow_pos _
  have h7 : ((2 ^ l[i].toNat : Nat) : Int) = 2 ^ l[i].toNat := by simp
  have h8 : ((2 ^ l.length : Nat) : Int) = 2 ^ l.length := by simp
  rw [e]
  omega
set_option maxHeartbeats 8000000 in
set_option maxRecDepth 100000 in
theorem impl_weights.calls (A0 : Option Addr) (c0 : Nat) (l0 : List Int) (r : List (List Int)) (w : World) (hr0 : Kd.C (Kd.int .i64) w A0 l0.length l0) (hc0 : l0.length ≤ c0) (h : impl_weights.f l0 = some r) :
    Calls Try.prog 57 #[.slice A0 l0.length c0] w fun e w' => ∃ v0_ : Value, e = .returned (v0_) ∧ Kd.S (Kd.slice 3 (Kd.int .i64)) 29 w' w.heap.size (fun _ => True) v0_ r ∧ Below w.heap.size w w' := by
  by_cases hs : lenB l0 = true
  rotate_left
  · rw [impl_weights.f, if_neg hs] at h; cases h
  rw [impl_weights.f, if_pos hs] at h
  have h := Option.some.inj h
  obtain ⟨h1, h6, h3⟩ := len_of hs
  have hx6 : ∀ x ∈ l0, x ≤ 6 := fun x hx => by obtain ⟨i, hi, rfl⟩ := List.mem_iff_getElem.1 hx; have := h3 i hi; omega
  have rl : (rowsOf l0).length = l0.length := by simp [rowsOf]
  obtain ⟨kb, hkb⟩ := (impl_board hs).rounds
  have CB := Lib.hid (fun (W : World) (hb : Below w.heap.size w W) => by
    have := impl_boardOf.calls kb A0 c0 l0 _ _ _ W (Kd.C_below hr0 hb) hc0 hkb
    exact this)
  have KEY : ∀ (W : World) (gl go g c1 ab cb : Nat), Below w.heap.size w W → w.heap.size ≤ gl → w.heap.size ≤ go → gl < W.heap.size → go < W.heap.size → ab < W.heap.size → gl ≠ go → gl ≠ ab → go ≠ ab → l0.length ≤ cb → 
      WInv gl go g c1 ab cb l0 A0 c0 w W (fun _ => False) [] W →
      Calls Try.prog 75 #[.agg #[.int .i64 (l0.length : Int), .int .i64 (l0.length : Int), .slice (some ⟨ab, 0, none⟩) l0.length cb], .func (.func 76) #[] #[.pointer (some ⟨gl, 0, none⟩), .pointer (some ⟨go, 0, none⟩)]] W fun e w' => e = .returned (.tuple #[]) ∧
        ∃ v, w'.heap[go]? = some (.cells #[v] 24 (0, 0)) ∧ Kd.S (Kd.slice 3 (Kd.int .i64)) 29 w' w.heap.size (fun _ => True) v r ∧ Below w.heap.size w w' := by
    intro W gl go g c1 ab cb hBW bl bo ll lo lb nlo nla noa hcb hst
    have key := WalkW.walk_calls (WInv gl go g c1 ab cb l0 A0 c0 w W)
      (by
        intro S vis w1 w2 hi hs1
        have kp : ∀ g, g < W.heap.size → ∀ {o}, w1.heap[g]? = some o → w2.heap[g]? = some o := fun g hg o ho => (hs1.kept.2 g (blk_lt ho) (fun h => by have := hi.s g h; omega)).trans ho
        exact ⟨kp gl ll hi.cl, kp go lo hi.o, Kd.R_step hi.b (fun i hi' hlt => by subst hi'; exact hs1.kept.2 _ hlt (fun h => by have := hi.s _ h; omega)), Kd.S_step hi.r (fun i hi' hlt => hs1.kept.2 i hlt hi'.2.1), Still.below hi.B hs1 (fun i h => Nat.le_trans hBW.size (hi.s i h)), hi.s⟩)
      l0.length l0.length l0.length l0.length rfl rfl (rowsOf l0) (some ⟨ab, 0, none⟩) cb (by rw [rl]; exact hcb) (.pointer (some ⟨gl, 0, none⟩)) (.pointer (some ⟨go, 0, none⟩))
      (fun S vis w1 hi => by have := (Kd.R_reads' hi.b).2.2; exact this)
      rl h1 h6 h6 (rowsOf_bits hs) W
      (by
        intro S w1 hS hB1
        exact ⟨blk_below hst.cl hB1, blk_below hst.o hB1, Kd.R_below hst.b hB1, Kd.S_below (Kd.S_mono (Kd.S_bound hst.r) (fun i hi' => ⟨hi'.1.1, fun h => by have := hS i h; have := hi'.2.2.1; omega, hi'.1.2.2⟩)) hB1, hBW.trans (hB1.mono hBW.size), hS⟩)
      (by
        intro S vis ps w1 a cp hS hSlt hps hmem hSa hC hcp hi
        obtain ⟨b, hb2⟩ := hmem
        have hwl := ways_len6 hs
        rw [hb2, List.length_append, List.length_cons] at hwl
        have hvp : ∀ p ∈ vis, rooksN p ≤ l0.length := fun p hp => by
          obtain ⟨s, e1, e2⟩ := ways_pre (rowsOf l0) l0.length l0.length 0 0 [] p (by rw [hb2]; exact List.mem_append_left _ hp)
          have := rooksN_le p
          rw [e1, List.nil_append] at this ⊢
          omega
        have hT := RepT.fold (n := l0.length) (l := l0) vis (RepT.start l0.length) hvp (by simp; omega)
        rw [List.nil_append] at hT
        have hrk := rooksN_le ps
        have hfb := allFree_bd ps l0 0 0 hx6
        obtain ⟨eI, heI⟩ : ∃ eI : Nat, allFree ps l0 0 0 = eI := ⟨(allFree ps l0 0 0).toNat, by omega⟩
        have hev1 : Ev (fun k => impl_rooks.f k ps) (rooksN ps : Int) := by
          have h := rooks_l0 (l := ps) (by omega) ps.length 0 0 (by omega) (by omega)
          rw [List.drop_zero, Nat.zero_add] at h
          exact h
        have hev2 : Ev (fun k => impl_free.f k l0 ps) (eI : Int) := by
          have h := impl_rows (l := l0) (p := ps) h6 (fun i hi => by have := h3 i hi; omega) hps l0.length 0 0 (by omega) (by omega) (by omega)
          rw [List.drop_zero, heI] at h
          exact h
        obtain ⟨kk, hk1, hk2⟩ := two_ev hev1 hev2
        have hir := hi.r
        have hio := hi.o
        obtain ⟨out, hout⟩ : ∃ out, out = vis.foldl (tab l0) (List.replicate (l0.length + 1) []) := ⟨_, rfl⟩
        rw [← hout] at hT hir
        have hlen := hT.len
        have hkl : rooksN ps < out.length := by omega
        have hrow : out[rooksN ps]? = some (out.getD (rooksN ps) []) := by
          rw [List.getD_eq_getElem?_getD, List.getElem?_eq_getElem hkl]; rfl
        have hrep := hT.rep (rooksN ps) (by omega)
        have hshort : (out.getD (rooksN ps) []).length ≤ 1000 := by
          rcases Nat.eq_zero_or_pos (out.getD (rooksN ps) []).length with q | q
          · omega
          · have hne := hrep.last ((out.getD (rooksN ps) []).length - 1) (by omega)
            have hin := List.count_pos_iff.1 (Nat.pos_of_ne_zero hne)
            obtain ⟨p, hp, hpe⟩ := List.mem_map.1 hin
            have hpb := allFree_bd p l0 0 0 hx6
            unfold keyFrom at hpe
            rw [List.drop_zero] at hpe
            have := congrArg Prod.snd hpe
            simp only [] at this
            omega
        have hlo : l0.length + 1 = out.length := hlen.symm
        rw [hlo] at hio hir
        have hww : w.heap.size ≤ w1.heap.size := hi.B.size
        refine (W1.w1_calls (rooksN ps) eI l0.length cp a gl go w.heap.size kk g c1 l0 ps out A0 c0 _ (OkW w.heap.size S gl go ab) w1 hps hcp hc0 hC (Kd.C_below hr0 hi.B) hi.cl hio (fun k h => h.2.2.2.1) hww (fun k hk' => ⟨Nat.le_trans hww hk', fun h => by have := hSlt k h; omega, fun h => by have := blk_lt hi.cl; omega, fun h => by have := blk_lt hi.o; omega, fun h => by obtain ⟨cells, hc⟩ := Kd.R_typed hi.b ab rfl; have := blk_lt hc; omega⟩) hir hkl (by omega) hrow hshort (by omega) hk1 hk2).mono ?_
        rintro e w2 ⟨rfl, hS2, hK, hB2⟩
        refine ⟨rfl, ⟨blk_kept hi.cl hK (fun h => h.2.2.1 rfl), blk_kept hi.o hK (fun h => h.2.2.2.1 rfl), Kd.R_step hi.b (fun i hi' hlt => by subst hi'; exact hK.2 _ hlt (fun h => h.2.2.2.2 rfl)), ?_, hi.B.trans hB2, hi.s⟩, fun i hSi hlt => hK.2 i hlt (fun h => h.2.1 hSi)⟩
        rw [List.foldl_append, List.foldl_cons, List.foldl_nil, ← hout]
        rw [← hlo] at hS2
        unfold tab
        rw [heI]
        exact hS2)
    rw [rl] at key
    refine key.mono ?_
    rintro e w' ⟨rfl, S, hS, hi⟩
    exact ⟨rfl, _, hi.o, by rw [← h]; exact Kd.S_mono hi.r (fun _ _ => trivial), hi.B⟩
  have KX := Lib.hid KEY
  have HL := Aside0.mk (And.intro h1 (And.intro h6 rl))
  obtain ⟨ji, hji⟩ : ∃ j_ : Int, (wrap64 ((l0.length : Int) + 1)) = j_ := ⟨_, rfl⟩
  have hjiw : (IntKind.i64.wrap ((l0.length : Int) + 1)) = ji := (i64_w _).trans hji
  have hj2 : ji = ((l0.length + 1 : Nat) : Int) := by rw [← hji, w64 (by omega) (by omega)]; rfl
  have HJ := Aside0.mk hj2
  have hj0 : decide (0 ≤ ji) = true := decide_eq_true (by omega)
  clear KEY h hs h1 h6 h3 hx6 rl hkb hr0 hc0 hj2 hji
  have hu79 := Try.underlying73
  go_enter Try.func57, Try.ntmps57
  go_wp2_with (first
    | ((with_reducible refine gate_dst (N := 1) rfl ?_); refine box_event ?hg (N := 1) ?hd (cs := #[.slice A0 l0.length c0]) (t := 29) ?hr ?_; (case hd => rfl); (case hg => rfl); (case hr => first | (go_simp; done) | (go_simp; rfl)); intro gl hg w1 hbox hb; have G1 := Aside0.mk hg; have K1 := Aside0.mk hbox; have B1 := Aside0.mk hb; clear hg hbox hb; have z1 : w1.cell? ⟨gl, 0, none⟩ = some (.slice A0 l0.length c0) := (blk_cell K1.out 0).trans rfl)
    | ((with_reducible refine gate_dst (N := 7) rfl ?_); refine Kd.S_make (Kd.slice 3 (Kd.int .i64)) _ 29 rfl (N := 7) rfl 24 _ _ rfl ji rfl rfl Try.underlying24 (.slice none 0 0) 24 info29 rfl (by decide) (by omega) [] (ok := fun _ => True) (okp := fun _ => True) ⟨_, rfl, Kd.R_nil _ _ _ _ _⟩ (fun _ hk => hk) trivial (by have := HJ.out; omega) (by have := HJ.out; have := HL.out; omega) (Below.refl _ _) (Nat.le_refl _) ?_; intro v2 w2 ho hb hg_ hnew_; clear hg_ hnew_; rw [HJ.out, Int.toNat_natCast] at ho; obtain ⟨g, c1, ev2, hg1, hg2, cells2, hc2⟩ := Kd.S_form ho (by rw [List.length_replicate]; omega); rw [List.length_replicate] at ev2; subst ev2; have G2 := Aside0.mk (And.intro hg1 hg2); have O2 := Aside0.mk ho; have K2 := Aside0.mk (blk_below K1.out hb); have B2 := Aside0.mk hb; clear hg1 hg2 hc2 ho hb)
    | ((with_reducible refine gate_dst (N := 3) rfl ?_); refine box_event ?hg (N := 3) ?hd (cs := #[.slice none 0 0]) (t := 24) ?hr ?_; (case hd => rfl); (case hg => rfl); (case hr => first | (go_simp; done) | (go_simp; rfl)); intro go hg w3 hbox hb; have G3 := Aside0.mk hg; have K3 := Aside0.mk hbox; have B3 := Aside0.mk hb; clear hg hbox hb; have y1 : w3.cell? ⟨go, 0, none⟩ = some (.slice none 0 0) := (blk_cell K3.out 0).trans rfl; have f1 : w3.frozen? ⟨go, 0, none⟩ = false := blk_frozen K3.out 0; have nlo := Aside0.mk (show gl ≠ go from Nat.ne_of_lt (by rw [G3.out]; exact blk_lt K2.out)); have z5 : (w3.setCell ⟨go, 0, none⟩ (.slice (some ⟨g, 0, none⟩) (l0.length + 1) c1)).cell? ⟨gl, 0, none⟩ = some (.slice A0 l0.length c0) := (blk_cell (blk_far (blk_below K2.out B3.out) nlo.out _) 0).trans rfl)
    | (go_at_call 74; refine (CB.out _ ?sb).mono ?_; (case sb => (have o1 := blk_lt K1.out; have o2 := G1.out; have o3 := G3.out; have o4 := blk_lt K2.out; exact Below.setCell ((B1.out.trans (B2.out.mono (by omega))).trans (B3.out.mono (by omega))) (by (try simp only []); omega) _)); rintro e w4 ⟨v4, rfl, ho, hb⟩; obtain ⟨ab, cb, hv4, hab, hab2, cells4, hc4⟩ := Kd.R_form ho (by rw [HL.out.2.2]; exact HL.out.1); rw [HL.out.2.2] at hv4; subst hv4; have G4 := Aside0.mk (And.intro hab hab2); have O4 := Aside0.mk ho; have B4 := Aside0.mk hb; have K4 := Aside0.mk (blk_below (blk_far (blk_below K2.out B3.out) nlo.out _) hb); have K4b := Aside0.mk (blk_below (blk_put K3.out 0 _ rfl) hb); clear hab hab2 hc4 ho hb)
    | (go_at_call 75; (refine (KX.out _ gl go g c1 ab cb ?sB ?s1 ?s2 ?s3 ?s4 ?s5 ?s6 ?s7 ?s8 ?s9 ?sw).mono ?_); (all_goals have o1 := G1.out); (all_goals have o2 := blk_lt K1.out); (all_goals have o3 := G2.out); (all_goals have o4 := G3.out); (all_goals have o5 := G4.out); (all_goals have o6 := blk_lt K2.out); (all_goals have o7 := blk_lt K3.out); (all_goals have o8 : ∀ v, (w3.setCell ⟨go, 0, none⟩ v).heap.size = w3.heap.size := (fun v => by simp [World.setCell])); (all_goals rw [o8] at o5); (all_goals have o9 := blk_lt K4.out); (all_goals have o10 := blk_lt K4b.out); (all_goals have bb : Below w.heap.size w w4 := ((Below.setCell ((B1.out.trans (B2.out.mono (by omega))).trans (B3.out.mono (by omega))) (by (try simp only []); omega) _).trans (B4.out.mono (by rw [o8]; omega)))); (case sB => exact bb); (case s1 => omega); (case s2 => omega); (case s3 => omega); (case s4 => omega); (case s5 => omega); (case s6 => exact nlo.out); (case s7 => omega); (case s8 => omega); (case s9 => exact (Kd.R_reads' O4.out).2.1); (case sw => exact ⟨K4.out, K4b.out, Kd.R_mono (Kd.R_lower (Kd.R_tight rfl O4.out) (Nat.zero_le _)) (fun i hi => (by simpa [Value.ownBlock] using hi : i = ab)), Kd.S_below (Kd.S_far (p := ⟨go, 0, none⟩) (Kd.S_mono (Kd.S_below (Kd.S_lower (Kd.S_bound O2.out) (by omega)) B3.out) (ok' := OkW w.heap.size (fun _ => False) gl go ab) (fun i hi => (by have q1 := hi.2.1; have q2 := hi.2.2.1; exact ⟨by omega, fun h => h, by omega, by omega, by omega⟩))) (fun k hk => hk.2.2.2.1) _) B4.out, bb, fun i hi => hi.elim⟩); clear o1 o2 o3 o4 o5 o6 o7 o8 o9 o10 bb; rintro e w7 ⟨rfl, v7, hf1, hf2, hf3⟩; have F2 := Aside0.mk hf2; have F3 := Aside0.mk hf3; have y7 : w7.cell? ⟨go, 0, none⟩ = some v7 := (blk_cell hf1 0).trans rfl; clear hf1 hf2 hf3))
  go_ret
  exact ⟨_, rfl, F2.out, F3.out⟩
end Go.Proofs.Ytadkkcdhgepbkaa.Q
end
section
namespace Go.Proofs.Ytadkkcdhgepbkaa.Q
open Go.RowKit Go.Proofs.YtadkkcdhgepbkaaW.PrintWords Go.Proofs.YtadkkcdhgepbkaaW.PrintLast Go.Proofs.YtadkkcdhgepbkaaW.PrintMore
attribute [local go_sem] max2_int min2_int max_two min_two max_three min_three max_four min_four   -- for this text's walks alone
set_option linter.unusedVariables false
set_option linter.unusedSimpArgs false
mutual
def impl_RankCounts.j0:Nat→List Int→Int→Bool→Option (List Int × Bool)
|0,_,_,_=>none
|k + 1,x0,x1,x24=>if x24=true then (some (([]:List Int),false)) else ((impl_weights.f x0).bind fun t107=>(impl_RankCounts.l0 k x0 x1 (([]:List Int)) t107 (t107.length:Int) 0))
def impl_RankCounts.l0:Nat→List Int→Int→List Int→List (List Int)→Int→Int→Option (List Int × Bool)
|0,_,_,_,_,_,_=>none
|k + 1,x0,x1,x6,x27,x28,x29=>if x29 < x28 then (if 0≤x29 then (if x29 < (x27.length:Int) then (impl_RankCounts.l1 k x0 x1 x6 x29 0 x27 x28 x29 (rd_L2 x27 x29) ((rd_L2 x27 x29).length:Int) 0) else (none)) else (none)) else (some (x6,true))
def impl_RankCounts.l1:Nat→List Int→Int→List Int→Int→Int→List (List Int)→Int→Int→List Int→Int→Int→Option (List Int × Bool)
|0,_,_,_,_,_,_,_,_,_,_,_=>none
|k + 1,x0,x1,x6,x7,x9,x27,x28,x29,x34,x35,x36=>if x36 < x35 then (if 0≤x36 then (if x36 < (x34.length:Int) then (if (rd x34 x36) > 0 then ((impl_sum.f k x0).bind fun t116=>((impl_power.f k x1 (wrap64 ((wrap64 (t116 - x7)) - x36))).bind fun t117=>(impl_RankCounts.l1 k x0 x1 x6 x7 (wrap64 (x9 + (wrap64 ((rd x34 x36) * t117)))) x27 x28 x29 x34 x35 (wrap64 (x36 + 1))))) else (impl_RankCounts.l1 k x0 x1 x6 x7 x9 x27 x28 x29 x34 x35 (wrap64 (x36 + 1)))) else (none)) else (none)) else ((impl_power.f k (wrap64 (x1 - 1)) x7).bind fun t111=>(if x6.length < 17592186044416 then (impl_RankCounts.l0 k x0 x1 (x6 ++ [wrap64 (x9 * t111)]) x27 x28 (wrap64 (x29 + 1))) else (none)))
end
def impl_RankCounts.f (k:Nat) (l0:List Int) (a1:Int):Option (List Int × Bool):=(impl_AreLengths.f k l0).bind fun t101=>(if t101=true then ((impl_isQ.f a1).bind fun t102=>(if t102=true then ((impl_sum.f k l0).bind fun t103=>(impl_RankCounts.j0 k l0 a1 (decide (t103 > 20)))) else (impl_RankCounts.j0 k l0 a1 true))) else (impl_RankCounts.j0 k l0 a1 true))
set_option maxHeartbeats 8000000 in
set_option maxRecDepth 100000 in
theorem impl_RankCounts.calls (k:Nat) (A0:Option Addr) (c0:Nat) (l0:List Int) (a1:Int) (r1:List Int) (r2:Bool) (w:World) (hr0:Kd.C (Kd.int .i64) w A0 l0.length l0) (hc0:l0.length≤c0) (h:impl_RankCounts.f k l0 a1=some (r1,r2)) :
  Calls Try.prog 23 #[.slice A0 l0.length c0,.int .i64 a1] w fun e w'=>∃ v0_:Value,e=.returned (.tuple #[v0_,.bool r2])∧Kd.R (Kd.int .i64) 3 w' w.heap.size (fun _=>True) v0_ r1∧Below w.heap.size w w':=by
 have HR0:=za hr0;have HC0:=za hc0;clear hr0 hc0;have HB:=za (Below.refl w.heap.size w);have H:((impl_AreLengths.f k l0).bind fun t101=>(if t101=true then ((impl_isQ.f a1).bind fun t102=>(if t102=true then ((impl_sum.f k l0).bind fun t103=>(impl_RankCounts.j0 k l0 a1 (decide (t103 > 20)))) else (impl_RankCounts.j0 k l0 a1 true))) else (impl_RankCounts.j0 k l0 a1 true)))=some (r1,r2):=h;clear h;have HC3:=za H;clear H;(go_enter Try.func23,Try.ntmps23);(go_upto_region 1 with (fail));go_cut [24] (fun v24 wc=>∃ (kq:Nat) (x24_2:Bool),v24=.bool x24_2∧Aside0 (impl_RankCounts.j0 kq l0 a1 x24_2=some (r1,r2))∧Aside0 (kq≤k)∧Aside0 (Below w.heap.size w wc))
 case first =>
  have H:=HC3.out;clear HC3;obtain ⟨t101,A4,H⟩:=bindAside H;(try dsimp only at H);by_cases c5:t101=true
  ·
   subst c5;(have H1:((impl_isQ.f a1).bind fun t102=>(if t102=true then ((impl_sum.f k l0).bind fun t103=>(impl_RankCounts.j0 k l0 a1 (decide (t103 > 20)))) else (impl_RankCounts.j0 k l0 a1 true)))=some (r1,r2):=by rw [if_pos rfl] at H;exact H);clear H;have H:=H1;clear H1;obtain ⟨t102,A6,H⟩:=bindAside H;(try dsimp only at H);by_cases c7:t102=true
   · subst c7;(have H1:((impl_sum.f k l0).bind fun t103=>(impl_RankCounts.j0 k l0 a1 (decide (t103 > 20))))=some (r1,r2):=by rw [if_pos rfl] at H;exact H);clear H;have H:=H1;clear H1;obtain ⟨t103,A8,H⟩:=bindAside H;(try dsimp only at H);have H':=za H;clear H;(go_wp2_with (first|((with_reducible refine zh (f:=45) rfl ?_);refine goesL_ (some 13) rfl rfl Try.func45 (by kernel_rfl) rfl #[.slice A0 l0.length c0] rfl (by first|rfl|simp only [z3_,z4_,z5_];try rfl) ?_;(with_reducible refine (impl_AreLengths.calls k _ _ l0 true _ ?side1 ?side2 A4.out).mono ?_);(case side1=>repeat (first|exact (Kd.C_below HR0.out HB.out)|(with_reducible refine zi ?_ _)|(with_reducible refine zj ?_ _)|(with_reducible refine zk ?_)));(case side2=>exact HC0.out);rintro e w' ⟨rfl,⟨nd,rfl⟩⟩;refine ⟨_,rfl,?_⟩)|(go_at_call 46;(with_reducible refine (impl_isQ.calls a1 true _ A6.out).mono ?_);rintro e w' ⟨rfl,⟨nd,rfl⟩⟩)|(go_at_call 56;(with_reducible refine (impl_sum.calls k _ _ l0 t103 _ ?side1 ?side2 A8.out).mono ?_);(case side1=>repeat (first|exact (Kd.C_below HR0.out (by repeat (first|(with_reducible first|exact HB.out|apply zc|apply zd|apply zb)|exact HB.out)))|(with_reducible refine zi ?_ _)|(with_reducible refine zj ?_ _)|(with_reducible refine zk ?_)));(case side2=>exact HC0.out);rintro e w' ⟨rfl,⟨nd,rfl⟩⟩)));(go_meet);case rel=>exact ⟨_,(decide (t103 > 20)),(by first|rfl|(simp;done)|(simp [*];done)),H',⟨by first|omega|exact Nat.le_refl _⟩,⟨by repeat (first|(with_reducible first|exact HB.out|apply zc|apply zd|apply zb)|exact HB.out)⟩⟩
   · replace c7:=Bool.eq_false_iff.mpr c7;subst c7;(have H1:(impl_RankCounts.j0 k l0 a1 true)=some (r1,r2):=by rw [if_neg (show ¬ (false=true) by decide)] at H;exact H);clear H;have H:=H1;clear H1;have H':=za H;clear H;(go_wp2_with (first|((with_reducible refine zh (f:=45) rfl ?_);refine goesL_ (some 13) rfl rfl Try.func45 (by kernel_rfl) rfl #[.slice A0 l0.length c0] rfl (by first|rfl|simp only [z3_,z4_,z5_];try rfl) ?_;(with_reducible refine (impl_AreLengths.calls k _ _ l0 true _ ?side1 ?side2 A4.out).mono ?_);(case side1=>repeat (first|exact (Kd.C_below HR0.out HB.out)|(with_reducible refine zi ?_ _)|(with_reducible refine zj ?_ _)|(with_reducible refine zk ?_)));(case side2=>exact HC0.out);rintro e w' ⟨rfl,⟨nd,rfl⟩⟩;refine ⟨_,rfl,?_⟩)|(go_at_call 46;(with_reducible refine (impl_isQ.calls a1 false _ A6.out).mono ?_);rintro e w' ⟨rfl,⟨nd,rfl⟩⟩)));(go_meet);case rel=>exact ⟨_,(true),(by first|rfl|(simp;done)|(simp [*];done)),H',⟨by first|omega|exact Nat.le_refl _⟩,⟨by repeat (first|(with_reducible first|exact HB.out|apply zc|apply zd|apply zb)|exact HB.out)⟩⟩
  · replace c5:=Bool.eq_false_iff.mpr c5;subst c5;(have H1:(impl_RankCounts.j0 k l0 a1 true)=some (r1,r2):=by rw [if_neg (show ¬ (false=true) by decide)] at H;exact H);clear H;have H:=H1;clear H1;have H':=za H;clear H;(go_wp2_with (first|((with_reducible refine zh (f:=45) rfl ?_);refine goesL_ (some 13) rfl rfl Try.func45 (by kernel_rfl) rfl #[.slice A0 l0.length c0] rfl (by first|rfl|simp only [z3_,z4_,z5_];try rfl) ?_;(with_reducible refine (impl_AreLengths.calls k _ _ l0 false _ ?side1 ?side2 A4.out).mono ?_);(case side1=>repeat (first|exact (Kd.C_below HR0.out HB.out)|(with_reducible refine zi ?_ _)|(with_reducible refine zj ?_ _)|(with_reducible refine zk ?_)));(case side2=>exact HC0.out);rintro e w' ⟨rfl,⟨nd,rfl⟩⟩;refine ⟨_,rfl,?_⟩)));(go_meet);case rel=>exact ⟨_,(true),(by first|rfl|(simp;done)|(simp [*];done)),H',⟨by first|omega|exact Nat.le_refl _⟩,⟨by repeat (first|(with_reducible first|exact HB.out|apply zc|apply zd|apply zb)|exact HB.out)⟩⟩
 case rest =>
  clear HC3;(try clear c2);(try clear p2);(try clear c4);(try clear c5);(try clear c7);obtain ⟨kq,x24_2,rfl,HA,HJ2,HB⟩:=hcut
  cases kq with
 |zero=>exact absurd HA.out (by simp [impl_RankCounts.j0])
 |succ kj2 =>
   have H:=HA.out;clear HA;simp only [impl_RankCounts.j0] at H;by_cases c9:x24_2=true
   · subst c9;(have H1:(some (([]:List Int),false))=some (r1,r2):=by rw [if_pos rfl] at H;exact H);clear H;have H:=H1;clear H1;simp only [Option.some.injEq,Prod.mk.injEq] at H;obtain ⟨rfl,rfl⟩:=H;(go_wp2);(go_ret2);exact ⟨_,by first|rfl|simp [*,errW_none,errW_some] <;> rfl,by first|exact Kd.R_nil _ _ _ _ _|exact Kd.N_nil _ _ _ _ _|exact Kd.V_nil _ _ _ _ _|exact Kd.Q_nil _ _ _ _ _|exact Kd.S_nil _ _ _ _ _,by repeat (first|(with_reducible first|exact HB.out|apply zc|apply zd|apply zb)|exact HB.out)⟩
   ·
    replace c9:=Bool.eq_false_iff.mpr c9;subst c9;(have H1:((impl_weights.f l0).bind fun t107=>(impl_RankCounts.l0 kj2 l0 a1 (([]:List Int)) t107 (t107.length:Int) 0))=some (r1,r2):=by rw [if_neg (show ¬ (false=true) by decide)] at H;exact H);clear H;have H:=H1;clear H1;obtain ⟨y104,hy104⟩:∃ y_:List Int,y_=(([]:List Int)):=⟨_,rfl⟩;(replace H:((impl_weights.f l0).bind fun t107=>(impl_RankCounts.l0 kj2 l0 a1 y104 t107 (t107.length:Int) 0))=some (r1,r2):=by first|(rw [hy104];with_reducible exact H)|(have H2_:=(Option.bind_some _ _).symm.trans H;rw [hy104];with_reducible exact H2_)|(have H2_:=(Option.bind_some _ _).symm.trans H;with_reducible exact H2_)|with_reducible exact H|(rw [hy104];exact H)|exact H);have Ny104:=za hy104;clear hy104;obtain ⟨t107,A10,H⟩:=bindAside H;(try dsimp only at H);have H':=za H;clear H;(go_wp2_with (first|((with_reducible refine gate_dst (N:=25) rfl ?_);refine Kd.R_lit (Kd.int .i64) _ 3 ?hg (N:=25) ?hd (xs:=([]:List Int)) (inner:=[]) (ok:=fun _=>True) (okp:=fun _=>True) ?hr ?hp (fun _ hk=>hk) trivial (Below.refl _ _) (Nat.le_refl _) (by simp) ?_;(case hd=>rfl);(case hg=>rfl);(case hr=>first|(go_simp;done)|(go_simp;rfl));(case hp=>exact (Reps.none _ _));intro v105 w11 ho12 hb hg_ hnew_;clear hg_ hnew_;(first|rw [← Ny104.out] at ho12|(simp only [Int.reduceToNat] at ho12;rw [← Ny104.out] at ho12));have HO106:=za (Kd.R_lower ho12 (zr (by repeat (first|(with_reducible first|exact HB.out|apply zc|apply zd|apply zb)|exact HB.out))));replace HB:=za (below_step (by repeat (first|(with_reducible first|exact HB.out|apply zc|apply zd|apply zb)|exact HB.out)) hb);clear hb ho12)|((with_reducible refine zh (f:=57) rfl ?_);refine goesL_ (some 27) rfl rfl Try.func57 (by kernel_rfl) rfl #[.slice A0 l0.length c0] rfl (by first|rfl|simp only [z3_,z4_,z5_];try rfl) ?_;(with_reducible refine (impl_weights.calls _ _ l0 t107 _ ?side1 ?side2 A10.out).mono ?_);(case side1=>repeat (first|exact (Kd.C_below HR0.out HB.out)|(with_reducible refine zi ?_ _)|(with_reducible refine zj ?_ _)|(with_reducible refine zk ?_)));(case side2=>exact HC0.out);rintro e w13 ⟨v108,rfl,ho0,hb⟩;refine ⟨_,rfl,?_⟩;have HO109:=za (Kd.S_lower (Kd.S_new' ho0 (Kd.R_lt (by (with_reducible repeat (first|apply zf|apply zg|apply ze));exact HO106.out))) (zr (by repeat (first|(with_reducible first|exact HB.out|apply zc|apply zd|apply zb)|exact HB.out))));replace HO106:=za (Kd.R_below (by (with_reducible repeat (first|apply zf|apply zg|apply ze));exact HO106.out) hb);replace HB:=za (below_step (by repeat (first|(with_reducible first|exact HB.out|apply zc|apply zd|apply zb)|exact HB.out)) hb);obtain ⟨Ao14,co14,eo14⟩:=Kd.S_slice HO109.out;subst eo14)));(go_loopg [6,29] kj2 (fun kq v6 v29 w'=>∃ (x6_2:List Int) (x29_2:Int),v29=.int .i64 x29_2∧Aside0 (impl_RankCounts.l0 kq l0 a1 x6_2 t107 (t107.length:Int) x29_2=some (r1,r2))∧Aside0 (kq≤kj2)∧Aside0 (Kd.R (Kd.int .i64) 3 w' w.heap.size (fun _=>True) v6 x6_2)∧Aside0 (Kd.S (Kd.slice 3 (Kd.int .i64)) 29 w' w.heap.size (fun k_=>some k_ ≠ (v6:Value).ownBlock) (.slice Ao14 t107.length co14) t107)∧Aside0 (Below w.heap.size w w')));case atStart=>exact ⟨(y104),(0),(by first|rfl|(simp;done)|(simp [*];done)),H',⟨Nat.le_refl _⟩,⟨by (with_reducible repeat (first|apply zf|apply zg|apply ze));exact HO106.out⟩,⟨by (with_reducible repeat (first|apply Kd.S_alloc|apply Kd.S_drewN|apply Kd.S_drew));exact Kd.S_mono HO109.out (fun _ hk=>hk.2)⟩,⟨by repeat (first|(with_reducible first|exact HB.out|apply zc|apply zd|apply zb)|exact HB.out)⟩⟩
    case round =>
     clear H';(try clear c2);(try clear p2);(try clear c4);(try clear c5);(try clear c7);(try clear c9);(try clear p2);obtain ⟨x6_2,x29_2,rfl,HA,HK2,HO_6,HO_27,HB⟩:=hrel
     cases gk with
    |zero=>exact absurd HA.out (by simp [impl_RankCounts.l0])
    |succ k2 =>
      have H:=HA.out;clear HA;simp only [impl_RankCounts.l0] at H;by_cases c15:x29_2 < (t107.length:Int)
      ·
       rw [if_pos c15] at H;have c15b0:decide (x29_2 < (t107.length:Int))=true:=decide_eq_true c15;clear c15;by_cases c16:0≤x29_2
       ·
        rw [if_pos c16] at H;have c16b0:decide (0≤x29_2)=true:=decide_eq_true c16;clear c16;by_cases c17:x29_2 < (t107.length:Int)
        ·
         rw [if_pos c17] at H;have c17b0:decide (x29_2 < (t107.length:Int))=true:=decide_eq_true c17;clear c17;have H':=za H;clear H;have p110:0≤(x29_2:Int):=of_decide_eq_true ‹_›;have q110:x29_2 < (t107.length:Int):=of_decide_eq_true ‹_›;obtain ⟨ad110,A110_0,c110_0,e110,hx110_0,hl110_0,hi110_0⟩:=at_L2 (Kd.S_reads' HO_27.out).2.2 x29_2 p110 q110;cases e110;obtain ⟨ce110,hce110,hMe110,hcc110⟩:=Kd.S_get HO_27.out [] x29_2 p110 (by first|exact q110|exact of_decide_eq_true ‹_›|(have e_:=(Kd.S_reads' HO_27.out).1;omega));obtain ⟨ve110_0,rfl,ge110_0⟩:=hMe110;have hv110_0:=hcc110 0 _ rfl;rw [Nat.add_zero,show ((Kd.slice 3 (Kd.int .i64))).sz=1 from rfl,Nat.mul_one] at hv110_0;replace hv110_0:=Option.some.inj (hv110_0.symm.trans hx110_0);rw [hv110_0] at ge110_0;have HL110_0:=za (show Kd.R (Kd.int .i64) 3 _ _ _ _ (rd_L2 t107 x29_2) from ge110_0);clear hv110_0 ge110_0;clear hcc110 hce110;have HR110_0:=za hi110_0;have HC110_0:=za hl110_0;clear hi110_0 hl110_0;replace p110:=eq_true p110;replace q110:=eq_true q110;(go_wp2);(go_loopg [9,36] k2 (fun kq v9 v36 w'=>∃ (x9_3:Int) (x36_3:Int),v9=.int .i64 x9_3∧v36=.int .i64 x36_3∧Aside0 (impl_RankCounts.l1 kq l0 a1 x6_2 x29_2 x9_3 t107 (t107.length:Int) x29_2 (rd_L2 t107 x29_2) ((rd_L2 t107 x29_2).length:Int) x36_3=some (r1,r2))∧Aside0 (kq≤k2)∧Aside0 (Kd.R (Kd.int .i64) 3 w' w.heap.size (fun _=>True) u6 x6_2)∧Aside0 (Kd.S (Kd.slice 3 (Kd.int .i64)) 29 w' w.heap.size (fun k_=>some k_ ≠ (u6:Value).ownBlock) (.slice (some ad110) t107.length co14) t107)∧Aside0 (Kd.C (Kd.int .i64) w' A110_0 (rd_L2 t107 x29_2).length (rd_L2 t107 x29_2))∧Aside0 (Below w.heap.size w w')));case atStart=>exact ⟨(0),(0),(by first|rfl|(simp;done)|(simp [*];done)),(by first|rfl|(simp;done)|(simp [*];done)),H',⟨Nat.le_refl _⟩,⟨by (with_reducible repeat (first|apply zf|apply zg|apply ze));exact HO_6.out⟩,⟨by (with_reducible repeat (first|apply Kd.S_alloc|apply Kd.S_drewN|apply Kd.S_drew));exact HO_27.out⟩,⟨by repeat (first|(with_reducible exact HR110_0.out)|(with_reducible refine zi ?_ _)|(with_reducible refine zj ?_ _)|(with_reducible refine zk ?_)|exact HR110_0.out)⟩,⟨by repeat (first|(with_reducible first|exact HB.out|apply zc|apply zd|apply zb)|exact HB.out)⟩⟩
         case round =>
          clear H';(try clear c1);(try clear p1);(try clear q1);(try clear hx1);(try clear c2);(try clear p2);(try clear c4);(try clear c5);(try clear c7);(try clear c9);(try clear c11);(try clear p11);(try clear q11);(try clear hx11);(try clear c15);(try clear c15b0);(try clear c16);(try clear c16b0);(try clear c17);(try clear c17b0);(try clear hx110_0);(try clear p110);(try clear p2);(try clear q110);obtain ⟨x9_3,x36_3,rfl,rfl,HA,HK3,HO_6,HO_27,HR110_0,HB⟩:=hrel
          cases gk with
         |zero=>exact absurd HA.out (by simp [impl_RankCounts.l1])
         |succ k3 =>
           have H:=HA.out;clear HA;simp only [impl_RankCounts.l1] at H;by_cases c18:x36_3 < ((rd_L2 t107 x29_2).length:Int)
           ·
            rw [if_pos c18] at H;have c18b0:decide (x36_3 < ((rd_L2 t107 x29_2).length:Int))=true:=decide_eq_true c18;clear c18;by_cases c19:0≤x36_3
            ·
             rw [if_pos c19] at H;have c19b0:decide (0≤x36_3)=true:=decide_eq_true c19;clear c19;by_cases c20:x36_3 < ((rd_L2 t107 x29_2).length:Int)
             ·
              rw [if_pos c20] at H;have c20b0:decide (x36_3 < ((rd_L2 t107 x29_2).length:Int))=true:=decide_eq_true c20;clear c20;by_cases c21:(rd (rd_L2 t107 x29_2) x36_3) > 0
              · rw [if_pos c21] at H;have c21b0:decide (0 < (rd (rd_L2 t107 x29_2) x36_3))=true:=decide_eq_true c21;clear c21;obtain ⟨t116,A22,H⟩:=bindAside H;(try dsimp only at H);obtain ⟨t117,A23,H⟩:=bindAside H;(try dsimp only at H);have H':=za H;clear H;have p115:0≤(x36_3:Int):=of_decide_eq_true ‹_›;have q115:x36_3 < ((rd_L2 t107 x29_2).length:Int):=of_decide_eq_true ‹_›;obtain ⟨ad115,e115,hx115_0⟩:=Kd.at_int HR110_0.out x36_3 p115 q115;cases e115;(try replace hx115_0:=(HB.out.cell (World.block_lt_of_cell? w _ hx115_0)).trans hx115_0);replace p115:=eq_true p115;replace q115:=eq_true q115;(go_wp2_with (first|((with_reducible refine zh (f:=56) rfl ?_);refine goesL_ (some 47) rfl rfl Try.func56 (by kernel_rfl) rfl #[.slice A0 l0.length c0] rfl (by first|rfl|simp only [z3_,z4_,z5_];try rfl) ?_;(with_reducible refine (impl_sum.calls k3 _ _ l0 t116 _ ?side1 ?side2 A22.out).mono ?_);(case side1=>repeat (first|exact (Kd.C_below HR0.out HB.out)|(with_reducible refine zi ?_ _)|(with_reducible refine zj ?_ _)|(with_reducible refine zk ?_)));(case side2=>exact HC0.out);rintro e w' ⟨rfl,⟨nd,rfl⟩⟩;refine ⟨_,rfl,?_⟩)|((with_reducible refine zh (f:=58) rfl ?_);refine goesL_ (some 52) rfl rfl Try.func58 (by kernel_rfl) rfl #[.int .i64 a1,.int .i64 (wrap64 ((wrap64 (t116 - x29_2)) - x36_3))] rfl (by first|rfl|simp only [z3_,z4_,z5_];try rfl) ?_;(with_reducible refine (impl_power.calls k3 a1 (wrap64 ((wrap64 (t116 - x29_2)) - x36_3)) t117 _ A23.out).mono ?_);rintro e w' ⟨rfl,⟨nd,rfl⟩⟩;refine ⟨_,rfl,?_⟩)));(go_roundg k3);(case measure=>have:=HJ2.out;have:=HK2.out;have:=HK3.out;omega);case rel=>exact ⟨(wrap64 (x9_3 + (wrap64 ((rd (rd_L2 t107 x29_2) x36_3) * t117)))),(wrap64 (x36_3 + 1)),(by first|rfl|(simp;done)|(simp [*];done)),(by first|rfl|(simp;done)|(simp [*];done)),H',⟨by have:=HJ2.out;have:=HK2.out;have:=HK3.out;omega⟩,⟨by (with_reducible repeat (first|apply zf|apply zg|apply ze));exact HO_6.out⟩,⟨by (with_reducible repeat (first|apply Kd.S_alloc|apply Kd.S_drewN|apply Kd.S_drew));exact HO_27.out⟩,⟨by repeat (first|(with_reducible exact HR110_0.out)|(with_reducible refine zi ?_ _)|(with_reducible refine zj ?_ _)|(with_reducible refine zk ?_)|exact HR110_0.out)⟩,⟨by repeat (first|(with_reducible first|exact HB.out|apply zc|apply zd|apply zb)|exact HB.out)⟩⟩
              · rw [if_neg c21] at H;have c21b0:decide (0 < (rd (rd_L2 t107 x29_2) x36_3))=false:=decide_eq_false c21;clear c21;have H':=za H;clear H;have p115:0≤(x36_3:Int):=of_decide_eq_true ‹_›;have q115:x36_3 < ((rd_L2 t107 x29_2).length:Int):=of_decide_eq_true ‹_›;obtain ⟨ad115,e115,hx115_0⟩:=Kd.at_int HR110_0.out x36_3 p115 q115;cases e115;(try replace hx115_0:=(HB.out.cell (World.block_lt_of_cell? w _ hx115_0)).trans hx115_0);replace p115:=eq_true p115;replace q115:=eq_true q115;(go_wp2);(go_roundg k3);(case measure=>have:=HJ2.out;have:=HK2.out;have:=HK3.out;omega);case rel=>exact ⟨(x9_3),(wrap64 (x36_3 + 1)),(by first|rfl|(simp;done)|(simp [*];done)),(by first|rfl|(simp;done)|(simp [*];done)),H',⟨by have:=HJ2.out;have:=HK2.out;have:=HK3.out;omega⟩,⟨by (with_reducible repeat (first|apply zf|apply zg|apply ze));exact HO_6.out⟩,⟨by (with_reducible repeat (first|apply Kd.S_alloc|apply Kd.S_drewN|apply Kd.S_drew));exact HO_27.out⟩,⟨by repeat (first|(with_reducible exact HR110_0.out)|(with_reducible refine zi ?_ _)|(with_reducible refine zj ?_ _)|(with_reducible refine zk ?_)|exact HR110_0.out)⟩,⟨by repeat (first|(with_reducible first|exact HB.out|apply zc|apply zd|apply zb)|exact HB.out)⟩⟩
             · rw [if_neg c20] at H;exact absurd H (by simp)
            · rw [if_neg c19] at H;exact absurd H (by simp)
           ·
            rw [if_neg c18] at H;have c18b0:decide (x36_3 < ((rd_L2 t107 x29_2).length:Int))=false:=decide_eq_false c18;clear c18;obtain ⟨t111,A24,H⟩:=bindAside H;(try dsimp only at H);by_cases c25:x6_2.length < 17592186044416
            · rw [if_pos c25] at H;have LMc25:=za c25;clear c25;obtain ⟨y112,hy112⟩:∃ y_:List Int,y_=(x6_2 ++ [wrap64 (x9_3 * t111)]):=⟨_,rfl⟩;(replace H:(impl_RankCounts.l0 k3 l0 a1 y112 t107 (t107.length:Int) (wrap64 (x29_2 + 1)))=some (r1,r2):=by first|(rw [hy112];with_reducible exact H)|(have H2_:=(Option.bind_some _ _).symm.trans H;rw [hy112];with_reducible exact H2_)|(have H2_:=(Option.bind_some _ _).symm.trans H;with_reducible exact H2_)|with_reducible exact H|(rw [hy112];exact H)|exact H);have Ny112:=za hy112;clear hy112;have H':=za H;clear H;(go_wp2_with (first|((with_reducible refine zh (f:=58) rfl ?_);refine goesL_ (some 61) rfl rfl Try.func58 (by kernel_rfl) rfl #[.int .i64 (wrap64 (a1 - 1)),.int .i64 x29_2] rfl (by first|rfl|simp only [z3_,z4_,z5_];try rfl) ?_;(with_reducible refine (impl_power.calls k3 (wrap64 (a1 - 1)) x29_2 t111 _ A24.out).mono ?_);rintro e w' ⟨rfl,⟨nd,rfl⟩⟩;refine ⟨_,rfl,?_⟩)|((with_reducible refine gate_builtin (b:=.append) (xs:=#[.tmp 56,.tmp 63]) rfl ?_);at_builtin;refine Kd.R_append (Kd.int .i64) (w0:=w) w.heap.size rfl (.tmp 56) (.tmp 63) 29 3 (.int .i64 0) 8 rfl Try.underlying29 info3 rfl (by decide) (by omega) u6 x6_2 (wrap64 (x9_3 * t111)) [.int .i64 (wrap64 (x9_3 * t111))] (fun _=>True) (fun _=>False) rfl rfl ?aP (fun _ hk=>hk.elim) ?aF ?aO ?aB ?aS ?aL ?_;(case aP=>exact rfl);(case aB=>exact (by repeat (first|(with_reducible first|exact HB.out|apply zc|apply zd|apply zb)|exact HB.out)));(case aF=>exact (fun _ _=>trivial));(case aO=>exact (by (with_reducible repeat (first|apply zf|apply zg|apply ze));exact HO_6.out));(case aS=>exact (zr (by repeat (first|(with_reducible first|exact HB.out|apply zc|apply zd|apply zb)|exact HB.out))));(case aL=>have:=LMc25.out;omega);intro v113 w26 ho hb hg hat;rw [← Ny112.out] at ho;replace HO_27:=za (Kd.S_after (ok:=(fun _=>True)) (by (with_reducible repeat (first|apply Kd.S_alloc|apply Kd.S_drewN|apply Kd.S_drew));exact Kd.S_mono HO_27.out (fun _ hk=>⟨trivial,hk⟩)) hg hat);replace HB:=za (hb);have HO114:=za (ho);clear HO_6;clear ho hb hg hat)));(go_roundg k3);(case measure=>have:=HJ2.out;have:=HK2.out;have:=HK3.out;omega);case rel=>exact ⟨(y112),(wrap64 (x29_2 + 1)),(by first|rfl|(simp;done)|(simp [*];done)),H',⟨by have:=HJ2.out;have:=HK2.out;have:=HK3.out;omega⟩,⟨by (with_reducible repeat (first|apply zf|apply zg|apply ze));exact HO114.out⟩,⟨by (with_reducible repeat (first|apply Kd.S_alloc|apply Kd.S_drewN|apply Kd.S_drew));exact Kd.S_mono HO_27.out (fun _ hk=>hk.2)⟩,⟨by repeat (first|(with_reducible first|exact HB.out|apply zc|apply zd|apply zb)|exact HB.out)⟩⟩
            · rw [if_neg c25] at H;exact absurd H (by simp)
        · rw [if_neg c17] at H;exact absurd H (by simp)
       · rw [if_neg c16] at H;exact absurd H (by simp)
      · rw [if_neg c15] at H;have c15b0:decide (x29_2 < (t107.length:Int))=false:=decide_eq_false c15;clear c15;simp only [Option.some.injEq,Prod.mk.injEq] at H;obtain ⟨rfl,rfl⟩:=H;(go_wp2);(go_ret2);exact ⟨_,by first|rfl|simp [*,errW_none,errW_some] <;> rfl,by (with_reducible repeat (first|apply zf|apply zg|apply ze));exact HO_6.out,by repeat (first|(with_reducible first|exact HB.out|apply zc|apply zd|apply zb)|exact HB.out)⟩
end Go.Proofs.Ytadkkcdhgepbkaa.Q
end
section
namespace Go.Proofs.Ytadkkcdhgepbkaa.Q
open Go.RowKit Go.Proofs.YtadkkcdhgepbkaaW.PrintWords Go.Proofs.YtadkkcdhgepbkaaW.PrintLast Go.Proofs.YtadkkcdhgepbkaaW.PrintMore
attribute [local go_sem] max2_int min2_int max_two min_two max_three min_three max_four min_four   -- for this text's walks alone
set_option linter.unusedVariables false
set_option linter.unusedSimpArgs false
def spec_DrawRankCounts.f (k:Nat) (l0:List Int):Option (List Int × Int):=(spec_l1Cur_shorter.f k l0 0 0).bind fun bt102=>((spec_l1Cur_base.f l0 bt102.2.1 bt102.2.2).bind fun bt107=>(some (bt102.1,bt107.1)))
set_option maxHeartbeats 8000000 in
set_option maxRecDepth 100000 in
theorem spec_DrawRankCounts.calls (k:Nat) (A0:Option Addr) (c0:Nat) (l0:List Int) (r1:List Int) (r2:Int) (w:World) (hr0:Kd.C (Kd.int .u8) w A0 l0.length l0) (hc0:l0.length≤c0) (h:spec_DrawRankCounts.f k l0=some (r1,r2)) :
  Calls Try.prog 24 #[.slice A0 l0.length c0] w fun e w'=>∃ v0_:Value,e=.returned (.tuple #[v0_,.int .i64 r2])∧Kd.R (Kd.int .i64) 3 w' w.heap.size (fun _=>True) v0_ r1∧Below w.heap.size w w':=by
 have hu53:=Try.underlying53;have HR0:=za hr0;have HC0:=za hc0;clear hr0 hc0;have HB:=za (Below.refl w.heap.size w);have H:((spec_l1Cur_shorter.f k l0 0 0).bind fun bt102=>((spec_l1Cur_base.f l0 bt102.2.1 bt102.2.2).bind fun bt107=>(some (bt102.1,bt107.1))))=some (r1,r2):=h;clear h;obtain ⟨⟨t102,t105,t106⟩,A2,H⟩:=bindAside H;(try dsimp only at H);obtain ⟨⟨t107,t108,t109⟩,A3,H⟩:=bindAside H;(try dsimp only at H);simp only [Option.some.injEq,Prod.mk.injEq] at H;obtain ⟨rfl,rfl⟩:=H;(go_enter Try.func24,Try.ntmps24);(go_wp2_with (first|((with_reducible refine gate_dst (N:=7) rfl ?_);refine box_event ?hg (N:=7) ?hd (cs:=#[.slice A0 l0.length c0,.int .i64 0,.int .u64 0]) (t:=53) ?hr ?_;(case hd=>rfl);(case hg=>rfl);(case hr=>first|(go_simp;done)|(go_simp;rfl));intro gb101 hg w4 hbox hb;have BK101:=za (hbox);have GW101:=za ((by rw [hg];exact (zr (by repeat (first|(with_reducible first|exact HB.out|apply zc|apply zd|apply zb)|exact HB.out))):w.heap.size≤gb101));have GE101:=za ((by rw [hg];exact (zr (by repeat (first|(with_reducible first|exact HB.out|apply zc|apply zd|apply zb)|exact HB.out))):w.heap.size≤gb101));replace HB:=za (below_step (by repeat (first|(with_reducible first|exact HB.out|apply zc|apply zd|apply zb)|exact HB.out)) hb);clear hb hbox hg;have HI101:=za (show IsS53 w _ gb101 l0 0 0 from ⟨_,_,BK101.out,GE101.out,HR0.out⟩))|((with_reducible refine zh (f:=54) rfl ?_);refine goesL_ (some 9) rfl rfl Try.func54 (by kernel_rfl) rfl #[.pointer (some ⟨gb101,0,none⟩)] rfl (by first|rfl|simp only [z3_,z4_,z5_];try rfl) ?_;(with_reducible refine (spec_l1Cur_shorter.calls k gb101 l0 0 0 t102 t105 t106 w _ ?side1 ?side2 A2.out).mono ?_);(case side1=>repeat (first|(with_reducible first|exact HI101.out|apply IsS53.alloc|apply IsS53.drewN|apply IsS53.drew|apply IsS53.set_1|apply IsS53.set_2)|exact HI101.out));(case side2=>repeat (first|(with_reducible first|exact HB.out|apply zc|apply zd|apply zb|refine zm ?_ (IsS53.ge HI101.out))|exact HB.out));rintro e w5 ⟨v103,rfl,ho0,hi,hb,hk⟩;refine ⟨_,rfl,?_⟩;have HO104:=za (Kd.R_lower ho0 (zr (by repeat (first|(with_reducible first|exact HB.out|apply zc|apply zd|apply zb|refine zm ?_ (IsS53.ge HI101.out))|exact HB.out))));replace HB:=za (hb);replace HI101:=za (hi))|((with_reducible refine zh (f:=30) rfl ?_);refine goesL_ (some 11) rfl rfl Try.func30 (by kernel_rfl) rfl #[.pointer (some ⟨gb101,0,none⟩)] rfl (by first|rfl|simp only [z3_,z4_,z5_];try rfl) ?_;(with_reducible refine (spec_l1Cur_base.calls gb101 l0 t105 t106 t107 t108 t109 w _ ?side1 ?side2 A3.out).mono ?_);(case side1=>repeat (first|(with_reducible first|exact HI101.out|apply IsS53.alloc|apply IsS53.drewN|apply IsS53.drew|apply IsS53.set_1|apply IsS53.set_2)|exact HI101.out));(case side2=>repeat (first|(with_reducible first|exact HB.out|apply zc|apply zd|apply zb|refine zm ?_ (IsS53.ge HI101.out))|exact HB.out));rintro e w6 ⟨rfl,hi,hb,hk⟩;refine ⟨_,rfl,?_⟩;replace HO104:=za (Kd.R_mono (Kd.R_keep (IsS53.apart (show IsS53 w _ gb101 l0 t105 t106 from by repeat (first|(with_reducible first|exact HI101.out|apply IsS53.alloc|apply IsS53.drewN|apply IsS53.drew|apply IsS53.set_1|apply IsS53.set_2)|exact HI101.out)) (by (with_reducible repeat (first|apply zf|apply zg|apply ze));exact HO104.out) (by decide)) hk (fun _ h=>h.2)) (fun _ h=>h.1));replace HB:=za (hb);replace HI101:=za (hi))));(go_ret2);exact ⟨_,by first|rfl|simp [*,errW_none,errW_some] <;> rfl,by (with_reducible repeat (first|apply zf|apply zg|apply ze));exact HO104.out,by repeat (first|(with_reducible first|exact HB.out|apply zc|apply zd|apply zb|refine zm ?_ (IsS53.ge HI101.out))|exact HB.out)⟩
end Go.Proofs.Ytadkkcdhgepbkaa.Q
end
section
namespace Go.Proofs.Ytadkkcdhgepbkaa.Q
open Go.RowKit Go.Proofs.YtadkkcdhgepbkaaW.PrintWords Go.Proofs.YtadkkcdhgepbkaaW.PrintLast Go.Proofs.YtadkkcdhgepbkaaW.PrintMore
attribute [local go_sem] max2_int min2_int max_two min_two max_three min_three max_four min_four   -- for this text's walks alone
set_option linter.unusedVariables false
set_option linter.unusedSimpArgs false
mutual
def spec_weAdd.l0:Nat→Int→List Int→List Int→Int→Int→Option (List Int)
|0,_,_,_,_,_=>none
|k + 1,x2,x7,x12,x13,x14=>if x14 < x13 then (if 0≤x14 then (if x14 < (x12.length:Int) then (if (rd x12 x14)=0 then (spec_weAdd.l0 k x2 x7 x12 x13 (wrap64 (x14 + 1))) else (spec_weAdd.l1 k x2 x7 x14 (rd x12 x14) x12 x13 x14)) else (none)) else (none)) else (some x7)
def spec_weAdd.l1:Nat→Int→List Int→Int→Int→List Int→Int→Int→Option (List Int)
|0,_,_,_,_,_,_,_=>none
|k + 1,x2,x7,x8,x9,x12,x13,x14=>if (x7.length:Int)≤(wrap64 (x8 + x2)) then (if x7.length < 17592186044416 then (spec_weAdd.l1 k x2 (x7 ++ [0]) x8 x9 x12 x13 x14) else (none)) else (if 0≤(wrap64 (x8 + x2)) then (if (wrap64 (x8 + x2)) < (x7.length:Int) then (spec_weAdd.l0 k x2 (x7.set ((wrap64 (x8 + x2)):Int).toNat (wrap64 ((rd x7 (wrap64 (x8 + x2))) + x9))) x12 x13 (wrap64 (x14 + 1))) else (none)) else (none))
end
def spec_weAdd.f (k:Nat) (l0:List Int) (l1:List Int) (a2:Int):Option (List Int):=(spec_l1Own.f l0).bind fun t101=>(spec_weAdd.l0 k a2 t101 l1 (l1.length:Int) 0)
set_option maxHeartbeats 8000000 in
set_option maxRecDepth 100000 in
theorem spec_weAdd.calls (k:Nat) (A0:Option Addr) (c0:Nat) (l0:List Int) (A1:Option Addr) (c1:Nat) (l1:List Int) (a2:Int) (r:List Int) (w:World) (hr0:Kd.C (Kd.int .i64) w A0 l0.length l0) (hc0:l0.length≤c0) (hr1:Kd.C (Kd.int .i64) w A1 l1.length l1) (hc1:l1.length≤c1) (h:spec_weAdd.f k l0 l1 a2=some r) :
  Calls Try.prog 78 #[.slice A0 l0.length c0,.slice A1 l1.length c1,.int .i64 a2] w fun e w'=>∃ v0_:Value,e=.returned (v0_)∧Kd.R (Kd.int .i64) 3 w' w.heap.size (fun _=>True) v0_ r∧Below w.heap.size w w':=by
 have HR0:=za hr0;have HC0:=za hc0;clear hr0 hc0;have HR1:=za hr1;have HC1:=za hc1;clear hr1 hc1;have HB:=za (Below.refl w.heap.size w);have H:((spec_l1Own.f l0).bind fun t101=>(spec_weAdd.l0 k a2 t101 l1 (l1.length:Int) 0))=some r:=h;clear h;obtain ⟨t101,A4,H⟩:=bindAside H;(try dsimp only at H);have H':=za H;clear H;(go_enter Try.func78,Try.ntmps78);(go_wp2_with (first|((with_reducible refine zh (f:=69) rfl ?_);refine goesL_ (some 11) rfl rfl Try.func69 (by kernel_rfl) rfl #[.slice A0 l0.length c0] rfl (by first|rfl|simp only [z3_,z4_,z5_];try rfl) ?_;(with_reducible refine (spec_l1Own.calls _ _ l0 t101 _ ?side1 ?side2 A4.out).mono ?_);(case side1=>repeat (first|exact HR0.out|(with_reducible refine zi ?_ _)|(with_reducible refine zj ?_ _)|(with_reducible refine zk ?_)));(case side2=>exact HC0.out);rintro e w5 ⟨v102,rfl,ho0,hb⟩;refine ⟨_,rfl,?_⟩;have HO103:=za (Kd.R_lower ho0 (zr (by repeat (first|(with_reducible first|exact HB.out|apply zc|apply zd|apply zb)|exact HB.out))));replace HB:=za (below_step (by repeat (first|(with_reducible first|exact HB.out|apply zc|apply zd|apply zb)|exact HB.out)) hb))));(go_loopg [7,14] k (fun kq v7 v14 w'=>∃ (x7_1:List Int) (x14_1:Int),v14=.int .i64 x14_1∧Aside0 (spec_weAdd.l0 kq a2 x7_1 l1 (l1.length:Int) x14_1=some r)∧Aside0 (kq≤k)∧Aside0 (Kd.R (Kd.int .i64) 3 w' w.heap.size (fun _=>True) v7 x7_1)∧Aside0 (Below w.heap.size w w')));case atStart=>exact ⟨(t101),(0),(by first|rfl|(simp;done)|(simp [*];done)),H',⟨Nat.le_refl _⟩,⟨by (with_reducible repeat (first|apply zf|apply zg|apply ze));exact HO103.out⟩,⟨by repeat (first|(with_reducible first|exact HB.out|apply zc|apply zd|apply zb)|exact HB.out)⟩⟩
 case round =>
  clear H';(try clear c1);(try clear p2);obtain ⟨x7_1,x14_1,rfl,HA,HK1,HO_7,HB⟩:=hrel
  cases gk with
 |zero=>exact absurd HA.out (by simp [spec_weAdd.l0])
 |succ k1 =>
   have H:=HA.out;clear HA;simp only [spec_weAdd.l0] at H;by_cases c6:x14_1 < (l1.length:Int)
   ·
    rw [if_pos c6] at H;have c6b0:decide (x14_1 < (l1.length:Int))=true:=decide_eq_true c6;clear c6;by_cases c7:0≤x14_1
    ·
     rw [if_pos c7] at H;have c7b0:decide (0≤x14_1)=true:=decide_eq_true c7;clear c7;by_cases c8:x14_1 < (l1.length:Int)
     ·
      rw [if_pos c8] at H;have c8b0:decide (x14_1 < (l1.length:Int))=true:=decide_eq_true c8;clear c8;by_cases c9:(rd l1 x14_1)=0
      · rw [if_pos c9] at H;have c9b0:((rd l1 x14_1) == 0)=true:=beq_iff_eq.mpr c9;have c9b1:((rd l1 x14_1) != 0)=false:=bne_eq_false_iff_eq.mpr c9;clear c9;have H':=za H;clear H;have p104:0≤(x14_1:Int):=of_decide_eq_true ‹_›;have q104:x14_1 < (l1.length:Int):=of_decide_eq_true ‹_›;obtain ⟨ad104,e104,hx104_0⟩:=Kd.at_int HR1.out x14_1 p104 q104;cases e104;replace hx104_0:=(HB.out.cell (World.block_lt_of_cell? w _ hx104_0)).trans hx104_0;replace p104:=eq_true p104;replace q104:=eq_true q104;(go_wp2);(go_roundg k1);(case measure=>have:=HK1.out;omega);case rel=>exact ⟨(x7_1),(wrap64 (x14_1 + 1)),(by first|rfl|(simp;done)|(simp [*];done)),H',⟨by have:=HK1.out;omega⟩,⟨by (with_reducible repeat (first|apply zf|apply zg|apply ze));exact HO_7.out⟩,⟨by repeat (first|(with_reducible first|exact HB.out|apply zc|apply zd|apply zb)|exact HB.out)⟩⟩
      ·
       rw [if_neg c9] at H;have c9b0:((rd l1 x14_1) == 0)=false:=beq_eq_false_iff_ne.mpr c9;have c9b1:((rd l1 x14_1) != 0)=true:=bne_iff_ne.mpr c9;have H':=za H;clear H;have p104:0≤(x14_1:Int):=of_decide_eq_true ‹_›;have q104:x14_1 < (l1.length:Int):=of_decide_eq_true ‹_›;obtain ⟨ad104,e104,hx104_0⟩:=Kd.at_int HR1.out x14_1 p104 q104;cases e104;replace hx104_0:=(HB.out.cell (World.block_lt_of_cell? w _ hx104_0)).trans hx104_0;replace p104:=eq_true p104;replace q104:=eq_true q104;(go_wp2);(go_loopg [7] k1 (fun kq v7 w'=>∃ (x7_2:List Int),Aside0 (spec_weAdd.l1 kq a2 x7_2 x14_1 (rd l1 x14_1) l1 (l1.length:Int) x14_1=some r)∧Aside0 (kq≤k1)∧Aside0 (Kd.R (Kd.int .i64) 3 w' w.heap.size (fun _=>True) v7 x7_2)∧Aside0 (Below w.heap.size w w')));case atStart=>exact ⟨(x7_1),H',⟨Nat.le_refl _⟩,⟨by (with_reducible repeat (first|apply zf|apply zg|apply ze));exact HO_7.out⟩,⟨by repeat (first|(with_reducible first|exact HB.out|apply zc|apply zd|apply zb)|exact HB.out)⟩⟩
       case round =>
        clear H';(try clear c1);(try clear p1);(try clear q1);(try clear hx1);(try clear p2);(try clear c6);(try clear c6b0);(try clear p6);(try clear c7);(try clear c7b0);(try clear c8);(try clear c8b0);(try clear c9);(try clear c9b0);(try clear c9b1);(try clear hx104_0);(try clear p104);(try clear p2);(try clear q104);obtain ⟨x7_2,HA,HK2,HO_7,HB⟩:=hrel
        cases gk with
       |zero=>exact absurd HA.out (by simp [spec_weAdd.l1])
       |succ k2 =>
         have H:=HA.out;clear HA;simp only [spec_weAdd.l1] at H;by_cases c10:(x7_2.length:Int)≤(wrap64 (x14_1 + a2))
         ·
          rw [if_pos c10] at H;have c10b0:decide ((x7_2.length:Int)≤(wrap64 (x14_1 + a2)))=true:=decide_eq_true c10;clear c10;by_cases c11:x7_2.length < 17592186044416
          · rw [if_pos c11] at H;have LMc11:=za c11;clear c11;obtain ⟨y105,hy105⟩:∃ y_:List Int,y_=(x7_2 ++ [0]):=⟨_,rfl⟩;(replace H:(spec_weAdd.l1 k2 a2 y105 x14_1 (rd l1 x14_1) l1 (l1.length:Int) x14_1)=some r:=by first|(rw [hy105];with_reducible exact H)|(have H2_:=(Option.bind_some _ _).symm.trans H;rw [hy105];with_reducible exact H2_)|(have H2_:=(Option.bind_some _ _).symm.trans H;with_reducible exact H2_)|with_reducible exact H|(rw [hy105];exact H)|exact H);have Ny105:=za hy105;clear hy105;have H':=za H;clear H;obtain ⟨Ao12,co12,eo12⟩:=Kd.R_slice HO_7.out;subst eo12;(go_wp2_with (first|((with_reducible refine gate_builtin (b:=.append) (xs:=#[.tmp 27,.tmp 28]) rfl ?_);at_builtin;refine Kd.R_append (Kd.int .i64) (w0:=w) w.heap.size rfl (.tmp 27) (.tmp 28) 29 3 (.int .i64 0) 8 rfl Try.underlying29 info3 rfl (by decide) (by omega) (.slice Ao12 x7_2.length co12) x7_2 0 [.int .i64 0] (fun _=>True) (fun _=>False) rfl rfl ?aP (fun _ hk=>hk.elim) ?aF ?aO ?aB ?aS ?aL ?_;(case aP=>exact rfl);(case aB=>exact (by repeat (first|(with_reducible first|exact HB.out|apply zc|apply zd|apply zb)|exact HB.out)));(case aF=>exact (fun _ _=>trivial));(case aO=>exact (by (with_reducible repeat (first|apply zf|apply zg|apply ze));exact HO_7.out));(case aS=>exact (zr (by repeat (first|(with_reducible first|exact HB.out|apply zc|apply zd|apply zb)|exact HB.out))));(case aL=>have:=LMc11.out;omega);intro v106 w13 ho hb hg hat;rw [← Ny105.out] at ho;replace HB:=za (hb);have HO107:=za (ho);clear HO_7;clear ho hb hg hat)));(go_roundg k2);(case measure=>have:=HK1.out;have:=HK2.out;omega);case rel=>exact ⟨(y105),H',⟨by have:=HK1.out;have:=HK2.out;omega⟩,⟨by (with_reducible repeat (first|apply zf|apply zg|apply ze));exact HO107.out⟩,⟨by repeat (first|(with_reducible first|exact HB.out|apply zc|apply zd|apply zb)|exact HB.out)⟩⟩
          · rw [if_neg c11] at H;exact absurd H (by simp)
         ·
          rw [if_neg c10] at H;have c10b0:decide ((x7_2.length:Int)≤(wrap64 (x14_1 + a2)))=false:=decide_eq_false c10;clear c10;obtain ⟨ji14,hji14⟩:∃ j_:Int,(wrap64 (x14_1 + a2))=j_:=⟨_,rfl⟩;(replace H:(if 0≤(ji14) then (if (ji14) < (x7_2.length:Int) then (spec_weAdd.l0 k2 a2 (x7_2.set ((ji14):Int).toNat (wrap64 ((rd x7_2 (ji14)) + (rd l1 x14_1)))) l1 (l1.length:Int) (wrap64 (x14_1 + 1))) else (none)) else (none))=some r:=by first|(rw [hji14] at H;exact H)|(simp only [hji14] at H ⊢;exact H));(try rw [hji14] at c10b0);have hji14w:(IntKind.i64.wrap (x14_1 + a2))=ji14:=(i64_w _).trans hji14;by_cases c15:0≤(ji14)
          ·
           rw [if_pos c15] at H;have c15b0:decide (0≤(ji14))=true:=decide_eq_true c15;clear c15;by_cases c16:(ji14) < (x7_2.length:Int)
           · rw [if_pos c16] at H;have c16b0:decide ((ji14) < (x7_2.length:Int))=true:=decide_eq_true c16;clear c16;obtain ⟨y109,hy109⟩:∃ y_:List Int,y_=(x7_2.set ((ji14):Int).toNat (wrap64 ((rd x7_2 (ji14)) + (rd l1 x14_1)))):=⟨_,rfl⟩;(replace H:(spec_weAdd.l0 k2 a2 y109 l1 (l1.length:Int) (wrap64 (x14_1 + 1)))=some r:=by first|(rw [hy109];with_reducible exact H)|(have H2_:=(Option.bind_some _ _).symm.trans H;rw [hy109];with_reducible exact H2_)|(have H2_:=(Option.bind_some _ _).symm.trans H;with_reducible exact H2_)|with_reducible exact H|(rw [hy109];exact H)|exact H);have Ny109:=za hy109;clear hy109;have H':=za H;clear H;obtain ⟨Ao18,co18,eo18⟩:=Kd.R_slice HO_7.out;subst eo18;have p108:0≤((ji14):Int):=of_decide_eq_true ‹_›;have q108:(ji14) < (x7_2.length:Int):=of_decide_eq_true ‹_›;obtain ⟨ad108,e108,hx108_0⟩:=Kd.at_int (zl HO_7.out).2.2 (ji14) p108 q108;cases e108;replace p108:=eq_true p108;replace q108:=eq_true q108;have p17:0≤((ji14):Int):=of_decide_eq_true ‹_›;have q17:((ji14):Int) < ((x7_2.length:Int):Int):=of_decide_eq_true ‹_›;obtain ⟨go17,co17,eo17,gb17,gl17,cl17,HG17⟩:=Kd.R_form HO_7.out (by omega);(first|cases eo17|(injection eo17 with ea_ en_ ec_;(first|subst ea_|(injection ea_ with ea_;subst ea_));subst ec_;clear en_));have GB17:=za gb17;have GG17:=za HG17;clear gb17 gl17 HG17;(first|simp only [add_plain] at hx108_0|skip);obtain ⟨hx17_0,hf17_0⟩:=Kd.R_celln 0 HO_7.out ((ji14):Int) p17 q17;replace p17:=eq_true p17;replace q17:=eq_true q17;have HP19:=Kd.R_putg HO_7.out ((ji14):Int) (wrap64 ((rd x7_2 (ji14)) + (rd l1 x14_1)));(go_wp2_with (first|((with_reducible refine gate_store (t:=3) (p:=38) rfl ?_);refine store_event (t:=3) (p:=38) (v:=?vo_w20) (w1:=(wr.setCell ⟨go17,((ji14):Int).toNat,none⟩ (.int .i64 (wrap64 ((rd x7_2 (ji14)) + (rd l1 x14_1)))))) ?hg ?ho ?hn ?hr ?_;(case ho=>rfl);(case hg=>rfl);(case hn=>rfl);(case hr=>first|(go_simp;done)|(go_simp;rfl));intro w20 hw;have hg:wr.grownBy w20 (some go17):=(by rw [hw];exact HP19.2);have hp_:Kd.R (Kd.int .i64) 3 w20 w.heap.size (fun _=>True) (.slice (some ⟨go17,0,none⟩) x7_2.length co18) y109:=(by rw [hw,Ny109.out];exact HP19.1);clear HP19;replace HO_7:=za (hp_);replace HB:=za ((by rw [hw];exact zm (HB.out) GB17.out:Below w.heap.size w w20));clear hg hw hp_)));(go_roundg k2);(case measure=>have:=HK1.out;have:=HK2.out;omega);case rel=>exact ⟨(y109),(wrap64 (x14_1 + 1)),(by first|rfl|(simp;done)|(simp [*];done)),H',⟨by have:=HK1.out;have:=HK2.out;omega⟩,⟨by (with_reducible repeat (first|apply zf|apply zg|apply ze));exact HO_7.out⟩,⟨by repeat (first|(with_reducible first|exact HB.out|apply zc|apply zd|apply zb)|exact HB.out)⟩⟩
           · rw [if_neg c16] at H;exact absurd H (by simp)
          · rw [if_neg c15] at H;exact absurd H (by simp)
     · rw [if_neg c8] at H;exact absurd H (by simp)
    · rw [if_neg c7] at H;exact absurd H (by simp)
   · rw [if_neg c6] at H;have c6b0:decide (x14_1 < (l1.length:Int))=false:=decide_eq_false c6;clear c6;obtain rfl:=Option.some.inj H;(go_wp2);(go_ret);exact ⟨_,by first|rfl|simp [*,errW_none,errW_some] <;> rfl,by (with_reducible repeat (first|apply zf|apply zg|apply ze));exact HO_7.out,by repeat (first|(with_reducible first|exact HB.out|apply zc|apply zd|apply zb)|exact HB.out)⟩
end Go.Proofs.Ytadkkcdhgepbkaa.Q
end
