/- Texts of this claim put together (5): words, what the functions compute, and plain facts. No conditions. -/
import Derived.Test.YtpjjeeabpaojnaaGreatSFnLargestHaveCovers4
import Derived.Test.YtpjjeeabpaojnaaGreatSFnLargestHaveCovers0
section
namespace Go.Proofs.YtpjjeeabpaojnaaGreat.Q
open Go.RowKit Go.Proofs.YtpjjeeabpaojnaaGreatW.PrintWords Go.Proofs.YtpjjeeabpaojnaaGreatW.PrintLast Go.Proofs.YtpjjeeabpaojnaaGreatW.PrintMore
attribute [local go_sem] max2_int min2_int max_two min_two max_three min_three max_four min_four   -- for this text's walks alone
set_option linter.unusedVariables false
set_option linter.unusedSimpArgs false
mutual
def spec_boCells.l0:Nat→List (List Int)→Int→Int→Int→List Int→Option ((List (List Int)))
|0,_,_,_,_,_=>none
|k + 1,x3,x4,x102000,x102001,x102002=>if x4 < x102000 then (spec_boCells.l1 k x3 x4 0 x102000 x102001 x102002) else (some x3)
def spec_boCells.l1:Nat→List (List Int)→Int→Int→Int→Int→List Int→Option ((List (List Int)))
|0,_,_,_,_,_,_=>none
|k + 1,x3,x4,x5,x102000,x102001,x102002=>if x5 < x102001 then ((spec_boHas.f x102000 x102001 x102002 x4 x5).bind fun t102=>(if t102=true then (if x3.length < 5864062014805 then (spec_boCells.l1 k (x3 ++ [(([x4,x5]:List Int))]) x4 (wrap64 (x5 + 1)) x102000 x102001 x102002) else (none)) else (spec_boCells.l1 k x3 x4 (wrap64 (x5 + 1)) x102000 x102001 x102002))) else (spec_boCells.l0 k x3 (wrap64 (x4 + 1)) x102000 x102001 x102002)
end
def spec_boCells.f (k:Nat) (a0_0:Int) (a0_1:Int) (l0_2:List Int):Option ((List (List Int))):=spec_boCells.l0 k ([]:List (List Int)) 0 a0_0 a0_1 l0_2
set_option maxHeartbeats 8000000 in
set_option maxRecDepth 100000 in
theorem spec_boCells.calls (k:Nat) (a0_0:Int) (a0_1:Int) (A0_2:Option Addr) (c0_2:Nat) (l0_2:List Int) (r:List (List Int)) (w:World) (hr0_2:Kd.C (Kd.int .i64) w A0_2 l0_2.length l0_2) (hc0_2:l0_2.length≤c0_2) (h:spec_boCells.f k a0_0 a0_1 l0_2=some r) :
  Calls Tryz.prog 48 #[.agg #[.int .i64 a0_0,.int .i64 a0_1,.slice A0_2 l0_2.length c0_2]] w fun e w'=>∃ v0_:Value,e=.returned (v0_)∧Kd.S (Kd.slice 3 (Kd.int .i64)) 24 w' w.heap.size (fun _=>True) v0_ r∧Below w.heap.size w w':=by
 have hu26:=Tryz.underlying26;have HR0_2:=za hr0_2;have HC0_2:=za hc0_2;clear hr0_2 hc0_2;have HB:=za (Below.refl w.heap.size w);have H:(spec_boCells.l0 k ([]:List (List Int)) 0 a0_0 a0_1 l0_2)=some r:=h;clear h;have H':=za H;clear H;(go_enter Tryz.func48,Tryz.ntmps48);(go_wp2_with (first|((with_reducible refine zv (N:=1) rfl ?_);refine zw ?hg (N:=1) ?hd (cs:=#[.int .i64 a0_0,.int .i64 a0_1,.slice A0_2 l0_2.length c0_2]) (t:=26) ?hr ?_;(case hd=>rfl);(case hg=>rfl);(case hr=>first|(go_simp;done)|(go_simp;rfl));intro gb101 hg w2 hbox hb;have BK101:=za (hbox);have GW101:=za ((by rw [hg];exact (zi (by apply_rules only [HB.out,zc,zd,zb])):w.heap.size≤gb101));have GE101:=za ((by rw [hg];exact (zi (by apply_rules only [HB.out,zc,zd,zb])):w.heap.size≤gb101));replace HB:=za (zl (by apply_rules only [HB.out,zc,zd,zb]) hb);clear hb hbox hg)));(go_loopg [3,4] k (fun kq v3 v4 w'=>∃ (x3_1:List (List Int)) (x4_1:Int),v4=.int .i64 x4_1∧Aside0 (spec_boCells.l0 kq x3_1 x4_1 a0_0 a0_1 l0_2=some r)∧Aside0 (kq≤k)∧Aside0 (Kd.S (Kd.slice 3 (Kd.int .i64)) 24 w' w.heap.size (fun _=>True) v3 x3_1)∧Aside0 (w'.heap[gb101]?=some (.cells #[.int .i64 a0_0,.int .i64 a0_1,(.slice A0_2 l0_2.length c0_2)] 26 (0,0)))∧Aside0 (Below w.heap.size w w')));case atStart=>exact ⟨(([]:List (List Int))),(0),(by first|rfl|(simp;done)|(simp [*];done)),H',⟨Nat.le_refl _⟩,⟨by first|exact Kd.S_nil _ _ _ _ _|exact Kd.N_nil _ _ _ _ _|exact Kd.V_nil _ _ _ _ _|exact Kd.Q_nil _ _ _ _ _|exact Kd.R_nil _ _ _ _ _⟩,⟨by apply_rules only [BK101.out,zj,zh,zk]⟩,⟨by apply_rules only [HB.out,zc,zd,zb,zg,GE101.out]⟩⟩
 case round =>
  clear H';(try clear p2);obtain ⟨x3_1,x4_1,rfl,HA,HK1,HO_3,BK101,HB⟩:=hrel
  cases gk with
 |zero=>exact absurd HA.out (by simp [spec_boCells.l0])
 |succ k1 =>
   have H:=HA.out;clear HA;simp only [spec_boCells.l0] at H;by_cases c3:x4_1 < a0_0
   ·
    rw [if_pos c3] at H;have c3b0:decide (x4_1 < a0_0)=true:=decide_eq_true c3;clear c3;have H':=za H;clear H;have hcz4_0:wr.cell? ⟨gb101,0,none⟩=some (.int .i64 a0_0):=(ze BK101.out 0).trans rfl;have hcz4_1:wr.cell? ⟨gb101,1,none⟩=some (.int .i64 a0_1):=(ze BK101.out 1).trans rfl;have hcz4_2:wr.cell? ⟨gb101,2,none⟩=some (.slice A0_2 l0_2.length c0_2):=(ze BK101.out 2).trans rfl;have hfz4_0:=zf BK101.out 0;have hfz4_1:=zf BK101.out 1;have hfz4_2:=zf BK101.out 2;(go_wp2);(go_loopg [3,5] k1 (fun kq v3 v5 w'=>∃ (x3_2:List (List Int)) (x5_2:Int),v5=.int .i64 x5_2∧Aside0 (spec_boCells.l1 kq x3_2 x4_1 x5_2 a0_0 a0_1 l0_2=some r)∧Aside0 (kq≤k1)∧Aside0 (Kd.S (Kd.slice 3 (Kd.int .i64)) 24 w' w.heap.size (fun _=>True) v3 x3_2)∧Aside0 (w'.heap[gb101]?=some (.cells #[.int .i64 a0_0,.int .i64 a0_1,(.slice A0_2 l0_2.length c0_2)] 26 (0,0)))∧Aside0 (Below w.heap.size w w')));case atStart=>exact ⟨(x3_1),(0),(by first|rfl|(simp;done)|(simp [*];done)),H',⟨Nat.le_refl _⟩,⟨by apply_rules only [HO_3.out,Kd.S_alloc,Kd.S_drewN,Kd.S_drew]⟩,⟨by apply_rules only [BK101.out,zj,zh,zk]⟩,⟨by apply_rules only [HB.out,zc,zd,zb,zg,GE101.out]⟩⟩
    case round =>
     clear H';(try clear p2);(try clear c3);(try clear c3b0);(try clear c4);(try clear hcz4_0);(try clear hcz4_1);(try clear hcz4_2);(try clear hfz4_0);(try clear hfz4_1);(try clear hfz4_2);(try clear p2);obtain ⟨x3_2,x5_2,rfl,HA,HK2,HO_3,BK101,HB⟩:=hrel
     cases gk with
    |zero=>exact absurd HA.out (by simp [spec_boCells.l1])
    |succ k2 =>
      have H:=HA.out;clear HA;simp only [spec_boCells.l1] at H;by_cases c5:x5_2 < a0_1
      ·
       rw [if_pos c5] at H;have c5b0:decide (x5_2 < a0_1)=true:=decide_eq_true c5;clear c5;obtain ⟨t102,A6,H⟩:=bindAside H;(try dsimp only at H);by_cases c7:t102=true
       ·
        subst c7;(have H1:(if x3_2.length < 5864062014805 then (spec_boCells.l1 k2 (x3_2 ++ [(([x4_1,x5_2]:List Int))]) x4_1 (wrap64 (x5_2 + 1)) a0_0 a0_1 l0_2) else (none))=some r:=by rw [if_pos rfl] at H;exact H);clear H;have H:=H1;clear H1;obtain ⟨y103,hy103⟩:∃ y_:List Int,y_=(([x4_1,x5_2]:List Int)):=⟨_,rfl⟩;(replace H:(if x3_2.length < 5864062014805 then (spec_boCells.l1 k2 (x3_2 ++ [y103]) x4_1 (wrap64 (x5_2 + 1)) a0_0 a0_1 l0_2) else (none))=some r:=by first|(rw [hy103];with_reducible exact H)|(have H2_:=(Option.bind_some _ _).symm.trans H;rw [hy103];with_reducible exact H2_)|(have H2_:=(Option.bind_some _ _).symm.trans H;with_reducible exact H2_)|with_reducible exact H|(rw [hy103];exact H)|exact H);have Ny103:=za hy103;clear hy103;by_cases c8:x3_2.length < 5864062014805
        · rw [if_pos c8] at H;have LMc8:=za c8;clear c8;obtain ⟨y106,hy106⟩:∃ y_:List (List Int),y_=(x3_2 ++ [y103]):=⟨_,rfl⟩;(replace H:(spec_boCells.l1 k2 y106 x4_1 (wrap64 (x5_2 + 1)) a0_0 a0_1 l0_2)=some r:=by first|(rw [hy106];with_reducible exact H)|(have H2_:=(Option.bind_some _ _).symm.trans H;rw [hy106];with_reducible exact H2_)|(have H2_:=(Option.bind_some _ _).symm.trans H;with_reducible exact H2_)|with_reducible exact H|(rw [hy106];exact H)|exact H);have Ny106:=za hy106;clear hy106;have H':=za H;clear H;have hcz9_0:wr.cell? ⟨gb101,0,none⟩=some (.int .i64 a0_0):=(ze BK101.out 0).trans rfl;have hcz9_1:wr.cell? ⟨gb101,1,none⟩=some (.int .i64 a0_1):=(ze BK101.out 1).trans rfl;have hcz9_2:wr.cell? ⟨gb101,2,none⟩=some (.slice A0_2 l0_2.length c0_2):=(ze BK101.out 2).trans rfl;have hfz9_0:=zf BK101.out 0;have hfz9_1:=zf BK101.out 1;have hfz9_2:=zf BK101.out 2;(go_wp2_with (first|((with_reducible refine zu (f:=73) rfl ?_);refine goesL_ (some 21) rfl rfl Tryz.func73 (by kernel_rfl) rfl #[.agg #[.int .i64 a0_0,.int .i64 a0_1,.slice A0_2 l0_2.length c0_2],.int .i64 x4_1,.int .i64 x5_2] rfl (by first|rfl|simp only [z3_,z4_,z5_];try rfl) ?_;(with_reducible refine (spec_boHas.calls a0_0 a0_1 _ _ l0_2 x4_1 x5_2 true _ ?side1 ?side2 A6.out).mono ?_);(case side1=>apply_rules only [zq HR0_2.out HB.out,zm,zn,zo]);(case side2=>exact HC0_2.out);rintro e w10 ⟨rfl,hb⟩;refine ⟨_,rfl,?_⟩;replace HO_3:=za (Kd.S_below (by apply_rules only [HO_3.out,Kd.S_alloc,Kd.S_drewN,Kd.S_drew]) hb);replace BK101:=za (zp (g:=gb101) (o:=.cells #[.int .i64 a0_0,.int .i64 a0_1,.slice A0_2 l0_2.length c0_2] 26 (0,0)) (by apply_rules only [BK101.out,zj,zh,zk]) hb);replace HB:=za (zl (by apply_rules only [HB.out,zc,zd,zb,zg,GE101.out]) hb))|((with_reducible refine zv (N:=25) rfl ?_);refine Kd.R_lit (Kd.int .i64) _ 3 ?hg (N:=25) ?hd (xs:=([x4_1,x5_2]:List Int)) (inner:=[.int .i64 x4_1,.int .i64 x5_2]) (ok:=fun _=>True) (okp:=fun _=>True) ?hr ?hp (fun _ hk=>hk) trivial (Below.refl _ _) (Nat.le_refl _) (by simp) ?_;(case hd=>rfl);(case hg=>rfl);(case hr=>first|(go_simp;done)|(go_simp;rfl));(case hp=>exact (Reps.one (show Kd.M (Kd.int .i64) _ _ _ x4_1 [.int .i64 x4_1] from rfl) (Reps.one (show Kd.M (Kd.int .i64) _ _ _ x5_2 [.int .i64 x5_2] from rfl) (Reps.none _ _))));intro v104 w11 ho12 hb hg_ hnew_;clear hg_ hnew_;(first|rw [← Ny103.out] at ho12|(simp only [Int.reduceToNat] at ho12;rw [← Ny103.out] at ho12));replace HO_3:=za (Kd.S_elder' (by apply_rules only [HO_3.out,Kd.S_alloc,Kd.S_drewN,Kd.S_drew]) (Kd.R_base ho12) hb);have HO105:=za (Kd.R_lower ho12 (zi (by apply_rules only [HB.out,zc,zd,zb,zg,GE101.out])));replace BK101:=za (zp (g:=gb101) (o:=.cells #[.int .i64 a0_0,.int .i64 a0_1,.slice A0_2 l0_2.length c0_2] 26 (0,0)) (by apply_rules only [BK101.out,zj,zh,zk]) hb);replace HB:=za (zl (by apply_rules only [HB.out,zc,zd,zb,zg,GE101.out]) hb);clear hb ho12;obtain ⟨Ao14,co14,eo14⟩:=Kd.R_slice HO105.out;subst eo14)|((with_reducible refine gate_builtin (b:=.append) (xs:=#[.tmp 22,.tmp 26]) rfl ?_);at_builtin;refine Kd.S_append (Kd.slice 3 (Kd.int .i64)) (w0:=w) w.heap.size rfl (.tmp 22) (.tmp 26) 28 24 (.slice none 0 0) 24 rfl Tryz.underlying28 info24 rfl (by decide) (by omega) u3 x3_2 y103 [.slice Ao14 y103.length co14] (fun _=>True) (fun k_=>some k_=(.slice Ao14 y103.length co14:Value).ownBlock) rfl rfl ?aP (fun k_ hk_=>((Kd.R_mono (ok':=fun k_=>((fun _=>True)) k_∧some k_ ≠ (u3:Value).ownBlock) (Kd.R_apart' (HO105.out) (Kd.S_typed HO_3.out) (by decide)) (fun k_ hk=>⟨trivial,hk.2⟩))).1 k_ hk_.symm) ?aF ?aO ?aB ?aS ?aL ?_;(case aP=>exact Kd.M_row (Kd.R_mono (Kd.R_tight rfl (Kd.R_mono (ok':=fun k_=>((fun _=>True)) k_∧some k_ ≠ (u3:Value).ownBlock) (Kd.R_apart' (HO105.out) (Kd.S_typed HO_3.out) (by decide)) (fun k_ hk=>⟨trivial,hk.2⟩))) (fun _ h_=>h_)));(case aB=>exact (by apply_rules only [HB.out,zc,zd,zb,zg,GE101.out]));(case aF=>exact (fun _ _=>trivial));(case aO=>exact (by (with_reducible repeat (first|apply Kd.S_alloc|apply Kd.S_drewN|apply Kd.S_drew));exact Kd.S_mono HO_3.out (fun k_ hk=>⟨trivial,fun e_=>hk.2 e_⟩)));(case aS=>exact (zi (by apply_rules only [HB.out,zc,zd,zb,zg,GE101.out])));(case aL=>have:=LMc8.out;omega);intro v107 w13 ho hb hg hat;rw [← Ny106.out] at ho;replace BK101:=za (blk_grown (g:=gb101) (o:=.cells #[.int .i64 a0_0,.int .i64 a0_1,.slice A0_2 l0_2.length c0_2] 26 (0,0)) (by apply_rules only [BK101.out,zj,zh,zk]) hg (Kd.S_ne HO_3.out BK101.out (by decide)));replace HB:=za (hb);have HO108:=za (ho);clear HO_3 HO105;clear ho hb hg hat)));(go_roundg k2);(case measure=>have:=HK1.out;have:=HK2.out;omega);case rel=>exact ⟨(y106),(wrap64 (x5_2 + 1)),(by first|rfl|(simp;done)|(simp [*];done)),H',⟨by have:=HK1.out;have:=HK2.out;omega⟩,⟨by apply_rules only [HO108.out,Kd.S_alloc,Kd.S_drewN,Kd.S_drew]⟩,⟨by apply_rules only [BK101.out,zj,zh,zk]⟩,⟨by apply_rules only [HB.out,zc,zd,zb,zg,GE101.out]⟩⟩
        · rw [if_neg c8] at H;exact absurd H (by simp)
       · replace c7:=Bool.eq_false_iff.mpr c7;subst c7;(have H1:(spec_boCells.l1 k2 x3_2 x4_1 (wrap64 (x5_2 + 1)) a0_0 a0_1 l0_2)=some r:=by rw [if_neg (show ¬ (false=true) by decide)] at H;exact H);clear H;have H:=H1;clear H1;have H':=za H;clear H;have hcz15_0:wr.cell? ⟨gb101,0,none⟩=some (.int .i64 a0_0):=(ze BK101.out 0).trans rfl;have hcz15_1:wr.cell? ⟨gb101,1,none⟩=some (.int .i64 a0_1):=(ze BK101.out 1).trans rfl;have hcz15_2:wr.cell? ⟨gb101,2,none⟩=some (.slice A0_2 l0_2.length c0_2):=(ze BK101.out 2).trans rfl;have hfz15_0:=zf BK101.out 0;have hfz15_1:=zf BK101.out 1;have hfz15_2:=zf BK101.out 2;(go_wp2_with (first|((with_reducible refine zu (f:=73) rfl ?_);refine goesL_ (some 21) rfl rfl Tryz.func73 (by kernel_rfl) rfl #[.agg #[.int .i64 a0_0,.int .i64 a0_1,.slice A0_2 l0_2.length c0_2],.int .i64 x4_1,.int .i64 x5_2] rfl (by first|rfl|simp only [z3_,z4_,z5_];try rfl) ?_;(with_reducible refine (spec_boHas.calls a0_0 a0_1 _ _ l0_2 x4_1 x5_2 false _ ?side1 ?side2 A6.out).mono ?_);(case side1=>apply_rules only [zq HR0_2.out HB.out,zm,zn,zo]);(case side2=>exact HC0_2.out);rintro e w16 ⟨rfl,hb⟩;refine ⟨_,rfl,?_⟩;replace HO_3:=za (Kd.S_below (by apply_rules only [HO_3.out,Kd.S_alloc,Kd.S_drewN,Kd.S_drew]) hb);replace BK101:=za (zp (g:=gb101) (o:=.cells #[.int .i64 a0_0,.int .i64 a0_1,.slice A0_2 l0_2.length c0_2] 26 (0,0)) (by apply_rules only [BK101.out,zj,zh,zk]) hb);replace HB:=za (zl (by apply_rules only [HB.out,zc,zd,zb,zg,GE101.out]) hb))));(go_roundg k2);(case measure=>have:=HK1.out;have:=HK2.out;omega);case rel=>exact ⟨(x3_2),(wrap64 (x5_2 + 1)),(by first|rfl|(simp;done)|(simp [*];done)),H',⟨by have:=HK1.out;have:=HK2.out;omega⟩,⟨by apply_rules only [HO_3.out,Kd.S_alloc,Kd.S_drewN,Kd.S_drew]⟩,⟨by apply_rules only [BK101.out,zj,zh,zk]⟩,⟨by apply_rules only [HB.out,zc,zd,zb,zg,GE101.out]⟩⟩
      · rw [if_neg c5] at H;have c5b0:decide (x5_2 < a0_1)=false:=decide_eq_false c5;clear c5;have H':=za H;clear H;have hcz17_0:wr.cell? ⟨gb101,0,none⟩=some (.int .i64 a0_0):=(ze BK101.out 0).trans rfl;have hcz17_1:wr.cell? ⟨gb101,1,none⟩=some (.int .i64 a0_1):=(ze BK101.out 1).trans rfl;have hcz17_2:wr.cell? ⟨gb101,2,none⟩=some (.slice A0_2 l0_2.length c0_2):=(ze BK101.out 2).trans rfl;have hfz17_0:=zf BK101.out 0;have hfz17_1:=zf BK101.out 1;have hfz17_2:=zf BK101.out 2;(go_wp2);(go_roundg k2);(case measure=>have:=HK1.out;have:=HK2.out;omega);case rel=>exact ⟨(x3_2),(wrap64 (x4_1 + 1)),(by first|rfl|(simp;done)|(simp [*];done)),H',⟨by have:=HK1.out;have:=HK2.out;omega⟩,⟨by apply_rules only [HO_3.out,Kd.S_alloc,Kd.S_drewN,Kd.S_drew]⟩,⟨by apply_rules only [BK101.out,zj,zh,zk]⟩,⟨by apply_rules only [HB.out,zc,zd,zb,zg,GE101.out]⟩⟩
   · rw [if_neg c3] at H;have c3b0:decide (x4_1 < a0_0)=false:=decide_eq_false c3;clear c3;obtain rfl:=Option.some.inj H;have hcz18_0:wr.cell? ⟨gb101,0,none⟩=some (.int .i64 a0_0):=(ze BK101.out 0).trans rfl;have hcz18_1:wr.cell? ⟨gb101,1,none⟩=some (.int .i64 a0_1):=(ze BK101.out 1).trans rfl;have hcz18_2:wr.cell? ⟨gb101,2,none⟩=some (.slice A0_2 l0_2.length c0_2):=(ze BK101.out 2).trans rfl;have hfz18_0:=zf BK101.out 0;have hfz18_1:=zf BK101.out 1;have hfz18_2:=zf BK101.out 2;(go_wp2);(go_ret);exact ⟨_,by first|rfl|simp [*,errW_none,errW_some] <;> rfl,by (with_reducible repeat (first|apply Kd.S_alloc|apply Kd.S_drewN|apply Kd.S_drew));exact HO_3.out,by repeat (first|(with_reducible first|exact HB.out|apply zc|apply zd|apply zb|refine zg ?_ GE101.out)|exact HB.out)⟩
mutual
def spec_IsCover.j0:Nat→Bool→Int→Int→List Int→List Int→List Int→Option (Bool × Bool)
|0,_,_,_,_,_,_=>none
|k + 1,x28,x102000,x102001,x102002,x103000,x103001=>if x28=true then (some (false,false)) else ((spec_boCells.f k x102000 x102001 x102002).bind fun t106=>(spec_IsCover.l0 k t106 (t106.length:Int) 0 x103000 x103001))
def spec_IsCover.l0:Nat→List (List Int)→Int→Int→List Int→List Int→Option (Bool × Bool)
|0,_,_,_,_,_=>none
|k + 1,x30,x31,x32,x103000,x103001=>if x32 < x31 then (if 0≤x32 then (if x32 < (x30.length:Int) then (if 0 < ((rd_L2 x30 x32).length:Int) then ((spec_l1Has.f k x103000 (rd (rd_L2 x30 x32) 0)).bind fun t111=>(if t111=true then (spec_IsCover.l0 k x30 x31 (wrap64 (x32 + 1)) x103000 x103001) else (if 1 < ((rd_L2 x30 x32).length:Int) then ((spec_l1Has.f k x103001 (rd (rd_L2 x30 x32) 1)).bind fun t113=>(if t113=true then (spec_IsCover.l0 k x30 x31 (wrap64 (x32 + 1)) x103000 x103001) else (some (false,true)))) else (none)))) else (none)) else (none)) else (none)) else (some (true,true))
end
def spec_IsCover.f (k:Nat) (a0_0:Int) (a0_1:Int) (l0_2:List Int) (l1_0:List Int) (l1_1:List Int):Option (Bool × Bool):=(spec_boGood.f k a0_0 a0_1 l0_2).bind fun t103=>(if t103=true then ((spec_l1Rising.f k l1_0 0 (wrap64 (a0_0 - 1))).bind fun t104=>(if t104=true then ((spec_l1Rising.f k l1_1 0 (wrap64 (a0_1 - 1))).bind fun t105=>(spec_IsCover.j0 k (!t105) a0_0 a0_1 l0_2 l1_0 l1_1)) else (spec_IsCover.j0 k true a0_0 a0_1 l0_2 l1_0 l1_1))) else (spec_IsCover.j0 k true a0_0 a0_1 l0_2 l1_0 l1_1))
set_option maxHeartbeats 8000000 in
set_option maxRecDepth 100000 in
theorem spec_IsCover.calls (k:Nat) (a0_0:Int) (a0_1:Int) (A0_2:Option Addr) (c0_2:Nat) (l0_2:List Int) (A1_0:Option Addr) (c1_0:Nat) (l1_0:List Int) (A1_1:Option Addr) (c1_1:Nat) (l1_1:List Int) (r1:Bool) (r2:Bool) (w:World) (hr0_2:Kd.C (Kd.int .i64) w A0_2 l0_2.length l0_2) (hc0_2:l0_2.length≤c0_2) (hr1_0:Kd.C (Kd.int .i64) w A1_0 l1_0.length l1_0) (hc1_0:l1_0.length≤c1_0) (hr1_1:Kd.C (Kd.int .i64) w A1_1 l1_1.length l1_1) (hc1_1:l1_1.length≤c1_1) (h:spec_IsCover.f k a0_0 a0_1 l0_2 l1_0 l1_1=some (r1,r2)) :
  Calls Tryz.prog 23 #[.agg #[.int .i64 a0_0,.int .i64 a0_1,.slice A0_2 l0_2.length c0_2],.agg #[.slice A1_0 l1_0.length c1_0,.slice A1_1 l1_1.length c1_1]] w fun e w'=>e=.returned (.tuple #[.bool r1,.bool r2])∧Below w.heap.size w w':=by
 have hu26:=Tryz.underlying26;have hu37:=Tryz.underlying37;have HR0_2:=za hr0_2;have HC0_2:=za hc0_2;clear hr0_2 hc0_2;have HR1_0:=za hr1_0;have HC1_0:=za hc1_0;clear hr1_0 hc1_0;have HR1_1:=za hr1_1;have HC1_1:=za hc1_1;clear hr1_1 hc1_1;have HB:=za (Below.refl w.heap.size w);have H:((spec_boGood.f k a0_0 a0_1 l0_2).bind fun t103=>(if t103=true then ((spec_l1Rising.f k l1_0 0 (wrap64 (a0_0 - 1))).bind fun t104=>(if t104=true then ((spec_l1Rising.f k l1_1 0 (wrap64 (a0_1 - 1))).bind fun t105=>(spec_IsCover.j0 k (!t105) a0_0 a0_1 l0_2 l1_0 l1_1)) else (spec_IsCover.j0 k true a0_0 a0_1 l0_2 l1_0 l1_1))) else (spec_IsCover.j0 k true a0_0 a0_1 l0_2 l1_0 l1_1)))=some (r1,r2):=h;clear h;have HC3:=za H;clear H;(go_enter Tryz.func23,Tryz.ntmps23);(go_upto_region 1 with (first|((with_reducible refine zv (N:=2) rfl ?_);refine zw ?hg (N:=2) ?hd (cs:=#[.int .i64 a0_0,.int .i64 a0_1,.slice A0_2 l0_2.length c0_2]) (t:=26) ?hr ?_;(case hd=>rfl);(case hg=>rfl);(case hr=>first|(go_simp;done)|(go_simp;rfl));intro gb101 hg w4 hbox hb;have BK101:=za (hbox);have GW101:=za ((by rw [hg];exact (zi (by apply_rules only [HB.out,zc,zd,zb])):w.heap.size≤gb101));have GE101:=za ((by rw [hg];exact (zi (by apply_rules only [HB.out,zc,zd,zb])):w.heap.size≤gb101));replace HB:=za (zl (by apply_rules only [HB.out,zc,zd,zb]) hb);clear hb hbox hg)|((with_reducible refine zv (N:=3) rfl ?_);refine zw ?hg (N:=3) ?hd (cs:=#[.slice A1_0 l1_0.length c1_0,.slice A1_1 l1_1.length c1_1]) (t:=37) ?hr ?_;(case hd=>rfl);(case hg=>rfl);(case hr=>first|(go_simp;done)|(go_simp;rfl));intro gb102 hg w5 hbox hb;have BK102:=za (hbox);have GW102:=za ((by rw [hg];exact (zi (by apply_rules only [HB.out,zc,zd,zb,zg,GE101.out])):w.heap.size≤gb102));have GE102:=za ((by rw [hg];exact (zi (by apply_rules only [HB.out,zc,zd,zb,zg,GE101.out])):w.heap.size≤gb102));replace HB:=za (zl (by apply_rules only [HB.out,zc,zd,zb,zg,GE101.out]) hb);have NB101_102:=za ((by rw [hg];exact Nat.ne_of_lt (blk_lt (g:=gb101) (o:=.cells #[.int .i64 a0_0,.int .i64 a0_1,.slice A0_2 l0_2.length c0_2] 26 (0,0)) (by apply_rules only [BK101.out,zj,zh,zk])):gb101 ≠ gb102));have NB102_101:=za ((by rw [hg];exact Nat.ne_of_gt (blk_lt (g:=gb101) (o:=.cells #[.int .i64 a0_0,.int .i64 a0_1,.slice A0_2 l0_2.length c0_2] 26 (0,0)) (by apply_rules only [BK101.out,zj,zh,zk])):gb102 ≠ gb101));replace BK101:=za (zp (g:=gb101) (o:=.cells #[.int .i64 a0_0,.int .i64 a0_1,.slice A0_2 l0_2.length c0_2] 26 (0,0)) (by apply_rules only [BK101.out,zj,zh,zk]) hb);clear hb hbox hg)));(repeat (go_quiet (first|((with_reducible refine zv (N:=2) rfl ?_);refine zw ?hg (N:=2) ?hd (cs:=#[.int .i64 a0_0,.int .i64 a0_1,.slice A0_2 l0_2.length c0_2]) (t:=26) ?hr ?_;(case hd=>rfl);(case hg=>rfl);(case hr=>first|(go_simp;done)|(go_simp;rfl));intro gb101 hg w4 hbox hb;have BK101:=za (hbox);have GW101:=za ((by rw [hg];exact (zi (by apply_rules only [HB.out,zc,zd,zb])):w.heap.size≤gb101));have GE101:=za ((by rw [hg];exact (zi (by apply_rules only [HB.out,zc,zd,zb])):w.heap.size≤gb101));replace HB:=za (zl (by apply_rules only [HB.out,zc,zd,zb]) hb);clear hb hbox hg)|((with_reducible refine zv (N:=3) rfl ?_);refine zw ?hg (N:=3) ?hd (cs:=#[.slice A1_0 l1_0.length c1_0,.slice A1_1 l1_1.length c1_1]) (t:=37) ?hr ?_;(case hd=>rfl);(case hg=>rfl);(case hr=>first|(go_simp;done)|(go_simp;rfl));intro gb102 hg w5 hbox hb;have BK102:=za (hbox);have GW102:=za ((by rw [hg];exact (zi (by apply_rules only [HB.out,zc,zd,zb,zg,GE101.out])):w.heap.size≤gb102));have GE102:=za ((by rw [hg];exact (zi (by apply_rules only [HB.out,zc,zd,zb,zg,GE101.out])):w.heap.size≤gb102));replace HB:=za (zl (by apply_rules only [HB.out,zc,zd,zb,zg,GE101.out]) hb);have NB101_102:=za ((by rw [hg];exact Nat.ne_of_lt (blk_lt (g:=gb101) (o:=.cells #[.int .i64 a0_0,.int .i64 a0_1,.slice A0_2 l0_2.length c0_2] 26 (0,0)) (by apply_rules only [BK101.out,zj,zh,zk])):gb101 ≠ gb102));have NB102_101:=za ((by rw [hg];exact Nat.ne_of_gt (blk_lt (g:=gb101) (o:=.cells #[.int .i64 a0_0,.int .i64 a0_1,.slice A0_2 l0_2.length c0_2] 26 (0,0)) (by apply_rules only [BK101.out,zj,zh,zk])):gb102 ≠ gb101));replace BK101:=za (zp (g:=gb101) (o:=.cells #[.int .i64 a0_0,.int .i64 a0_1,.slice A0_2 l0_2.length c0_2] 26 (0,0)) (by apply_rules only [BK101.out,zj,zh,zk]) hb);clear hb hbox hg));go_upto_region 1 with (first|((with_reducible refine zv (N:=2) rfl ?_);refine zw ?hg (N:=2) ?hd (cs:=#[.int .i64 a0_0,.int .i64 a0_1,.slice A0_2 l0_2.length c0_2]) (t:=26) ?hr ?_;(case hd=>rfl);(case hg=>rfl);(case hr=>first|(go_simp;done)|(go_simp;rfl));intro gb101 hg w4 hbox hb;have BK101:=za (hbox);have GW101:=za ((by rw [hg];exact (zi (by apply_rules only [HB.out,zc,zd,zb])):w.heap.size≤gb101));have GE101:=za ((by rw [hg];exact (zi (by apply_rules only [HB.out,zc,zd,zb])):w.heap.size≤gb101));replace HB:=za (zl (by apply_rules only [HB.out,zc,zd,zb]) hb);clear hb hbox hg)|((with_reducible refine zv (N:=3) rfl ?_);refine zw ?hg (N:=3) ?hd (cs:=#[.slice A1_0 l1_0.length c1_0,.slice A1_1 l1_1.length c1_1]) (t:=37) ?hr ?_;(case hd=>rfl);(case hg=>rfl);(case hr=>first|(go_simp;done)|(go_simp;rfl));intro gb102 hg w5 hbox hb;have BK102:=za (hbox);have GW102:=za ((by rw [hg];exact (zi (by apply_rules only [HB.out,zc,zd,zb,zg,GE101.out])):w.heap.size≤gb102));have GE102:=za ((by rw [hg];exact (zi (by apply_rules only [HB.out,zc,zd,zb,zg,GE101.out])):w.heap.size≤gb102));replace HB:=za (zl (by apply_rules only [HB.out,zc,zd,zb,zg,GE101.out]) hb);have NB101_102:=za ((by rw [hg];exact Nat.ne_of_lt (blk_lt (g:=gb101) (o:=.cells #[.int .i64 a0_0,.int .i64 a0_1,.slice A0_2 l0_2.length c0_2] 26 (0,0)) (by apply_rules only [BK101.out,zj,zh,zk])):gb101 ≠ gb102));have NB102_101:=za ((by rw [hg];exact Nat.ne_of_gt (blk_lt (g:=gb101) (o:=.cells #[.int .i64 a0_0,.int .i64 a0_1,.slice A0_2 l0_2.length c0_2] 26 (0,0)) (by apply_rules only [BK101.out,zj,zh,zk])):gb102 ≠ gb101));replace BK101:=za (zp (g:=gb101) (o:=.cells #[.int .i64 a0_0,.int .i64 a0_1,.slice A0_2 l0_2.length c0_2] 26 (0,0)) (by apply_rules only [BK101.out,zj,zh,zk]) hb);clear hb hbox hg))));(try simp only [Act.put,z0_,z1_,z2_]);go_cut [28] (fun v28 wc=>∃ (kq:Nat) (x28_2:Bool),v28=.bool x28_2∧Aside0 (spec_IsCover.j0 kq x28_2 a0_0 a0_1 l0_2 l1_0 l1_1=some (r1,r2))∧Aside0 (kq≤k)∧Aside0 (wc.heap[gb101]?=some (.cells #[.int .i64 a0_0,.int .i64 a0_1,(.slice A0_2 l0_2.length c0_2)] 26 (0,0)))∧Aside0 (wc.heap[gb102]?=some (.cells #[(.slice A1_0 l1_0.length c1_0),(.slice A1_1 l1_1.length c1_1)] 37 (0,0)))∧Aside0 (Below w.heap.size w wc))
 case first =>
  have H:=HC3.out;clear HC3;obtain ⟨t103,A6,H⟩:=bindAside H;(try dsimp only at H);by_cases c7:t103=true
  ·
   subst c7;(have H1:((spec_l1Rising.f k l1_0 0 (wrap64 (a0_0 - 1))).bind fun t104=>(if t104=true then ((spec_l1Rising.f k l1_1 0 (wrap64 (a0_1 - 1))).bind fun t105=>(spec_IsCover.j0 k (!t105) a0_0 a0_1 l0_2 l1_0 l1_1)) else (spec_IsCover.j0 k true a0_0 a0_1 l0_2 l1_0 l1_1)))=some (r1,r2):=by rw [if_pos rfl] at H;exact H);clear H;have H:=H1;clear H1;obtain ⟨t104,A8,H⟩:=bindAside H;(try dsimp only at H);by_cases c9:t104=true
   · subst c9;(have H1:((spec_l1Rising.f k l1_1 0 (wrap64 (a0_1 - 1))).bind fun t105=>(spec_IsCover.j0 k (!t105) a0_0 a0_1 l0_2 l1_0 l1_1))=some (r1,r2):=by rw [if_pos rfl] at H;exact H);clear H;have H:=H1;clear H1;obtain ⟨t105,A10,H⟩:=bindAside H;(try dsimp only at H);have H':=za H;clear H;have hnb11:=NB101_102.out;have hnc11:=NB102_101.out;have hcz12_0:w5.cell? ⟨gb101,0,none⟩=some (.int .i64 a0_0):=(ze BK101.out 0).trans rfl;have hcz12_1:w5.cell? ⟨gb101,1,none⟩=some (.int .i64 a0_1):=(ze BK101.out 1).trans rfl;have hcz12_2:w5.cell? ⟨gb101,2,none⟩=some (.slice A0_2 l0_2.length c0_2):=(ze BK101.out 2).trans rfl;have hfz12_0:=zf BK101.out 0;have hfz12_1:=zf BK101.out 1;have hfz12_2:=zf BK101.out 2;(go_wp2_with (first|(go_at_call 26;(with_reducible refine (spec_boGood.calls k a0_0 a0_1 _ _ l0_2 true _ ?side1 ?side2 A6.out).mono ?_);(case side1=>apply_rules only [zq HR0_2.out HB.out,zm,zn,zo]);(case side2=>exact HC0_2.out);rintro e w13 ⟨rfl,hb⟩;replace BK101:=za (zp (g:=gb101) (o:=.cells #[.int .i64 a0_0,.int .i64 a0_1,.slice A0_2 l0_2.length c0_2] 26 (0,0)) (by apply_rules only [BK101.out,zj,zh,zk]) hb);replace BK102:=za (zp (g:=gb102) (o:=.cells #[.slice A1_0 l1_0.length c1_0,.slice A1_1 l1_1.length c1_1] 37 (0,0)) (by apply_rules only [BK102.out,zj,zh,zk]) hb);replace HB:=za (zl (by apply_rules only [HB.out,zc,zd,zb,zg,GE101.out,GE102.out]) hb);have hcz14_0:w13.cell? ⟨gb102,0,none⟩=some (.slice A1_0 l1_0.length c1_0):=(ze BK102.out 0).trans rfl;have hcz14_1:w13.cell? ⟨gb102,1,none⟩=some (.slice A1_1 l1_1.length c1_1):=(ze BK102.out 1).trans rfl;have hfz14_0:=zf BK102.out 0;have hfz14_1:=zf BK102.out 1;have hcz15_0:w13.cell? ⟨gb101,0,none⟩=some (.int .i64 a0_0):=(ze BK101.out 0).trans rfl;have hcz15_1:w13.cell? ⟨gb101,1,none⟩=some (.int .i64 a0_1):=(ze BK101.out 1).trans rfl;have hcz15_2:w13.cell? ⟨gb101,2,none⟩=some (.slice A0_2 l0_2.length c0_2):=(ze BK101.out 2).trans rfl;have hfz15_0:=zf BK101.out 0;have hfz15_1:=zf BK101.out 1;have hfz15_2:=zf BK101.out 2)|(go_at_call 47;(with_reducible refine (spec_l1Rising.calls k _ _ l1_0 0 (wrap64 (a0_0 - 1)) true _ ?side1 ?side2 A8.out).mono ?_);(case side1=>apply_rules only [zq HR1_0.out HB.out,zm,zn,zo]);(case side2=>exact HC1_0.out);rintro e w' ⟨rfl,⟨nd,rfl⟩⟩;(try first|exact ⟨rfl,_,World.drewN_drewN _ _ _⟩|exact ⟨rfl,_,Eq.trans (World.drewN_drewN _ _ _) (congrArg (World.drewN _) (Nat.add_assoc _ _ _))⟩))|(go_at_call 47;(with_reducible refine (spec_l1Rising.calls k _ _ l1_1 0 (wrap64 (a0_1 - 1)) t105 _ ?side1 ?side2 A10.out).mono ?_);(case side1=>repeat (first|exact (zq HR1_1.out (by apply_rules only [HB.out,zc,zd,zb,zg,GE101.out,GE102.out]))|(with_reducible refine zm ?_ _)|(with_reducible refine zn ?_ _)|(with_reducible refine zo ?_)));(case side2=>exact HC1_1.out);rintro e w' ⟨rfl,⟨nd,rfl⟩⟩;(try first|exact ⟨rfl,_,World.drewN_drewN _ _ _⟩|exact ⟨rfl,_,Eq.trans (World.drewN_drewN _ _ _) (congrArg (World.drewN _) (Nat.add_assoc _ _ _))⟩))));(repeat (go_quiet (first|(go_at_call 26;(with_reducible refine (spec_boGood.calls k a0_0 a0_1 _ _ l0_2 true _ ?side1 ?side2 A6.out).mono ?_);(case side1=>apply_rules only [zq HR0_2.out HB.out,zm,zn,zo]);(case side2=>exact HC0_2.out);rintro e w13 ⟨rfl,hb⟩;replace BK101:=za (zp (g:=gb101) (o:=.cells #[.int .i64 a0_0,.int .i64 a0_1,.slice A0_2 l0_2.length c0_2] 26 (0,0)) (by apply_rules only [BK101.out,zj,zh,zk]) hb);replace BK102:=za (zp (g:=gb102) (o:=.cells #[.slice A1_0 l1_0.length c1_0,.slice A1_1 l1_1.length c1_1] 37 (0,0)) (by apply_rules only [BK102.out,zj,zh,zk]) hb);replace HB:=za (zl (by apply_rules only [HB.out,zc,zd,zb,zg,GE101.out,GE102.out]) hb);have hcz14_0:w13.cell? ⟨gb102,0,none⟩=some (.slice A1_0 l1_0.length c1_0):=(ze BK102.out 0).trans rfl;have hcz14_1:w13.cell? ⟨gb102,1,none⟩=some (.slice A1_1 l1_1.length c1_1):=(ze BK102.out 1).trans rfl;have hfz14_0:=zf BK102.out 0;have hfz14_1:=zf BK102.out 1;have hcz15_0:w13.cell? ⟨gb101,0,none⟩=some (.int .i64 a0_0):=(ze BK101.out 0).trans rfl;have hcz15_1:w13.cell? ⟨gb101,1,none⟩=some (.int .i64 a0_1):=(ze BK101.out 1).trans rfl;have hcz15_2:w13.cell? ⟨gb101,2,none⟩=some (.slice A0_2 l0_2.length c0_2):=(ze BK101.out 2).trans rfl;have hfz15_0:=zf BK101.out 0;have hfz15_1:=zf BK101.out 1;have hfz15_2:=zf BK101.out 2)|(go_at_call 47;(with_reducible refine (spec_l1Rising.calls k _ _ l1_0 0 (wrap64 (a0_0 - 1)) true _ ?side1 ?side2 A8.out).mono ?_);(case side1=>apply_rules only [zq HR1_0.out HB.out,zm,zn,zo]);(case side2=>exact HC1_0.out);rintro e w' ⟨rfl,⟨nd,rfl⟩⟩;(try first|exact ⟨rfl,_,World.drewN_drewN _ _ _⟩|exact ⟨rfl,_,Eq.trans (World.drewN_drewN _ _ _) (congrArg (World.drewN _) (Nat.add_assoc _ _ _))⟩))|(go_at_call 47;(with_reducible refine (spec_l1Rising.calls k _ _ l1_1 0 (wrap64 (a0_1 - 1)) t105 _ ?side1 ?side2 A10.out).mono ?_);(case side1=>repeat (first|exact (zq HR1_1.out (by apply_rules only [HB.out,zc,zd,zb,zg,GE101.out,GE102.out]))|(with_reducible refine zm ?_ _)|(with_reducible refine zn ?_ _)|(with_reducible refine zo ?_)));(case side2=>exact HC1_1.out);rintro e w' ⟨rfl,⟨nd,rfl⟩⟩;(try first|exact ⟨rfl,_,World.drewN_drewN _ _ _⟩|exact ⟨rfl,_,Eq.trans (World.drewN_drewN _ _ _) (congrArg (World.drewN _) (Nat.add_assoc _ _ _))⟩)));try go_wp2_with (first|(go_at_call 26;(with_reducible refine (spec_boGood.calls k a0_0 a0_1 _ _ l0_2 true _ ?side1 ?side2 A6.out).mono ?_);(case side1=>apply_rules only [zq HR0_2.out HB.out,zm,zn,zo]);(case side2=>exact HC0_2.out);rintro e w13 ⟨rfl,hb⟩;replace BK101:=za (zp (g:=gb101) (o:=.cells #[.int .i64 a0_0,.int .i64 a0_1,.slice A0_2 l0_2.length c0_2] 26 (0,0)) (by apply_rules only [BK101.out,zj,zh,zk]) hb);replace BK102:=za (zp (g:=gb102) (o:=.cells #[.slice A1_0 l1_0.length c1_0,.slice A1_1 l1_1.length c1_1] 37 (0,0)) (by apply_rules only [BK102.out,zj,zh,zk]) hb);replace HB:=za (zl (by apply_rules only [HB.out,zc,zd,zb,zg,GE101.out,GE102.out]) hb);have hcz14_0:w13.cell? ⟨gb102,0,none⟩=some (.slice A1_0 l1_0.length c1_0):=(ze BK102.out 0).trans rfl;have hcz14_1:w13.cell? ⟨gb102,1,none⟩=some (.slice A1_1 l1_1.length c1_1):=(ze BK102.out 1).trans rfl;have hfz14_0:=zf BK102.out 0;have hfz14_1:=zf BK102.out 1;have hcz15_0:w13.cell? ⟨gb101,0,none⟩=some (.int .i64 a0_0):=(ze BK101.out 0).trans rfl;have hcz15_1:w13.cell? ⟨gb101,1,none⟩=some (.int .i64 a0_1):=(ze BK101.out 1).trans rfl;have hcz15_2:w13.cell? ⟨gb101,2,none⟩=some (.slice A0_2 l0_2.length c0_2):=(ze BK101.out 2).trans rfl;have hfz15_0:=zf BK101.out 0;have hfz15_1:=zf BK101.out 1;have hfz15_2:=zf BK101.out 2)|(go_at_call 47;(with_reducible refine (spec_l1Rising.calls k _ _ l1_0 0 (wrap64 (a0_0 - 1)) true _ ?side1 ?side2 A8.out).mono ?_);(case side1=>apply_rules only [zq HR1_0.out HB.out,zm,zn,zo]);(case side2=>exact HC1_0.out);rintro e w' ⟨rfl,⟨nd,rfl⟩⟩;(try first|exact ⟨rfl,_,World.drewN_drewN _ _ _⟩|exact ⟨rfl,_,Eq.trans (World.drewN_drewN _ _ _) (congrArg (World.drewN _) (Nat.add_assoc _ _ _))⟩))|(go_at_call 47;(with_reducible refine (spec_l1Rising.calls k _ _ l1_1 0 (wrap64 (a0_1 - 1)) t105 _ ?side1 ?side2 A10.out).mono ?_);(case side1=>repeat (first|exact (zq HR1_1.out (by apply_rules only [HB.out,zc,zd,zb,zg,GE101.out,GE102.out]))|(with_reducible refine zm ?_ _)|(with_reducible refine zn ?_ _)|(with_reducible refine zo ?_)));(case side2=>exact HC1_1.out);rintro e w' ⟨rfl,⟨nd,rfl⟩⟩;(try first|exact ⟨rfl,_,World.drewN_drewN _ _ _⟩|exact ⟨rfl,_,Eq.trans (World.drewN_drewN _ _ _) (congrArg (World.drewN _) (Nat.add_assoc _ _ _))⟩)))));(go_meet);case rel=>exact ⟨_,(!t105),(by first|rfl|(simp;done)|(simp [*];done)),H',⟨by first|omega|exact Nat.le_refl _⟩,⟨by apply_rules only [BK101.out,zj,zh,zk]⟩,⟨by apply_rules only [BK102.out,zj,zh,zk]⟩,⟨by apply_rules only [HB.out,zc,zd,zb,zg,GE101.out,GE102.out]⟩⟩
   · replace c9:=Bool.eq_false_iff.mpr c9;subst c9;(have H1:(spec_IsCover.j0 k true a0_0 a0_1 l0_2 l1_0 l1_1)=some (r1,r2):=by rw [if_neg (show ¬ (false=true) by decide)] at H;exact H);clear H;have H:=H1;clear H1;have H':=za H;clear H;have hnb16:=NB101_102.out;have hnc16:=NB102_101.out;have hcz17_0:w5.cell? ⟨gb101,0,none⟩=some (.int .i64 a0_0):=(ze BK101.out 0).trans rfl;have hcz17_1:w5.cell? ⟨gb101,1,none⟩=some (.int .i64 a0_1):=(ze BK101.out 1).trans rfl;have hcz17_2:w5.cell? ⟨gb101,2,none⟩=some (.slice A0_2 l0_2.length c0_2):=(ze BK101.out 2).trans rfl;have hfz17_0:=zf BK101.out 0;have hfz17_1:=zf BK101.out 1;have hfz17_2:=zf BK101.out 2;(go_wp2_with (first|(go_at_call 26;(with_reducible refine (spec_boGood.calls k a0_0 a0_1 _ _ l0_2 true _ ?side1 ?side2 A6.out).mono ?_);(case side1=>apply_rules only [zq HR0_2.out HB.out,zm,zn,zo]);(case side2=>exact HC0_2.out);rintro e w18 ⟨rfl,hb⟩;replace BK101:=za (zp (g:=gb101) (o:=.cells #[.int .i64 a0_0,.int .i64 a0_1,.slice A0_2 l0_2.length c0_2] 26 (0,0)) (by apply_rules only [BK101.out,zj,zh,zk]) hb);replace BK102:=za (zp (g:=gb102) (o:=.cells #[.slice A1_0 l1_0.length c1_0,.slice A1_1 l1_1.length c1_1] 37 (0,0)) (by apply_rules only [BK102.out,zj,zh,zk]) hb);replace HB:=za (zl (by apply_rules only [HB.out,zc,zd,zb,zg,GE101.out,GE102.out]) hb);have hcz19_0:w18.cell? ⟨gb102,0,none⟩=some (.slice A1_0 l1_0.length c1_0):=(ze BK102.out 0).trans rfl;have hcz19_1:w18.cell? ⟨gb102,1,none⟩=some (.slice A1_1 l1_1.length c1_1):=(ze BK102.out 1).trans rfl;have hfz19_0:=zf BK102.out 0;have hfz19_1:=zf BK102.out 1;have hcz20_0:w18.cell? ⟨gb101,0,none⟩=some (.int .i64 a0_0):=(ze BK101.out 0).trans rfl;have hcz20_1:w18.cell? ⟨gb101,1,none⟩=some (.int .i64 a0_1):=(ze BK101.out 1).trans rfl;have hcz20_2:w18.cell? ⟨gb101,2,none⟩=some (.slice A0_2 l0_2.length c0_2):=(ze BK101.out 2).trans rfl;have hfz20_0:=zf BK101.out 0;have hfz20_1:=zf BK101.out 1;have hfz20_2:=zf BK101.out 2)|(go_at_call 47;(with_reducible refine (spec_l1Rising.calls k _ _ l1_0 0 (wrap64 (a0_0 - 1)) false _ ?side1 ?side2 A8.out).mono ?_);(case side1=>apply_rules only [zq HR1_0.out HB.out,zm,zn,zo]);(case side2=>exact HC1_0.out);rintro e w' ⟨rfl,⟨nd,rfl⟩⟩;(try first|exact ⟨rfl,_,World.drewN_drewN _ _ _⟩|exact ⟨rfl,_,Eq.trans (World.drewN_drewN _ _ _) (congrArg (World.drewN _) (Nat.add_assoc _ _ _))⟩))));(repeat (go_quiet (first|(go_at_call 26;(with_reducible refine (spec_boGood.calls k a0_0 a0_1 _ _ l0_2 true _ ?side1 ?side2 A6.out).mono ?_);(case side1=>apply_rules only [zq HR0_2.out HB.out,zm,zn,zo]);(case side2=>exact HC0_2.out);rintro e w18 ⟨rfl,hb⟩;replace BK101:=za (zp (g:=gb101) (o:=.cells #[.int .i64 a0_0,.int .i64 a0_1,.slice A0_2 l0_2.length c0_2] 26 (0,0)) (by apply_rules only [BK101.out,zj,zh,zk]) hb);replace BK102:=za (zp (g:=gb102) (o:=.cells #[.slice A1_0 l1_0.length c1_0,.slice A1_1 l1_1.length c1_1] 37 (0,0)) (by apply_rules only [BK102.out,zj,zh,zk]) hb);replace HB:=za (zl (by apply_rules only [HB.out,zc,zd,zb,zg,GE101.out,GE102.out]) hb);have hcz19_0:w18.cell? ⟨gb102,0,none⟩=some (.slice A1_0 l1_0.length c1_0):=(ze BK102.out 0).trans rfl;have hcz19_1:w18.cell? ⟨gb102,1,none⟩=some (.slice A1_1 l1_1.length c1_1):=(ze BK102.out 1).trans rfl;have hfz19_0:=zf BK102.out 0;have hfz19_1:=zf BK102.out 1;have hcz20_0:w18.cell? ⟨gb101,0,none⟩=some (.int .i64 a0_0):=(ze BK101.out 0).trans rfl;have hcz20_1:w18.cell? ⟨gb101,1,none⟩=some (.int .i64 a0_1):=(ze BK101.out 1).trans rfl;have hcz20_2:w18.cell? ⟨gb101,2,none⟩=some (.slice A0_2 l0_2.length c0_2):=(ze BK101.out 2).trans rfl;have hfz20_0:=zf BK101.out 0;have hfz20_1:=zf BK101.out 1;have hfz20_2:=zf BK101.out 2)|(go_at_call 47;(with_reducible refine (spec_l1Rising.calls k _ _ l1_0 0 (wrap64 (a0_0 - 1)) false _ ?side1 ?side2 A8.out).mono ?_);(case side1=>apply_rules only [zq HR1_0.out HB.out,zm,zn,zo]);(case side2=>exact HC1_0.out);rintro e w' ⟨rfl,⟨nd,rfl⟩⟩;(try first|exact ⟨rfl,_,World.drewN_drewN _ _ _⟩|exact ⟨rfl,_,Eq.trans (World.drewN_drewN _ _ _) (congrArg (World.drewN _) (Nat.add_assoc _ _ _))⟩)));try go_wp2_with (first|(go_at_call 26;(with_reducible refine (spec_boGood.calls k a0_0 a0_1 _ _ l0_2 true _ ?side1 ?side2 A6.out).mono ?_);(case side1=>apply_rules only [zq HR0_2.out HB.out,zm,zn,zo]);(case side2=>exact HC0_2.out);rintro e w18 ⟨rfl,hb⟩;replace BK101:=za (zp (g:=gb101) (o:=.cells #[.int .i64 a0_0,.int .i64 a0_1,.slice A0_2 l0_2.length c0_2] 26 (0,0)) (by apply_rules only [BK101.out,zj,zh,zk]) hb);replace BK102:=za (zp (g:=gb102) (o:=.cells #[.slice A1_0 l1_0.length c1_0,.slice A1_1 l1_1.length c1_1] 37 (0,0)) (by apply_rules only [BK102.out,zj,zh,zk]) hb);replace HB:=za (zl (by apply_rules only [HB.out,zc,zd,zb,zg,GE101.out,GE102.out]) hb);have hcz19_0:w18.cell? ⟨gb102,0,none⟩=some (.slice A1_0 l1_0.length c1_0):=(ze BK102.out 0).trans rfl;have hcz19_1:w18.cell? ⟨gb102,1,none⟩=some (.slice A1_1 l1_1.length c1_1):=(ze BK102.out 1).trans rfl;have hfz19_0:=zf BK102.out 0;have hfz19_1:=zf BK102.out 1;have hcz20_0:w18.cell? ⟨gb101,0,none⟩=some (.int .i64 a0_0):=(ze BK101.out 0).trans rfl;have hcz20_1:w18.cell? ⟨gb101,1,none⟩=some (.int .i64 a0_1):=(ze BK101.out 1).trans rfl;have hcz20_2:w18.cell? ⟨gb101,2,none⟩=some (.slice A0_2 l0_2.length c0_2):=(ze BK101.out 2).trans rfl;have hfz20_0:=zf BK101.out 0;have hfz20_1:=zf BK101.out 1;have hfz20_2:=zf BK101.out 2)|(go_at_call 47;(with_reducible refine (spec_l1Rising.calls k _ _ l1_0 0 (wrap64 (a0_0 - 1)) false _ ?side1 ?side2 A8.out).mono ?_);(case side1=>apply_rules only [zq HR1_0.out HB.out,zm,zn,zo]);(case side2=>exact HC1_0.out);rintro e w' ⟨rfl,⟨nd,rfl⟩⟩;(try first|exact ⟨rfl,_,World.drewN_drewN _ _ _⟩|exact ⟨rfl,_,Eq.trans (World.drewN_drewN _ _ _) (congrArg (World.drewN _) (Nat.add_assoc _ _ _))⟩)))));(go_meet);case rel=>exact ⟨_,(true),(by first|rfl|(simp;done)|(simp [*];done)),H',⟨by first|omega|exact Nat.le_refl _⟩,⟨by apply_rules only [BK101.out,zj,zh,zk]⟩,⟨by apply_rules only [BK102.out,zj,zh,zk]⟩,⟨by apply_rules only [HB.out,zc,zd,zb,zg,GE101.out,GE102.out]⟩⟩
  · replace c7:=Bool.eq_false_iff.mpr c7;subst c7;(have H1:(spec_IsCover.j0 k true a0_0 a0_1 l0_2 l1_0 l1_1)=some (r1,r2):=by rw [if_neg (show ¬ (false=true) by decide)] at H;exact H);clear H;have H:=H1;clear H1;have H':=za H;clear H;have hnb21:=NB101_102.out;have hnc21:=NB102_101.out;have hcz22_0:w5.cell? ⟨gb101,0,none⟩=some (.int .i64 a0_0):=(ze BK101.out 0).trans rfl;have hcz22_1:w5.cell? ⟨gb101,1,none⟩=some (.int .i64 a0_1):=(ze BK101.out 1).trans rfl;have hcz22_2:w5.cell? ⟨gb101,2,none⟩=some (.slice A0_2 l0_2.length c0_2):=(ze BK101.out 2).trans rfl;have hfz22_0:=zf BK101.out 0;have hfz22_1:=zf BK101.out 1;have hfz22_2:=zf BK101.out 2;(go_wp2_with (first|(go_at_call 26;(with_reducible refine (spec_boGood.calls k a0_0 a0_1 _ _ l0_2 false _ ?side1 ?side2 A6.out).mono ?_);(case side1=>apply_rules only [zq HR0_2.out HB.out,zm,zn,zo]);(case side2=>exact HC0_2.out);rintro e w23 ⟨rfl,hb⟩;replace BK101:=za (zp (g:=gb101) (o:=.cells #[.int .i64 a0_0,.int .i64 a0_1,.slice A0_2 l0_2.length c0_2] 26 (0,0)) (by apply_rules only [BK101.out,zj,zh,zk]) hb);replace BK102:=za (zp (g:=gb102) (o:=.cells #[.slice A1_0 l1_0.length c1_0,.slice A1_1 l1_1.length c1_1] 37 (0,0)) (by apply_rules only [BK102.out,zj,zh,zk]) hb);replace HB:=za (zl (by apply_rules only [HB.out,zc,zd,zb,zg,GE101.out,GE102.out]) hb))));(repeat (go_quiet (first|(go_at_call 26;(with_reducible refine (spec_boGood.calls k a0_0 a0_1 _ _ l0_2 false _ ?side1 ?side2 A6.out).mono ?_);(case side1=>apply_rules only [zq HR0_2.out HB.out,zm,zn,zo]);(case side2=>exact HC0_2.out);rintro e w23 ⟨rfl,hb⟩;replace BK101:=za (zp (g:=gb101) (o:=.cells #[.int .i64 a0_0,.int .i64 a0_1,.slice A0_2 l0_2.length c0_2] 26 (0,0)) (by apply_rules only [BK101.out,zj,zh,zk]) hb);replace BK102:=za (zp (g:=gb102) (o:=.cells #[.slice A1_0 l1_0.length c1_0,.slice A1_1 l1_1.length c1_1] 37 (0,0)) (by apply_rules only [BK102.out,zj,zh,zk]) hb);replace HB:=za (zl (by apply_rules only [HB.out,zc,zd,zb,zg,GE101.out,GE102.out]) hb)));try go_wp2_with (first|(go_at_call 26;(with_reducible refine (spec_boGood.calls k a0_0 a0_1 _ _ l0_2 false _ ?side1 ?side2 A6.out).mono ?_);(case side1=>apply_rules only [zq HR0_2.out HB.out,zm,zn,zo]);(case side2=>exact HC0_2.out);rintro e w23 ⟨rfl,hb⟩;replace BK101:=za (zp (g:=gb101) (o:=.cells #[.int .i64 a0_0,.int .i64 a0_1,.slice A0_2 l0_2.length c0_2] 26 (0,0)) (by apply_rules only [BK101.out,zj,zh,zk]) hb);replace BK102:=za (zp (g:=gb102) (o:=.cells #[.slice A1_0 l1_0.length c1_0,.slice A1_1 l1_1.length c1_1] 37 (0,0)) (by apply_rules only [BK102.out,zj,zh,zk]) hb);replace HB:=za (zl (by apply_rules only [HB.out,zc,zd,zb,zg,GE101.out,GE102.out]) hb)))));(go_meet);case rel=>exact ⟨_,(true),(by first|rfl|(simp;done)|(simp [*];done)),H',⟨by first|omega|exact Nat.le_refl _⟩,⟨by apply_rules only [BK101.out,zj,zh,zk]⟩,⟨by apply_rules only [BK102.out,zj,zh,zk]⟩,⟨by apply_rules only [HB.out,zc,zd,zb,zg,GE101.out,GE102.out]⟩⟩
 case rest =>
  clear HC3;(try clear c1);(try clear c2);(try clear p2);(try clear p6);(try clear c7);(try clear c9);(try clear c11);(try clear c16);(try clear c21);(try clear c23);(try clear hcz12_0);(try clear hcz12_1);(try clear hcz12_2);(try clear hcz14_0);(try clear hcz14_1);(try clear hcz15_0);(try clear hcz15_1);(try clear hcz15_2);(try clear hcz17_0);(try clear hcz17_1);(try clear hcz17_2);(try clear hcz19_0);(try clear hcz19_1);(try clear hcz20_0);(try clear hcz20_1);(try clear hcz20_2);(try clear hcz22_0);(try clear hcz22_1);(try clear hcz22_2);(try clear hfz12_0);(try clear hfz12_1);(try clear hfz12_2);(try clear hfz14_0);(try clear hfz14_1);(try clear hfz15_0);(try clear hfz15_1);(try clear hfz15_2);(try clear hfz17_0);(try clear hfz17_1);(try clear hfz17_2);(try clear hfz19_0);(try clear hfz19_1);(try clear hfz20_0);(try clear hfz20_1);(try clear hfz20_2);(try clear hfz22_0);(try clear hfz22_1);(try clear hfz22_2);obtain ⟨kq,x28_2,rfl,HA,HJ2,BK101,BK102,HB⟩:=hcut
  cases kq with
 |zero=>exact absurd HA.out (by simp [spec_IsCover.j0])
 |succ kj2 =>
   have H:=HA.out;clear HA;simp only [spec_IsCover.j0] at H;by_cases c24:x28_2=true
   · subst c24;(have H1:(some (false,false))=some (r1,r2):=by rw [if_pos rfl] at H;exact H);clear H;have H:=H1;clear H1;simp only [Option.some.injEq,Prod.mk.injEq] at H;obtain ⟨rfl,rfl⟩:=H;(go_wp2);(repeat (go_quiet (fail);try go_wp2));(go_ret2);exact ⟨by first|rfl|simp [*,errW_none,errW_some] <;> rfl,by repeat (first|(with_reducible first|exact HB.out|apply zc|apply zd|apply zb|refine zg ?_ GE101.out|refine zg ?_ GE102.out)|exact HB.out)⟩
   ·
    replace c24:=Bool.eq_false_iff.mpr c24;subst c24;(have H1:((spec_boCells.f kj2 a0_0 a0_1 l0_2).bind fun t106=>(spec_IsCover.l0 kj2 t106 (t106.length:Int) 0 l1_0 l1_1))=some (r1,r2):=by rw [if_neg (show ¬ (false=true) by decide)] at H;exact H);clear H;have H:=H1;clear H1;obtain ⟨t106,A25,H⟩:=bindAside H;(try dsimp only at H);have H':=za H;clear H;have hnb26:=NB101_102.out;have hnc26:=NB102_101.out;have hcz27_0:wc.cell? ⟨gb101,0,none⟩=some (.int .i64 a0_0):=(ze BK101.out 0).trans rfl;have hcz27_1:wc.cell? ⟨gb101,1,none⟩=some (.int .i64 a0_1):=(ze BK101.out 1).trans rfl;have hcz27_2:wc.cell? ⟨gb101,2,none⟩=some (.slice A0_2 l0_2.length c0_2):=(ze BK101.out 2).trans rfl;have hfz27_0:=zf BK101.out 0;have hfz27_1:=zf BK101.out 1;have hfz27_2:=zf BK101.out 2;(go_wp2_with (first|(go_at_call 48;(with_reducible refine (spec_boCells.calls kj2 a0_0 a0_1 _ _ l0_2 t106 _ ?side1 ?side2 A25.out).mono ?_);(case side1=>apply_rules only [zq HR0_2.out HB.out,zm,zn,zo]);(case side2=>exact HC0_2.out);rintro e w28 ⟨v107,rfl,ho0,hb⟩;have HO108:=za (Kd.S_lower ho0 (zi (by apply_rules only [HB.out,zc,zd,zb,zg,GE101.out,GE102.out])));replace BK101:=za (zp (g:=gb101) (o:=.cells #[.int .i64 a0_0,.int .i64 a0_1,.slice A0_2 l0_2.length c0_2] 26 (0,0)) (by apply_rules only [BK101.out,zj,zh,zk]) hb);replace BK102:=za (zp (g:=gb102) (o:=.cells #[.slice A1_0 l1_0.length c1_0,.slice A1_1 l1_1.length c1_1] 37 (0,0)) (by apply_rules only [BK102.out,zj,zh,zk]) hb);replace HB:=za (zl (by apply_rules only [HB.out,zc,zd,zb,zg,GE101.out,GE102.out]) hb);obtain ⟨Ao29,co29,eo29⟩:=Kd.S_slice HO108.out;subst eo29)));(repeat (go_quiet (first|(go_at_call 48;(with_reducible refine (spec_boCells.calls kj2 a0_0 a0_1 _ _ l0_2 t106 _ ?side1 ?side2 A25.out).mono ?_);(case side1=>apply_rules only [zq HR0_2.out HB.out,zm,zn,zo]);(case side2=>exact HC0_2.out);rintro e w28 ⟨v107,rfl,ho0,hb⟩;have HO108:=za (Kd.S_lower ho0 (zi (by apply_rules only [HB.out,zc,zd,zb,zg,GE101.out,GE102.out])));replace BK101:=za (zp (g:=gb101) (o:=.cells #[.int .i64 a0_0,.int .i64 a0_1,.slice A0_2 l0_2.length c0_2] 26 (0,0)) (by apply_rules only [BK101.out,zj,zh,zk]) hb);replace BK102:=za (zp (g:=gb102) (o:=.cells #[.slice A1_0 l1_0.length c1_0,.slice A1_1 l1_1.length c1_1] 37 (0,0)) (by apply_rules only [BK102.out,zj,zh,zk]) hb);replace HB:=za (zl (by apply_rules only [HB.out,zc,zd,zb,zg,GE101.out,GE102.out]) hb);obtain ⟨Ao29,co29,eo29⟩:=Kd.S_slice HO108.out;subst eo29));try go_wp2_with (first|(go_at_call 48;(with_reducible refine (spec_boCells.calls kj2 a0_0 a0_1 _ _ l0_2 t106 _ ?side1 ?side2 A25.out).mono ?_);(case side1=>apply_rules only [zq HR0_2.out HB.out,zm,zn,zo]);(case side2=>exact HC0_2.out);rintro e w28 ⟨v107,rfl,ho0,hb⟩;have HO108:=za (Kd.S_lower ho0 (zi (by apply_rules only [HB.out,zc,zd,zb,zg,GE101.out,GE102.out])));replace BK101:=za (zp (g:=gb101) (o:=.cells #[.int .i64 a0_0,.int .i64 a0_1,.slice A0_2 l0_2.length c0_2] 26 (0,0)) (by apply_rules only [BK101.out,zj,zh,zk]) hb);replace BK102:=za (zp (g:=gb102) (o:=.cells #[.slice A1_0 l1_0.length c1_0,.slice A1_1 l1_1.length c1_1] 37 (0,0)) (by apply_rules only [BK102.out,zj,zh,zk]) hb);replace HB:=za (zl (by apply_rules only [HB.out,zc,zd,zb,zg,GE101.out,GE102.out]) hb);obtain ⟨Ao29,co29,eo29⟩:=Kd.S_slice HO108.out;subst eo29))));(go_loopg [32] kj2 (fun kq v32 w'=>∃ (x32_2:Int),v32=.int .i64 x32_2∧Aside0 (spec_IsCover.l0 kq t106 (t106.length:Int) x32_2 l1_0 l1_1=some (r1,r2))∧Aside0 (kq≤kj2)∧Aside0 (Kd.S (Kd.slice 3 (Kd.int .i64)) 24 w' w.heap.size (fun _=>True) (.slice Ao29 t106.length co29) t106)∧Aside0 (w'.heap[gb101]?=some (.cells #[.int .i64 a0_0,.int .i64 a0_1,(.slice A0_2 l0_2.length c0_2)] 26 (0,0)))∧Aside0 (w'.heap[gb102]?=some (.cells #[(.slice A1_0 l1_0.length c1_0),(.slice A1_1 l1_1.length c1_1)] 37 (0,0)))∧Aside0 (Below w.heap.size w w')));case atStart=>exact ⟨(0),(by first|rfl|(simp;done)|(simp [*];done)),H',⟨Nat.le_refl _⟩,⟨by apply_rules only [HO108.out,Kd.S_alloc,Kd.S_drewN,Kd.S_drew]⟩,⟨by apply_rules only [BK101.out,zj,zh,zk]⟩,⟨by apply_rules only [BK102.out,zj,zh,zk]⟩,⟨by apply_rules only [HB.out,zc,zd,zb,zg,GE101.out,GE102.out]⟩⟩
    case round =>
     clear H';(try clear c1);(try clear c2);(try clear p2);(try clear p6);(try clear c7);(try clear c9);(try clear c11);(try clear c16);(try clear c21);(try clear c23);(try clear c24);(try clear c26);(try clear hcz12_0);(try clear hcz12_1);(try clear hcz12_2);(try clear hcz14_0);(try clear hcz14_1);(try clear hcz15_0);(try clear hcz15_1);(try clear hcz15_2);(try clear hcz17_0);(try clear hcz17_1);(try clear hcz17_2);(try clear hcz19_0);(try clear hcz19_1);(try clear hcz20_0);(try clear hcz20_1);(try clear hcz20_2);(try clear hcz22_0);(try clear hcz22_1);(try clear hcz22_2);(try clear hcz27_0);(try clear hcz27_1);(try clear hcz27_2);(try clear hfz12_0);(try clear hfz12_1);(try clear hfz12_2);(try clear hfz14_0);(try clear hfz14_1);(try clear hfz15_0);(try clear hfz15_1);(try clear hfz15_2);(try clear hfz17_0);(try clear hfz17_1);(try clear hfz17_2);(try clear hfz19_0);(try clear hfz19_1);(try clear hfz20_0);(try clear hfz20_1);(try clear hfz20_2);(try clear hfz22_0);(try clear hfz22_1);(try clear hfz22_2);(try clear hfz27_0);(try clear hfz27_1);(try clear hfz27_2);(try clear p2);(try clear p6);obtain ⟨x32_2,rfl,HA,HK2,HO_30,BK101,BK102,HB⟩:=hrel
     cases gk with
    |zero=>exact absurd HA.out (by simp [spec_IsCover.l0])
    |succ k2 =>
      have H:=HA.out;clear HA;simp only [spec_IsCover.l0] at H;by_cases c30:x32_2 < (t106.length:Int)
      ·
       rw [if_pos c30] at H;have c30b0:decide (x32_2 < (t106.length:Int))=true:=decide_eq_true c30;clear c30;by_cases c31:0≤x32_2
       ·
        rw [if_pos c31] at H;have c31b0:decide (0≤x32_2)=true:=decide_eq_true c31;clear c31;by_cases c32:x32_2 < (t106.length:Int)
        ·
         rw [if_pos c32] at H;have c32b0:decide (x32_2 < (t106.length:Int))=true:=decide_eq_true c32;clear c32;by_cases c33:0 < ((rd_L2 t106 x32_2).length:Int)
         ·
          rw [if_pos c33] at H;have c33b0:decide (0 < ((rd_L2 t106 x32_2).length:Int))=true:=decide_eq_true c33;have c33b1:decide (0 < (rd_L2 t106 x32_2).length)=true:=decide_eq_true (by omega);clear c33;obtain ⟨t111,A34,H⟩:=bindAside H;(try dsimp only at H);by_cases c35:t111=true
          · subst c35;(have H1:(spec_IsCover.l0 k2 t106 (t106.length:Int) (wrap64 (x32_2 + 1)) l1_0 l1_1)=some (r1,r2):=by rw [if_pos rfl] at H;exact H);clear H;have H:=H1;clear H1;have H':=za H;clear H;have p109:0≤(x32_2:Int):=of_decide_eq_true ‹_›;have q109:x32_2 < (t106.length:Int):=of_decide_eq_true ‹_›;obtain ⟨ad109,A109_0,c109_0,e109,hx109_0,hl109_0,hi109_0⟩:=at_L2 (Kd.S_reads' HO_30.out).2.2 x32_2 p109 q109;cases e109;obtain ⟨ce109,hce109,hMe109,hcc109⟩:=Kd.S_get HO_30.out [] x32_2 p109 (by first|exact q109|exact of_decide_eq_true ‹_›|(have e_:=(Kd.S_reads' HO_30.out).1;omega));obtain ⟨ve109_0,rfl,ge109_0⟩:=hMe109;have hv109_0:=hcc109 0 _ rfl;rw [Nat.add_zero,show ((Kd.slice 3 (Kd.int .i64))).sz=1 from rfl,Nat.mul_one] at hv109_0;replace hv109_0:=Option.some.inj (hv109_0.symm.trans hx109_0);rw [hv109_0] at ge109_0;have HL109_0:=za (show Kd.R (Kd.int .i64) 3 _ _ _ _ (rd_L2 t106 x32_2) from ge109_0);clear hv109_0 ge109_0;clear hcc109 hce109;have HR109_0:=za hi109_0;have HC109_0:=za hl109_0;clear hi109_0 hl109_0;replace p109:=eq_true p109;replace q109:=eq_true q109;have hnb36:=NB102_101.out;have hnc36:=NB101_102.out;have hcz37_0:wr.cell? ⟨gb102,0,none⟩=some (.slice A1_0 l1_0.length c1_0):=(ze BK102.out 0).trans rfl;have hcz37_1:wr.cell? ⟨gb102,1,none⟩=some (.slice A1_1 l1_1.length c1_1):=(ze BK102.out 1).trans rfl;have hfz37_0:=zf BK102.out 0;have hfz37_1:=zf BK102.out 1;have p110:0≤(0:Int):=(by omega);have q110:0 < ((rd_L2 t106 x32_2).length:Int):=of_decide_eq_true ‹_›;obtain ⟨ad110,e110,hx110_0⟩:=zx (by apply_rules only [HR109_0.out,zm,zn,zo]) 0 p110 q110;cases e110;have qi110:(0 < (rd_L2 t106 x32_2).length)=True:=eq_true (by omega);(try rw [show ((0:Int)).toNat=0 from rfl] at hx110_0);(try rw [Addr.add_zero'] at hx110_0);replace p110:=eq_true p110;replace q110:=eq_true q110;(go_wp2_with (first|(go_at_call 49;(with_reducible refine (spec_l1Has.calls k2 _ _ l1_0 (rd (rd_L2 t106 x32_2) 0) true _ ?side1 ?side2 A34.out).mono ?_);(case side1=>apply_rules only [zq HR1_0.out HB.out,zm,zn,zo]);(case side2=>exact HC1_0.out);rintro e w' ⟨rfl,⟨nd,rfl⟩⟩;(try first|exact ⟨rfl,_,World.drewN_drewN _ _ _⟩|exact ⟨rfl,_,Eq.trans (World.drewN_drewN _ _ _) (congrArg (World.drewN _) (Nat.add_assoc _ _ _))⟩))));(repeat (go_quiet (first|(go_at_call 49;(with_reducible refine (spec_l1Has.calls k2 _ _ l1_0 (rd (rd_L2 t106 x32_2) 0) true _ ?side1 ?side2 A34.out).mono ?_);(case side1=>apply_rules only [zq HR1_0.out HB.out,zm,zn,zo]);(case side2=>exact HC1_0.out);rintro e w' ⟨rfl,⟨nd,rfl⟩⟩;(try first|exact ⟨rfl,_,World.drewN_drewN _ _ _⟩|exact ⟨rfl,_,Eq.trans (World.drewN_drewN _ _ _) (congrArg (World.drewN _) (Nat.add_assoc _ _ _))⟩)));try go_wp2_with (first|(go_at_call 49;(with_reducible refine (spec_l1Has.calls k2 _ _ l1_0 (rd (rd_L2 t106 x32_2) 0) true _ ?side1 ?side2 A34.out).mono ?_);(case side1=>apply_rules only [zq HR1_0.out HB.out,zm,zn,zo]);(case side2=>exact HC1_0.out);rintro e w' ⟨rfl,⟨nd,rfl⟩⟩;(try first|exact ⟨rfl,_,World.drewN_drewN _ _ _⟩|exact ⟨rfl,_,Eq.trans (World.drewN_drewN _ _ _) (congrArg (World.drewN _) (Nat.add_assoc _ _ _))⟩)))));(go_roundg k2);(case measure=>have:=HJ2.out;have:=HK2.out;omega);case rel=>exact ⟨(wrap64 (x32_2 + 1)),(by first|rfl|(simp;done)|(simp [*];done)),H',⟨by have:=HJ2.out;have:=HK2.out;omega⟩,⟨by apply_rules only [HO_30.out,Kd.S_alloc,Kd.S_drewN,Kd.S_drew]⟩,⟨by apply_rules only [BK101.out,zj,zh,zk]⟩,⟨by apply_rules only [BK102.out,zj,zh,zk]⟩,⟨by apply_rules only [HB.out,zc,zd,zb,zg,GE101.out,GE102.out]⟩⟩
          ·
           replace c35:=Bool.eq_false_iff.mpr c35;subst c35;(have H1:(if 1 < ((rd_L2 t106 x32_2).length:Int) then ((spec_l1Has.f k2 l1_1 (rd (rd_L2 t106 x32_2) 1)).bind fun t113=>(if t113=true then (spec_IsCover.l0 k2 t106 (t106.length:Int) (wrap64 (x32_2 + 1)) l1_0 l1_1) else (some (false,true)))) else (none))=some (r1,r2):=by rw [if_neg (show ¬ (false=true) by decide)] at H;exact H);clear H;have H:=H1;clear H1;by_cases c38:1 < ((rd_L2 t106 x32_2).length:Int)
           ·
            rw [if_pos c38] at H;have c38b0:decide (1 < ((rd_L2 t106 x32_2).length:Int))=true:=decide_eq_true c38;have c38b1:decide (1 < (rd_L2 t106 x32_2).length)=true:=decide_eq_true (by omega);clear c38;obtain ⟨t113,A39,H⟩:=bindAside H;(try dsimp only at H);by_cases c40:t113=true
            · subst c40;(have H1:(spec_IsCover.l0 k2 t106 (t106.length:Int) (wrap64 (x32_2 + 1)) l1_0 l1_1)=some (r1,r2):=by rw [if_pos rfl] at H;exact H);clear H;have H:=H1;clear H1;have H':=za H;clear H;have p109:0≤(x32_2:Int):=of_decide_eq_true ‹_›;have q109:x32_2 < (t106.length:Int):=of_decide_eq_true ‹_›;obtain ⟨ad109,A109_0,c109_0,e109,hx109_0,hl109_0,hi109_0⟩:=at_L2 (Kd.S_reads' HO_30.out).2.2 x32_2 p109 q109;cases e109;obtain ⟨ce109,hce109,hMe109,hcc109⟩:=Kd.S_get HO_30.out [] x32_2 p109 (by first|exact q109|exact of_decide_eq_true ‹_›|(have e_:=(Kd.S_reads' HO_30.out).1;omega));obtain ⟨ve109_0,rfl,ge109_0⟩:=hMe109;have hv109_0:=hcc109 0 _ rfl;rw [Nat.add_zero,show ((Kd.slice 3 (Kd.int .i64))).sz=1 from rfl,Nat.mul_one] at hv109_0;replace hv109_0:=Option.some.inj (hv109_0.symm.trans hx109_0);rw [hv109_0] at ge109_0;have HL109_0:=za (show Kd.R (Kd.int .i64) 3 _ _ _ _ (rd_L2 t106 x32_2) from ge109_0);clear hv109_0 ge109_0;clear hcc109 hce109;have HR109_0:=za hi109_0;have HC109_0:=za hl109_0;clear hi109_0 hl109_0;replace p109:=eq_true p109;replace q109:=eq_true q109;have hnb41:=NB102_101.out;have hnc41:=NB101_102.out;have hcz42_0:wr.cell? ⟨gb102,0,none⟩=some (.slice A1_0 l1_0.length c1_0):=(ze BK102.out 0).trans rfl;have hcz42_1:wr.cell? ⟨gb102,1,none⟩=some (.slice A1_1 l1_1.length c1_1):=(ze BK102.out 1).trans rfl;have hfz42_0:=zf BK102.out 0;have hfz42_1:=zf BK102.out 1;have p110:0≤(0:Int):=(by omega);have q110:0 < ((rd_L2 t106 x32_2).length:Int):=of_decide_eq_true ‹_›;obtain ⟨ad110,e110,hx110_0⟩:=zx (by apply_rules only [HR109_0.out,zm,zn,zo]) 0 p110 q110;cases e110;have qi110:(0 < (rd_L2 t106 x32_2).length)=True:=eq_true (by omega);(try rw [show ((0:Int)).toNat=0 from rfl] at hx110_0);(try rw [Addr.add_zero'] at hx110_0);replace p110:=eq_true p110;replace q110:=eq_true q110;(go_wp2_with (first|(go_at_call 49;(with_reducible refine (spec_l1Has.calls k2 _ _ l1_0 (rd (rd_L2 t106 x32_2) 0) false _ ?side1 ?side2 A34.out).mono ?_);(case side1=>apply_rules only [zq HR1_0.out HB.out,zm,zn,zo]);(case side2=>exact HC1_0.out);rintro e w' ⟨rfl,⟨nd,rfl⟩⟩;(try first|exact ⟨rfl,_,World.drewN_drewN _ _ _⟩|exact ⟨rfl,_,Eq.trans (World.drewN_drewN _ _ _) (congrArg (World.drewN _) (Nat.add_assoc _ _ _))⟩);have p112:0≤(1:Int):=(by omega);have q112:1 < ((rd_L2 t106 x32_2).length:Int):=of_decide_eq_true ‹_›;obtain ⟨ad112,e112,hx112_0⟩:=zx (by apply_rules only [HR109_0.out,zm,zn,zo]) 1 p112 q112;obtain rfl:ad110=ad112:=(by injection e112);(try simp only [show (1:Int).toNat=1 from rfl,Nat.reduceMul,Nat.reduceEqDiff,Go.Addr.add,↓reduceIte] at hx112_0);have qi112:(1 < (rd_L2 t106 x32_2).length)=True:=eq_true (by omega);(try rw [show ((1:Int)).toNat=1 from rfl] at hx112_0);replace p112:=eq_true p112;replace q112:=eq_true q112)|(go_at_call 49;(with_reducible refine (spec_l1Has.calls k2 _ _ l1_1 (rd (rd_L2 t106 x32_2) 1) true _ ?side1 ?side2 A39.out).mono ?_);(case side1=>repeat (first|exact (zq HR1_1.out (by apply_rules only [HB.out,zc,zd,zb,zg,GE101.out,GE102.out]))|(with_reducible refine zm ?_ _)|(with_reducible refine zn ?_ _)|(with_reducible refine zo ?_)));(case side2=>exact HC1_1.out);rintro e w' ⟨rfl,⟨nd,rfl⟩⟩;(try first|exact ⟨rfl,_,World.drewN_drewN _ _ _⟩|exact ⟨rfl,_,Eq.trans (World.drewN_drewN _ _ _) (congrArg (World.drewN _) (Nat.add_assoc _ _ _))⟩))));(repeat (go_quiet (first|(go_at_call 49;(with_reducible refine (spec_l1Has.calls k2 _ _ l1_0 (rd (rd_L2 t106 x32_2) 0) false _ ?side1 ?side2 A34.out).mono ?_);(case side1=>apply_rules only [zq HR1_0.out HB.out,zm,zn,zo]);(case side2=>exact HC1_0.out);rintro e w' ⟨rfl,⟨nd,rfl⟩⟩;(try first|exact ⟨rfl,_,World.drewN_drewN _ _ _⟩|exact ⟨rfl,_,Eq.trans (World.drewN_drewN _ _ _) (congrArg (World.drewN _) (Nat.add_assoc _ _ _))⟩);have p112:0≤(1:Int):=(by omega);have q112:1 < ((rd_L2 t106 x32_2).length:Int):=of_decide_eq_true ‹_›;obtain ⟨ad112,e112,hx112_0⟩:=zx (by apply_rules only [HR109_0.out,zm,zn,zo]) 1 p112 q112;obtain rfl:ad110=ad112:=(by injection e112);(try simp only [show (1:Int).toNat=1 from rfl,Nat.reduceMul,Nat.reduceEqDiff,Go.Addr.add,↓reduceIte] at hx112_0);have qi112:(1 < (rd_L2 t106 x32_2).length)=True:=eq_true (by omega);(try rw [show ((1:Int)).toNat=1 from rfl] at hx112_0);replace p112:=eq_true p112;replace q112:=eq_true q112)|(go_at_call 49;(with_reducible refine (spec_l1Has.calls k2 _ _ l1_1 (rd (rd_L2 t106 x32_2) 1) true _ ?side1 ?side2 A39.out).mono ?_);(case side1=>repeat (first|exact (zq HR1_1.out (by apply_rules only [HB.out,zc,zd,zb,zg,GE101.out,GE102.out]))|(with_reducible refine zm ?_ _)|(with_reducible refine zn ?_ _)|(with_reducible refine zo ?_)));(case side2=>exact HC1_1.out);rintro e w' ⟨rfl,⟨nd,rfl⟩⟩;(try first|exact ⟨rfl,_,World.drewN_drewN _ _ _⟩|exact ⟨rfl,_,Eq.trans (World.drewN_drewN _ _ _) (congrArg (World.drewN _) (Nat.add_assoc _ _ _))⟩)));try go_wp2_with (first|(go_at_call 49;(with_reducible refine (spec_l1Has.calls k2 _ _ l1_0 (rd (rd_L2 t106 x32_2) 0) false _ ?side1 ?side2 A34.out).mono ?_);(case side1=>apply_rules only [zq HR1_0.out HB.out,zm,zn,zo]);(case side2=>exact HC1_0.out);rintro e w' ⟨rfl,⟨nd,rfl⟩⟩;(try first|exact ⟨rfl,_,World.drewN_drewN _ _ _⟩|exact ⟨rfl,_,Eq.trans (World.drewN_drewN _ _ _) (congrArg (World.drewN _) (Nat.add_assoc _ _ _))⟩);have p112:0≤(1:Int):=(by omega);have q112:1 < ((rd_L2 t106 x32_2).length:Int):=of_decide_eq_true ‹_›;obtain ⟨ad112,e112,hx112_0⟩:=zx (by apply_rules only [HR109_0.out,zm,zn,zo]) 1 p112 q112;obtain rfl:ad110=ad112:=(by injection e112);(try simp only [show (1:Int).toNat=1 from rfl,Nat.reduceMul,Nat.reduceEqDiff,Go.Addr.add,↓reduceIte] at hx112_0);have qi112:(1 < (rd_L2 t106 x32_2).length)=True:=eq_true (by omega);(try rw [show ((1:Int)).toNat=1 from rfl] at hx112_0);replace p112:=eq_true p112;replace q112:=eq_true q112)|(go_at_call 49;(with_reducible refine (spec_l1Has.calls k2 _ _ l1_1 (rd (rd_L2 t106 x32_2) 1) true _ ?side1 ?side2 A39.out).mono ?_);(case side1=>repeat (first|exact (zq HR1_1.out (by apply_rules only [HB.out,zc,zd,zb,zg,GE101.out,GE102.out]))|(with_reducible refine zm ?_ _)|(with_reducible refine zn ?_ _)|(with_reducible refine zo ?_)));(case side2=>exact HC1_1.out);rintro e w' ⟨rfl,⟨nd,rfl⟩⟩;(try first|exact ⟨rfl,_,World.drewN_drewN _ _ _⟩|exact ⟨rfl,_,Eq.trans (World.drewN_drewN _ _ _) (congrArg (World.drewN _) (Nat.add_assoc _ _ _))⟩)))));(go_roundg k2);(case measure=>have:=HJ2.out;have:=HK2.out;omega);case rel=>exact ⟨(wrap64 (x32_2 + 1)),(by first|rfl|(simp;done)|(simp [*];done)),H',⟨by have:=HJ2.out;have:=HK2.out;omega⟩,⟨by apply_rules only [HO_30.out,Kd.S_alloc,Kd.S_drewN,Kd.S_drew]⟩,⟨by apply_rules only [BK101.out,zj,zh,zk]⟩,⟨by apply_rules only [BK102.out,zj,zh,zk]⟩,⟨by apply_rules only [HB.out,zc,zd,zb,zg,GE101.out,GE102.out]⟩⟩
            · replace c40:=Bool.eq_false_iff.mpr c40;subst c40;(have H1:(some (false,true))=some (r1,r2):=by rw [if_neg (show ¬ (false=true) by decide)] at H;exact H);clear H;have H:=H1;clear H1;simp only [Option.some.injEq,Prod.mk.injEq] at H;obtain ⟨rfl,rfl⟩:=H;have p109:0≤(x32_2:Int):=of_decide_eq_true ‹_›;have q109:x32_2 < (t106.length:Int):=of_decide_eq_true ‹_›;obtain ⟨ad109,A109_0,c109_0,e109,hx109_0,hl109_0,hi109_0⟩:=at_L2 (Kd.S_reads' HO_30.out).2.2 x32_2 p109 q109;cases e109;obtain ⟨ce109,hce109,hMe109,hcc109⟩:=Kd.S_get HO_30.out [] x32_2 p109 (by first|exact q109|exact of_decide_eq_true ‹_›|(have e_:=(Kd.S_reads' HO_30.out).1;omega));obtain ⟨ve109_0,rfl,ge109_0⟩:=hMe109;have hv109_0:=hcc109 0 _ rfl;rw [Nat.add_zero,show ((Kd.slice 3 (Kd.int .i64))).sz=1 from rfl,Nat.mul_one] at hv109_0;replace hv109_0:=Option.some.inj (hv109_0.symm.trans hx109_0);rw [hv109_0] at ge109_0;have HL109_0:=za (show Kd.R (Kd.int .i64) 3 _ _ _ _ (rd_L2 t106 x32_2) from ge109_0);clear hv109_0 ge109_0;clear hcc109 hce109;have HR109_0:=za hi109_0;have HC109_0:=za hl109_0;clear hi109_0 hl109_0;replace p109:=eq_true p109;replace q109:=eq_true q109;have hnb43:=NB102_101.out;have hnc43:=NB101_102.out;have hcz44_0:wr.cell? ⟨gb102,0,none⟩=some (.slice A1_0 l1_0.length c1_0):=(ze BK102.out 0).trans rfl;have hcz44_1:wr.cell? ⟨gb102,1,none⟩=some (.slice A1_1 l1_1.length c1_1):=(ze BK102.out 1).trans rfl;have hfz44_0:=zf BK102.out 0;have hfz44_1:=zf BK102.out 1;have p110:0≤(0:Int):=(by omega);have q110:0 < ((rd_L2 t106 x32_2).length:Int):=of_decide_eq_true ‹_›;obtain ⟨ad110,e110,hx110_0⟩:=zx (by apply_rules only [HR109_0.out,zm,zn,zo]) 0 p110 q110;cases e110;have qi110:(0 < (rd_L2 t106 x32_2).length)=True:=eq_true (by omega);(try rw [show ((0:Int)).toNat=0 from rfl] at hx110_0);(try rw [Addr.add_zero'] at hx110_0);replace p110:=eq_true p110;replace q110:=eq_true q110;(go_wp2_with (first|(go_at_call 49;(with_reducible refine (spec_l1Has.calls k2 _ _ l1_0 (rd (rd_L2 t106 x32_2) 0) false _ ?side1 ?side2 A34.out).mono ?_);(case side1=>apply_rules only [zq HR1_0.out HB.out,zm,zn,zo]);(case side2=>exact HC1_0.out);rintro e w' ⟨rfl,⟨nd,rfl⟩⟩;(try first|exact ⟨rfl,_,World.drewN_drewN _ _ _⟩|exact ⟨rfl,_,Eq.trans (World.drewN_drewN _ _ _) (congrArg (World.drewN _) (Nat.add_assoc _ _ _))⟩);have p112:0≤(1:Int):=(by omega);have q112:1 < ((rd_L2 t106 x32_2).length:Int):=of_decide_eq_true ‹_›;obtain ⟨ad112,e112,hx112_0⟩:=zx (by apply_rules only [HR109_0.out,zm,zn,zo]) 1 p112 q112;obtain rfl:ad110=ad112:=(by injection e112);(try simp only [show (1:Int).toNat=1 from rfl,Nat.reduceMul,Nat.reduceEqDiff,Go.Addr.add,↓reduceIte] at hx112_0);have qi112:(1 < (rd_L2 t106 x32_2).length)=True:=eq_true (by omega);(try rw [show ((1:Int)).toNat=1 from rfl] at hx112_0);replace p112:=eq_true p112;replace q112:=eq_true q112)|(go_at_call 49;(with_reducible refine (spec_l1Has.calls k2 _ _ l1_1 (rd (rd_L2 t106 x32_2) 1) false _ ?side1 ?side2 A39.out).mono ?_);(case side1=>repeat (first|exact (zq HR1_1.out (by apply_rules only [HB.out,zc,zd,zb,zg,GE101.out,GE102.out]))|(with_reducible refine zm ?_ _)|(with_reducible refine zn ?_ _)|(with_reducible refine zo ?_)));(case side2=>exact HC1_1.out);rintro e w' ⟨rfl,⟨nd,rfl⟩⟩;(try first|exact ⟨rfl,_,World.drewN_drewN _ _ _⟩|exact ⟨rfl,_,Eq.trans (World.drewN_drewN _ _ _) (congrArg (World.drewN _) (Nat.add_assoc _ _ _))⟩))));(repeat (go_quiet (first|(go_at_call 49;(with_reducible refine (spec_l1Has.calls k2 _ _ l1_0 (rd (rd_L2 t106 x32_2) 0) false _ ?side1 ?side2 A34.out).mono ?_);(case side1=>apply_rules only [zq HR1_0.out HB.out,zm,zn,zo]);(case side2=>exact HC1_0.out);rintro e w' ⟨rfl,⟨nd,rfl⟩⟩;(try first|exact ⟨rfl,_,World.drewN_drewN _ _ _⟩|exact ⟨rfl,_,Eq.trans (World.drewN_drewN _ _ _) (congrArg (World.drewN _) (Nat.add_assoc _ _ _))⟩);have p112:0≤(1:Int):=(by omega);have q112:1 < ((rd_L2 t106 x32_2).length:Int):=of_decide_eq_true ‹_›;obtain ⟨ad112,e112,hx112_0⟩:=zx (by apply_rules only [HR109_0.out,zm,zn,zo]) 1 p112 q112;obtain rfl:ad110=ad112:=(by injection e112);(try simp only [show (1:Int).toNat=1 from rfl,Nat.reduceMul,Nat.reduceEqDiff,Go.Addr.add,↓reduceIte] at hx112_0);have qi112:(1 < (rd_L2 t106 x32_2).length)=True:=eq_true (by omega);(try rw [show ((1:Int)).toNat=1 from rfl] at hx112_0);replace p112:=eq_true p112;replace q112:=eq_true q112)|(go_at_call 49;(with_reducible refine (spec_l1Has.calls k2 _ _ l1_1 (rd (rd_L2 t106 x32_2) 1) false _ ?side1 ?side2 A39.out).mono ?_);(case side1=>repeat (first|exact (zq HR1_1.out (by apply_rules only [HB.out,zc,zd,zb,zg,GE101.out,GE102.out]))|(with_reducible refine zm ?_ _)|(with_reducible refine zn ?_ _)|(with_reducible refine zo ?_)));(case side2=>exact HC1_1.out);rintro e w' ⟨rfl,⟨nd,rfl⟩⟩;(try first|exact ⟨rfl,_,World.drewN_drewN _ _ _⟩|exact ⟨rfl,_,Eq.trans (World.drewN_drewN _ _ _) (congrArg (World.drewN _) (Nat.add_assoc _ _ _))⟩)));try go_wp2_with (first|(go_at_call 49;(with_reducible refine (spec_l1Has.calls k2 _ _ l1_0 (rd (rd_L2 t106 x32_2) 0) false _ ?side1 ?side2 A34.out).mono ?_);(case side1=>apply_rules only [zq HR1_0.out HB.out,zm,zn,zo]);(case side2=>exact HC1_0.out);rintro e w' ⟨rfl,⟨nd,rfl⟩⟩;(try first|exact ⟨rfl,_,World.drewN_drewN _ _ _⟩|exact ⟨rfl,_,Eq.trans (World.drewN_drewN _ _ _) (congrArg (World.drewN _) (Nat.add_assoc _ _ _))⟩);have p112:0≤(1:Int):=(by omega);have q112:1 < ((rd_L2 t106 x32_2).length:Int):=of_decide_eq_true ‹_›;obtain ⟨ad112,e112,hx112_0⟩:=zx (by apply_rules only [HR109_0.out,zm,zn,zo]) 1 p112 q112;obtain rfl:ad110=ad112:=(by injection e112);(try simp only [show (1:Int).toNat=1 from rfl,Nat.reduceMul,Nat.reduceEqDiff,Go.Addr.add,↓reduceIte] at hx112_0);have qi112:(1 < (rd_L2 t106 x32_2).length)=True:=eq_true (by omega);(try rw [show ((1:Int)).toNat=1 from rfl] at hx112_0);replace p112:=eq_true p112;replace q112:=eq_true q112)|(go_at_call 49;(with_reducible refine (spec_l1Has.calls k2 _ _ l1_1 (rd (rd_L2 t106 x32_2) 1) false _ ?side1 ?side2 A39.out).mono ?_);(case side1=>repeat (first|exact (zq HR1_1.out (by apply_rules only [HB.out,zc,zd,zb,zg,GE101.out,GE102.out]))|(with_reducible refine zm ?_ _)|(with_reducible refine zn ?_ _)|(with_reducible refine zo ?_)));(case side2=>exact HC1_1.out);rintro e w' ⟨rfl,⟨nd,rfl⟩⟩;(try first|exact ⟨rfl,_,World.drewN_drewN _ _ _⟩|exact ⟨rfl,_,Eq.trans (World.drewN_drewN _ _ _) (congrArg (World.drewN _) (Nat.add_assoc _ _ _))⟩)))));(go_ret2);exact ⟨by first|rfl|simp [*,errW_none,errW_some] <;> rfl,by repeat (first|(with_reducible first|exact HB.out|apply zc|apply zd|apply zb|refine zg ?_ GE101.out|refine zg ?_ GE102.out)|exact HB.out)⟩
           · rw [if_neg c38] at H;exact absurd H (by simp)
         · rw [if_neg c33] at H;exact absurd H (by simp)
        · rw [if_neg c32] at H;exact absurd H (by simp)
       · rw [if_neg c31] at H;exact absurd H (by simp)
      · rw [if_neg c30] at H;have c30b0:decide (x32_2 < (t106.length:Int))=false:=decide_eq_false c30;clear c30;simp only [Option.some.injEq,Prod.mk.injEq] at H;obtain ⟨rfl,rfl⟩:=H;(go_wp2);(repeat (go_quiet (fail);try go_wp2));(go_ret2);exact ⟨by first|rfl|simp [*,errW_none,errW_some] <;> rfl,by repeat (first|(with_reducible first|exact HB.out|apply zc|apply zd|apply zb|refine zg ?_ GE101.out|refine zg ?_ GE102.out)|exact HB.out)⟩
def impl_Board_has.f (a0_0:Int) (a0_1:Int) (l0_2:List Int) (a1:Int) (a2:Int):Option (Bool):=if 0≤a1 then (if a1 < (l0_2.length:Int) then (if 0≤a2 then (some ((Go.bits .and .i64 (shr .i64 (rd l0_2 a1) a2) 1) == 1)) else (none)) else (none)) else (none)
set_option maxHeartbeats 8000000 in
set_option maxRecDepth 100000 in
theorem impl_Board_has.calls (a0_0:Int) (a0_1:Int) (A0_2:Option Addr) (c0_2:Nat) (l0_2:List Int) (a1:Int) (a2:Int) (r:Bool) (w:World) (hr0_2:Kd.C (Kd.int .i64) w A0_2 l0_2.length l0_2) (hc0_2:l0_2.length≤c0_2) (h:impl_Board_has.f a0_0 a0_1 l0_2 a1 a2=some r) :
  Calls Tryz.prog 66 #[.agg #[.int .i64 a0_0,.int .i64 a0_1,.slice A0_2 l0_2.length c0_2],.int .i64 a1,.int .i64 a2] w fun e w'=>e=.returned (.bool r)∧Below w.heap.size w w':=by
 have hu26:=Tryz.underlying26;have HR0_2:=za hr0_2;have HC0_2:=za hc0_2;clear hr0_2 hc0_2;have HB:=za (Below.refl w.heap.size w);have H:(if 0≤a1 then (if a1 < (l0_2.length:Int) then (if 0≤a2 then (some ((Go.bits .and .i64 (shr .i64 (rd l0_2 a1) a2) 1) == 1)) else (none)) else (none)) else (none))=some r:=h;clear h;by_cases c4:0≤a1
 ·
  rw [if_pos c4] at H;have c4b0:decide (0≤a1)=true:=decide_eq_true c4;clear c4;by_cases c5:a1 < (l0_2.length:Int)
  ·
   rw [if_pos c5] at H;have c5b0:decide (a1 < (l0_2.length:Int))=true:=decide_eq_true c5;clear c5;by_cases c6:0≤a2
   · rw [if_pos c6] at H;have c6b0:=eq_true c6;have c6b1:decide (0≤a2)=true:=decide_eq_true c6;clear c6;obtain ⟨ji7,hji7⟩:∃ j_:Int,(shr .i64 (rd l0_2 a1) a2)=j_:=⟨_,rfl⟩;(replace H:(some ((Go.bits .and .i64 (ji7) 1) == 1))=some r:=by first|(rw [hji7] at H;exact H)|(simp only [hji7] at H ⊢;exact H));have hji7_:((rd l0_2 a1) / 2 ^ min a2.toNat 64)=ji7:=hji7;have hji7z:a2≤64→((rd l0_2 a1) / 2 ^ a2.toNat)=ji7:=shr_small hji7;obtain rfl:=Option.some.inj H;(go_enter Tryz.func66,Tryz.ntmps66);(go_wp2_with (first|((with_reducible refine zv (N:=3) rfl ?_);refine zw ?hg (N:=3) ?hd (cs:=#[.int .i64 a0_0,.int .i64 a0_1,.slice A0_2 l0_2.length c0_2]) (t:=26) ?hr ?_;(case hd=>rfl);(case hg=>rfl);(case hr=>first|(go_simp;done)|(go_simp;rfl));intro gb101 hg w8 hbox hb;have BK101:=za (hbox);have GW101:=za ((by rw [hg];exact (zi (by apply_rules only [HB.out,zc,zd,zb])):w.heap.size≤gb101));have GE101:=za ((by rw [hg];exact (zi (by apply_rules only [HB.out,zc,zd,zb])):w.heap.size≤gb101));replace HB:=za (zl (by apply_rules only [HB.out,zc,zd,zb]) hb);clear hb hbox hg;have hcz9_0:w8.cell? ⟨gb101,0,none⟩=some (.int .i64 a0_0):=(ze BK101.out 0).trans rfl;have hcz9_1:w8.cell? ⟨gb101,1,none⟩=some (.int .i64 a0_1):=(ze BK101.out 1).trans rfl;have hcz9_2:w8.cell? ⟨gb101,2,none⟩=some (.slice A0_2 l0_2.length c0_2):=(ze BK101.out 2).trans rfl;have hfz9_0:=zf BK101.out 0;have hfz9_1:=zf BK101.out 1;have hfz9_2:=zf BK101.out 2;have p102:0≤(a1:Int):=of_decide_eq_true ‹_›;have q102:a1 < (l0_2.length:Int):=of_decide_eq_true ‹_›;obtain ⟨ad102,e102,hx102_0⟩:=zx HR0_2.out a1 p102 q102;cases e102;replace hx102_0:=(HB.out.cell (World.block_lt_of_cell? w _ hx102_0)).trans hx102_0;replace p102:=eq_true p102;replace q102:=eq_true q102)));(go_ret);exact ⟨by first|rfl|(simp [errW_none,errW_some] <;> rfl)|(simp only [← hji7];first|rfl|(simp [errW_none,errW_some] <;> rfl))|(simp [*,errW_none,errW_some] <;> rfl),by apply_rules only [HB.out,zc,zd,zb,zg,GE101.out]⟩
   · rw [if_neg c6] at H;exact absurd H (by simp)
  · rw [if_neg c5] at H;exact absurd H (by simp)
 · rw [if_neg c4] at H;exact absurd H (by simp)
end Go.Proofs.YtpjjeeabpaojnaaGreat.Q
end
section
namespace Go.Proofs.YtpjjeeabpaojnaaGreat.LawK
set_option linter.unusedVariables false
open Go.RowKit Go.Proofs.YtpjjeeabpaojnaaGreat.Q Go.Proofs.YtpjjeeabpaojnaaGreatW.PrintWords Go.Proofs.YtpjjeeabpaojnaaGreatW.PrintLast Go.Proofs.YtpjjeeabpaojnaaGreatW.PrintMore
open Go.Proofs.YtpjjeeabpaojnaaGreatL
def iota:Int→Nat→List Int
|_,0=>[]
|m,n + 1=>m :: iota (m + 1) n
theorem iota_length:∀ (m:Int) (n:Nat),(iota m n).length=n
|_,0=>rfl
|m,n + 1=>by rw [iota,List.length_cons,iota_length]
theorem iota_get:∀ (n:Nat) (m:Int) (i:Nat) (h:i < (iota m n).length),(iota m n)[i]=m + i
|0,_,_,h=>by simp [iota] at h
|n + 1,m,0,_=>by simp [iota]
|n + 1,m,i + 1,h=>by
  have:=iota_get n (m + 1) i (by simpa [iota] using h)
  simp only [iota,List.getElem_cons_succ,this];omega
theorem iota_snoc:∀ (n:Nat) (m:Int),iota m (n + 1)=iota m n ++ [m + n]
|0,m=>by simp [iota]
|n + 1,m=>by
  rw [iota,iota_snoc n (m + 1),iota,List.cons_append]
  congr 2
  simp;omega
end Go.Proofs.YtpjjeeabpaojnaaGreat.LawK
end
section
namespace Go.Proofs.YtpjjeeabpaojnaaGreat.BoardK
set_option linter.unusedVariables false
open Go.RowKit Go.Proofs.YtpjjeeabpaojnaaGreat.Q Go.Proofs.YtpjjeeabpaojnaaGreatW.PrintWords Go.Proofs.YtpjjeeabpaojnaaGreatW.PrintLast Go.Proofs.YtpjjeeabpaojnaaGreatW.PrintMore
open Go.Proofs.YtpjjeeabpaojnaaGreatL Go.Proofs.YtpjjeeabpaojnaaGreat.LawK
def inR (lo hi x:Int):Bool:=decide (lo≤x∧x≤hi)
theorem l1In_f (a b c:Int):spec_l1In.f a b c=some (inR b c a):=by
 unfold spec_l1In.f inR
 by_cases h:a ≥ b
 ·
  rw [if_pos h];simp [h]
 ·
  rw [if_neg h];congr 1;exact (decide_eq_false (by omega)).symm
theorem l1All_l0 {l:List Int} (lo hi:Int) (hl:l.length≤4611686018427387904):∀ (d i:Nat),i + d=l.length→Ev (fun k=>spec_l1All.l0 k lo hi l (l.length:Int) i) ((l.drop i).all (inR lo hi))
|0,i,hi'=>by
  refine Ev.step (f:=fun _=>some ((l.drop i).all (inR lo hi))) (fun k=>?_) (Ev.now _)
  rw [spec_l1All.l0,if_neg (by omega),List.drop_eq_nil_of_le (by omega)];rfl
|d + 1,i,hi'=>by
  have h1:wrap64 ((i:Int) + 1)=((i + 1:Nat):Int):=by rw [w64 (by omega) (by omega)];rfl
  have hi2:i < l.length:=by omega
  rw [List.drop_eq_getElem_cons hi2,List.all_cons]
  by_cases e:inR lo hi l[i]=true
  ·
   rw [e,Bool.true_and]
   refine Ev.step (fun k=>?_) (l1All_l0 lo hi hl d (i + 1) (by omega))
   rw [spec_l1All.l0,if_pos (by omega),if_pos (by omega),if_pos (by omega),l1In_f,Option.bind_some,rd_lt _ _ hi2,if_pos e,h1]
  ·
   have e':inR lo hi l[i]=false:=by simpa using e
   rw [e',Bool.false_and]
   refine Ev.step (f:=fun _=>some false) (fun k=>?_) (Ev.now _)
   rw [spec_l1All.l0,if_pos (by omega),if_pos (by omega),if_pos (by omega),l1In_f,Option.bind_some,rd_lt _ _ hi2,if_neg e]
theorem l1All {l:List Int} (lo hi:Int) (hl:l.length≤4611686018427387904):Ev (fun k=>spec_l1All.f k l lo hi) (l.all (inR lo hi)):=by
 refine Ev.congr (fun k=>?_) (l1All_l0 lo hi hl l.length 0 (by omega))
 unfold spec_l1All.f;rfl
theorem boSide_f (a:Int):spec_boSide.f a=some (inR 1 6 a):=by unfold spec_boSide.f;rw [l1In_f];rfl
theorem rowIn_inR {c:Int}:rowIn c=inR 0 (2 ^ c.toNat - 1):=rfl
theorem boGood {l:List Int} (r c:Int) (hl:l.length≤4611686018427387904):Ev (fun k=>spec_boGood.f k r c l) (isBoardB r c l):=by
 unfold spec_boGood.f
 by_cases h1:1≤r∧r≤6
 ·
  refine Ev.congr (fun k=>by rw [boSide_f,Option.bind_some,if_pos (show inR 1 6 r=true from decide_eq_true h1)]) ?_
  by_cases h2:1≤c∧c≤6
  ·
   refine Ev.congr (fun k=>by rw [boSide_f,Option.bind_some,if_pos (show inR 1 6 c=true from decide_eq_true h2)]) ?_
   by_cases h3:(l.length:Int)=r
   ·
    refine Ev.congr (fun k=>by rw [if_pos h3,if_pos (by omega:0≤c)]) ?_
    have e:wrap64 (shl .i64 1 c - 1)=2 ^ c.toNat - 1:=by
     obtain ⟨n,rfl⟩:∃ n:Nat,c=n:=⟨c.toNat,by omega⟩
     have h4:2 ^ n≤2 ^ 6:=Nat.pow_le_pow_right (by decide) (by omega)
     have h5:0 < 2 ^ n:=Nat.two_pow_pos n
     rw [shl_one n (by omega),w64 (by omega) (by omega),Int.toNat_natCast];simp
    have eb:isBoardB r c l=l.all (inR 0 (2 ^ c.toNat - 1)):=by
     unfold isBoardB
     rw [decide_eq_true ⟨h1.1,h1.2,h2.1,h2.2,h3⟩,Bool.true_and,rowIn_inR]
    rw [e,eb]
    exact Ev.bind (l1All _ _ hl) (Ev.now _)
   ·
    have eb:isBoardB r c l=false:=by unfold isBoardB;rw [decide_eq_false (fun h=>h3 h.2.2.2.2),Bool.false_and]
    rw [eb]
    exact Ev.congr (fun k=>by rw [if_neg h3]) (Ev.now _)
  ·
   have eb:isBoardB r c l=false:=by unfold isBoardB;rw [decide_eq_false (fun h=>h2 ⟨h.2.2.1,h.2.2.2.1⟩),Bool.false_and]
   rw [eb]
   exact Ev.congr (fun k=>by rw [boSide_f,Option.bind_some,if_neg (by simp [inR,h2])]) (Ev.now _)
 ·
  have eb:isBoardB r c l=false:=by unfold isBoardB;rw [decide_eq_false (fun h=>h1 ⟨h.1,h.2.1⟩),Bool.false_and]
  rw [eb]
  exact Ev.congr (fun k=>by rw [boSide_f,Option.bind_some,if_neg (by simp [inR,h1])]) (Ev.now _)
def cell (l:List Int) (r c:Nat):Bool:=(l.getD r 0).toNat.testBit c
theorem board_of {r c:Int} {l:List Int} (h:isBoardB r c l=true):∃ R C:Nat,r=R∧c=C∧l.length=R∧1≤R∧R≤6∧1≤C∧C≤6∧∀ i (hi:i < l.length),0≤l[i]∧l[i] < 2 ^ C:=by
 unfold isBoardB at h
 simp only [Bool.and_eq_true,decide_eq_true_eq,List.all_eq_true] at h
 obtain ⟨⟨h1,h2,h3,h4,h5⟩,h6⟩:=h
 refine ⟨r.toNat,c.toNat,by omega,by omega,by omega,by omega,by omega,by omega,by omega,fun i hi=>?_⟩
 have:=h6 l[i] (List.getElem_mem hi)
 unfold rowIn at this
 simp only [decide_eq_true_eq] at this
 omega
theorem two_pow_six {C:Nat} (h:C≤6):(2:Int) ^ C≤64:=by
 have:2 ^ C≤2 ^ 6:=Nat.pow_le_pow_right (by decide) h
 exact_mod_cast this
theorem boHas_f {l:List Int} (r c:Int) {i j:Nat} (hi:i < l.length) (h0:0≤l[i]) (h1:l[i] < 64) (hj:j≤64):spec_boHas.f r c l i j=some (cell l i j):=by
 unfold spec_boHas.f
 rw [if_pos (by omega),if_pos (by omega),if_pos (by omega),rd_lt _ _ hi]
 obtain ⟨m,hm⟩:∃ m:Nat,l[i]=m:=⟨l[i].toNat,by omega⟩
 rw [hm,bit_mod m j hj]
 unfold cell
 rw [gD_lt _ _ hi,hm,Int.toNat_natCast]
 by_cases hb:m.testBit j=true <;> simp [hb]
theorem has_f {l:List Int} (r c:Int) {i j:Nat} (hi:i < l.length) (h0:0≤l[i]) (h1:l[i] < 64) (hj:j≤64):impl_Board_has.f r c l i j=some (cell l i j):=by
 unfold impl_Board_has.f
 rw [if_pos (by omega),if_pos (by omega),if_pos (by omega),rd_lt _ _ hi]
 obtain ⟨m,hm⟩:∃ m:Nat,l[i]=m:=⟨l[i].toNat,by omega⟩
 rw [hm,bit_and m j (by omega) hj]
 unfold cell
 rw [gD_lt _ _ hi,hm,Int.toNat_natCast]
 by_cases hb:m.testBit j=true <;> simp [hb]
end Go.Proofs.YtpjjeeabpaojnaaGreat.BoardK
end
section
namespace Go.Proofs.YtpjjeeabpaojnaaGreat.Q
open Go.RowKit Go.Proofs.YtpjjeeabpaojnaaGreatW.PrintWords Go.Proofs.YtpjjeeabpaojnaaGreatW.PrintLast Go.Proofs.YtpjjeeabpaojnaaGreatW.PrintMore
attribute [local go_sem] max2_int min2_int max_two min_two max_three min_three max_four min_four   -- for this text's walks alone
set_option linter.unusedVariables false
set_option linter.unusedSimpArgs false
def slices_Index_int_int.l0:Nat→List Int→Int→Int→Int→Option (Int)
|0,_,_,_,_=>none
|k + 1,x0,x1,x7,x8=>if x8 < x7 then (if 0≤x8 then (if x8 < (x0.length:Int) then (if x1=(rd x0 x8) then (some x8) else (slices_Index_int_int.l0 k x0 x1 x7 (wrap64 (x8 + 1)))) else (none)) else (none)) else (some (-1))
def slices_Index_int_int.f (k:Nat) (l0:List Int) (a1:Int):Option (Int):=slices_Index_int_int.l0 k l0 a1 (l0.length:Int) 0
set_option maxHeartbeats 8000000 in
set_option maxRecDepth 100000 in
theorem slices_Index_int_int.calls (k:Nat) (A0:Option Addr) (c0:Nat) (l0:List Int) (a1:Int) (r:Int) (w:World) (hr0:Kd.C (Kd.int .i64) w A0 l0.length l0) (hc0:l0.length≤c0) (h:slices_Index_int_int.f k l0 a1=some r) :
  Calls Tryz.prog 86 #[.slice A0 l0.length c0,.int .i64 a1] w fun e w'=>e=.returned (.int .i64 r)∧Drawn0 w w':=by
 have HR0:=za hr0;have HC0:=za hc0;clear hr0 hc0;have H:(slices_Index_int_int.l0 k l0 a1 (l0.length:Int) 0)=some r:=h;clear h;have H':=za H;clear H;(go_enter Tryz.func86,Tryz.ntmps86);(go_wp2);(go_loopg [8] k (fun kq v8 w'=>∃ (x8_1:Int),v8=.int .i64 x8_1∧Aside0 (slices_Index_int_int.l0 kq l0 a1 (l0.length:Int) x8_1=some r)∧Aside0 (kq≤k)∧Drawn0 w w'));case atStart=>exact ⟨(0),(by first|rfl|(simp;done)|(simp [*];done)),H',⟨Nat.le_refl _⟩,by apply_rules only [Drawn0.refl _,Drawn0.step]⟩
 case round =>
  clear H';(try clear p2);obtain ⟨x8_1,rfl,HA,HK1,⟨m1,rfl⟩⟩:=hrel
  cases gk with
 |zero=>exact absurd HA.out (by simp [slices_Index_int_int.l0])
 |succ k1 =>
   have H:=HA.out;clear HA;simp only [slices_Index_int_int.l0] at H;by_cases c3:x8_1 < (l0.length:Int)
   ·
    rw [if_pos c3] at H;have c3b0:decide (x8_1 < (l0.length:Int))=true:=decide_eq_true c3;clear c3;by_cases c4:0≤x8_1
    ·
     rw [if_pos c4] at H;have c4b0:decide (0≤x8_1)=true:=decide_eq_true c4;clear c4;by_cases c5:x8_1 < (l0.length:Int)
     ·
      rw [if_pos c5] at H;have c5b0:decide (x8_1 < (l0.length:Int))=true:=decide_eq_true c5;clear c5;by_cases c6:a1=(rd l0 x8_1)
      · rw [if_pos c6] at H;have c6b0:(a1 == (rd l0 x8_1))=true:=beq_iff_eq.mpr c6;have c6b1:(a1 != (rd l0 x8_1))=false:=bne_eq_false_iff_eq.mpr c6;clear c6;obtain rfl:=Option.some.inj H;have p101:0≤(x8_1:Int):=of_decide_eq_true ‹_›;have q101:x8_1 < (l0.length:Int):=of_decide_eq_true ‹_›;obtain ⟨ad101,e101,hx101_0⟩:=zx HR0.out x8_1 p101 q101;cases e101;replace p101:=eq_true p101;replace q101:=eq_true q101;(go_wp2);(go_ret);exact ⟨by first|rfl|(simp;done)|(simp [*];done),by apply_rules only [Drawn0.refl _,Drawn0.step]⟩
      · rw [if_neg c6] at H;have c6b0:(a1 == (rd l0 x8_1))=false:=beq_eq_false_iff_ne.mpr c6;have c6b1:(a1 != (rd l0 x8_1))=true:=bne_iff_ne.mpr c6;have H':=za H;clear H;have p101:0≤(x8_1:Int):=of_decide_eq_true ‹_›;have q101:x8_1 < (l0.length:Int):=of_decide_eq_true ‹_›;obtain ⟨ad101,e101,hx101_0⟩:=zx HR0.out x8_1 p101 q101;cases e101;replace p101:=eq_true p101;replace q101:=eq_true q101;(go_wp2);(go_roundg k1);(case measure=>have:=HK1.out;omega);case rel=>exact ⟨(wrap64 (x8_1 + 1)),(by first|rfl|(simp;done)|(simp [*];done)),H',⟨by have:=HK1.out;omega⟩,by apply_rules only [Drawn0.refl _,Drawn0.step]⟩
     · rw [if_neg c5] at H;exact absurd H (by simp)
    · rw [if_neg c4] at H;exact absurd H (by simp)
   · rw [if_neg c3] at H;have c3b0:decide (x8_1 < (l0.length:Int))=false:=decide_eq_false c3;clear c3;obtain rfl:=Option.some.inj H;(go_wp2);(go_ret);exact ⟨by first|rfl|(simp;done)|(simp [*];done),by apply_rules only [Drawn0.refl _,Drawn0.step]⟩
def slices_Contains_int_int.f (k:Nat) (l0:List Int) (a1:Int):Option (Bool):=(slices_Index_int_int.f k l0 a1).bind fun t101=>(some (decide (t101 ≥ 0)))
set_option maxHeartbeats 8000000 in
set_option maxRecDepth 100000 in
theorem slices_Contains_int_int.calls (k:Nat) (A0:Option Addr) (c0:Nat) (l0:List Int) (a1:Int) (r:Bool) (w:World) (hr0:Kd.C (Kd.int .i64) w A0 l0.length l0) (hc0:l0.length≤c0) (h:slices_Contains_int_int.f k l0 a1=some r) :
  Calls Tryz.prog 67 #[.slice A0 l0.length c0,.int .i64 a1] w fun e w'=>e=.returned (.bool r)∧Drawn0 w w':=by
 have HR0:=za hr0;have HC0:=za hc0;clear hr0 hc0;have H:((slices_Index_int_int.f k l0 a1).bind fun t101=>(some (decide (t101 ≥ 0))))=some r:=h;clear h;obtain ⟨t101,A3,H⟩:=bindAside H;(try dsimp only at H);obtain rfl:=Option.some.inj H;(go_enter Tryz.func67,Tryz.ntmps67);(go_wp2_with (first|((with_reducible refine zu (f:=86) rfl ?_);refine goesL_ (some 7) rfl rfl Tryz.func86 (by kernel_rfl) rfl #[.slice A0 l0.length c0,.int .i64 a1] rfl (by first|rfl|simp only [z3_,z4_,z5_];try rfl) ?_;(with_reducible refine (slices_Index_int_int.calls k _ _ l0 a1 t101 _ ?side1 ?side2 A3.out).mono ?_);(case side1=>apply_rules only [HR0.out,zm,zn,zo]);(case side2=>exact HC0.out);rintro e w' ⟨rfl,⟨nd,rfl⟩⟩;refine ⟨_,rfl,?_⟩)));(go_ret);exact ⟨by first|rfl|(simp;done)|(simp [*];done),by apply_rules only [Drawn0.refl _,Drawn0.step]⟩
end Go.Proofs.YtpjjeeabpaojnaaGreat.Q
end
section
namespace Go.Proofs.YtpjjeeabpaojnaaGreat.PermK
set_option linter.unusedVariables false
open Go.RowKit Go.Proofs.YtpjjeeabpaojnaaGreat.Q Go.Proofs.YtpjjeeabpaojnaaGreatW.PrintWords Go.Proofs.YtpjjeeabpaojnaaGreatW.PrintLast Go.Proofs.YtpjjeeabpaojnaaGreatW.PrintMore
open Go.Proofs.YtpjjeeabpaojnaaGreatL
theorem l1Has_l0 {l:List Int} (x:Int) (hl:l.length≤4611686018427387904):∀ (d i:Nat),i + d=l.length→Ev (fun k=>spec_l1Has.l0 k x l (l.length:Int) i) (decide (x ∈ l.drop i))
|0,i,hi=>by
  refine Ev.step (f:=fun _=>some (decide (x ∈ l.drop i))) (fun k=>?_) (Ev.now _)
  rw [spec_l1Has.l0,if_neg (by omega),List.drop_eq_nil_of_le (by omega)];rfl
|d + 1,i,hi=>by
  have h1:wrap64 ((i:Int) + 1)=((i + 1:Nat):Int):=by rw [w64 (by omega) (by omega)];rfl
  have hi2:i < l.length:=by omega
  rw [List.drop_eq_getElem_cons hi2]
  by_cases e:l[i]=x
  ·
   refine Ev.step (f:=fun _=>some (decide (x ∈ l[i] :: l.drop (i + 1)))) (fun k=>?_) (Ev.now _)
   rw [spec_l1Has.l0,if_pos (by omega),if_pos (by omega),if_pos (by omega),rd_lt _ _ hi2,if_pos e,decide_eq_true (by simp [e])]
  ·
   have:(x ∈ l[i] :: l.drop (i + 1)) ↔ x ∈ l.drop (i + 1):=by
    rw [List.mem_cons];exact ⟨fun h=>h.resolve_left (fun h=>e h.symm),Or.inr⟩
   rw [decide_eq_decide.mpr this]
   refine Ev.step (fun k=>?_) (l1Has_l0 x hl d (i + 1) (by omega))
   rw [spec_l1Has.l0,if_pos (by omega),if_pos (by omega),if_pos (by omega),rd_lt _ _ hi2,if_neg e,h1]
theorem l1Has {l:List Int} (x:Int) (hl:l.length≤4611686018427387904):Ev (fun k=>spec_l1Has.f k l x) (decide (x ∈ l)):=by
 refine Ev.congr (fun k=>?_) (l1Has_l0 x hl l.length 0 (by omega))
 unfold spec_l1Has.f;rfl
theorem index_l0 {l:List Int} (x:Int) (hl:l.length≤4611686018427387904):∀ (d i:Nat),i + d=l.length→∃ r:Int,(decide (r ≥ 0)=decide (x ∈ l.drop i))∧Ev (fun k=>slices_Index_int_int.l0 k l x (l.length:Int) i) r
|0,i,hi=>by
  refine ⟨-1,by rw [List.drop_eq_nil_of_le (by omega)];rfl,Ev.step (f:=fun _=>some (-1)) (fun k=>?_) (Ev.now _)⟩
  rw [slices_Index_int_int.l0,if_neg (by omega)]
|d + 1,i,hi=>by
  have h1:wrap64 ((i:Int) + 1)=((i + 1:Nat):Int):=by rw [w64 (by omega) (by omega)];rfl
  have hi2:i < l.length:=by omega
  rw [List.drop_eq_getElem_cons hi2]
  by_cases e:x=l[i]
  ·
   refine ⟨i,by rw [decide_eq_true (show x ∈ l[i] :: l.drop (i + 1) from List.mem_cons.2 (Or.inl e))];simp,Ev.step (f:=fun _=>some (i:Int)) (fun k=>?_) (Ev.now _)⟩
   rw [slices_Index_int_int.l0,if_pos (by omega),if_pos (by omega),if_pos (by omega),rd_lt _ _ hi2,if_pos e]
  ·
   have:(x ∈ l[i] :: l.drop (i + 1)) ↔ x ∈ l.drop (i + 1):=by
    rw [List.mem_cons];exact ⟨fun h=>h.resolve_left e,Or.inr⟩
   rw [decide_eq_decide.mpr this]
   obtain ⟨r,hr,hev⟩:=index_l0 x hl d (i + 1) (by omega)
   refine ⟨r,hr,Ev.step (fun k=>?_) hev⟩
   rw [slices_Index_int_int.l0,if_pos (by omega),if_pos (by omega),if_pos (by omega),rd_lt _ _ hi2,if_neg e,h1]
theorem contains {l:List Int} (x:Int) (hl:l.length≤4611686018427387904):Ev (fun k=>slices_Contains_int_int.f k l x) (decide (x ∈ l)):=by
 obtain ⟨r,hr,hev⟩:=index_l0 x hl l.length 0 (by omega)
 rw [List.drop_zero] at hr
 rw [← hr]
 unfold slices_Contains_int_int.f slices_Index_int_int.f
 exact Ev.bind (a:=r) hev (Ev.now _)
end Go.Proofs.YtpjjeeabpaojnaaGreat.PermK
end
section
namespace Go.Proofs.YtpjjeeabpaojnaaGreat.Q
open Go.RowKit Go.Proofs.YtpjjeeabpaojnaaGreatW.PrintWords Go.Proofs.YtpjjeeabpaojnaaGreatW.PrintLast Go.Proofs.YtpjjeeabpaojnaaGreatW.PrintMore
attribute [local go_sem] max2_int min2_int max_two min_two max_three min_three max_four min_four   -- for this text's walks alone
set_option linter.unusedVariables false
set_option linter.unusedSimpArgs false
mutual
def spec_lcColumns.l0:Nat→List Int→Bool→List Int→Int→Int→Int→List Int→Option (List Int)
|0,_,_,_,_,_,_,_=>none
|k + 1,x1,x2,x7,x8,x102000,x102001,x102002=>if x8 < x102001 then (spec_lcColumns.l1 k x1 x2 x7 x8 false 0 x102000 x102001 x102002) else (some x7)
def spec_lcColumns.l1:Nat→List Int→Bool→List Int→Int→Bool→Int→Int→Int→List Int→Option (List Int)
|0,_,_,_,_,_,_,_,_,_=>none
|k + 1,x1,x2,x7,x8,x9,x10,x102000,x102001,x102002=>if x10 < x102000 then (if x9=true then (spec_lcColumns.l1 k x1 x2 x7 x8 true (wrap64 (x10 + 1)) x102000 x102001 x102002) else ((spec_l1Has.f k x1 x10).bind fun t102=>(if (t102 != x2)=true then ((spec_boHas.f x102000 x102001 x102002 x10 x8).bind fun t103=>(spec_lcColumns.l1 k x1 x2 x7 x8 t103 (wrap64 (x10 + 1)) x102000 x102001 x102002)) else (spec_lcColumns.l1 k x1 x2 x7 x8 false (wrap64 (x10 + 1)) x102000 x102001 x102002)))) else (if x9=true then (if x7.length < 17592186044416 then (spec_lcColumns.l0 k x1 x2 (x7 ++ [x8]) (wrap64 (x8 + 1)) x102000 x102001 x102002) else (none)) else (spec_lcColumns.l0 k x1 x2 x7 (wrap64 (x8 + 1)) x102000 x102001 x102002))
end
def spec_lcColumns.f (k:Nat) (a0_0:Int) (a0_1:Int) (l0_2:List Int) (l1:List Int) (a2:Bool):Option (List Int):=spec_lcColumns.l0 k l1 a2 ([]:List Int) 0 a0_0 a0_1 l0_2
set_option maxHeartbeats 8000000 in
set_option maxRecDepth 100000 in
theorem spec_lcColumns.calls (k:Nat) (a0_0:Int) (a0_1:Int) (A0_2:Option Addr) (c0_2:Nat) (l0_2:List Int) (A1:Option Addr) (c1:Nat) (l1:List Int) (a2:Bool) (r:List Int) (w:World) (hr0_2:Kd.C (Kd.int .i64) w A0_2 l0_2.length l0_2) (hc0_2:l0_2.length≤c0_2) (hr1:Kd.C (Kd.int .i64) w A1 l1.length l1) (hc1:l1.length≤c1) (h:spec_lcColumns.f k a0_0 a0_1 l0_2 l1 a2=some r) :
  Calls Tryz.prog 61 #[.agg #[.int .i64 a0_0,.int .i64 a0_1,.slice A0_2 l0_2.length c0_2],.slice A1 l1.length c1,.bool a2] w fun e w'=>∃ v0_:Value,e=.returned (v0_)∧Kd.R (Kd.int .i64) 3 w' w.heap.size (fun _=>True) v0_ r∧Below w.heap.size w w':=by
 have hu26:=Tryz.underlying26;have HR0_2:=za hr0_2;have HC0_2:=za hc0_2;clear hr0_2 hc0_2;have HR1:=za hr1;have HC1:=za hc1;clear hr1 hc1;have HB:=za (Below.refl w.heap.size w);have H:(spec_lcColumns.l0 k l1 a2 ([]:List Int) 0 a0_0 a0_1 l0_2)=some r:=h;clear h;have H':=za H;clear H;(go_enter Tryz.func61,Tryz.ntmps61);(go_wp2_with (first|((with_reducible refine zv (N:=3) rfl ?_);refine zw ?hg (N:=3) ?hd (cs:=#[.int .i64 a0_0,.int .i64 a0_1,.slice A0_2 l0_2.length c0_2]) (t:=26) ?hr ?_;(case hd=>rfl);(case hg=>rfl);(case hr=>first|(go_simp;done)|(go_simp;rfl));intro gb101 hg w4 hbox hb;have BK101:=za (hbox);have GW101:=za ((by rw [hg];exact (zi (by apply_rules only [HB.out,zc,zd,zb])):w.heap.size≤gb101));have GE101:=za ((by rw [hg];exact (zi (by apply_rules only [HB.out,zc,zd,zb])):w.heap.size≤gb101));replace HB:=za (zl (by apply_rules only [HB.out,zc,zd,zb]) hb);clear hb hbox hg)));(go_loopg [7,8] k (fun kq v7 v8 w'=>∃ (x7_1:List Int) (x8_1:Int),v8=.int .i64 x8_1∧Aside0 (spec_lcColumns.l0 kq l1 a2 x7_1 x8_1 a0_0 a0_1 l0_2=some r)∧Aside0 (kq≤k)∧Aside0 (Kd.R (Kd.int .i64) 3 w' w.heap.size (fun _=>True) v7 x7_1)∧Aside0 (w'.heap[gb101]?=some (.cells #[.int .i64 a0_0,.int .i64 a0_1,(.slice A0_2 l0_2.length c0_2)] 26 (0,0)))∧Aside0 (Below w.heap.size w w')));case atStart=>exact ⟨(([]:List Int)),(0),(by first|rfl|(simp;done)|(simp [*];done)),H',⟨Nat.le_refl _⟩,⟨by first|exact Kd.R_nil _ _ _ _ _|exact Kd.N_nil _ _ _ _ _|exact Kd.V_nil _ _ _ _ _|exact Kd.Q_nil _ _ _ _ _|exact Kd.S_nil _ _ _ _ _⟩,⟨by apply_rules only [BK101.out,zj,zh,zk]⟩,⟨by apply_rules only [HB.out,zc,zd,zb,zg,GE101.out]⟩⟩
 case round =>
  clear H';(try clear c1);(try clear p2);obtain ⟨x7_1,x8_1,rfl,HA,HK1,HO_7,BK101,HB⟩:=hrel
  cases gk with
 |zero=>exact absurd HA.out (by simp [spec_lcColumns.l0])
 |succ k1 =>
   have H:=HA.out;clear HA;simp only [spec_lcColumns.l0] at H;by_cases c5:x8_1 < a0_1
   ·
    rw [if_pos c5] at H;have c5b0:decide (x8_1 < a0_1)=true:=decide_eq_true c5;clear c5;have H':=za H;clear H;have hcz6_0:wr.cell? ⟨gb101,0,none⟩=some (.int .i64 a0_0):=(ze BK101.out 0).trans rfl;have hcz6_1:wr.cell? ⟨gb101,1,none⟩=some (.int .i64 a0_1):=(ze BK101.out 1).trans rfl;have hcz6_2:wr.cell? ⟨gb101,2,none⟩=some (.slice A0_2 l0_2.length c0_2):=(ze BK101.out 2).trans rfl;have hfz6_0:=zf BK101.out 0;have hfz6_1:=zf BK101.out 1;have hfz6_2:=zf BK101.out 2;(go_wp2);(go_loopg [9,10] k1 (fun kq v9 v10 w'=>∃ (x9_2:Bool) (x10_2:Int),v9=.bool x9_2∧v10=.int .i64 x10_2∧Aside0 (spec_lcColumns.l1 kq l1 a2 x7_1 x8_1 x9_2 x10_2 a0_0 a0_1 l0_2=some r)∧Aside0 (kq≤k1)∧Aside0 (Kd.R (Kd.int .i64) 3 w' w.heap.size (fun _=>True) u7 x7_1)∧Aside0 (w'.heap[gb101]?=some (.cells #[.int .i64 a0_0,.int .i64 a0_1,(.slice A0_2 l0_2.length c0_2)] 26 (0,0)))∧Aside0 (Below w.heap.size w w')));case atStart=>exact ⟨(false),(0),(by first|rfl|(simp;done)|(simp [*];done)),(by first|rfl|(simp;done)|(simp [*];done)),H',⟨Nat.le_refl _⟩,⟨by apply_rules only [HO_7.out,zs,zt,zr]⟩,⟨by apply_rules only [BK101.out,zj,zh,zk]⟩,⟨by apply_rules only [HB.out,zc,zd,zb,zg,GE101.out]⟩⟩
    case round =>
     clear H';(try clear c1);(try clear p2);(try clear c5);(try clear c5b0);(try clear c6);(try clear hcz6_0);(try clear hcz6_1);(try clear hcz6_2);(try clear hfz6_0);(try clear hfz6_1);(try clear hfz6_2);(try clear p2);obtain ⟨x9_2,x10_2,rfl,rfl,HA,HK2,HO_7,BK101,HB⟩:=hrel
     cases gk with
    |zero=>exact absurd HA.out (by simp [spec_lcColumns.l1])
    |succ k2 =>
      have H:=HA.out;clear HA;simp only [spec_lcColumns.l1] at H;by_cases c7:x10_2 < a0_0
      ·
       rw [if_pos c7] at H;have c7b0:decide (x10_2 < a0_0)=true:=decide_eq_true c7;clear c7;by_cases c8:x9_2=true
       · subst c8;(have H1:(spec_lcColumns.l1 k2 l1 a2 x7_1 x8_1 true (wrap64 (x10_2 + 1)) a0_0 a0_1 l0_2)=some r:=by rw [if_pos rfl] at H;exact H);clear H;have H:=H1;clear H1;have H':=za H;clear H;have hcz9_0:wr.cell? ⟨gb101,0,none⟩=some (.int .i64 a0_0):=(ze BK101.out 0).trans rfl;have hcz9_1:wr.cell? ⟨gb101,1,none⟩=some (.int .i64 a0_1):=(ze BK101.out 1).trans rfl;have hcz9_2:wr.cell? ⟨gb101,2,none⟩=some (.slice A0_2 l0_2.length c0_2):=(ze BK101.out 2).trans rfl;have hfz9_0:=zf BK101.out 0;have hfz9_1:=zf BK101.out 1;have hfz9_2:=zf BK101.out 2;(go_wp2);(go_roundg k2);(case measure=>have:=HK1.out;have:=HK2.out;omega);case rel=>exact ⟨(true),(wrap64 (x10_2 + 1)),(by first|rfl|(simp;done)|(simp [*];done)),(by first|rfl|(simp;done)|(simp [*];done)),H',⟨by have:=HK1.out;have:=HK2.out;omega⟩,⟨by apply_rules only [HO_7.out,zs,zt,zr]⟩,⟨by apply_rules only [BK101.out,zj,zh,zk]⟩,⟨by apply_rules only [HB.out,zc,zd,zb,zg,GE101.out]⟩⟩
       ·
        replace c8:=Bool.eq_false_iff.mpr c8;subst c8;(have H1:((spec_l1Has.f k2 l1 x10_2).bind fun t102=>(if (t102 != a2)=true then ((spec_boHas.f a0_0 a0_1 l0_2 x10_2 x8_1).bind fun t103=>(spec_lcColumns.l1 k2 l1 a2 x7_1 x8_1 t103 (wrap64 (x10_2 + 1)) a0_0 a0_1 l0_2)) else (spec_lcColumns.l1 k2 l1 a2 x7_1 x8_1 false (wrap64 (x10_2 + 1)) a0_0 a0_1 l0_2)))=some r:=by rw [if_neg (show ¬ (false=true) by decide)] at H;exact H);clear H;have H:=H1;clear H1;obtain ⟨t102,A10,H⟩:=bindAside H;(try dsimp only at H);by_cases c11:(t102 != a2)=true
        · rw [if_pos c11] at H;have c11b0:(t102 != a2)=true:=c11;(try (have c11b1:decide (t102=a2)=false:=by simpa using c11));(try (have c11b2:(t102 == a2)=false:=by simpa using c11));(try (have c11b3:¬ (t102=a2):=by simpa using c11));clear c11;obtain ⟨t103,A12,H⟩:=bindAside H;(try dsimp only at H);have H':=za H;clear H;have hcz13_0:wr.cell? ⟨gb101,0,none⟩=some (.int .i64 a0_0):=(ze BK101.out 0).trans rfl;have hcz13_1:wr.cell? ⟨gb101,1,none⟩=some (.int .i64 a0_1):=(ze BK101.out 1).trans rfl;have hcz13_2:wr.cell? ⟨gb101,2,none⟩=some (.slice A0_2 l0_2.length c0_2):=(ze BK101.out 2).trans rfl;have hfz13_0:=zf BK101.out 0;have hfz13_1:=zf BK101.out 1;have hfz13_2:=zf BK101.out 2;(go_wp2_with (first|(go_at_call 49;(with_reducible refine (spec_l1Has.calls k2 _ _ l1 x10_2 t102 _ ?side1 ?side2 A10.out).mono ?_);(case side1=>apply_rules only [zq HR1.out HB.out,zm,zn,zo]);(case side2=>exact HC1.out);rintro e w' ⟨rfl,⟨nd,rfl⟩⟩)|(go_at_call 73;(with_reducible refine (spec_boHas.calls a0_0 a0_1 _ _ l0_2 x10_2 x8_1 t103 _ ?side1 ?side2 A12.out).mono ?_);(case side1=>repeat (first|exact (zq HR0_2.out (by apply_rules only [HB.out,zc,zd,zb,zg,GE101.out]))|(with_reducible refine zm ?_ _)|(with_reducible refine zn ?_ _)|(with_reducible refine zo ?_)));(case side2=>exact HC0_2.out);rintro e w14 ⟨rfl,hb⟩;replace HO_7:=za (Kd.R_below (by apply_rules only [HO_7.out,zs,zt,zr]) hb);replace BK101:=za (zp (g:=gb101) (o:=.cells #[.int .i64 a0_0,.int .i64 a0_1,.slice A0_2 l0_2.length c0_2] 26 (0,0)) (by apply_rules only [BK101.out,zj,zh,zk]) hb);replace HB:=za (zl (by apply_rules only [HB.out,zc,zd,zb,zg,GE101.out]) hb))));(go_roundg k2);(case measure=>have:=HK1.out;have:=HK2.out;omega);case rel=>exact ⟨(t103),(wrap64 (x10_2 + 1)),(by first|rfl|(simp;done)|(simp [*];done)),(by first|rfl|(simp;done)|(simp [*];done)),H',⟨by have:=HK1.out;have:=HK2.out;omega⟩,⟨by apply_rules only [HO_7.out,zs,zt,zr]⟩,⟨by apply_rules only [BK101.out,zj,zh,zk]⟩,⟨by apply_rules only [HB.out,zc,zd,zb,zg,GE101.out]⟩⟩
        · rw [if_neg c11] at H;(have c11b0:(t102 != a2)=false:=by simpa using c11);(try (have c11b1:decide (t102=a2)=true:=by simpa using c11));(try (have c11b2:(t102 == a2)=true:=by simpa using c11));clear c11;have H':=za H;clear H;have hcz15_0:wr.cell? ⟨gb101,0,none⟩=some (.int .i64 a0_0):=(ze BK101.out 0).trans rfl;have hcz15_1:wr.cell? ⟨gb101,1,none⟩=some (.int .i64 a0_1):=(ze BK101.out 1).trans rfl;have hcz15_2:wr.cell? ⟨gb101,2,none⟩=some (.slice A0_2 l0_2.length c0_2):=(ze BK101.out 2).trans rfl;have hfz15_0:=zf BK101.out 0;have hfz15_1:=zf BK101.out 1;have hfz15_2:=zf BK101.out 2;(go_wp2_with (first|(go_at_call 49;(with_reducible refine (spec_l1Has.calls k2 _ _ l1 x10_2 t102 _ ?side1 ?side2 A10.out).mono ?_);(case side1=>apply_rules only [zq HR1.out HB.out,zm,zn,zo]);(case side2=>exact HC1.out);rintro e w' ⟨rfl,⟨nd,rfl⟩⟩)));(go_roundg k2);(case measure=>have:=HK1.out;have:=HK2.out;omega);case rel=>exact ⟨(false),(wrap64 (x10_2 + 1)),(by first|rfl|(simp;done)|(simp [*];done)),(by first|rfl|(simp;done)|(simp [*];done)),H',⟨by have:=HK1.out;have:=HK2.out;omega⟩,⟨by apply_rules only [HO_7.out,zs,zt,zr]⟩,⟨by apply_rules only [BK101.out,zj,zh,zk]⟩,⟨by apply_rules only [HB.out,zc,zd,zb,zg,GE101.out]⟩⟩
      ·
       rw [if_neg c7] at H;have c7b0:decide (x10_2 < a0_0)=false:=decide_eq_false c7;clear c7;by_cases c16:x9_2=true
       ·
        subst c16;(have H1:(if x7_1.length < 17592186044416 then (spec_lcColumns.l0 k2 l1 a2 (x7_1 ++ [x8_1]) (wrap64 (x8_1 + 1)) a0_0 a0_1 l0_2) else (none))=some r:=by rw [if_pos rfl] at H;exact H);clear H;have H:=H1;clear H1;by_cases c17:x7_1.length < 17592186044416
        · rw [if_pos c17] at H;have LMc17:=za c17;clear c17;obtain ⟨y104,hy104⟩:∃ y_:List Int,y_=(x7_1 ++ [x8_1]):=⟨_,rfl⟩;(replace H:(spec_lcColumns.l0 k2 l1 a2 y104 (wrap64 (x8_1 + 1)) a0_0 a0_1 l0_2)=some r:=by first|(rw [hy104];with_reducible exact H)|(have H2_:=(Option.bind_some _ _).symm.trans H;rw [hy104];with_reducible exact H2_)|(have H2_:=(Option.bind_some _ _).symm.trans H;with_reducible exact H2_)|with_reducible exact H|(rw [hy104];exact H)|exact H);have Ny104:=za hy104;clear hy104;have H':=za H;clear H;have hcz18_0:wr.cell? ⟨gb101,0,none⟩=some (.int .i64 a0_0):=(ze BK101.out 0).trans rfl;have hcz18_1:wr.cell? ⟨gb101,1,none⟩=some (.int .i64 a0_1):=(ze BK101.out 1).trans rfl;have hcz18_2:wr.cell? ⟨gb101,2,none⟩=some (.slice A0_2 l0_2.length c0_2):=(ze BK101.out 2).trans rfl;have hfz18_0:=zf BK101.out 0;have hfz18_1:=zf BK101.out 1;have hfz18_2:=zf BK101.out 2;(go_wp2_with (first|((with_reducible refine gate_builtin (b:=.append) (xs:=#[.tmp 38,.tmp 40]) rfl ?_);at_builtin;refine Kd.R_append (Kd.int .i64) (w0:=w) w.heap.size rfl (.tmp 38) (.tmp 40) 24 3 (.int .i64 0) 8 rfl Tryz.underlying24 info3 rfl (by decide) (by omega) u7 x7_1 x8_1 [.int .i64 x8_1] (fun _=>True) (fun _=>False) rfl rfl ?aP (fun _ hk=>hk.elim) ?aF ?aO ?aB ?aS ?aL ?_;(case aP=>exact rfl);(case aB=>exact (by apply_rules only [HB.out,zc,zd,zb,zg,GE101.out]));(case aF=>exact (fun _ _=>trivial));(case aO=>exact (by apply_rules only [HO_7.out,zs,zt,zr]));(case aS=>exact (zi (by apply_rules only [HB.out,zc,zd,zb,zg,GE101.out])));(case aL=>have:=LMc17.out;omega);intro v105 w19 ho hb hg hat;rw [← Ny104.out] at ho;replace BK101:=za (blk_grown (g:=gb101) (o:=.cells #[.int .i64 a0_0,.int .i64 a0_1,.slice A0_2 l0_2.length c0_2] 26 (0,0)) (by apply_rules only [BK101.out,zj,zh,zk]) hg (Kd.R_ne HO_7.out BK101.out (by decide)));replace HB:=za (hb);have HO106:=za (ho);clear HO_7;clear ho hb hg hat)));(go_roundg k2);(case measure=>have:=HK1.out;have:=HK2.out;omega);case rel=>exact ⟨(y104),(wrap64 (x8_1 + 1)),(by first|rfl|(simp;done)|(simp [*];done)),H',⟨by have:=HK1.out;have:=HK2.out;omega⟩,⟨by apply_rules only [HO106.out,zs,zt,zr]⟩,⟨by apply_rules only [BK101.out,zj,zh,zk]⟩,⟨by apply_rules only [HB.out,zc,zd,zb,zg,GE101.out]⟩⟩
        · rw [if_neg c17] at H;exact absurd H (by simp)
       · replace c16:=Bool.eq_false_iff.mpr c16;subst c16;(have H1:(spec_lcColumns.l0 k2 l1 a2 x7_1 (wrap64 (x8_1 + 1)) a0_0 a0_1 l0_2)=some r:=by rw [if_neg (show ¬ (false=true) by decide)] at H;exact H);clear H;have H:=H1;clear H1;have H':=za H;clear H;have hcz20_0:wr.cell? ⟨gb101,0,none⟩=some (.int .i64 a0_0):=(ze BK101.out 0).trans rfl;have hcz20_1:wr.cell? ⟨gb101,1,none⟩=some (.int .i64 a0_1):=(ze BK101.out 1).trans rfl;have hcz20_2:wr.cell? ⟨gb101,2,none⟩=some (.slice A0_2 l0_2.length c0_2):=(ze BK101.out 2).trans rfl;have hfz20_0:=zf BK101.out 0;have hfz20_1:=zf BK101.out 1;have hfz20_2:=zf BK101.out 2;(go_wp2);(go_roundg k2);(case measure=>have:=HK1.out;have:=HK2.out;omega);case rel=>exact ⟨(x7_1),(wrap64 (x8_1 + 1)),(by first|rfl|(simp;done)|(simp [*];done)),H',⟨by have:=HK1.out;have:=HK2.out;omega⟩,⟨by apply_rules only [HO_7.out,zs,zt,zr]⟩,⟨by apply_rules only [BK101.out,zj,zh,zk]⟩,⟨by apply_rules only [HB.out,zc,zd,zb,zg,GE101.out]⟩⟩
   · rw [if_neg c5] at H;have c5b0:decide (x8_1 < a0_1)=false:=decide_eq_false c5;clear c5;obtain rfl:=Option.some.inj H;have hcz21_0:wr.cell? ⟨gb101,0,none⟩=some (.int .i64 a0_0):=(ze BK101.out 0).trans rfl;have hcz21_1:wr.cell? ⟨gb101,1,none⟩=some (.int .i64 a0_1):=(ze BK101.out 1).trans rfl;have hcz21_2:wr.cell? ⟨gb101,2,none⟩=some (.slice A0_2 l0_2.length c0_2):=(ze BK101.out 2).trans rfl;have hfz21_0:=zf BK101.out 0;have hfz21_1:=zf BK101.out 1;have hfz21_2:=zf BK101.out 2;(go_wp2);(go_ret);exact ⟨_,by first|rfl|simp [*,errW_none,errW_some] <;> rfl,by (with_reducible repeat (first|apply zs|apply zt|apply zr));exact HO_7.out,by repeat (first|(with_reducible first|exact HB.out|apply zc|apply zd|apply zb|refine zg ?_ GE101.out)|exact HB.out)⟩
end Go.Proofs.YtpjjeeabpaojnaaGreat.Q
end
section
namespace Go.Proofs.YtpjjeeabpaojnaaGreat.LinesK
set_option linter.unusedVariables false
open Go.RowKit Go.Proofs.YtpjjeeabpaojnaaGreat.Q Go.Proofs.YtpjjeeabpaojnaaGreatW.PrintWords Go.Proofs.YtpjjeeabpaojnaaGreatW.PrintLast Go.Proofs.YtpjjeeabpaojnaaGreatW.PrintMore
open Go.Proofs.YtpjjeeabpaojnaaGreatL Go.Proofs.YtpjjeeabpaojnaaGreat.LawK Go.Proofs.YtpjjeeabpaojnaaGreat.BoardK Go.Proofs.YtpjjeeabpaojnaaGreat.PermK
theorem evEq {α:Type} {g:Nat→Option α} {a b:α} (h:Ev g a) (e:a=b):Ev g b:=e ▸ h
theorem within_f (a b c:Int):impl_within.f a b c=some (inR b c a):=by
 unfold impl_within.f inR
 by_cases h:b≤a
 ·
  rw [if_pos h];simp [h]
 ·
  rw [if_neg h];congr 1;exact (decide_eq_false (by omega)).symm
def listM (m:Nat):List Int:=(iota 0 6).filter (fun i=>m.testBit i.toNat)
def risesB (n:Int):Int→List Int→Bool
|_,[]=>true
|lo,x :: t=>decide (lo≤x∧x < n) && risesB n (x + 1) t
theorem areSome_l0 {l:List Int} {n:Int} (h1:1≤n) (h6:n≤6) (hl:l.length≤4611686018427387904):∀ (d i:Nat) (lo:Int),i + d=l.length→0≤lo→(i=0→lo=0)→(∀ j (h:j < l.length),i=j + 1→lo=l[j] + 1) →
  Ev (fun k=>impl_areSome.l0 k l n l (l.length:Int) i) (risesB n lo (l.drop i))
|0,i,lo,hi,h0,ha,hb=>by
  refine Ev.step (f:=fun _=>some true) (fun k=>?_) (evEq (Ev.now _) (by rw [List.drop_eq_nil_of_le (by omega)];rfl))
  rw [impl_areSome.l0,if_neg (by omega)]
|d + 1,i,lo,hi,h0,ha,hb=>by
  have w1:wrap64 ((i:Int) + 1)=((i + 1:Nat):Int):=by rw [w64 (by omega) (by omega)];rfl
  have w2:wrap64 (n - 1)=n - 1:=w64 (by omega) (by omega)
  have hi2:i < l.length:=by omega
  rw [List.drop_eq_getElem_cons hi2,risesB]
  by_cases c1:inR 0 (n - 1) l[i]=true
  ·
   have c1':0≤l[i]∧l[i]≤n - 1:=of_decide_eq_true c1
   have ih:=areSome_l0 h1 h6 hl d (i + 1) (l[i] + 1) (by omega) (by omega) (by omega) (fun j h e=>by have e2:i=j:=(by omega);subst e2;rfl)
   by_cases z:i=0
   ·
    rw [decide_eq_true (show lo≤l[i]∧l[i] < n from ⟨by rw [ha z];omega,by omega⟩),Bool.true_and]
    refine Ev.step (fun k=>?_) ih
    rw [impl_areSome.l0,if_pos (by omega),if_pos (by omega),if_pos (by omega),rd_lt _ _ hi2,w2,within_f,Option.bind_some,if_pos c1,if_neg (by omega),w1]
   ·
    have w3:wrap64 ((i:Int) - 1)=((i - 1:Nat):Int):=by rw [w64 (by omega) (by omega)];omega
    have hlo:=hb (i - 1) (by omega) (by omega)
    by_cases c2:l[i]≤l[i - 1]
    ·
     rw [decide_eq_false (by omega),Bool.false_and]
     refine Ev.step (f:=fun _=>some false) (fun k=>?_) (Ev.now _)
     rw [impl_areSome.l0,if_pos (by omega),if_pos (by omega),if_pos (by omega),rd_lt _ _ hi2,w2,within_f,Option.bind_some,if_pos c1,if_pos (by omega),w3,if_pos (by omega),if_pos (by omega),rd_lt _ (i - 1) (by omega),if_pos c2]
    ·
     rw [decide_eq_true (show lo≤l[i]∧l[i] < n from ⟨by omega,by omega⟩),Bool.true_and]
     refine Ev.step (fun k=>?_) ih
     rw [impl_areSome.l0,if_pos (by omega),if_pos (by omega),if_pos (by omega),rd_lt _ _ hi2,w2,within_f,Option.bind_some,if_pos c1,if_pos (by omega),w3,if_pos (by omega),if_pos (by omega),rd_lt _ (i - 1) (by omega),if_neg c2,w1]
  ·
   have c1':¬ (0≤l[i]∧l[i]≤n - 1):=fun h=>c1 (decide_eq_true h)
   rw [decide_eq_false (by omega),Bool.false_and]
   refine Ev.step (f:=fun _=>some false) (fun k=>?_) (Ev.now _)
   rw [impl_areSome.l0,if_pos (by omega),if_pos (by omega),if_pos (by omega),rd_lt _ _ hi2,w2,within_f,Option.bind_some,if_neg c1]
theorem areSome {l:List Int} {n:Int} (h1:1≤n) (h6:n≤6) (hl:l.length≤4611686018427387904):Ev (fun k=>impl_areSome.f k l n) (risesB n 0 l):=by
 have h:=areSome_l0 h1 h6 hl l.length 0 0 (by omega) (by omega) (fun _=>rfl) (fun j _ e=>by omega)
 rw [List.drop_zero] at h
 exact h
theorem l1Rising_l0 {l:List Int} {n:Int} (h1:1≤n) (h6:n≤6) (hl:l.length≤4611686018427387904):∀ (d i:Nat) (lo:Int),i + d=l.length→0≤lo→(i=0→lo=0)→(∀ j (h:j < l.length),i=j + 1→lo=l[j] + 1) →
  Ev (fun k=>spec_l1Rising.l0 k l 0 (n - 1) l (l.length:Int) i) (risesB n lo (l.drop i))
|0,i,lo,hi,h0,ha,hb=>by
  refine Ev.step (f:=fun _=>some true) (fun k=>?_) (evEq (Ev.now _) (by rw [List.drop_eq_nil_of_le (by omega)];rfl))
  rw [spec_l1Rising.l0,if_neg (by omega)]
|d + 1,i,lo,hi,h0,ha,hb=>by
  have w1:wrap64 ((i:Int) + 1)=((i + 1:Nat):Int):=by rw [w64 (by omega) (by omega)];rfl
  have hi2:i < l.length:=by omega
  rw [List.drop_eq_getElem_cons hi2,risesB]
  by_cases c1:inR 0 (n - 1) l[i]=true
  ·
   have c1':0≤l[i]∧l[i]≤n - 1:=of_decide_eq_true c1
   have ih:=l1Rising_l0 h1 h6 hl d (i + 1) (l[i] + 1) (by omega) (by omega) (by omega) (fun j h e=>by have e2:i=j:=(by omega);subst e2;rfl)
   by_cases z:i=0
   ·
    rw [decide_eq_true (show lo≤l[i]∧l[i] < n from ⟨by rw [ha z];omega,by omega⟩),Bool.true_and]
    refine Ev.step (fun k=>?_) ih
    rw [spec_l1Rising.l0,if_pos (by omega),if_pos (by omega),if_pos (by omega),rd_lt _ _ hi2,l1In_f,Option.bind_some,if_pos c1,if_neg (by omega),w1]
   ·
    have w3:wrap64 ((i:Int) - 1)=((i - 1:Nat):Int):=by rw [w64 (by omega) (by omega)];omega
    have hlo:=hb (i - 1) (by omega) (by omega)
    by_cases c2:l[i - 1] ≥ l[i]
    ·
     rw [decide_eq_false (by omega),Bool.false_and]
     refine Ev.step (f:=fun _=>some false) (fun k=>?_) (Ev.now _)
     rw [spec_l1Rising.l0,if_pos (by omega),if_pos (by omega),if_pos (by omega),rd_lt _ _ hi2,l1In_f,Option.bind_some,if_pos c1,if_pos (by omega),w3,if_pos (by omega),if_pos (by omega),rd_lt _ (i - 1) (by omega),if_pos c2]
    ·
     rw [decide_eq_true (show lo≤l[i]∧l[i] < n from ⟨by omega,by omega⟩),Bool.true_and]
     refine Ev.step (fun k=>?_) ih
     rw [spec_l1Rising.l0,if_pos (by omega),if_pos (by omega),if_pos (by omega),rd_lt _ _ hi2,l1In_f,Option.bind_some,if_pos c1,if_pos (by omega),w3,if_pos (by omega),if_pos (by omega),rd_lt _ (i - 1) (by omega),if_neg c2,w1]
  ·
   have c1':¬ (0≤l[i]∧l[i]≤n - 1):=fun h=>c1 (decide_eq_true h)
   rw [decide_eq_false (by omega),Bool.false_and]
   refine Ev.step (f:=fun _=>some false) (fun k=>?_) (Ev.now _)
   rw [spec_l1Rising.l0,if_pos (by omega),if_pos (by omega),if_pos (by omega),rd_lt _ _ hi2,l1In_f,Option.bind_some,if_neg c1]
theorem l1Rising {l:List Int} {n:Int} (h1:1≤n) (h6:n≤6) (hl:l.length≤4611686018427387904):Ev (fun k=>spec_l1Rising.f k l 0 (wrap64 (n - 1))) (risesB n 0 l):=by
 have h:=l1Rising_l0 h1 h6 hl l.length 0 0 (by omega) (by omega) (fun _=>rfl) (fun j _ e=>by omega)
 rw [List.drop_zero] at h
 rw [w64 (by omega) (by omega)]
 exact h
set_option maxRecDepth 20000 in
theorem listM_cons:∀ x:Fin 6,∀ m:Fin 64,(∀ i:Fin 6,m.val.testBit i.val=true→x.val < i.val)→listM (2 ^ x.val ||| m.val)=(x.val:Int) :: listM m.val:=by decide +kernel
theorem rises_mask {n:Int} (h6:n≤6):∀ (l:List Int) (lo:Int),0≤lo→risesB n lo l=true→∃ m:Nat,m < 64∧l=listM m∧∀ i,m.testBit i=true→lo≤i∧(i:Int) < n
|[],lo,_,_=>⟨0,by decide,by decide,fun i h=>by simp at h⟩
|x :: t,lo,h0,h=>by
  rw [risesB,Bool.and_eq_true,decide_eq_true_eq] at h
  obtain ⟨m,hm,ht,hb⟩:=rises_mask h6 t (x + 1) (by omega) h.2
  obtain ⟨y,rfl⟩:∃ y:Nat,x=y:=⟨x.toNat,by omega⟩
  have hy:y < 6:=by omega
  refine ⟨2 ^ y ||| m,?_,?_,fun i hi=>?_⟩
  ·
   have:(2 ^ y ||| m) < 2 ^ 6:=Nat.or_lt_two_pow (Nat.pow_lt_pow_right (by decide) hy) hm
   exact this
  ·
   rw [listM_cons ⟨y,hy⟩ ⟨m,hm⟩ (fun i hi=>by have:=hb i.val hi;simp only [];omega),← ht]
  ·
   rw [Nat.testBit_or,Bool.or_eq_true] at hi
   rcases hi with hi|hi
   ·
    rw [Nat.testBit_two_pow,decide_eq_true_eq] at hi;omega
   ·
    have:=hb i hi;omega
theorem mem_listM {m:Nat} {x:Int}:x ∈ listM m ↔ 0≤x∧x < 6∧m.testBit x.toNat=true:=by
 unfold listM
 rw [List.mem_filter]
 have:x ∈ iota 0 6 ↔ 0≤x∧x < 6:=by
  simp [iota];omega
 rw [this]
 exact ⟨fun h=>⟨h.1.1,h.1.2,h.2⟩,fun h=>⟨⟨h.1,h.2.1⟩,h.2.2⟩⟩
theorem listM_len:∀ m:Nat,(listM m).length≤6:=fun m=>Nat.le_trans (List.length_filter_le _ _) (by rw [iota_length];exact Nat.le_refl _)
set_option maxRecDepth 20000 in
theorem maskOf_all:∀ m:Fin 64,impl_maskOf.f 8 (listM m.val)=some (m.val:Int):=by decide +kernel
theorem maskOf {m:Nat} (hm:m < 64):Ev (fun k=>impl_maskOf.f k (listM m)) (m:Int):=Ev.of (fun k=>impl_maskOf.mono _ k) (maskOf_all ⟨m,hm⟩)
set_option maxRecDepth 20000 in
theorem listOf_all:∀ m:Fin 64,impl_listOf.f 8 (m.val:Int)=some (listM m.val):=by decide +kernel
theorem listOf {m:Nat} (hm:m < 64):Ev (fun k=>impl_listOf.f k (m:Int)) (listM m):=Ev.of (fun k=>impl_listOf.mono _ k) (listOf_all ⟨m,hm⟩)
def orFrom (l:List Int) (a:Nat) (rs:List Int):Nat:=rs.foldl (fun a x=>a ||| (l.getD x.toNat 0).toNat) a
def orM (l rs:List Int):Nat:=orFrom l 0 rs
theorem orFrom_bit (l:List Int) (c:Nat):∀ (rs:List Int) (a:Nat),(orFrom l a rs).testBit c=(a.testBit c || rs.any (fun x=>cell l x.toNat c))
|[],a=>by simp [orFrom]
|x :: t,a=>by
  have:=orFrom_bit l c t (a ||| (l.getD x.toNat 0).toNat)
  unfold orFrom at *
  rw [List.foldl_cons,this,List.any_cons,Nat.testBit_or,Bool.or_assoc];rfl
theorem orM_bit (l rs:List Int) (c:Nat):(orM l rs).testBit c=rs.any (fun x=>cell l x.toNat c):=by
 unfold orM;rw [orFrom_bit];simp
theorem orFrom_lt {l:List Int} {C:Nat} (hb:∀ i (hi:i < l.length),0≤l[i]∧l[i] < 2 ^ C):∀ (rs:List Int) (a:Nat),a < 2 ^ C→orFrom l a rs < 2 ^ C
|[],a,h=>h
|x :: t,a,h=>by
  unfold orFrom
  rw [List.foldl_cons]
  refine orFrom_lt hb t _ (Nat.or_lt_two_pow h ?_)
  by_cases e:x.toNat < l.length
  ·
   rw [gD_lt _ _ e]
   have:=hb _ e
   have h2:l[x.toNat].toNat < (2 ^ C:Nat):=by
    have h3:=this.2
    have h4:((l[x.toNat].toNat:Nat):Int) < ((2 ^ C:Nat):Int):=by rw [Int.toNat_of_nonneg this.1];exact_mod_cast h3
    exact_mod_cast h4
   exact h2
  ·
   rw [gD_ge _ _ (by omega)];exact Nat.two_pow_pos C
theorem columns_l0 {l:List Int} (r c:Int) {C:Nat} (hC:C≤6) (hb:∀ i (hi:i < l.length),0≤l[i]∧l[i] < 2 ^ C) {rs:List Int} (hrs:∀ x ∈ rs,0≤x∧x < l.length) (hl:rs.length≤6):∀ (d i a:Nat),i + d=rs.length→a < 2 ^ C →
  Ev (fun k=>impl_Board_columns.l0 k a rs (rs.length:Int) i r c l) ((orFrom l a (rs.drop i):Nat):Int)
|0,i,a,hi,ha=>by
  refine Ev.step (f:=fun _=>some (a:Int)) (fun k=>?_) (evEq (Ev.now _) (by rw [List.drop_eq_nil_of_le (by omega)];rfl))
  rw [impl_Board_columns.l0,if_neg (by omega)]
|d + 1,i,a,hi,ha=>by
  have w1:wrap64 ((i:Int) + 1)=((i + 1:Nat):Int):=by rw [w64 (by omega) (by omega)];rfl
  have hi2:i < rs.length:=by omega
  obtain ⟨h0,h1⟩:=hrs rs[i] (List.getElem_mem hi2)
  obtain ⟨y,hy⟩:∃ y:Nat,rs[i]=y:=⟨rs[i].toNat,by omega⟩
  have hy2:y < l.length:=by omega
  have hp:2 ^ C≤2 ^ 6:=Nat.pow_le_pow_right (by decide) hC
  have ha2:=orFrom_lt hb [(y:Int)] a ha
  have e:orFrom l a [(y:Int)]=a ||| l[y].toNat:=by
   show a ||| (l.getD ((y:Int)).toNat 0).toNat=_
   rw [Int.toNat_natCast,gD_lt _ _ hy2]
  rw [e] at ha2
  have ih:=columns_l0 r c hC hb hrs hl d (i + 1) (a ||| l[y].toNat) (by omega) ha2
  rw [List.drop_eq_getElem_cons hi2]
  have e2:orFrom l a (rs[i] :: rs.drop (i + 1))=orFrom l (a ||| l[y].toNat) (rs.drop (i + 1)):=by unfold orFrom;rw [List.foldl_cons,hy,Int.toNat_natCast,gD_lt _ _ hy2]
  rw [e2]
  refine Ev.step (fun k=>?_) ih
  obtain ⟨z,hz⟩:∃ z:Nat,l[y]=z:=⟨l[y].toNat,by have:=hb y hy2;omega⟩
  have hz2:z < 64:=by have h3:=(hb y hy2).2;have h4:=two_pow_six hC;omega
  rw [impl_Board_columns.l0,if_pos (by omega),if_pos (by omega),if_pos (by omega),rd_lt _ _ hi2,if_pos h0,if_pos h1,hy,rd_lt _ _ hy2,hz,or_nat _ _ (by omega) (by omega),w1,Int.toNat_natCast]
theorem columns {l:List Int} (r c:Int) {C m:Nat} (hC:C≤6) (hb:∀ i (hi:i < l.length),0≤l[i]∧l[i] < 2 ^ C) (hm:m < 64) (hm2:∀ i,m.testBit i=true→i < l.length):Ev (fun k=>impl_Board_columns.f k r c l m) ((orM l (listM m):Nat):Int):=by
 unfold impl_Board_columns.f
 refine Ev.bind (listOf hm) ?_
 have:=columns_l0 r c hC hb (rs:=listM m) (fun x hx=>by obtain ⟨h1,h2,h3⟩:=mem_listM.1 hx;have:=hm2 _ h3;omega) (listM_len m) (listM m).length 0 0 (by omega) (Nat.two_pow_pos C)
 rw [List.drop_zero] at this
 exact this
def reachFrom (l rows:List Int) (o:Bool) (c:Nat) (i d:Nat):Bool:=(List.range' i d).any (fun r=>(decide ((r:Int) ∈ rows) != o) && cell l r c)
theorem lcColumns_l1 {l:List Int} (R:Nat) (cI:Int) {C:Nat} (hlR:l.length=R) (hR:R≤6) (hb:∀ i (hi:i < l.length),0≤l[i]∧l[i] < 64) {rows acc:List Int} (o:Bool) (hrl:rows.length≤4611686018427387904) (hal:acc.length < 17592186044416) {X:List Int} (c:Nat) (hc:c≤6) :
  ∀ (d i:Nat) (b:Bool),i + d=R→Ev (fun k=>spec_lcColumns.l0 k rows o (if (b || reachFrom l rows o c i d)=true then acc ++ [(c:Int)] else acc) ((c + 1:Nat):Int) R cI l) X →
   Ev (fun k=>spec_lcColumns.l1 k rows o acc c b i R cI l) X
|0,i,b,hi,h=>by
  have w1:wrap64 ((c:Int) + 1)=((c + 1:Nat):Int):=by rw [w64 (by omega) (by omega)];rfl
  have e:(b || reachFrom l rows o c i 0)=b:=by unfold reachFrom;simp
  rw [e] at h
  refine Ev.step (fun k=>?_) h
  rw [spec_lcColumns.l1,if_neg (by omega),w1]
  by_cases hb2:b=true
  ·
   rw [if_pos hb2,if_pos hb2,if_pos hal]
  ·
   rw [if_neg hb2,if_neg hb2]
|d + 1,i,b,hi,h=>by
  have w1:wrap64 ((i:Int) + 1)=((i + 1:Nat):Int):=by rw [w64 (by omega) (by omega)];rfl
  have e:(b || reachFrom l rows o c i (d + 1))=((b || ((decide ((i:Int) ∈ rows) != o) && cell l i c)) || reachFrom l rows o c (i + 1) d):=by
   unfold reachFrom
   rw [List.range'_succ,List.any_cons,Bool.or_assoc]
  rw [e] at h
  have ih:=lcColumns_l1 R cI (C:=C) hlR hR hb o hrl hal c hc d (i + 1) _ (by omega) h
  cases b with
 |true =>
   rw [Bool.true_or] at ih
   refine Ev.step (fun k=>?_) ih
   rw [spec_lcColumns.l1,if_pos (by omega),if_pos rfl,w1]
 |false =>
   rw [Bool.false_or] at ih
   refine Ev.step (f:=fun k=>(spec_l1Has.f k rows i).bind fun t=>if (t != o)=true then (spec_boHas.f R cI l i c).bind fun t2=>spec_lcColumns.l1 k rows o acc c t2 ((i + 1:Nat):Int) R cI l else spec_lcColumns.l1 k rows o acc c false ((i + 1:Nat):Int) R cI l) (fun k=>?_) ?_
   ·
    rw [spec_lcColumns.l1,if_pos (by omega),if_neg (by simp),w1]
   ·
    refine Ev.bind (l1Has (i:Int) hrl) ?_
    by_cases hh:(decide ((i:Int) ∈ rows) != o)=true
    ·
     rw [hh,Bool.true_and] at ih
     refine Ev.congr (fun k=>?_) ih
     rw [if_pos hh,boHas_f (R:Int) cI (show i < l.length by omega) (hb i (by omega)).1 (hb i (by omega)).2 (by omega),Option.bind_some]
    ·
     have hh2:(decide ((i:Int) ∈ rows) != o)=false:=by simpa using hh
     rw [hh2,Bool.false_and] at ih
     exact Ev.congr (fun k=>by rw [if_neg hh]) ih
theorem lcColumns_l0 {l:List Int} (R C:Nat) (hlR:l.length=R) (hR:R≤6) (hC:C≤6) (hb:∀ i (hi:i < l.length),0≤l[i]∧l[i] < 64) {rows:List Int} (o:Bool) (hrl:rows.length≤4611686018427387904):∀ (d c:Nat) (acc:List Int),c + d=C→acc.length≤c →
  Ev (fun k=>spec_lcColumns.l0 k rows o acc c R C l) (acc ++ (iota c d).filter (fun x=>reachFrom l rows o x.toNat 0 R))
|0,c,acc,hc,ha=>by
  refine Ev.step (f:=fun _=>some acc) (fun k=>?_) (evEq (Ev.now _) (by simp [iota]))
  rw [spec_lcColumns.l0,if_neg (by omega)]
|d + 1,c,acc,hc,ha=>by
  have ih:=lcColumns_l0 R C hlR hR hC hb o hrl d (c + 1) (if (reachFrom l rows o c 0 R)=true then acc ++ [(c:Int)] else acc) (by omega) (by split <;> (try rw [List.length_append,List.length_singleton]) <;> omega)
  refine Ev.step (f:=fun k=>spec_lcColumns.l1 k rows o acc c false 0 R C l) (fun k=>by rw [spec_lcColumns.l0,if_pos (by omega)]) ?_
  refine lcColumns_l1 R C (C:=C) hlR hR hb o hrl (by omega) c (by omega) R 0 false (by omega) ?_
  rw [Bool.false_or]
  refine evEq ih ?_
  rw [iota,List.filter_cons,Int.toNat_natCast]
  by_cases h:reachFrom l rows o c 0 R=true
  ·
   rw [if_pos h,if_pos h,List.append_assoc];rfl
  ·
   rw [if_neg h,if_neg h];rfl
def colsS (l rows:List Int) (o:Bool) (R C:Nat):List Int:=(iota 0 C).filter (fun x=>reachFrom l rows o x.toNat 0 R)
theorem lcColumns {l:List Int} (R C:Nat) (hlR:l.length=R) (hR:R≤6) (hC:C≤6) (hb:∀ i (hi:i < l.length),0≤l[i]∧l[i] < 64) {rows:List Int} (o:Bool) (hrl:rows.length≤4611686018427387904):Ev (fun k=>spec_lcColumns.f k R C l rows o) (colsS l rows o R C):=by
 unfold spec_lcColumns.f
 exact lcColumns_l0 R C hlR hR hC hb o hrl C 0 [] (by omega) (by simp)
theorem iota_sub {C:Nat} (hC:C≤6) (m:Nat) (hm:m < 2 ^ C):listM m=(iota 0 C).filter (fun i=>m.testBit i.toNat):=by
 have:∀ C:Fin 7,∀ m:Fin 64,m.val < 2 ^ C.val→listM m.val=(iota 0 C.val).filter (fun i=>m.val.testBit i.toNat):=by decide +kernel
 have hp:2 ^ C≤2 ^ 6:=Nat.pow_le_pow_right (by decide) hC
 exact this ⟨C,by omega⟩ ⟨m,by omega⟩ hm
theorem colsS_mask {l:List Int} {R C m:Nat} (hlR:l.length=R) (hR:R≤6) (hC:C≤6) (hb:∀ i (hi:i < l.length),0≤l[i]∧l[i] < 2 ^ C) (hm2:∀ i,m.testBit i=true→i < R):listM (orM l (listM m))=colsS l (listM m) false R C:=by
 have hlt:orM l (listM m) < 2 ^ C:=orFrom_lt hb _ 0 (Nat.two_pow_pos C)
 rw [iota_sub hC _ hlt]
 unfold colsS
 congr 1
 funext x
 rw [orM_bit]
 unfold reachFrom
 rw [Bool.eq_iff_iff,List.any_eq_true,List.any_eq_true]
 constructor
 ·
  rintro ⟨y,hy,hc⟩
  obtain ⟨h1,h2,h3⟩:=mem_listM.1 hy
  refine ⟨y.toNat,List.mem_range'_1.2 ⟨by omega,by have:=hm2 _ h3;omega⟩,?_⟩
  rw [show ((y.toNat:Nat):Int)=y by omega,decide_eq_true hy,hc];rfl
 ·
  rintro ⟨y,hy,hc⟩
  rw [Bool.and_eq_true] at hc
  have h1:((y:Nat):Int) ∈ listM m:=by simpa using hc.1
  exact ⟨(y:Int),h1,by rw [Int.toNat_natCast];exact hc.2⟩
end Go.Proofs.YtpjjeeabpaojnaaGreat.LinesK
end
section
namespace Go.Proofs.YtpjjeeabpaojnaaGreat.CellsK
set_option linter.unusedVariables false
open Go.RowKit Go.Proofs.YtpjjeeabpaojnaaGreat.Q Go.Proofs.YtpjjeeabpaojnaaGreatW.PrintWords Go.Proofs.YtpjjeeabpaojnaaGreatW.PrintLast Go.Proofs.YtpjjeeabpaojnaaGreatW.PrintMore
open Go.Proofs.YtpjjeeabpaojnaaGreatL Go.Proofs.YtpjjeeabpaojnaaGreat.LawK Go.Proofs.YtpjjeeabpaojnaaGreat.BoardK
theorem evEq {α:Type} {g:Nat→Option α} {a b:α} (h:Ev g a) (e:a=b):Ev g b:=e ▸ h
def rowCells (l:List Int) (r:Nat) (c d:Nat):List (List Int):=((List.range' c d).filter (fun c=>cell l r c)).map (fun c=>[(r:Int),((c:Nat):Int)])
def cellsFrom (l:List Int) (C:Nat) (r d:Nat):List (List Int):=(List.range' r d).flatMap (fun r=>rowCells l r 0 C)
theorem rowCells_len (l:List Int) (r c d:Nat):(rowCells l r c d).length≤d:=by
 unfold rowCells
 rw [List.length_map]
 have:=List.length_filter_le (fun c=>cell l r c) (List.range' c d)
 rw [List.length_range'] at this
 exact this
section
variable {l : List Int} {R C : Nat} (hlR : l.length = R) (hR : R ≤ 6) (hC : C ≤ 6) (hb : ∀ i (hi : i < l.length), 0 ≤ l[i] ∧ l[i] < 64)
include hlR hR hC hb
theorem boCells_l1 (r:Nat) (hr:r < R) {X:List (List Int)}:∀ (d c:Nat) (acc:List (List Int)),c + d=C→acc.length≤1000 - d →
  Ev (fun k=>spec_boCells.l0 k (acc ++ rowCells l r c d) ((r + 1:Nat):Int) R C l) X→Ev (fun k=>spec_boCells.l1 k acc r c R C l) X
|0,c,acc,hc,ha,h=>by
  have w1:wrap64 ((r:Int) + 1)=((r + 1:Nat):Int):=by rw [w64 (by omega) (by omega)];rfl
  have e:acc ++ rowCells l r c 0=acc:=by unfold rowCells;simp
  rw [e] at h
  exact Ev.step (fun k=>by rw [spec_boCells.l1,if_neg (by omega),w1]) h
|d + 1,c,acc,hc,ha,h=>by
  have w1:wrap64 ((c:Int) + 1)=((c + 1:Nat):Int):=by rw [w64 (by omega) (by omega)];rfl
  have hrl:r < l.length:=by omega
  by_cases hx:cell l r c=true
  ·
   have e:rowCells l r c (d + 1)=[(r:Int),(c:Int)] :: rowCells l r (c + 1) d:=by
    unfold rowCells;rw [List.range'_succ,List.filter_cons,if_pos hx,List.map_cons]
   rw [e,show acc ++ ([(r:Int),(c:Int)] :: rowCells l r (c + 1) d)=(acc ++ [[(r:Int),(c:Int)]]) ++ rowCells l r (c + 1) d by simp] at h
   refine Ev.step (fun k=>?_) (boCells_l1 r hr d (c + 1) _ (by omega) (by rw [List.length_append,List.length_singleton];omega) h)
   rw [spec_boCells.l1,if_pos (by omega),boHas_f (R:Int) (C:Int) hrl (hb r hrl).1 (hb r hrl).2 (by omega),Option.bind_some,if_pos hx,if_pos (by omega),w1]
  ·
   have e:rowCells l r c (d + 1)=rowCells l r (c + 1) d:=by
    unfold rowCells;rw [List.range'_succ,List.filter_cons,if_neg hx]
   rw [e] at h
   refine Ev.step (fun k=>?_) (boCells_l1 r hr d (c + 1) _ (by omega) (by omega) h)
   rw [spec_boCells.l1,if_pos (by omega),boHas_f (R:Int) (C:Int) hrl (hb r hrl).1 (hb r hrl).2 (by omega),Option.bind_some,if_neg hx,w1]
theorem boCells_l0:∀ (d r:Nat) (acc:List (List Int)),r + d=R→acc.length≤6 * r→Ev (fun k=>spec_boCells.l0 k acc r R C l) (acc ++ cellsFrom l C r d)
|0,r,acc,hr,ha=>by
  refine Ev.step (f:=fun _=>some acc) (fun k=>?_) (evEq (Ev.now _) (by unfold cellsFrom;simp))
  rw [spec_boCells.l0,if_neg (by omega)]
|d + 1,r,acc,hr,ha=>by
  refine Ev.step (f:=fun k=>spec_boCells.l1 k acc r 0 R C l) (fun k=>by rw [spec_boCells.l0,if_pos (by omega)]) ?_
  have hlen:=rowCells_len l r 0 C
  have ih:=boCells_l0 d (r + 1) (acc ++ rowCells l r 0 C) (by omega) (by rw [List.length_append];omega)
  refine boCells_l1 hlR hR hC hb r (by omega) C 0 acc (by omega) (by omega) (evEq ih ?_)
  unfold cellsFrom
  rw [List.range'_succ,List.flatMap_cons,List.append_assoc]
theorem boCells:Ev (fun k=>spec_boCells.f k R C l) (cellsFrom l C 0 R):=by
 unfold spec_boCells.f
 exact boCells_l0 hlR hR hC hb R 0 [] (by omega) (by simp)
end
theorem mem_cells {l:List Int} {C R:Nat} {x:List Int}:x ∈ cellsFrom l C 0 R ↔ ∃ r c:Nat,r < R∧c < C∧cell l r c=true∧x=[(r:Int),(c:Int)]:=by
 unfold cellsFrom rowCells
 rw [List.mem_flatMap]
 constructor
 ·
  rintro ⟨r,hr,hx⟩
  obtain ⟨c,hc,rfl⟩:=List.mem_map.1 hx
  obtain ⟨hc1,hc2⟩:=List.mem_filter.1 hc
  exact ⟨r,c,by have:=List.mem_range'_1.1 hr;omega,by have:=List.mem_range'_1.1 hc1;omega,hc2,rfl⟩
 ·
  rintro ⟨r,c,hr,hc,h,rfl⟩
  exact ⟨r,List.mem_range'_1.2 ⟨by omega,by omega⟩,List.mem_map.2 ⟨c,List.mem_filter.2 ⟨List.mem_range'_1.2 ⟨by omega,by omega⟩,h⟩,rfl⟩⟩
theorem cells_len (l:List Int) (C R:Nat) (hC:C≤6) (hR:R≤6):(cellsFrom l C 0 R).length≤36:=by
 unfold cellsFrom
 have:∀ (d r:Nat),((List.range' r d).flatMap (fun r=>rowCells l r 0 C)).length≤6 * d:=by
  intro d
  induction d with
 |zero=>intro r;simp
 |succ d ih =>
   intro r
   rw [List.range'_succ,List.flatMap_cons,List.length_append]
   have h1:=rowCells_len l r 0 C
   have h2:=ih (r + 1)
   omega
 have:=this R 0
 omega
end Go.Proofs.YtpjjeeabpaojnaaGreat.CellsK
end
