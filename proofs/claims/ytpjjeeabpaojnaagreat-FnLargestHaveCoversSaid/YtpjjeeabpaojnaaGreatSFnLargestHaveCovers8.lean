/- Texts of this claim put together (8): words, what the functions compute, and plain facts. No conditions. -/
import Derived.Test.YtpjjeeabpaojnaaGreatSFnLargestHaveCovers4
import Derived.Test.YtpjjeeabpaojnaaGreatSFnLargestHaveCovers6
import Derived.Test.YtpjjeeabpaojnaaGreatSFnLargestHaveCovers7
import Derived.Test.YtpjjeeabpaojnaaGreatSFnLargestHaveCovers5
import Derived.Test.YtpjjeeabpaojnaaGreatSFnLargestHaveCovers0
section
namespace Go.Proofs.YtpjjeeabpaojnaaGreat.Q
open Go.RowKit Go.Proofs.YtpjjeeabpaojnaaGreatW.PrintWords Go.Proofs.YtpjjeeabpaojnaaGreatW.PrintLast Go.Proofs.YtpjjeeabpaojnaaGreatW.PrintMore
attribute [local go_sem] max2_int min2_int max_two min_two max_three min_three max_four min_four   -- for this text's walks alone
set_option linter.unusedVariables false
set_option linter.unusedSimpArgs false
mutual
def spec_lcAll.l0:Nat→List Int→Int→Int→Int→List (List Int)→Int→Int→Int→List Int→Option ((List (List Int)))
|0,_,_,_,_,_,_,_,_,_=>none
|k + 1,x1,x2,x3,x9,x10,x11,x102000,x102001,x102002=>if x11 < x102001 then ((spec_boHas.f x102000 x102001 x102002 x9 x11).bind fun t123=>(if t123=true then (if 0≤x11 then (if (Int.tmod (shr .i64 x2 x11) 2)=0 then (spec_lcAll.j1 k x1 x2 x3 x9 x10 x11 (decide (x3 > 0)) x102000 x102001 x102002) else (spec_lcAll.j1 k x1 x2 x3 x9 x10 x11 false x102000 x102001 x102002)) else (none)) else (spec_lcAll.j1 k x1 x2 x3 x9 x10 x11 false x102000 x102001 x102002))) else ((spec_l1Own.f x1).bind fun t108=>((some (([(-1)]:List Int):List Int)).bind fun y111=>(if t108.length + y111.length < 17592186044416 then ((spec_lcAll.f k x102000 x102001 x102002 (t108 ++ y111) x2 x3).bind fun t117=>(if x10.length + t117.length < 5864062014805 then (some (x10 ++ t117)) else (none))) else (none))))
def spec_lcAll.j1:Nat→List Int→Int→Int→Int→List (List Int)→Int→Bool→Int→Int→List Int→Option ((List (List Int)))
|0,_,_,_,_,_,_,_,_,_,_=>none
|k + 1,x1,x2,x3,x9,x10,x11,x49,x102000,x102001,x102002=>if x49=true then ((spec_l1Own.f x1).bind fun t124=>((some (([x11]:List Int):List Int)).bind fun y127=>(if t124.length + y127.length < 17592186044416 then (if 0≤x11 then ((spec_lcAll.f k x102000 x102001 x102002 (t124 ++ y127) (Go.bits .or .i64 x2 (shl .i64 1 x11)) (wrap64 (x3 - 1))).bind fun t133=>(if x10.length + t133.length < 5864062014805 then (spec_lcAll.l0 k x1 x2 x3 x9 (x10 ++ t133) (wrap64 (x11 + 1)) x102000 x102001 x102002) else (none))) else (none)) else (none)))) else (spec_lcAll.l0 k x1 x2 x3 x9 x10 (wrap64 (x11 + 1)) x102000 x102001 x102002)
def spec_lcAll.f:Nat→Int→Int→List Int→List Int→Int→Int→Option ((List (List Int)))
|0,_,_,_,_,_,_=>none
|k + 1,a0_0,a0_1,l0_2,l1,a2,a3=>if a3 > (wrap64 (a0_0 - (l1.length:Int))) then (some ([]:List (List Int))) else (if (l1.length:Int)=a0_0 then (if a3 > 0 then (some ([]:List (List Int))) else ((spec_l1Own.f l1).bind fun t102=>(some (([t102]:List (List Int)))))) else (spec_lcAll.l0 k l1 a2 a3 (l1.length:Int) ([]:List (List Int)) 0 a0_0 a0_1 l0_2))
end
def spec_lcAll.T13:Bool × List (List Nat × List Nat):=(true,[([],[]),([],[]),([],[]),([2],[2]),([],[]),([4],[4]),([3,5,3],[3,5]),([],[]),([],[]),([8],[8]),([7,9],[7,9]),([],[]),([11],[11]),([1,6,10,12,6],[1,6,10,12]),([0,13,13],[0,13]),([14,14,0,1,2,3,4,5,6,7,8,9,10,11,12,13,14],[0,14])])
def spec_lcAll.B13:List Nat:=[0,0,0,4,0,16,60,0,0,256,896,0,2048,8190,16383,32767]
theorem spec_lcAll.tab13:rtab .any (opsOf Tryz.f55 13)=spec_lcAll.T13:=by kernel_rfl
theorem spec_lcAll.bits13:waitsOk spec_lcAll.T13.2 spec_lcAll.B13=true:=by kernel_rfl
def spec_lcAll.T14:Bool × List (List Nat × List Nat):=(true,[([],[]),([],[]),([],[]),([2],[2]),([],[]),([3,4,3],[3,4]),([],[]),([],[]),([1,5,6,7,5],[1,5,6,7]),([0,8,8],[0,8]),([9,9,0,1,2,3,4,5,6,7,8,9],[9])])
def spec_lcAll.B14:List Nat:=[0,0,0,4,0,28,0,0,254,511,1023]
theorem spec_lcAll.tab14:rtab .any (opsOf Tryz.f55 14)=spec_lcAll.T14:=by kernel_rfl
theorem spec_lcAll.bits14:waitsOk spec_lcAll.T14.2 spec_lcAll.B14=true:=by kernel_rfl
set_option maxHeartbeats 8000000 in
set_option maxRecDepth 100000 in
theorem spec_lcAll.calls (k:Nat):∀ (a0_0:Int) (a0_1:Int) (A0_2:Option Addr) (c0_2:Nat) (l0_2:List Int) (A1:Option Addr) (c1:Nat) (l1:List Int) (a2:Int) (a3:Int) (r:List (List Int)) (w:World) (hr0_2:Kd.C (Kd.int .i64) w A0_2 l0_2.length l0_2) (hc0_2:l0_2.length≤c0_2) (hr1:Kd.C (Kd.int .i64) w A1 l1.length l1) (hc1:l1.length≤c1) (h:spec_lcAll.f k a0_0 a0_1 l0_2 l1 a2 a3=some r),
  Calls Tryz.prog 55 #[.agg #[.int .i64 a0_0,.int .i64 a0_1,.slice A0_2 l0_2.length c0_2],.slice A1 l1.length c1,.int .i64 a2,.int .i64 a3] w fun e w'=>∃ v0_:Value,e=.returned (v0_)∧Kd.N (Kd.slice 3 (Kd.int .i64)) 24 w' w.heap.size (fun k_=>(w.heap.size≤k_)) v0_ r∧Below w.heap.size w w':=by
 induction k using Nat.strongRecOn with
|_ k ih =>
 intro a0_0 a0_1 A0_2 c0_2 l0_2 A1 c1 l1 a2 a3 r w hr0_2 hc0_2 hr1 hc1 h
 cases k with
|zero=>exact absurd h (by simp [spec_lcAll.f])
|succ k =>
 simp only [spec_lcAll.f] at h;have hu26:=Tryz.underlying26;have HR0_2:=za hr0_2;have HC0_2:=za hc0_2;clear hr0_2 hc0_2;have HR1:=za hr1;have HC1:=za hc1;clear hr1 hc1;have HB:=za (Below.refl w.heap.size w);have H:(if a3 > (wrap64 (a0_0 - (l1.length:Int))) then (some ([]:List (List Int))) else (if (l1.length:Int)=a0_0 then (if a3 > 0 then (some ([]:List (List Int))) else ((spec_l1Own.f l1).bind fun t102=>(some (([t102]:List (List Int)))))) else (spec_lcAll.l0 k l1 a2 a3 (l1.length:Int) ([]:List (List Int)) 0 a0_0 a0_1 l0_2)))=some r:=h;clear h;by_cases c5:a3 > (wrap64 (a0_0 - (l1.length:Int)))
 · rw [if_pos c5] at H;have c5b0:decide ((wrap64 (a0_0 - (l1.length:Int))) < a3)=true:=decide_eq_true c5;clear c5;obtain rfl:=Option.some.inj H;(go_enter Tryz.func55,Tryz.ntmps55);(go_wp2_with (first|((with_reducible refine zv (N:=4) rfl ?_);refine zw ?hg (N:=4) ?hd (cs:=#[.int .i64 a0_0,.int .i64 a0_1,.slice A0_2 l0_2.length c0_2]) (t:=26) ?hr ?_;(case hd=>rfl);(case hg=>rfl);(case hr=>first|(go_simp;done)|(go_simp;rfl));intro gb101 hg w6 hbox hb;have BK101:=za (hbox);have GW101:=za ((by rw [hg];exact (zi (by apply_rules only [HB.out,zc,zd,zb])):w.heap.size≤gb101));have GE101:=za ((by rw [hg];exact (zi (by apply_rules only [HB.out,zc,zd,zb])):w.heap.size≤gb101));replace HB:=za (zl (by apply_rules only [HB.out,zc,zd,zb]) hb);clear hb hbox hg;have hcz7_0:w6.cell? ⟨gb101,0,none⟩=some (.int .i64 a0_0):=(ze BK101.out 0).trans rfl;have hcz7_1:w6.cell? ⟨gb101,1,none⟩=some (.int .i64 a0_1):=(ze BK101.out 1).trans rfl;have hcz7_2:w6.cell? ⟨gb101,2,none⟩=some (.slice A0_2 l0_2.length c0_2):=(ze BK101.out 2).trans rfl;have hfz7_0:=zf BK101.out 0;have hfz7_1:=zf BK101.out 1;have hfz7_2:=zf BK101.out 2)));(go_ret);exact ⟨_,by first|rfl|simp [*,errW_none,errW_some] <;> rfl,by first|exact Kd.S_nil _ _ _ _ _|exact Kd.N_nil _ _ _ _ _|exact Kd.V_nil _ _ _ _ _|exact Kd.Q_nil _ _ _ _ _|exact Kd.R_nil _ _ _ _ _,by repeat (first|(with_reducible first|exact HB.out|apply zc|apply zd|apply zb|refine zg ?_ GE101.out)|exact HB.out)⟩
 ·
  rw [if_neg c5] at H;have c5b0:decide ((wrap64 (a0_0 - (l1.length:Int))) < a3)=false:=decide_eq_false c5;clear c5;by_cases c8:(l1.length:Int)=a0_0
  ·
   rw [if_pos c8] at H;have c8b0:((l1.length:Int) == a0_0)=true:=beq_iff_eq.mpr c8;have c8b1:((l1.length:Int) != a0_0)=false:=bne_eq_false_iff_eq.mpr c8;clear c8;by_cases c9:a3 > 0
   · rw [if_pos c9] at H;have c9b0:decide (0 < a3)=true:=decide_eq_true c9;clear c9;obtain rfl:=Option.some.inj H;(go_enter Tryz.func55,Tryz.ntmps55);(go_wp2_with (first|((with_reducible refine zv (N:=4) rfl ?_);refine zw ?hg (N:=4) ?hd (cs:=#[.int .i64 a0_0,.int .i64 a0_1,.slice A0_2 l0_2.length c0_2]) (t:=26) ?hr ?_;(case hd=>rfl);(case hg=>rfl);(case hr=>first|(go_simp;done)|(go_simp;rfl));intro gb101 hg w10 hbox hb;have BK101:=za (hbox);have GW101:=za ((by rw [hg];exact (zi (by apply_rules only [HB.out,zc,zd,zb])):w.heap.size≤gb101));have GE101:=za ((by rw [hg];exact (zi (by apply_rules only [HB.out,zc,zd,zb])):w.heap.size≤gb101));replace HB:=za (zl (by apply_rules only [HB.out,zc,zd,zb]) hb);clear hb hbox hg;have hcz11_0:w10.cell? ⟨gb101,0,none⟩=some (.int .i64 a0_0):=(ze BK101.out 0).trans rfl;have hcz11_1:w10.cell? ⟨gb101,1,none⟩=some (.int .i64 a0_1):=(ze BK101.out 1).trans rfl;have hcz11_2:w10.cell? ⟨gb101,2,none⟩=some (.slice A0_2 l0_2.length c0_2):=(ze BK101.out 2).trans rfl;have hfz11_0:=zf BK101.out 0;have hfz11_1:=zf BK101.out 1;have hfz11_2:=zf BK101.out 2)));(go_ret);exact ⟨_,by first|rfl|simp [*,errW_none,errW_some] <;> rfl,by first|exact Kd.S_nil _ _ _ _ _|exact Kd.N_nil _ _ _ _ _|exact Kd.V_nil _ _ _ _ _|exact Kd.Q_nil _ _ _ _ _|exact Kd.R_nil _ _ _ _ _,by repeat (first|(with_reducible first|exact HB.out|apply zc|apply zd|apply zb|refine zg ?_ GE101.out)|exact HB.out)⟩
   · rw [if_neg c9] at H;have c9b0:decide (0 < a3)=false:=decide_eq_false c9;clear c9;obtain ⟨t102,A12,H⟩:=bindAside H;(try dsimp only at H);obtain ⟨y105,hy105⟩:∃ y_:List (List Int),y_=(([t102]:List (List Int))):=⟨_,rfl⟩;(replace H:(some y105)=some r:=by first|(rw [hy105];with_reducible exact H)|(have H2_:=(Option.bind_some _ _).symm.trans H;rw [hy105];with_reducible exact H2_)|(have H2_:=(Option.bind_some _ _).symm.trans H;with_reducible exact H2_)|with_reducible exact H|(rw [hy105];exact H)|exact H);have Ny105:=za hy105;clear hy105;obtain rfl:=Option.some.inj H;(go_enter Tryz.func55,Tryz.ntmps55);(go_wp2_with (first|((with_reducible refine zv (N:=4) rfl ?_);refine zw ?hg (N:=4) ?hd (cs:=#[.int .i64 a0_0,.int .i64 a0_1,.slice A0_2 l0_2.length c0_2]) (t:=26) ?hr ?_;(case hd=>rfl);(case hg=>rfl);(case hr=>first|(go_simp;done)|(go_simp;rfl));intro gb101 hg w13 hbox hb;have BK101:=za (hbox);have GW101:=za ((by rw [hg];exact (zi (by apply_rules only [HB.out,zc,zd,zb])):w.heap.size≤gb101));have GE101:=za ((by rw [hg];exact (zi (by apply_rules only [HB.out,zc,zd,zb])):w.heap.size≤gb101));replace HB:=za (zl (by apply_rules only [HB.out,zc,zd,zb]) hb);clear hb hbox hg;have hcz14_0:w13.cell? ⟨gb101,0,none⟩=some (.int .i64 a0_0):=(ze BK101.out 0).trans rfl;have hcz14_1:w13.cell? ⟨gb101,1,none⟩=some (.int .i64 a0_1):=(ze BK101.out 1).trans rfl;have hcz14_2:w13.cell? ⟨gb101,2,none⟩=some (.slice A0_2 l0_2.length c0_2):=(ze BK101.out 2).trans rfl;have hfz14_0:=zf BK101.out 0;have hfz14_1:=zf BK101.out 1;have hfz14_2:=zf BK101.out 2)|((with_reducible refine zu (f:=44) rfl ?_);refine goesL_ (some 27) rfl rfl Tryz.func44 (by kernel_rfl) rfl #[.slice A1 l1.length c1] rfl (by first|rfl|simp only [z3_,z4_,z5_];try rfl) ?_;(with_reducible refine (spec_l1Own.calls _ _ l1 t102 _ ?side1 ?side2 A12.out).mono ?_);(case side1=>apply_rules only [zq HR1.out HB.out,zm,zn,zo]);(case side2=>exact HC1.out);rintro e w15 ⟨v103,rfl,ho0,hb⟩;refine ⟨_,rfl,?_⟩;have HO104:=za (Kd.R_lower (Kd.R_newM (M:=fun k_=>(w.heap.size≤k_)) ho0 (zi (by apply_rules only [HB.out,zc,zd,zb,zg,GE101.out])) (fun k_ h_=>h_)) (zi (by apply_rules only [HB.out,zc,zd,zb,zg,GE101.out])));replace BK101:=za (zp (g:=gb101) (o:=.cells #[.int .i64 a0_0,.int .i64 a0_1,.slice A0_2 l0_2.length c0_2] 26 (0,0)) (by apply_rules only [BK101.out,zj,zh,zk]) hb);replace HB:=za (zl (by apply_rules only [HB.out,zc,zd,zb,zg,GE101.out]) hb);obtain ⟨Ao16,co16,eo16⟩:=Kd.R_slice HO104.out;subst eo16)|((with_reducible refine zv (N:=28) rfl ?_);refine Kd.N_lit (Kd.slice 3 (Kd.int .i64)) _ 24 ?hg (N':=28) ?hd (xs:=([t102]:List (List Int))) (inner:=[.slice Ao16 t102.length co16]) (ok:=(fun k_=>(w.heap.size≤k_)∧k_ ≠ gb101)) (okp:=(fun k_=>(w.heap.size≤k_)∧k_ ≠ gb101)) ?hr ?hp (fun _ hk=>hk) ((show ∀ k_,w15.heap.size≤k_→(fun k_=>(w.heap.size≤k_)∧k_ ≠ gb101) k_ from fun k_ hk=>⟨(Nat.le_trans (zi (by apply_rules only [HB.out,zc,zd,zb,zg,GE101.out])) hk),Kd.freshB (g:=gb101) (o:=.cells #[.int .i64 a0_0,.int .i64 a0_1,.slice A0_2 l0_2.length c0_2] 26 (0,0)) (by apply_rules only [BK101.out,zj,zh,zk]) k_ hk⟩) _ (Nat.le_refl _)) (Below.refl _ _) (Nat.le_refl _) (by simp) ?_;(case hd=>rfl);(case hg=>rfl);(case hr=>first|(go_simp;done)|(go_simp;rfl));(case hp=>exact (Reps.one (show Kd.FK (Kd.slice 3 (Kd.int .i64)) _ _ t102 [.slice Ao16 t102.length co16] from (Kd.FK_slice_mk (Kd.R_reads' (Kd.R_mono (ok':=(fun k_=>(w.heap.size≤k_)∧k_ ≠ gb101)) (Kd.R_types (HO104.out) BK101.out (by decide)) (fun k_ hk=>⟨hk.1.1,hk.2⟩))).2.1 (Kd.R_F (Kd.R_mono (ok':=(fun k_=>(w.heap.size≤k_)∧k_ ≠ gb101)) (Kd.R_types (HO104.out) BK101.out (by decide)) (fun k_ hk=>⟨hk.1.1,hk.2⟩))))) (Reps.none _ _)));intro v106 w17 ho18 hb hg_ hnew_;clear hg_ hnew_;(first|rw [← Ny105.out] at ho18|(simp only [Int.reduceToNat] at ho18;rw [← Ny105.out] at ho18));have HO107:=za (Kd.N_lower ho18 (zi (by apply_rules only [HB.out,zc,zd,zb,zg,GE101.out])));replace BK101:=za (zp (g:=gb101) (o:=.cells #[.int .i64 a0_0,.int .i64 a0_1,.slice A0_2 l0_2.length c0_2] 26 (0,0)) (by apply_rules only [BK101.out,zj,zh,zk]) hb);replace HB:=za (zl (by apply_rules only [HB.out,zc,zd,zb,zg,GE101.out]) hb);clear HO104;clear hb ho18)));(go_ret);exact ⟨_,by first|rfl|simp [*,errW_none,errW_some] <;> rfl,by (with_reducible repeat (first|apply zz|apply zA|apply zy));exact Kd.N_mono HO107.out (fun _ hk=>hk.1),by repeat (first|(with_reducible first|exact HB.out|apply zc|apply zd|apply zb|refine zg ?_ GE101.out)|exact HB.out)⟩
  ·
   rw [if_neg c8] at H;have c8b0:((l1.length:Int) == a0_0)=false:=beq_eq_false_iff_ne.mpr c8;have c8b1:((l1.length:Int) != a0_0)=true:=bne_iff_ne.mpr c8;have H':=za H;clear H;(go_enter Tryz.func55,Tryz.ntmps55);(go_wp2_with (first|((with_reducible refine zv (N:=4) rfl ?_);refine zw ?hg (N:=4) ?hd (cs:=#[.int .i64 a0_0,.int .i64 a0_1,.slice A0_2 l0_2.length c0_2]) (t:=26) ?hr ?_;(case hd=>rfl);(case hg=>rfl);(case hr=>first|(go_simp;done)|(go_simp;rfl));intro gb101 hg w19 hbox hb;have BK101:=za (hbox);have GW101:=za ((by rw [hg];exact (zi (by apply_rules only [HB.out,zc,zd,zb])):w.heap.size≤gb101));have GE101:=za ((by rw [hg];exact (zi (by apply_rules only [HB.out,zc,zd,zb])):w.heap.size≤gb101));replace HB:=za (zl (by apply_rules only [HB.out,zc,zd,zb]) hb);clear hb hbox hg;have hcz20_0:w19.cell? ⟨gb101,0,none⟩=some (.int .i64 a0_0):=(ze BK101.out 0).trans rfl;have hcz20_1:w19.cell? ⟨gb101,1,none⟩=some (.int .i64 a0_1):=(ze BK101.out 1).trans rfl;have hcz20_2:w19.cell? ⟨gb101,2,none⟩=some (.slice A0_2 l0_2.length c0_2):=(ze BK101.out 2).trans rfl;have hfz20_0:=zf BK101.out 0;have hfz20_1:=zf BK101.out 1;have hfz20_2:=zf BK101.out 2)));(go_loopg [10,11] k (fun kq v10 v11 w'=>∃ (x10_1:List (List Int)) (x11_1:Int),v11=.int .i64 x11_1∧Aside0 (spec_lcAll.l0 kq l1 a2 a3 (l1.length:Int) x10_1 x11_1 a0_0 a0_1 l0_2=some r)∧Aside0 (kq≤k)∧Aside0 (Kd.N (Kd.slice 3 (Kd.int .i64)) 24 w' w.heap.size (fun k_=>(w.heap.size≤k_)∧k_ ≠ gb101) v10 x10_1)∧Aside0 (w'.heap[gb101]?=some (.cells #[.int .i64 a0_0,.int .i64 a0_1,(.slice A0_2 l0_2.length c0_2)] 26 (0,0)))∧Aside0 (Below w.heap.size w w')));case atStart=>exact ⟨(([]:List (List Int))),(0),(by first|rfl|(simp;done)|(simp [*];done)),H',⟨Nat.le_refl _⟩,⟨by first|exact Kd.S_nil _ _ _ _ _|exact Kd.N_nil _ _ _ _ _|exact Kd.V_nil _ _ _ _ _|exact Kd.Q_nil _ _ _ _ _|exact Kd.R_nil _ _ _ _ _⟩,⟨by apply_rules only [BK101.out,zj,zh,zk]⟩,⟨by apply_rules only [HB.out,zc,zd,zb,zg,GE101.out]⟩⟩
   case round =>
    clear H';(try clear c1);(try clear p2);(try clear c4);(try clear c5);(try clear c5b0);(try clear p6);(try clear c8);(try clear c8b0);(try clear c8b1);(try clear c9);(try clear c9b0);(try clear hcz11_0);(try clear hcz11_1);(try clear hcz11_2);(try clear hcz14_0);(try clear hcz14_1);(try clear hcz14_2);(try clear hcz20_0);(try clear hcz20_1);(try clear hcz20_2);(try clear hcz7_0);(try clear hcz7_1);(try clear hcz7_2);(try clear hfz11_0);(try clear hfz11_1);(try clear hfz11_2);(try clear hfz14_0);(try clear hfz14_1);(try clear hfz14_2);(try clear hfz20_0);(try clear hfz20_1);(try clear hfz20_2);(try clear hfz7_0);(try clear hfz7_1);(try clear hfz7_2);obtain ⟨x10_1,x11_1,rfl,HA,HK1,HO_10,BK101,HB⟩:=hrel
    cases gk with
   |zero=>exact absurd HA.out (by simp [spec_lcAll.l0])
   |succ k1 =>
     have H:=HA.out;clear HA;simp only [spec_lcAll.l0] at H;by_cases c21:x11_1 < a0_1
     ·
      rw [if_pos c21] at H;have c21b0:decide (x11_1 < a0_1)=true:=decide_eq_true c21;clear c21;have HC22:=za H;clear H;have hcz23_0:wr.cell? ⟨gb101,0,none⟩=some (.int .i64 a0_0):=(ze BK101.out 0).trans rfl;have hcz23_1:wr.cell? ⟨gb101,1,none⟩=some (.int .i64 a0_1):=(ze BK101.out 1).trans rfl;have hcz23_2:wr.cell? ⟨gb101,2,none⟩=some (.slice A0_2 l0_2.length c0_2):=(ze BK101.out 2).trans rfl;have hfz23_0:=zf BK101.out 0;have hfz23_1:=zf BK101.out 1;have hfz23_2:=zf BK101.out 2;(go_upto_region 12 with (fail));go_cut [49] (fun v49 wc=>∃ (kq:Nat) (x49_21:Bool),v49=.bool x49_21∧Aside0 (spec_lcAll.j1 kq l1 a2 a3 (l1.length:Int) x10_1 x11_1 x49_21 a0_0 a0_1 l0_2=some r)∧Aside0 (kq≤k1)∧Aside0 (Kd.N (Kd.slice 3 (Kd.int .i64)) 24 wc w.heap.size (fun k_=>(w.heap.size≤k_)∧k_ ≠ gb101) u10 x10_1)∧Aside0 (wc.heap[gb101]?=some (.cells #[.int .i64 a0_0,.int .i64 a0_1,(.slice A0_2 l0_2.length c0_2)] 26 (0,0)))∧Aside0 (Below w.heap.size w wc))
      case first =>
       have H:=HC22.out;clear HC22;obtain ⟨t123,A24,H⟩:=bindAside H;(try dsimp only at H);by_cases c25:t123=true
       ·
        subst c25;(have H1:(if 0≤x11_1 then (if (Int.tmod (shr .i64 a2 x11_1) 2)=0 then (spec_lcAll.j1 k1 l1 a2 a3 (l1.length:Int) x10_1 x11_1 (decide (a3 > 0)) a0_0 a0_1 l0_2) else (spec_lcAll.j1 k1 l1 a2 a3 (l1.length:Int) x10_1 x11_1 false a0_0 a0_1 l0_2)) else (none))=some r:=by rw [if_pos rfl] at H;exact H);clear H;have H:=H1;clear H1;by_cases c26:0≤x11_1
        ·
         rw [if_pos c26] at H;have c26b0:=eq_true c26;have c26b1:decide (0≤x11_1)=true:=decide_eq_true c26;clear c26;obtain ⟨ji27,hji27⟩:∃ j_:Int,(shr .i64 a2 x11_1)=j_:=⟨_,rfl⟩;(replace H:(if (Int.tmod (ji27) 2)=0 then (spec_lcAll.j1 k1 l1 a2 a3 (l1.length:Int) x10_1 x11_1 (decide (a3 > 0)) a0_0 a0_1 l0_2) else (spec_lcAll.j1 k1 l1 a2 a3 (l1.length:Int) x10_1 x11_1 false a0_0 a0_1 l0_2))=some r:=by first|(rw [hji27] at H;exact H)|(simp only [hji27] at H ⊢;exact H));(try rw [hji27] at A24);have hji27_:(a2 / 2 ^ min x11_1.toNat 64)=ji27:=hji27;have hji27z:x11_1≤64→(a2 / 2 ^ x11_1.toNat)=ji27:=shr_small hji27;by_cases c28:(Int.tmod (ji27) 2)=0
         · rw [if_pos c28] at H;have c28b0:((Int.tmod (ji27) 2) == 0)=true:=beq_iff_eq.mpr c28;have c28b1:((Int.tmod (ji27) 2) != 0)=false:=bne_eq_false_iff_eq.mpr c28;clear c28;(first|rw [c28b0]|(simp only [i64_w,i32_w];rw [c28b0])|skip);have H':=za H;clear H;have hcz29_0:wr.cell? ⟨gb101,0,none⟩=some (.int .i64 a0_0):=(ze BK101.out 0).trans rfl;have hcz29_1:wr.cell? ⟨gb101,1,none⟩=some (.int .i64 a0_1):=(ze BK101.out 1).trans rfl;have hcz29_2:wr.cell? ⟨gb101,2,none⟩=some (.slice A0_2 l0_2.length c0_2):=(ze BK101.out 2).trans rfl;have hfz29_0:=zf BK101.out 0;have hfz29_1:=zf BK101.out 1;have hfz29_2:=zf BK101.out 2;(go_wp2_with (first|((with_reducible refine zu (f:=73) rfl ?_);refine goesL_ (some 38) rfl rfl Tryz.func73 (by kernel_rfl) rfl #[.agg #[.int .i64 a0_0,.int .i64 a0_1,.slice A0_2 l0_2.length c0_2],.int .i64 (l1.length:Int),.int .i64 x11_1] rfl (by first|rfl|simp only [z3_,z4_,z5_];try rfl) ?_;(with_reducible refine (spec_boHas.calls a0_0 a0_1 _ _ l0_2 (l1.length:Int) x11_1 true _ ?side1 ?side2 A24.out).mono ?_);(case side1=>apply_rules only [zq HR0_2.out HB.out,zm,zn,zo]);(case side2=>exact HC0_2.out);rintro e w30 ⟨rfl,hb⟩;refine ⟨_,rfl,?_⟩;replace HO_10:=za (Kd.N_below (by apply_rules only [HO_10.out,zz,zA,zy]) hb);replace BK101:=za (zp (g:=gb101) (o:=.cells #[.int .i64 a0_0,.int .i64 a0_1,.slice A0_2 l0_2.length c0_2] 26 (0,0)) (by apply_rules only [BK101.out,zj,zh,zk]) hb);replace HB:=za (zl (by apply_rules only [HB.out,zc,zd,zb,zg,GE101.out]) hb))));(go_meet);case rel=>exact ⟨_,(decide (a3 > 0)),(by first|rfl|(simp;done)|(simp [*];done)),H',⟨by have:=HK1.out;first|omega|exact Nat.le_refl _⟩,⟨by apply_rules only [HO_10.out,zz,zA,zy]⟩,⟨by apply_rules only [BK101.out,zj,zh,zk]⟩,⟨by apply_rules only [HB.out,zc,zd,zb,zg,GE101.out]⟩⟩
         · rw [if_neg c28] at H;have c28b0:((Int.tmod (ji27) 2) == 0)=false:=beq_eq_false_iff_ne.mpr c28;have c28b1:((Int.tmod (ji27) 2) != 0)=true:=bne_iff_ne.mpr c28;(first|rw [c28b0]|(simp only [i64_w,i32_w];rw [c28b0])|skip);have H':=za H;clear H;have hcz31_0:wr.cell? ⟨gb101,0,none⟩=some (.int .i64 a0_0):=(ze BK101.out 0).trans rfl;have hcz31_1:wr.cell? ⟨gb101,1,none⟩=some (.int .i64 a0_1):=(ze BK101.out 1).trans rfl;have hcz31_2:wr.cell? ⟨gb101,2,none⟩=some (.slice A0_2 l0_2.length c0_2):=(ze BK101.out 2).trans rfl;have hfz31_0:=zf BK101.out 0;have hfz31_1:=zf BK101.out 1;have hfz31_2:=zf BK101.out 2;(go_wp2_with (first|((with_reducible refine zu (f:=73) rfl ?_);refine goesL_ (some 38) rfl rfl Tryz.func73 (by kernel_rfl) rfl #[.agg #[.int .i64 a0_0,.int .i64 a0_1,.slice A0_2 l0_2.length c0_2],.int .i64 (l1.length:Int),.int .i64 x11_1] rfl (by first|rfl|simp only [z3_,z4_,z5_];try rfl) ?_;(with_reducible refine (spec_boHas.calls a0_0 a0_1 _ _ l0_2 (l1.length:Int) x11_1 true _ ?side1 ?side2 A24.out).mono ?_);(case side1=>apply_rules only [zq HR0_2.out HB.out,zm,zn,zo]);(case side2=>exact HC0_2.out);rintro e w32 ⟨rfl,hb⟩;refine ⟨_,rfl,?_⟩;replace HO_10:=za (Kd.N_below (by apply_rules only [HO_10.out,zz,zA,zy]) hb);replace BK101:=za (zp (g:=gb101) (o:=.cells #[.int .i64 a0_0,.int .i64 a0_1,.slice A0_2 l0_2.length c0_2] 26 (0,0)) (by apply_rules only [BK101.out,zj,zh,zk]) hb);replace HB:=za (zl (by apply_rules only [HB.out,zc,zd,zb,zg,GE101.out]) hb))));(go_meet);case rel=>exact ⟨_,(false),(by first|rfl|(simp;done)|(simp [*];done)),H',⟨by have:=HK1.out;first|omega|exact Nat.le_refl _⟩,⟨by apply_rules only [HO_10.out,zz,zA,zy]⟩,⟨by apply_rules only [BK101.out,zj,zh,zk]⟩,⟨by apply_rules only [HB.out,zc,zd,zb,zg,GE101.out]⟩⟩
        · rw [if_neg c26] at H;exact absurd H (by simp)
       · replace c25:=Bool.eq_false_iff.mpr c25;subst c25;(have H1:(spec_lcAll.j1 k1 l1 a2 a3 (l1.length:Int) x10_1 x11_1 false a0_0 a0_1 l0_2)=some r:=by rw [if_neg (show ¬ (false=true) by decide)] at H;exact H);clear H;have H:=H1;clear H1;have H':=za H;clear H;have hcz33_0:wr.cell? ⟨gb101,0,none⟩=some (.int .i64 a0_0):=(ze BK101.out 0).trans rfl;have hcz33_1:wr.cell? ⟨gb101,1,none⟩=some (.int .i64 a0_1):=(ze BK101.out 1).trans rfl;have hcz33_2:wr.cell? ⟨gb101,2,none⟩=some (.slice A0_2 l0_2.length c0_2):=(ze BK101.out 2).trans rfl;have hfz33_0:=zf BK101.out 0;have hfz33_1:=zf BK101.out 1;have hfz33_2:=zf BK101.out 2;(go_wp2_with (first|((with_reducible refine zu (f:=73) rfl ?_);refine goesL_ (some 38) rfl rfl Tryz.func73 (by kernel_rfl) rfl #[.agg #[.int .i64 a0_0,.int .i64 a0_1,.slice A0_2 l0_2.length c0_2],.int .i64 (l1.length:Int),.int .i64 x11_1] rfl (by first|rfl|simp only [z3_,z4_,z5_];try rfl) ?_;(with_reducible refine (spec_boHas.calls a0_0 a0_1 _ _ l0_2 (l1.length:Int) x11_1 false _ ?side1 ?side2 A24.out).mono ?_);(case side1=>apply_rules only [zq HR0_2.out HB.out,zm,zn,zo]);(case side2=>exact HC0_2.out);rintro e w34 ⟨rfl,hb⟩;refine ⟨_,rfl,?_⟩;replace HO_10:=za (Kd.N_below (by apply_rules only [HO_10.out,zz,zA,zy]) hb);replace BK101:=za (zp (g:=gb101) (o:=.cells #[.int .i64 a0_0,.int .i64 a0_1,.slice A0_2 l0_2.length c0_2] 26 (0,0)) (by apply_rules only [BK101.out,zj,zh,zk]) hb);replace HB:=za (zl (by apply_rules only [HB.out,zc,zd,zb,zg,GE101.out]) hb))));(go_meet);case rel=>exact ⟨_,(false),(by first|rfl|(simp;done)|(simp [*];done)),H',⟨by have:=HK1.out;first|omega|exact Nat.le_refl _⟩,⟨by apply_rules only [HO_10.out,zz,zA,zy]⟩,⟨by apply_rules only [BK101.out,zj,zh,zk]⟩,⟨by apply_rules only [HB.out,zc,zd,zb,zg,GE101.out]⟩⟩
      case rest =>
       clear HC22;(try clear c1);(try clear c2);(try clear p2);(try clear c4);(try clear c5);(try clear c5b0);(try clear p6);(try clear c7);(try clear c8);(try clear c8b0);(try clear c8b1);(try clear c9);(try clear c9b0);(try clear c21);(try clear c21b0);(try clear c25);(try clear c26);(try clear c26b0);(try clear c26b1);(try clear c28);(try clear c28b0);(try clear c28b1);(try clear hcz11_0);(try clear hcz11_1);(try clear hcz11_2);(try clear hcz14_0);(try clear hcz14_1);(try clear hcz14_2);(try clear hcz20_0);(try clear hcz20_1);(try clear hcz20_2);(try clear hcz23_0);(try clear hcz23_1);(try clear hcz23_2);(try clear hcz29_0);(try clear hcz29_1);(try clear hcz29_2);(try clear hcz31_0);(try clear hcz31_1);(try clear hcz31_2);(try clear hcz33_0);(try clear hcz33_1);(try clear hcz33_2);(try clear hcz7_0);(try clear hcz7_1);(try clear hcz7_2);(try clear hfz11_0);(try clear hfz11_1);(try clear hfz11_2);(try clear hfz14_0);(try clear hfz14_1);(try clear hfz14_2);(try clear hfz20_0);(try clear hfz20_1);(try clear hfz20_2);(try clear hfz23_0);(try clear hfz23_1);(try clear hfz23_2);(try clear hfz29_0);(try clear hfz29_1);(try clear hfz29_2);(try clear hfz31_0);(try clear hfz31_1);(try clear hfz31_2);(try clear hfz33_0);(try clear hfz33_1);(try clear hfz33_2);(try clear hfz7_0);(try clear hfz7_1);(try clear hfz7_2);(try clear p2);(try clear p6);obtain ⟨kq,x49_21,rfl,HA,HJ21,HO_10,BK101,HB⟩:=hcut
       cases kq with
      |zero=>exact absurd HA.out (by simp [spec_lcAll.j1])
      |succ kj21 =>
        have H:=HA.out;clear HA;simp only [spec_lcAll.j1] at H;by_cases c35:x49_21=true
        ·
         subst c35;(have H1:((spec_l1Own.f l1).bind fun t124=>((some (([x11_1]:List Int):List Int)).bind fun y127=>(if t124.length + y127.length < 17592186044416 then (if 0≤x11_1 then ((spec_lcAll.f kj21 a0_0 a0_1 l0_2 (t124 ++ y127) (Go.bits .or .i64 a2 (shl .i64 1 x11_1)) (wrap64 (a3 - 1))).bind fun t133=>(if x10_1.length + t133.length < 5864062014805 then (spec_lcAll.l0 kj21 l1 a2 a3 (l1.length:Int) (x10_1 ++ t133) (wrap64 (x11_1 + 1)) a0_0 a0_1 l0_2) else (none))) else (none)) else (none))))=some r:=by rw [if_pos rfl] at H;exact H);clear H;have H:=H1;clear H1;obtain ⟨t124,A36,H⟩:=bindAside H;(try dsimp only at H);obtain ⟨y127,hy127⟩:∃ y_:List Int,y_=(([x11_1]:List Int)):=⟨_,rfl⟩;(replace H:(if t124.length + y127.length < 17592186044416 then (if 0≤x11_1 then ((spec_lcAll.f kj21 a0_0 a0_1 l0_2 (t124 ++ y127) (Go.bits .or .i64 a2 (shl .i64 1 x11_1)) (wrap64 (a3 - 1))).bind fun t133=>(if x10_1.length + t133.length < 5864062014805 then (spec_lcAll.l0 kj21 l1 a2 a3 (l1.length:Int) (x10_1 ++ t133) (wrap64 (x11_1 + 1)) a0_0 a0_1 l0_2) else (none))) else (none)) else (none))=some r:=by first|(rw [hy127];with_reducible exact H)|(have H2_:=(Option.bind_some _ _).symm.trans H;rw [hy127];with_reducible exact H2_)|(have H2_:=(Option.bind_some _ _).symm.trans H;with_reducible exact H2_)|with_reducible exact H|(rw [hy127];exact H)|exact H);have Ny127:=za hy127;clear hy127;by_cases c37:t124.length + y127.length < 17592186044416
         ·
          rw [if_pos c37] at H;have LMc37:=za c37;clear c37;obtain ⟨y130,hy130⟩:∃ y_:List Int,y_=(t124 ++ y127):=⟨_,rfl⟩;(replace H:(if 0≤x11_1 then ((spec_lcAll.f kj21 a0_0 a0_1 l0_2 y130 (Go.bits .or .i64 a2 (shl .i64 1 x11_1)) (wrap64 (a3 - 1))).bind fun t133=>(if x10_1.length + t133.length < 5864062014805 then (spec_lcAll.l0 kj21 l1 a2 a3 (l1.length:Int) (x10_1 ++ t133) (wrap64 (x11_1 + 1)) a0_0 a0_1 l0_2) else (none))) else (none))=some r:=by first|(rw [hy130];with_reducible exact H)|(have H2_:=(Option.bind_some _ _).symm.trans H;rw [hy130];with_reducible exact H2_)|(have H2_:=(Option.bind_some _ _).symm.trans H;with_reducible exact H2_)|with_reducible exact H|(rw [hy130];exact H)|exact H);have Ny130:=za hy130;clear hy130;by_cases c38:0≤x11_1
          ·
           rw [if_pos c38] at H;have c38b0:=eq_true c38;have c38b1:decide (0≤x11_1)=true:=decide_eq_true c38;clear c38;obtain ⟨ji39,hji39⟩:∃ j_:Int,(shl .i64 1 x11_1)=j_:=⟨_,rfl⟩;(replace H:((spec_lcAll.f kj21 a0_0 a0_1 l0_2 y130 (Go.bits .or .i64 a2 (ji39)) (wrap64 (a3 - 1))).bind fun t133=>(if x10_1.length + t133.length < 5864062014805 then (spec_lcAll.l0 kj21 l1 a2 a3 (l1.length:Int) (x10_1 ++ t133) (wrap64 (x11_1 + 1)) a0_0 a0_1 l0_2) else (none)))=some r:=by first|(rw [hji39] at H;exact H)|(simp only [hji39] at H ⊢;exact H));(try rw [hji39] at A36);have hji39_:(IntKind.i64.wrap (1 * 2 ^ min x11_1.toNat 64))=ji39:=hji39;have hji39z:x11_1≤64→(IntKind.i64.wrap (1 * 2 ^ x11_1.toNat))=ji39:=shl_small hji39;(have hji39u:(IntKind.i64.wrap (2 ^ min x11_1.toNat 64))=ji39:=by have h_:=hji39_;rw [Int.one_mul] at h_;exact h_);(have hji39v:x11_1≤64→(IntKind.i64.wrap (2 ^ x11_1.toNat))=ji39:=fun hle_=>by have h_:=hji39z hle_;rw [Int.one_mul] at h_;exact h_);have hji39y:(wrap64 (1 * 2 ^ min x11_1.toNat 64))=ji39:=(i64_w _).symm.trans hji39_;(have hji39x:x11_1≤64→(wrap64 (1 * 2 ^ x11_1.toNat))=ji39:=fun h_=>(i64_w _).symm.trans (hji39z h_));obtain ⟨t133,A40,H⟩:=bindAside H;(try dsimp only at H);by_cases c41:x10_1.length + t133.length < 5864062014805
           ·
            rw [if_pos c41] at H;have LMc41:=za c41;clear c41;obtain ⟨y136,hy136⟩:∃ y_:List (List Int),y_=(x10_1 ++ t133):=⟨_,rfl⟩;(replace H:(spec_lcAll.l0 kj21 l1 a2 a3 (l1.length:Int) y136 (wrap64 (x11_1 + 1)) a0_0 a0_1 l0_2)=some r:=by first|(rw [hy136];with_reducible exact H)|(have H2_:=(Option.bind_some _ _).symm.trans H;rw [hy136];with_reducible exact H2_)|(have H2_:=(Option.bind_some _ _).symm.trans H;with_reducible exact H2_)|with_reducible exact H|(rw [hy136];exact H)|exact H);have Ny136:=za hy136;clear hy136;have H':=za H;clear H;obtain ⟨Ao42,co42,eo42⟩:=Kd.N_slice HO_10.out;subst eo42;(try go_wp2);replace HO_10:=za (zy HO_10.out);replace BK101:=za (zh BK101.out);replace HB:=za (zb HB.out);refine start_ (n:=16) (S:=fun w'=>w'.cell? ⟨gb101,0,none⟩=some (.int .i64 a0_0)∧w'.cell? ⟨gb101,1,none⟩=some (.int .i64 a0_1)∧w'.cell? ⟨gb101,2,none⟩=some (.slice A0_2 l0_2.length c0_2)) (ds:=[]) #[false,false,false,false,false,false,false,false,false,false,false,false,false,false,false,false] (by kernel_rfl) rfl rfl ⟨(ze BK101.out 0).trans rfl,(ze BK101.out 1).trans rfl,(ze BK101.out 2).trans rfl⟩ (fun hHeld=>?_);refine with_tabW spec_lcAll.tab13 spec_lcAll.bits13 (fun HT_ HW_=>?_);generalize wc.drew=w43 at HO_10 BK101 HB hHeld ⊢;refine pure_ (i:=0) (N:=some 50) (v:=?_) (a':=?_) #[true,false,false,false,false,false,false,false,false,false,false,false,false,false,false,false] rfl rfl (any_of HT_.out (by kernel_rfl)) (fun _ _ _ h=>h) (Or.inl ⟨by rfl,?_⟩) ?_ ?_;rotate_left
            · intro w';go_simp;with_reducible rfl
            rotate_left
            · simp only [Act.put,z0_,z1_,z2_,i64_w,i32_w];rfl
            refine pure_ (i:=2) (N:=some 52) (v:=?_) (a':=?_) #[true,false,true,false,false,false,false,false,false,false,false,false,false,false,false,false] rfl rfl (any_of HT_.out (by kernel_rfl)) (fun _ _ _ h=>h) (Or.inl ⟨by rfl,?_⟩) ?_ ?_;rotate_left
            · intro w';go_simp;with_reducible rfl
            rotate_left
            · simp only [Act.put,z0_,z1_,z2_,i64_w,i32_w];rfl
            refine pure_ (i:=4) (N:=some 54) (v:=?_) (a':=?_) #[true,false,true,false,true,false,false,false,false,false,false,false,false,false,false,false] rfl rfl (any_of HT_.out (by kernel_rfl)) (fun _ _ _ h=>h) (Or.inl ⟨by rfl,?_⟩) ?_ ?_;rotate_left
            · intro w';go_simp;with_reducible rfl
            rotate_left
            · simp only [Act.put,z0_,z1_,z2_,i64_w,i32_w];rfl
            refine pure_ (i:=7) (N:=some 57) (v:=?_) (a':=?_) #[true,false,true,false,true,false,false,true,false,false,false,false,false,false,false,false] rfl rfl (any_of HT_.out (by kernel_rfl)) (fun _ _ _ h=>h) (Or.inl ⟨by rfl,?_⟩) ?_ ?_;rotate_left
            · intro w';go_simp;with_reducible rfl
            rotate_left
            · simp only [Act.put,z0_,z1_,z2_,i64_w,i32_w];rfl
            refine pure_ (i:=8) (N:=some 58) (v:=?_) (a':=?_) #[true,false,true,false,true,false,false,true,true,false,false,false,false,false,false,false] rfl rfl (any_of HT_.out (by kernel_rfl)) (fun _ _ _ h=>h) (Or.inl ⟨by rfl,?_⟩) ?_ ?_;rotate_left
            · intro w';go_simp;with_reducible rfl
            rotate_left
            · simp only [Act.put,z0_,z1_,z2_,i64_w,i32_w];rfl
            refine pure_ (i:=9) (N:=some 59) (v:=?_) (a':=?_) #[true,false,true,false,true,false,false,true,true,true,false,false,false,false,false,false] rfl rfl (any_of HT_.out (by kernel_rfl)) (fun _ _ _ h=>h) (Or.inl ⟨by rfl,?_⟩) ?_ ?_;rotate_left
            · intro w';go_simp;with_reducible rfl
            rotate_left
            · simp only [Act.put,z0_,z1_,z2_,i64_w,i32_w];rfl
            refine pure_ (i:=10) (N:=some 60) (v:=?_) (a':=?_) #[true,false,true,false,true,false,false,true,true,true,true,false,false,false,false,false] rfl rfl (any_of HT_.out (by kernel_rfl)) (fun _ _ _ h=>h) (Or.inl ⟨by rfl,?_⟩) ?_ ?_;rotate_left
            · intro w';go_simp;with_reducible rfl
            rotate_left
            · simp only [Act.put,z0_,z1_,z2_,i64_w,i32_w];rfl
            refine pure_ (i:=11) (N:=some 61) (v:=?_) (a':=?_) #[true,false,true,false,true,false,false,true,true,true,true,true,false,false,false,false] rfl rfl (any_of HT_.out (by kernel_rfl)) (fun _ _ _ h=>h) (Or.inl ⟨by rfl,?_⟩) ?_ ?_;rotate_left
            · intro w';go_simp;with_reducible rfl
            rotate_left
            · simp only [Act.put,z0_,z1_,z2_,i64_w,i32_w];rfl
            refine pure_ (i:=12) (N:=some 62) (v:=?_) (a':=?_) #[true,false,true,false,true,false,false,true,true,true,true,true,true,false,false,false] rfl rfl (any_of HT_.out (by kernel_rfl)) (fun _ _ _ h=>h) (Or.inl ⟨by rfl,?_⟩) ?_ ?_;rotate_left
            · intro w';go_simp;with_reducible rfl
            rotate_left
            · simp only [Act.put,z0_,z1_,z2_,i64_w,i32_w];rfl
            refine take_ (i:=1) (N:=some 51) (v:=?_) (a':=?_) #[true,true,true,false,true,false,false,true,true,true,true,true,true,false,false,false] rfl rfl (take_ofW HT_.out HW_.out (by kernel_rfl)) (fun _ _ _ h=>h) (Or.inl ⟨by rfl,?_⟩) hHeld ?_ ?_;rotate_left
            · rintro w' ⟨s0,s1,s2⟩;go_simp;with_reducible rfl
            rotate_left
            · simp only [Act.put,z0_,z1_,z2_,i64_w,i32_w];rfl
            refine join_ (σ:=Value × Value) 4 #[true,true,true,true,true,true,false,true,true,true,true,true,true,false,false,false] (fun s_=>[(53,s_.1),(55,s_.2)]) (fun s_ w'=>(w'.cell? ⟨gb101,0,none⟩=some (.int .i64 a0_0)∧w'.cell? ⟨gb101,1,none⟩=some (.int .i64 a0_1)∧w'.cell? ⟨gb101,2,none⟩=some (.slice A0_2 l0_2.length c0_2))∧(Kd.R (Kd.int .i64) 3 w' w.heap.size (fun k_=>(w.heap.size≤k_)∧some k_ ≠ (s_.2:Value).ownBlock) s_.1 t124)∧(Kd.R (Kd.int .i64) 3 w' w.heap.size (fun k_=>(w.heap.size≤k_)∧some k_ ≠ (s_.1:Value).ownBlock) s_.2 y127)∧(Kd.N (Kd.slice 3 (Kd.int .i64)) 24 w' w.heap.size (fun k_=>(w.heap.size≤k_)∧some k_ ≠ (s_.1:Value).ownBlock∧some k_ ≠ (s_.2:Value).ownBlock∧k_ ≠ gb101) (.slice Ao42 x10_1.length co42) x10_1)∧(w'.heap[gb101]?=some (.cells #[.int .i64 a0_0,.int .i64 a0_1,.slice A0_2 l0_2.length c0_2] 26 (0,0)))∧(Below w.heap.size w w')) ?_ ?_;rotate_left
            ·
             intro hCont;refine two_ (i:=3) (j:=5) (Ni:=some 53) (Nj:=some 55) #[true,true,true,true,true,false,false,true,true,true,true,true,true,false,false,false] #[true,true,true,false,true,true,false,true,true,true,true,true,true,false,false,false] rfl rfl rfl rfl (two_of HT_.out (by kernel_rfl)) (by decide) (by decide) (fun K hK=>?_) (fun K hK=>?_)
             ·
              skip;refine goes_ Tryz.func44 (by kernel_rfl) rfl #[.slice A1 l1.length c1] (by rfl) rfl rfl (by first|rfl|simp only [z3_,z4_,z5_];try rfl) ?_;(with_reducible refine (spec_l1Own.calls _ _ l1 t124 _ ?side1 ?side2 A36.out).mono ?_);(case side1=>apply_rules only [zq HR1.out HB.out,zm,zn,zo]);(case side2=>exact HC1.out);rintro e w44 ⟨v125,rfl,ho0,hb⟩;refine ⟨_,rfl,?_⟩;replace HO_10:=za (Kd.N_elder' (by apply_rules only [HO_10.out,zz,zA,zy]) (Kd.R_base ho0) hb);have HO126:=za (Kd.R_lower (Kd.R_newM (M:=fun k_=>(w.heap.size≤k_)) ho0 (zi (by apply_rules only [HB.out,zc,zd,zb,zg,GE101.out])) (fun k_ h_=>h_)) (zi (by apply_rules only [HB.out,zc,zd,zb,zg,GE101.out])));replace BK101:=za (zp (g:=gb101) (o:=.cells #[.int .i64 a0_0,.int .i64 a0_1,.slice A0_2 l0_2.length c0_2] 26 (0,0)) (by apply_rules only [BK101.out,zj,zh,zk]) hb);replace HB:=za (zl (by apply_rules only [HB.out,zc,zd,zb,zg,GE101.out]) hb);refine hK.out _ _ ⟨(ze BK101.out 0).trans rfl,(ze BK101.out 1).trans rfl,(ze BK101.out 2).trans rfl⟩ (fun hHeld=>?_);clear hK K;refine norm_ (a':=?_) ?_ ?_;rotate_left
              · show Act.put _ (some 53) _=_;simp only [Act.put,z0_,z1_,z2_,i64_w,i32_w];rfl
              refine one_ (i:=5) (N:=some 55) #[true,true,true,true,true,true,false,true,true,true,true,true,true,false,false,false] rfl rfl (one_of HT_.out (by kernel_rfl)) (by decide) (fun K hK=>?_);refine Kd.R_lit_step (Kd.int .i64) _ 3 ?hg (N:=55) ?hd (xs:=([x11_1]:List Int)) (inner:=[.int .i64 x11_1]) (ok:=fun _=>True) (okp:=fun _=>True) ?hr ?hp (fun _ hk=>hk) trivial (Below.refl _ _) (Nat.le_refl _) (by simp) ?_;(case hd=>rfl);(case hg=>rfl);(case hr=>first|(go_simp;done)|(go_simp;rfl));(case hp=>exact (Reps.one (show Kd.M (Kd.int .i64) _ _ _ x11_1 [.int .i64 x11_1] from rfl) (Reps.none _ _)));intro v128 w45 ho46 hb hg_ hnew_;clear hg_ hnew_;(first|rw [← Ny127.out] at ho46|(simp only [Int.reduceToNat] at ho46;rw [← Ny127.out] at ho46));replace HO_10:=za (Kd.N_elder' (by apply_rules only [HO_10.out,zz,zA,zy]) (Kd.R_base ho46) hb);have HO129:=za (Kd.R_lower (Kd.R_new' (Kd.R_newM (M:=fun k_=>(w.heap.size≤k_)) ho46 (zi (by apply_rules only [HB.out,zc,zd,zb,zg,GE101.out])) (fun k_ h_=>h_)) (Kd.R_lt (by apply_rules only [HO126.out,zs,zt,zr]))) (zi (by apply_rules only [HB.out,zc,zd,zb,zg,GE101.out])));replace HO126:=za (Kd.R_elder' (by apply_rules only [HO126.out,zs,zt,zr]) (Kd.R_base ho46) hb);replace BK101:=za (zp (g:=gb101) (o:=.cells #[.int .i64 a0_0,.int .i64 a0_1,.slice A0_2 l0_2.length c0_2] 26 (0,0)) (by apply_rules only [BK101.out,zj,zh,zk]) hb);replace HB:=za (zl (by apply_rules only [HB.out,zc,zd,zb,zg,GE101.out]) hb);clear hb ho46;refine hK.out _ _ ⟨(ze BK101.out 0).trans rfl,(ze BK101.out 1).trans rfl,(ze BK101.out 2).trans rfl⟩ (fun hHeld=>?_);clear hK K;refine norm_ (a':=?_) ?_ ?_;rotate_left
              · show Act.put _ (some 55) _=_;simp only [Act.put,z0_,z1_,z2_,i64_w,i32_w];rfl
              exact norm_ (by simp only [putAll,Act.put,z0_,z1_,z2_]) (hCont (v125,v128) _ ⟨hHeld,(by (with_reducible repeat (first|apply zs|apply zt|apply zr));exact Kd.R_mono HO126.out (fun _ hk=>⟨hk.1.1,hk.2⟩)),(by (with_reducible repeat (first|apply zs|apply zt|apply zr));exact Kd.R_mono HO129.out (fun _ hk=>⟨hk.1.1,hk.2⟩)),(by (with_reducible repeat (first|apply zz|apply zA|apply zy));exact Kd.N_mono HO_10.out (fun _ hk=>⟨hk.1.1.1,⟨hk.1.2,⟨hk.2,hk.1.1.2⟩⟩⟩)),(by apply_rules only [BK101.out,zj,zh,zk]),(by apply_rules only [HB.out,zc,zd,zb,zg,GE101.out])⟩)
             ·
              skip;refine Kd.R_lit_step (Kd.int .i64) _ 3 ?hg (N:=55) ?hd (xs:=([x11_1]:List Int)) (inner:=[.int .i64 x11_1]) (ok:=fun _=>True) (okp:=fun _=>True) ?hr ?hp (fun _ hk=>hk) trivial (Below.refl _ _) (Nat.le_refl _) (by simp) ?_;(case hd=>rfl);(case hg=>rfl);(case hr=>first|(go_simp;done)|(go_simp;rfl));(case hp=>exact (Reps.one (show Kd.M (Kd.int .i64) _ _ _ x11_1 [.int .i64 x11_1] from rfl) (Reps.none _ _)));intro v128 w44 ho45 hb hg_ hnew_;clear hg_ hnew_;(first|rw [← Ny127.out] at ho45|(simp only [Int.reduceToNat] at ho45;rw [← Ny127.out] at ho45));replace HO_10:=za (Kd.N_elder' (by apply_rules only [HO_10.out,zz,zA,zy]) (Kd.R_base ho45) hb);have HO129:=za (Kd.R_lower (Kd.R_newM (M:=fun k_=>(w.heap.size≤k_)) ho45 (zi (by apply_rules only [HB.out,zc,zd,zb,zg,GE101.out])) (fun k_ h_=>h_)) (zi (by apply_rules only [HB.out,zc,zd,zb,zg,GE101.out])));replace BK101:=za (zp (g:=gb101) (o:=.cells #[.int .i64 a0_0,.int .i64 a0_1,.slice A0_2 l0_2.length c0_2] 26 (0,0)) (by apply_rules only [BK101.out,zj,zh,zk]) hb);replace HB:=za (zl (by apply_rules only [HB.out,zc,zd,zb,zg,GE101.out]) hb);clear hb ho45;refine hK.out _ _ ⟨(ze BK101.out 0).trans rfl,(ze BK101.out 1).trans rfl,(ze BK101.out 2).trans rfl⟩ (fun hHeld=>?_);clear hK K;refine norm_ (a':=?_) ?_ ?_;rotate_left
              · show Act.put _ (some 55) _=_;simp only [Act.put,z0_,z1_,z2_,i64_w,i32_w];rfl
              refine one_ (i:=3) (N:=some 53) #[true,true,true,true,true,true,false,true,true,true,true,true,true,false,false,false] rfl rfl (one_of HT_.out (by kernel_rfl)) (by decide) (fun K hK=>?_);refine goes_ Tryz.func44 (by kernel_rfl) rfl #[.slice A1 l1.length c1] (by rfl) rfl rfl (by first|rfl|simp only [z3_,z4_,z5_];try rfl) ?_;(with_reducible refine (spec_l1Own.calls _ _ l1 t124 _ ?side1 ?side2 A36.out).mono ?_);(case side1=>apply_rules only [zq HR1.out HB.out,zm,zn,zo]);(case side2=>exact HC1.out);rintro e w46 ⟨v125,rfl,ho0,hb⟩;refine ⟨_,rfl,?_⟩;replace HO_10:=za (Kd.N_elder' (by apply_rules only [HO_10.out,zz,zA,zy]) (Kd.R_base ho0) hb);have HO126:=za (Kd.R_lower (Kd.R_new' (Kd.R_newM (M:=fun k_=>(w.heap.size≤k_)) ho0 (zi (by apply_rules only [HB.out,zc,zd,zb,zg,GE101.out])) (fun k_ h_=>h_)) (Kd.R_lt (by apply_rules only [HO129.out,zs,zt,zr]))) (zi (by apply_rules only [HB.out,zc,zd,zb,zg,GE101.out])));replace HO129:=za (Kd.R_elder' (by apply_rules only [HO129.out,zs,zt,zr]) (Kd.R_base ho0) hb);replace BK101:=za (zp (g:=gb101) (o:=.cells #[.int .i64 a0_0,.int .i64 a0_1,.slice A0_2 l0_2.length c0_2] 26 (0,0)) (by apply_rules only [BK101.out,zj,zh,zk]) hb);replace HB:=za (zl (by apply_rules only [HB.out,zc,zd,zb,zg,GE101.out]) hb);refine hK.out _ _ ⟨(ze BK101.out 0).trans rfl,(ze BK101.out 1).trans rfl,(ze BK101.out 2).trans rfl⟩ (fun hHeld=>?_);clear hK K;refine norm_ (a':=?_) ?_ ?_;rotate_left
              · show Act.put _ (some 53) _=_;simp only [Act.put,z0_,z1_,z2_,i64_w,i32_w];rfl
              exact norm_ (by simp only [putAll,Act.put,z0_,z1_,z2_]) (hCont (v125,v128) _ ⟨hHeld,(by (with_reducible repeat (first|apply zs|apply zt|apply zr));exact Kd.R_mono HO126.out (fun _ hk=>⟨hk.1.1,hk.2⟩)),(by (with_reducible repeat (first|apply zs|apply zt|apply zr));exact Kd.R_mono HO129.out (fun _ hk=>⟨hk.1.1,hk.2⟩)),(by (with_reducible repeat (first|apply zz|apply zA|apply zy));exact Kd.N_mono HO_10.out (fun _ hk=>⟨hk.1.1.1,⟨hk.2,⟨hk.1.2,hk.1.1.2⟩⟩⟩)),(by apply_rules only [BK101.out,zj,zh,zk]),(by apply_rules only [HB.out,zc,zd,zb,zg,GE101.out])⟩)
            rintro ⟨v125,v128⟩ w47 ⟨hS_,h0_,h1_,h2_,h3_,h4_⟩;have n0_:Aside0 (Kd.R (Kd.int .i64) 3 w47 w.heap.size (fun k_=>(w.heap.size≤k_)∧some k_ ≠ (v128:Value).ownBlock) v125 t124):=⟨h0_⟩;have n1_:Aside0 (Kd.R (Kd.int .i64) 3 w47 w.heap.size (fun k_=>(w.heap.size≤k_)∧some k_ ≠ (v125:Value).ownBlock) v128 y127):=⟨h1_⟩;have n2_:Aside0 (Kd.N (Kd.slice 3 (Kd.int .i64)) 24 w47 w.heap.size (fun k_=>(w.heap.size≤k_)∧some k_ ≠ (v125:Value).ownBlock∧some k_ ≠ (v128:Value).ownBlock∧k_ ≠ gb101) (.slice Ao42 x10_1.length co42) x10_1):=⟨h2_⟩;have n3_:Aside0 (w47.heap[gb101]?=some (.cells #[.int .i64 a0_0,.int .i64 a0_1,.slice A0_2 l0_2.length c0_2] 26 (0,0))):=⟨h3_⟩;have n4_:Aside0 (Below w.heap.size w w47):=⟨h4_⟩;clear HO_10 BK101 HB;clear h0_ h1_ h2_ h3_ h4_;have HO126:=n0_;have HO129:=n1_;have HO_10:=n2_;have BK101:=n3_;have HB:=n4_;clear n0_ n1_ n2_ n3_ n4_;have hHeld:w47.cell? ⟨gb101,0,none⟩=some (.int .i64 a0_0)∧w47.cell? ⟨gb101,1,none⟩=some (.int .i64 a0_1)∧w47.cell? ⟨gb101,2,none⟩=some (.slice A0_2 l0_2.length c0_2):=hS_;obtain ⟨Ao49,co49,eo49⟩:=Kd.R_slice HO129.out;(first|subst eo49|(injection eo49 with f1_ f2_ f3_;have f4_:=f1_.symm;have f5_:=f3_.symm;clear f1_ f2_ f3_;subst f4_;subst f5_));refine norm_ (a':=?_) ?_ ?_;rotate_left
            · simp only [putAll,Act.put,z0_,z1_,z2_];rfl
            refine one_ (i:=6) (N:=some 56) #[true,true,true,true,true,true,true,true,true,true,true,true,true,false,false,false] rfl rfl (one_of HT_.out (by kernel_rfl)) (by decide) (fun K hK=>?_);refine Kd.R_append_rows_step (Kd.int .i64) (w0:=w) w.heap.size (by rfl) (.tmp 53) (.tmp 55) 24 3 (.int .i64 0) 8 rfl Tryz.underlying24 info3 rfl (by decide) (by omega) v125 t124 y127 _ _ _ (fun k_=>(w.heap.size≤k_)∧some k_ ≠ (.slice Ao49 y127.length co49:Value).ownBlock) (fun _=>False) rfl rfl ?aO ?aR (fun _ _ h=>h) (fun _ h=>h.elim) ?aF ?aB ?aS ?aL ?_;(case aR=>apply_rules only [(Kd.R_reads' HO129.out).2.2,zm,zn,zo]);(case aB=>exact (by apply_rules only [HB.out,zc,zd,zb,zg,GE101.out]));(case aF=>exact (fun k_ hk=>⟨(Nat.le_trans (zi (by apply_rules only [HB.out,zc,zd,zb,zg,GE101.out])) hk),Kd.fresh' (Kd.R_lt (by apply_rules only [HO129.out,zs,zt,zr])) k_ hk⟩));(case aO=>exact (by apply_rules only [HO126.out,zs,zt,zr]));(case aS=>exact (zi (by apply_rules only [HB.out,zc,zd,zb,zg,GE101.out])));(case aL=>have:=LMc37.out;omega);intro v131 w48 ho hb hg hat;rw [← Ny130.out] at ho;replace HO_10:=za (Kd.N_afterv (ok:=(fun k_=>(w.heap.size≤k_)∧some k_ ≠ (.slice Ao49 y127.length co49:Value).ownBlock∧k_ ≠ gb101)) (by (with_reducible repeat (first|apply zz|apply zA|apply zy));exact Kd.N_mono HO_10.out (fun _ hk=>⟨⟨hk.1,⟨hk.2.2.1,hk.2.2.2⟩⟩,hk.2.1⟩)) hg hat);replace BK101:=za (blk_grown (g:=gb101) (o:=.cells #[.int .i64 a0_0,.int .i64 a0_1,.slice A0_2 l0_2.length c0_2] 26 (0,0)) (by apply_rules only [BK101.out,zj,zh,zk]) hg (Kd.R_ne HO126.out BK101.out (by decide)));replace HO129:=za (Kd.R_after (ok:=(fun k_=>(w.heap.size≤k_))) (by apply_rules only [HO129.out,zs,zt,zr]) hg hat);replace HB:=za (hb);have HO132:=za (ho);clear HO126;clear ho hb hg hat;obtain ⟨Ao50,co50,eo50⟩:=Kd.R_slice HO132.out;(first|subst eo50|(injection eo50 with f1_ f2_ f3_;have f4_:=f1_.symm;have f5_:=f3_.symm;clear f1_ f2_ f3_;subst f4_;subst f5_));refine hK.out _ _ ⟨(ze BK101.out 0).trans rfl,(ze BK101.out 1).trans rfl,(ze BK101.out 2).trans rfl⟩ (fun hHeld=>?_);clear hK K;refine norm_ (a':=?_) ?_ ?_;rotate_left
            · show Act.put _ (some 56) _=_;simp only [Act.put,z0_,z1_,z2_,i64_w,i32_w];rfl
            refine one_ (i:=13) (N:=some 63) #[true,true,true,true,true,true,true,true,true,true,true,true,true,true,false,false] rfl rfl (one_of HT_.out (by kernel_rfl)) (by decide) (fun K hK=>?_);refine goes_ Tryz.func55 (by kernel_rfl) rfl #[.agg #[.int .i64 a0_0,.int .i64 a0_1,.slice A0_2 l0_2.length c0_2],.slice Ao50 y130.length co50,.int .i64 (Go.bits .or .i64 a2 (ji39)),.int .i64 (wrap64 (a3 - 1))] (by rfl) rfl rfl (by (try simp only [z3_,z4_,z5_]);first|done|(simp only [hji39];rfl)|rfl|(simp only [List.length_drop,List.length_take];rfl)) ?_;(with_reducible refine (ih kj21 (by have:=HK1.out;have:=HJ21.out;omega) a0_0 a0_1 _ _ l0_2 _ _ y130 (Go.bits .or .i64 a2 (ji39)) (wrap64 (a3 - 1)) t133 _ ?side1 ?side2 ?side3 ?side4 A40.out).mono ?_);(case side1=>apply_rules only [zq HR0_2.out HB.out,zm,zn,zo]);(case side2=>exact HC0_2.out);(case side3=>apply_rules only [(Kd.R_reads' HO132.out).2.2,zm,zn,zo]);(case side4=>exact (Kd.R_reads' HO132.out).2.1);rintro e w51 ⟨v134,rfl,ho0,hb⟩;refine ⟨_,rfl,?_⟩;have HO135:=za (Kd.N_lower (Kd.N_mono (ok':=fun k_=>(w.heap.size≤k_)∧some k_ ≠ (.slice Ao42 x10_1.length co42:Value).ownBlock∧some k_ ≠ (.slice Ao49 y127.length co49:Value).ownBlock∧some k_ ≠ (.slice Ao50 y130.length co50:Value).ownBlock∧k_ ≠ gb101) ho0 (fun k_ hk_=>⟨(Nat.le_trans (zi (by apply_rules only [HB.out,zc,zd,zb,zg,GE101.out])) hk_),(Kd.fresh' (Kd.N_lt (by apply_rules only [HO_10.out,zz,zA,zy])) k_ hk_),(Kd.fresh' (Kd.R_lt (by apply_rules only [HO129.out,zs,zt,zr])) k_ hk_),(Kd.fresh' (Kd.R_lt (by apply_rules only [HO132.out,zs,zt,zr])) k_ hk_),(Kd.freshB (g:=gb101) (o:=.cells #[.int .i64 a0_0,.int .i64 a0_1,.slice A0_2 l0_2.length c0_2] 26 (0,0)) (by apply_rules only [BK101.out,zj,zh,zk]) k_ hk_)⟩)) (zi (by apply_rules only [HB.out,zc,zd,zb,zg,GE101.out])));replace HO_10:=za (Kd.N_elder' (by apply_rules only [HO_10.out,zz,zA,zy]) (Kd.N_base ho0) hb);replace HO129:=za (Kd.R_below (by apply_rules only [HO129.out,zs,zt,zr]) hb);replace HO132:=za (Kd.R_below (by apply_rules only [HO132.out,zs,zt,zr]) hb);replace BK101:=za (zp (g:=gb101) (o:=.cells #[.int .i64 a0_0,.int .i64 a0_1,.slice A0_2 l0_2.length c0_2] 26 (0,0)) (by apply_rules only [BK101.out,zj,zh,zk]) hb);replace HB:=za (zl (by apply_rules only [HB.out,zc,zd,zb,zg,GE101.out]) hb);obtain ⟨Ao53,co53,eo53⟩:=Kd.N_slice HO135.out;(first|subst eo53|(injection eo53 with f1_ f2_ f3_;have f4_:=f1_.symm;have f5_:=f3_.symm;clear f1_ f2_ f3_;subst f4_;subst f5_));refine hK.out _ _ ⟨(ze BK101.out 0).trans rfl,(ze BK101.out 1).trans rfl,(ze BK101.out 2).trans rfl⟩ (fun hHeld=>?_);clear hK K;refine norm_ (a':=?_) ?_ ?_;rotate_left
            · show Act.put _ (some 63) _=_;simp only [Act.put,z0_,z1_,z2_,i64_w,i32_w];rfl
            refine one_ (i:=14) (N:=some 64) #[true,true,true,true,true,true,true,true,true,true,true,true,true,true,true,false] rfl rfl (one_of HT_.out (by kernel_rfl)) (by decide) (fun K hK=>?_);refine Kd.N_append_rows_step (Kd.slice 3 (Kd.int .i64)) (w0:=w) w.heap.size (by rfl) (.tmp 50) (.tmp 63) 28 24 (.slice none 0 0) 24 rfl Tryz.underlying28 info24 rfl (by decide) (by omega) (.slice Ao42 x10_1.length co42) x10_1 t133 _ _ _ (fun k_=>(w.heap.size≤k_)∧some k_ ≠ (.slice Ao49 y127.length co49:Value).ownBlock∧some k_ ≠ (.slice Ao50 y130.length co50:Value).ownBlock∧k_ ≠ gb101) (fun k_=>((fun k_=>(w.heap.size≤k_)∧some k_ ≠ (.slice Ao49 y127.length co49:Value).ownBlock∧some k_ ≠ (.slice Ao50 y130.length co50:Value).ownBlock∧k_ ≠ gb101)) k_∧some k_ ≠ (.slice Ao42 x10_1.length co42:Value).ownBlock) rfl rfl ?aO ?aR (fun _ hk=>hk) ?aF ?aB ?aS ?aL ?_;(case aR=>exact (by skip;exact Kd.N_F (Kd.N_mono (ok':=(fun k_=>((fun k_=>(w.heap.size≤k_)∧some k_ ≠ (.slice Ao49 y127.length co49:Value).ownBlock∧some k_ ≠ (.slice Ao50 y130.length co50:Value).ownBlock∧k_ ≠ gb101)) k_∧some k_ ≠ (.slice Ao42 x10_1.length co42:Value).ownBlock)) (HO135.out) (fun k_ hk=>⟨⟨hk.1,⟨hk.2.2.1,⟨hk.2.2.2.1,hk.2.2.2.2⟩⟩⟩,hk.2.1⟩))));(case aB=>exact (by apply_rules only [HB.out,zc,zd,zb,zg,GE101.out]));(case aF=>exact (fun k_ hk=>⟨(Nat.le_trans (zi (by apply_rules only [HB.out,zc,zd,zb,zg,GE101.out])) hk),Kd.fresh' (Kd.R_lt (by apply_rules only [HO129.out,zs,zt,zr])) k_ hk,Kd.fresh' (Kd.R_lt (by apply_rules only [HO132.out,zs,zt,zr])) k_ hk,Kd.freshB (g:=gb101) (o:=.cells #[.int .i64 a0_0,.int .i64 a0_1,.slice A0_2 l0_2.length c0_2] 26 (0,0)) (by apply_rules only [BK101.out,zj,zh,zk]) k_ hk⟩));(case aO=>exact (by (with_reducible repeat (first|apply zz|apply zA|apply zy));exact Kd.N_mono HO_10.out (fun _ hk=>⟨hk.1.1.1,⟨hk.1.1.2.1,⟨hk.1.2,hk.1.1.2.2⟩⟩⟩)));(case aS=>exact (zi (by apply_rules only [HB.out,zc,zd,zb,zg,GE101.out])));(case aL=>have:=LMc41.out;omega);intro v137 w52 ho hb hg hat;rw [← Ny136.out] at ho;replace BK101:=za (blk_grown (g:=gb101) (o:=.cells #[.int .i64 a0_0,.int .i64 a0_1,.slice A0_2 l0_2.length c0_2] 26 (0,0)) (by apply_rules only [BK101.out,zj,zh,zk]) hg (Kd.N_ne HO_10.out BK101.out (by decide)));replace HO129:=za (Kd.R_over' (by apply_rules only [HO129.out,zs,zt,zr]) (Kd.N_typed (by apply_rules only [HO_10.out,zz,zA,zy])) (by decide) hg);replace HO132:=za (Kd.R_over' (by apply_rules only [HO132.out,zs,zt,zr]) (Kd.N_typed (by apply_rules only [HO_10.out,zz,zA,zy])) (by decide) hg);replace HO135:=za (Kd.N_afterv (ok:=(fun k_=>(w.heap.size≤k_)∧some k_ ≠ (.slice Ao49 y127.length co49:Value).ownBlock∧some k_ ≠ (.slice Ao50 y130.length co50:Value).ownBlock∧k_ ≠ gb101)) (by (with_reducible repeat (first|apply zz|apply zA|apply zy));exact Kd.N_mono HO135.out (fun _ hk=>⟨⟨hk.1,⟨hk.2.2.1,⟨hk.2.2.2.1,hk.2.2.2.2⟩⟩⟩,hk.2.1⟩)) hg hat);replace HB:=za (hb);have HO138:=za (ho);clear HO_10;clear ho hb hg hat;refine hK.out _ _ ⟨(ze BK101.out 0).trans rfl,(ze BK101.out 1).trans rfl,(ze BK101.out 2).trans rfl⟩ (fun hHeld=>?_);clear hK K;refine norm_ (a':=?_) ?_ ?_;rotate_left
            · show Act.put _ (some 64) _=_;simp only [Act.put,z0_,z1_,z2_,i64_w,i32_w];rfl
            refine pure_ (i:=15) (N:=some 10) (v:=?_) (a':=?_) #[true,true,true,true,true,true,true,true,true,true,true,true,true,true,true,true] rfl rfl (any_of HT_.out (by kernel_rfl)) (fun _ _ _ h=>h) (Or.inl ⟨by rfl,?_⟩) ?_ ?_;rotate_left
            · intro w';go_simp;with_reducible rfl
            rotate_left
            · simp only [Act.put,z0_,z1_,z2_,i64_w,i32_w];rfl
            refine done_ (done_of HT_.out (by kernel_rfl)) ?_;(try go_wp2);(go_roundg kj21);(case measure=>have:=HK1.out;have:=HJ21.out;omega);case rel=>exact ⟨(y136),(wrap64 (x11_1 + 1)),(by first|rfl|(simp;done)|(simp [*];done)),H',⟨by have:=HK1.out;have:=HJ21.out;omega⟩,⟨by (with_reducible repeat (first|apply zz|apply zA|apply zy));exact Kd.N_mono HO138.out (fun _ hk=>⟨hk.1,hk.2.2.2⟩)⟩,⟨by apply_rules only [BK101.out,zj,zh,zk]⟩,⟨by apply_rules only [HB.out,zc,zd,zb,zg,GE101.out]⟩⟩
           · rw [if_neg c41] at H;exact absurd H (by simp)
          · rw [if_neg c38] at H;exact absurd H (by simp)
         · rw [if_neg c37] at H;exact absurd H (by simp)
        · replace c35:=Bool.eq_false_iff.mpr c35;subst c35;(have H1:(spec_lcAll.l0 kj21 l1 a2 a3 (l1.length:Int) x10_1 (wrap64 (x11_1 + 1)) a0_0 a0_1 l0_2)=some r:=by rw [if_neg (show ¬ (false=true) by decide)] at H;exact H);clear H;have H:=H1;clear H1;have H':=za H;clear H;(go_wp2);(go_roundg kj21);(case measure=>have:=HK1.out;have:=HJ21.out;omega);case rel=>exact ⟨(x10_1),(wrap64 (x11_1 + 1)),(by first|rfl|(simp;done)|(simp [*];done)),H',⟨by have:=HK1.out;have:=HJ21.out;omega⟩,⟨by apply_rules only [HO_10.out,zz,zA,zy]⟩,⟨by apply_rules only [BK101.out,zj,zh,zk]⟩,⟨by apply_rules only [HB.out,zc,zd,zb,zg,GE101.out]⟩⟩
     ·
      rw [if_neg c21] at H;have c21b0:decide (x11_1 < a0_1)=false:=decide_eq_false c21;clear c21;obtain ⟨t108,A54,H⟩:=bindAside H;(try dsimp only at H);obtain ⟨y111,hy111⟩:∃ y_:List Int,y_=(([(-1)]:List Int)):=⟨_,rfl⟩;(replace H:(if t108.length + y111.length < 17592186044416 then ((spec_lcAll.f k1 a0_0 a0_1 l0_2 (t108 ++ y111) a2 a3).bind fun t117=>(if x10_1.length + t117.length < 5864062014805 then (some (x10_1 ++ t117)) else (none))) else (none))=some r:=by first|(rw [hy111];with_reducible exact H)|(have H2_:=(Option.bind_some _ _).symm.trans H;rw [hy111];with_reducible exact H2_)|(have H2_:=(Option.bind_some _ _).symm.trans H;with_reducible exact H2_)|with_reducible exact H|(rw [hy111];exact H)|exact H);have Ny111:=za hy111;clear hy111;by_cases c55:t108.length + y111.length < 17592186044416
      ·
       rw [if_pos c55] at H;have LMc55:=za c55;clear c55;obtain ⟨y114,hy114⟩:∃ y_:List Int,y_=(t108 ++ y111):=⟨_,rfl⟩;(replace H:((spec_lcAll.f k1 a0_0 a0_1 l0_2 y114 a2 a3).bind fun t117=>(if x10_1.length + t117.length < 5864062014805 then (some (x10_1 ++ t117)) else (none)))=some r:=by first|(rw [hy114];with_reducible exact H)|(have H2_:=(Option.bind_some _ _).symm.trans H;rw [hy114];with_reducible exact H2_)|(have H2_:=(Option.bind_some _ _).symm.trans H;with_reducible exact H2_)|with_reducible exact H|(rw [hy114];exact H)|exact H);have Ny114:=za hy114;clear hy114;obtain ⟨t117,A56,H⟩:=bindAside H;(try dsimp only at H);by_cases c57:x10_1.length + t117.length < 5864062014805
       ·
        rw [if_pos c57] at H;have LMc57:=za c57;clear c57;obtain ⟨y120,hy120⟩:∃ y_:List (List Int),y_=(x10_1 ++ t117):=⟨_,rfl⟩;(replace H:(some y120)=some r:=by first|(rw [hy120];with_reducible exact H)|(have H2_:=(Option.bind_some _ _).symm.trans H;rw [hy120];with_reducible exact H2_)|(have H2_:=(Option.bind_some _ _).symm.trans H;with_reducible exact H2_)|with_reducible exact H|(rw [hy120];exact H)|exact H);have Ny120:=za hy120;clear hy120;obtain rfl:=Option.some.inj H;have hcz58_0:wr.cell? ⟨gb101,0,none⟩=some (.int .i64 a0_0):=(ze BK101.out 0).trans rfl;have hcz58_1:wr.cell? ⟨gb101,1,none⟩=some (.int .i64 a0_1):=(ze BK101.out 1).trans rfl;have hcz58_2:wr.cell? ⟨gb101,2,none⟩=some (.slice A0_2 l0_2.length c0_2):=(ze BK101.out 2).trans rfl;have hfz58_0:=zf BK101.out 0;have hfz58_1:=zf BK101.out 1;have hfz58_2:=zf BK101.out 2;obtain ⟨Ao59,co59,eo59⟩:=Kd.N_slice HO_10.out;subst eo59;(try go_wp2);replace HO_10:=za (zy HO_10.out);replace BK101:=za (zh BK101.out);replace HB:=za (zb HB.out);refine start_ (n:=11) (S:=fun w'=>w'.cell? ⟨gb101,0,none⟩=some (.int .i64 a0_0)∧w'.cell? ⟨gb101,1,none⟩=some (.int .i64 a0_1)∧w'.cell? ⟨gb101,2,none⟩=some (.slice A0_2 l0_2.length c0_2)) (ds:=[]) #[false,false,false,false,false,false,false,false,false,false,false] (by kernel_rfl) rfl rfl ⟨(ze BK101.out 0).trans rfl,(ze BK101.out 1).trans rfl,(ze BK101.out 2).trans rfl⟩ (fun hHeld=>?_);refine with_tabW spec_lcAll.tab14 spec_lcAll.bits14 (fun HT_ HW_=>?_);generalize wr.drew=w60 at HO_10 BK101 HB hHeld ⊢;refine pure_ (i:=0) (N:=some 65) (v:=?_) (a':=?_) #[true,false,false,false,false,false,false,false,false,false,false] rfl rfl (any_of HT_.out (by kernel_rfl)) (fun _ _ _ h=>h) (Or.inl ⟨by rfl,?_⟩) ?_ ?_;rotate_left
        · intro w';go_simp;with_reducible rfl
        rotate_left
        · simp only [Act.put,z0_,z1_,z2_,i64_w,i32_w];rfl
        refine pure_ (i:=2) (N:=some 67) (v:=?_) (a':=?_) #[true,false,true,false,false,false,false,false,false,false,false] rfl rfl (any_of HT_.out (by kernel_rfl)) (fun _ _ _ h=>h) (Or.inl ⟨by rfl,?_⟩) ?_ ?_;rotate_left
        · intro w';go_simp;with_reducible rfl
        rotate_left
        · simp only [Act.put,z0_,z1_,z2_,i64_w,i32_w];rfl
        refine pure_ (i:=6) (N:=some 71) (v:=?_) (a':=?_) #[true,false,true,false,false,false,true,false,false,false,false] rfl rfl (any_of HT_.out (by kernel_rfl)) (fun _ _ _ h=>h) (Or.inl ⟨by rfl,?_⟩) ?_ ?_;rotate_left
        · intro w';go_simp;with_reducible rfl
        rotate_left
        · simp only [Act.put,z0_,z1_,z2_,i64_w,i32_w];rfl
        refine pure_ (i:=7) (N:=some 72) (v:=?_) (a':=?_) #[true,false,true,false,false,false,true,true,false,false,false] rfl rfl (any_of HT_.out (by kernel_rfl)) (fun _ _ _ h=>h) (Or.inl ⟨by rfl,?_⟩) ?_ ?_;rotate_left
        · intro w';go_simp;with_reducible rfl
        rotate_left
        · simp only [Act.put,z0_,z1_,z2_,i64_w,i32_w];rfl
        refine take_ (i:=1) (N:=some 66) (v:=?_) (a':=?_) #[true,true,true,false,false,false,true,true,false,false,false] rfl rfl (take_ofW HT_.out HW_.out (by kernel_rfl)) (fun _ _ _ h=>h) (Or.inl ⟨by rfl,?_⟩) hHeld ?_ ?_;rotate_left
        · rintro w' ⟨s0,s1,s2⟩;go_simp;with_reducible rfl
        rotate_left
        · simp only [Act.put,z0_,z1_,z2_,i64_w,i32_w];rfl
        refine join_ (σ:=Value × Value) 4 #[true,true,true,true,true,false,true,true,false,false,false] (fun s_=>[(68,s_.1),(69,s_.2)]) (fun s_ w'=>(w'.cell? ⟨gb101,0,none⟩=some (.int .i64 a0_0)∧w'.cell? ⟨gb101,1,none⟩=some (.int .i64 a0_1)∧w'.cell? ⟨gb101,2,none⟩=some (.slice A0_2 l0_2.length c0_2))∧(Kd.R (Kd.int .i64) 3 w' w.heap.size (fun k_=>(w.heap.size≤k_)∧some k_ ≠ (s_.2:Value).ownBlock) s_.1 t108)∧(Kd.R (Kd.int .i64) 3 w' w.heap.size (fun k_=>(w.heap.size≤k_)∧some k_ ≠ (s_.1:Value).ownBlock) s_.2 y111)∧(Kd.N (Kd.slice 3 (Kd.int .i64)) 24 w' w.heap.size (fun k_=>(w.heap.size≤k_)∧some k_ ≠ (s_.1:Value).ownBlock∧some k_ ≠ (s_.2:Value).ownBlock∧k_ ≠ gb101) (.slice Ao59 x10_1.length co59) x10_1)∧(w'.heap[gb101]?=some (.cells #[.int .i64 a0_0,.int .i64 a0_1,.slice A0_2 l0_2.length c0_2] 26 (0,0)))∧(Below w.heap.size w w')) ?_ ?_;rotate_left
        ·
         intro hCont;refine two_ (i:=3) (j:=4) (Ni:=some 68) (Nj:=some 69) #[true,true,true,true,false,false,true,true,false,false,false] #[true,true,true,false,true,false,true,true,false,false,false] rfl rfl rfl rfl (two_of HT_.out (by kernel_rfl)) (by decide) (by decide) (fun K hK=>?_) (fun K hK=>?_)
         ·
          skip;refine goes_ Tryz.func44 (by kernel_rfl) rfl #[.slice A1 l1.length c1] (by rfl) rfl rfl (by first|rfl|simp only [z3_,z4_,z5_];try rfl) ?_;(with_reducible refine (spec_l1Own.calls _ _ l1 t108 _ ?side1 ?side2 A54.out).mono ?_);(case side1=>apply_rules only [zq HR1.out HB.out,zm,zn,zo]);(case side2=>exact HC1.out);rintro e w61 ⟨v109,rfl,ho0,hb⟩;refine ⟨_,rfl,?_⟩;replace HO_10:=za (Kd.N_elder' (by apply_rules only [HO_10.out,zz,zA,zy]) (Kd.R_base ho0) hb);have HO110:=za (Kd.R_lower (Kd.R_newM (M:=fun k_=>(w.heap.size≤k_)) ho0 (zi (by apply_rules only [HB.out,zc,zd,zb,zg,GE101.out])) (fun k_ h_=>h_)) (zi (by apply_rules only [HB.out,zc,zd,zb,zg,GE101.out])));replace BK101:=za (zp (g:=gb101) (o:=.cells #[.int .i64 a0_0,.int .i64 a0_1,.slice A0_2 l0_2.length c0_2] 26 (0,0)) (by apply_rules only [BK101.out,zj,zh,zk]) hb);replace HB:=za (zl (by apply_rules only [HB.out,zc,zd,zb,zg,GE101.out]) hb);refine hK.out _ _ ⟨(ze BK101.out 0).trans rfl,(ze BK101.out 1).trans rfl,(ze BK101.out 2).trans rfl⟩ (fun hHeld=>?_);clear hK K;refine norm_ (a':=?_) ?_ ?_;rotate_left
          · show Act.put _ (some 68) _=_;simp only [Act.put,z0_,z1_,z2_,i64_w,i32_w];rfl
          refine one_ (i:=4) (N:=some 69) #[true,true,true,true,true,false,true,true,false,false,false] rfl rfl (one_of HT_.out (by kernel_rfl)) (by decide) (fun K hK=>?_);refine Kd.R_lit_step (Kd.int .i64) _ 3 ?hg (N:=69) ?hd (xs:=([(-1)]:List Int)) (inner:=[.int .i64 (-1)]) (ok:=fun _=>True) (okp:=fun _=>True) ?hr ?hp (fun _ hk=>hk) trivial (Below.refl _ _) (Nat.le_refl _) (by simp) ?_;(case hd=>rfl);(case hg=>rfl);(case hr=>first|(go_simp;done)|(go_simp;rfl));(case hp=>exact (Reps.one (show Kd.M (Kd.int .i64) _ _ _ (-1) [.int .i64 (-1)] from rfl) (Reps.none _ _)));intro v112 w62 ho63 hb hg_ hnew_;clear hg_ hnew_;(first|rw [← Ny111.out] at ho63|(simp only [Int.reduceToNat] at ho63;rw [← Ny111.out] at ho63));replace HO_10:=za (Kd.N_elder' (by apply_rules only [HO_10.out,zz,zA,zy]) (Kd.R_base ho63) hb);have HO113:=za (Kd.R_lower (Kd.R_new' (Kd.R_newM (M:=fun k_=>(w.heap.size≤k_)) ho63 (zi (by apply_rules only [HB.out,zc,zd,zb,zg,GE101.out])) (fun k_ h_=>h_)) (Kd.R_lt (by apply_rules only [HO110.out,zs,zt,zr]))) (zi (by apply_rules only [HB.out,zc,zd,zb,zg,GE101.out])));replace HO110:=za (Kd.R_elder' (by apply_rules only [HO110.out,zs,zt,zr]) (Kd.R_base ho63) hb);replace BK101:=za (zp (g:=gb101) (o:=.cells #[.int .i64 a0_0,.int .i64 a0_1,.slice A0_2 l0_2.length c0_2] 26 (0,0)) (by apply_rules only [BK101.out,zj,zh,zk]) hb);replace HB:=za (zl (by apply_rules only [HB.out,zc,zd,zb,zg,GE101.out]) hb);clear hb ho63;refine hK.out _ _ ⟨(ze BK101.out 0).trans rfl,(ze BK101.out 1).trans rfl,(ze BK101.out 2).trans rfl⟩ (fun hHeld=>?_);clear hK K;refine norm_ (a':=?_) ?_ ?_;rotate_left
          · show Act.put _ (some 69) _=_;simp only [Act.put,z0_,z1_,z2_,i64_w,i32_w];rfl
          exact norm_ (by simp only [putAll,Act.put,z0_,z1_,z2_]) (hCont (v109,v112) _ ⟨hHeld,(by (with_reducible repeat (first|apply zs|apply zt|apply zr));exact Kd.R_mono HO110.out (fun _ hk=>⟨hk.1.1,hk.2⟩)),(by (with_reducible repeat (first|apply zs|apply zt|apply zr));exact Kd.R_mono HO113.out (fun _ hk=>⟨hk.1.1,hk.2⟩)),(by (with_reducible repeat (first|apply zz|apply zA|apply zy));exact Kd.N_mono HO_10.out (fun _ hk=>⟨hk.1.1.1,⟨hk.1.2,⟨hk.2,hk.1.1.2⟩⟩⟩)),(by apply_rules only [BK101.out,zj,zh,zk]),(by apply_rules only [HB.out,zc,zd,zb,zg,GE101.out])⟩)
         ·
          skip;refine Kd.R_lit_step (Kd.int .i64) _ 3 ?hg (N:=69) ?hd (xs:=([(-1)]:List Int)) (inner:=[.int .i64 (-1)]) (ok:=fun _=>True) (okp:=fun _=>True) ?hr ?hp (fun _ hk=>hk) trivial (Below.refl _ _) (Nat.le_refl _) (by simp) ?_;(case hd=>rfl);(case hg=>rfl);(case hr=>first|(go_simp;done)|(go_simp;rfl));(case hp=>exact (Reps.one (show Kd.M (Kd.int .i64) _ _ _ (-1) [.int .i64 (-1)] from rfl) (Reps.none _ _)));intro v112 w61 ho62 hb hg_ hnew_;clear hg_ hnew_;(first|rw [← Ny111.out] at ho62|(simp only [Int.reduceToNat] at ho62;rw [← Ny111.out] at ho62));replace HO_10:=za (Kd.N_elder' (by apply_rules only [HO_10.out,zz,zA,zy]) (Kd.R_base ho62) hb);have HO113:=za (Kd.R_lower (Kd.R_newM (M:=fun k_=>(w.heap.size≤k_)) ho62 (zi (by apply_rules only [HB.out,zc,zd,zb,zg,GE101.out])) (fun k_ h_=>h_)) (zi (by apply_rules only [HB.out,zc,zd,zb,zg,GE101.out])));replace BK101:=za (zp (g:=gb101) (o:=.cells #[.int .i64 a0_0,.int .i64 a0_1,.slice A0_2 l0_2.length c0_2] 26 (0,0)) (by apply_rules only [BK101.out,zj,zh,zk]) hb);replace HB:=za (zl (by apply_rules only [HB.out,zc,zd,zb,zg,GE101.out]) hb);clear hb ho62;refine hK.out _ _ ⟨(ze BK101.out 0).trans rfl,(ze BK101.out 1).trans rfl,(ze BK101.out 2).trans rfl⟩ (fun hHeld=>?_);clear hK K;refine norm_ (a':=?_) ?_ ?_;rotate_left
          · show Act.put _ (some 69) _=_;simp only [Act.put,z0_,z1_,z2_,i64_w,i32_w];rfl
          refine one_ (i:=3) (N:=some 68) #[true,true,true,true,true,false,true,true,false,false,false] rfl rfl (one_of HT_.out (by kernel_rfl)) (by decide) (fun K hK=>?_);refine goes_ Tryz.func44 (by kernel_rfl) rfl #[.slice A1 l1.length c1] (by rfl) rfl rfl (by first|rfl|simp only [z3_,z4_,z5_];try rfl) ?_;(with_reducible refine (spec_l1Own.calls _ _ l1 t108 _ ?side1 ?side2 A54.out).mono ?_);(case side1=>apply_rules only [zq HR1.out HB.out,zm,zn,zo]);(case side2=>exact HC1.out);rintro e w63 ⟨v109,rfl,ho0,hb⟩;refine ⟨_,rfl,?_⟩;replace HO_10:=za (Kd.N_elder' (by apply_rules only [HO_10.out,zz,zA,zy]) (Kd.R_base ho0) hb);have HO110:=za (Kd.R_lower (Kd.R_new' (Kd.R_newM (M:=fun k_=>(w.heap.size≤k_)) ho0 (zi (by apply_rules only [HB.out,zc,zd,zb,zg,GE101.out])) (fun k_ h_=>h_)) (Kd.R_lt (by apply_rules only [HO113.out,zs,zt,zr]))) (zi (by apply_rules only [HB.out,zc,zd,zb,zg,GE101.out])));replace HO113:=za (Kd.R_elder' (by apply_rules only [HO113.out,zs,zt,zr]) (Kd.R_base ho0) hb);replace BK101:=za (zp (g:=gb101) (o:=.cells #[.int .i64 a0_0,.int .i64 a0_1,.slice A0_2 l0_2.length c0_2] 26 (0,0)) (by apply_rules only [BK101.out,zj,zh,zk]) hb);replace HB:=za (zl (by apply_rules only [HB.out,zc,zd,zb,zg,GE101.out]) hb);refine hK.out _ _ ⟨(ze BK101.out 0).trans rfl,(ze BK101.out 1).trans rfl,(ze BK101.out 2).trans rfl⟩ (fun hHeld=>?_);clear hK K;refine norm_ (a':=?_) ?_ ?_;rotate_left
          · show Act.put _ (some 68) _=_;simp only [Act.put,z0_,z1_,z2_,i64_w,i32_w];rfl
          exact norm_ (by simp only [putAll,Act.put,z0_,z1_,z2_]) (hCont (v109,v112) _ ⟨hHeld,(by (with_reducible repeat (first|apply zs|apply zt|apply zr));exact Kd.R_mono HO110.out (fun _ hk=>⟨hk.1.1,hk.2⟩)),(by (with_reducible repeat (first|apply zs|apply zt|apply zr));exact Kd.R_mono HO113.out (fun _ hk=>⟨hk.1.1,hk.2⟩)),(by (with_reducible repeat (first|apply zz|apply zA|apply zy));exact Kd.N_mono HO_10.out (fun _ hk=>⟨hk.1.1.1,⟨hk.2,⟨hk.1.2,hk.1.1.2⟩⟩⟩)),(by apply_rules only [BK101.out,zj,zh,zk]),(by apply_rules only [HB.out,zc,zd,zb,zg,GE101.out])⟩)
        rintro ⟨v109,v112⟩ w64 ⟨hS_,h0_,h1_,h2_,h3_,h4_⟩;have n0_:Aside0 (Kd.R (Kd.int .i64) 3 w64 w.heap.size (fun k_=>(w.heap.size≤k_)∧some k_ ≠ (v112:Value).ownBlock) v109 t108):=⟨h0_⟩;have n1_:Aside0 (Kd.R (Kd.int .i64) 3 w64 w.heap.size (fun k_=>(w.heap.size≤k_)∧some k_ ≠ (v109:Value).ownBlock) v112 y111):=⟨h1_⟩;have n2_:Aside0 (Kd.N (Kd.slice 3 (Kd.int .i64)) 24 w64 w.heap.size (fun k_=>(w.heap.size≤k_)∧some k_ ≠ (v109:Value).ownBlock∧some k_ ≠ (v112:Value).ownBlock∧k_ ≠ gb101) (.slice Ao59 x10_1.length co59) x10_1):=⟨h2_⟩;have n3_:Aside0 (w64.heap[gb101]?=some (.cells #[.int .i64 a0_0,.int .i64 a0_1,.slice A0_2 l0_2.length c0_2] 26 (0,0))):=⟨h3_⟩;have n4_:Aside0 (Below w.heap.size w w64):=⟨h4_⟩;clear HO_10 BK101 HB;clear h0_ h1_ h2_ h3_ h4_;have HO110:=n0_;have HO113:=n1_;have HO_10:=n2_;have BK101:=n3_;have HB:=n4_;clear n0_ n1_ n2_ n3_ n4_;have hHeld:w64.cell? ⟨gb101,0,none⟩=some (.int .i64 a0_0)∧w64.cell? ⟨gb101,1,none⟩=some (.int .i64 a0_1)∧w64.cell? ⟨gb101,2,none⟩=some (.slice A0_2 l0_2.length c0_2):=hS_;obtain ⟨Ao66,co66,eo66⟩:=Kd.R_slice HO113.out;(first|subst eo66|(injection eo66 with f1_ f2_ f3_;have f4_:=f1_.symm;have f5_:=f3_.symm;clear f1_ f2_ f3_;subst f4_;subst f5_));refine norm_ (a':=?_) ?_ ?_;rotate_left
        · simp only [putAll,Act.put,z0_,z1_,z2_];rfl
        refine one_ (i:=5) (N:=some 70) #[true,true,true,true,true,true,true,true,false,false,false] rfl rfl (one_of HT_.out (by kernel_rfl)) (by decide) (fun K hK=>?_);refine Kd.R_append_rows_step (Kd.int .i64) (w0:=w) w.heap.size (by rfl) (.tmp 68) (.tmp 69) 24 3 (.int .i64 0) 8 rfl Tryz.underlying24 info3 rfl (by decide) (by omega) v109 t108 y111 _ _ _ (fun k_=>(w.heap.size≤k_)∧some k_ ≠ (.slice Ao66 y111.length co66:Value).ownBlock) (fun _=>False) rfl rfl ?aO ?aR (fun _ _ h=>h) (fun _ h=>h.elim) ?aF ?aB ?aS ?aL ?_;(case aR=>apply_rules only [(Kd.R_reads' HO113.out).2.2,zm,zn,zo]);(case aB=>exact (by apply_rules only [HB.out,zc,zd,zb,zg,GE101.out]));(case aF=>exact (fun k_ hk=>⟨(Nat.le_trans (zi (by apply_rules only [HB.out,zc,zd,zb,zg,GE101.out])) hk),Kd.fresh' (Kd.R_lt (by apply_rules only [HO113.out,zs,zt,zr])) k_ hk⟩));(case aO=>exact (by apply_rules only [HO110.out,zs,zt,zr]));(case aS=>exact (zi (by apply_rules only [HB.out,zc,zd,zb,zg,GE101.out])));(case aL=>have:=LMc55.out;omega);intro v115 w65 ho hb hg hat;rw [← Ny114.out] at ho;replace HO_10:=za (Kd.N_afterv (ok:=(fun k_=>(w.heap.size≤k_)∧some k_ ≠ (.slice Ao66 y111.length co66:Value).ownBlock∧k_ ≠ gb101)) (by (with_reducible repeat (first|apply zz|apply zA|apply zy));exact Kd.N_mono HO_10.out (fun _ hk=>⟨⟨hk.1,⟨hk.2.2.1,hk.2.2.2⟩⟩,hk.2.1⟩)) hg hat);replace BK101:=za (blk_grown (g:=gb101) (o:=.cells #[.int .i64 a0_0,.int .i64 a0_1,.slice A0_2 l0_2.length c0_2] 26 (0,0)) (by apply_rules only [BK101.out,zj,zh,zk]) hg (Kd.R_ne HO110.out BK101.out (by decide)));replace HO113:=za (Kd.R_after (ok:=(fun k_=>(w.heap.size≤k_))) (by apply_rules only [HO113.out,zs,zt,zr]) hg hat);replace HB:=za (hb);have HO116:=za (ho);clear HO110;clear ho hb hg hat;obtain ⟨Ao67,co67,eo67⟩:=Kd.R_slice HO116.out;(first|subst eo67|(injection eo67 with f1_ f2_ f3_;have f4_:=f1_.symm;have f5_:=f3_.symm;clear f1_ f2_ f3_;subst f4_;subst f5_));refine hK.out _ _ ⟨(ze BK101.out 0).trans rfl,(ze BK101.out 1).trans rfl,(ze BK101.out 2).trans rfl⟩ (fun hHeld=>?_);clear hK K;refine norm_ (a':=?_) ?_ ?_;rotate_left
        · show Act.put _ (some 70) _=_;simp only [Act.put,z0_,z1_,z2_,i64_w,i32_w];rfl
        refine one_ (i:=8) (N:=some 73) #[true,true,true,true,true,true,true,true,true,false,false] rfl rfl (one_of HT_.out (by kernel_rfl)) (by decide) (fun K hK=>?_);refine goes_ Tryz.func55 (by kernel_rfl) rfl #[.agg #[.int .i64 a0_0,.int .i64 a0_1,.slice A0_2 l0_2.length c0_2],.slice Ao67 y114.length co67,.int .i64 a2,.int .i64 a3] (by rfl) rfl rfl (by first|rfl|simp only [z3_,z4_,z5_];try rfl) ?_;(with_reducible refine (ih k1 (by have:=HK1.out;omega) a0_0 a0_1 _ _ l0_2 _ _ y114 a2 a3 t117 _ ?side1 ?side2 ?side3 ?side4 A56.out).mono ?_);(case side1=>apply_rules only [zq HR0_2.out HB.out,zm,zn,zo]);(case side2=>exact HC0_2.out);(case side3=>apply_rules only [(Kd.R_reads' HO116.out).2.2,zm,zn,zo]);(case side4=>exact (Kd.R_reads' HO116.out).2.1);rintro e w68 ⟨v118,rfl,ho0,hb⟩;refine ⟨_,rfl,?_⟩;have HO119:=za (Kd.N_lower (Kd.N_mono (ok':=fun k_=>(w.heap.size≤k_)∧some k_ ≠ (.slice Ao59 x10_1.length co59:Value).ownBlock∧some k_ ≠ (.slice Ao66 y111.length co66:Value).ownBlock∧some k_ ≠ (.slice Ao67 y114.length co67:Value).ownBlock∧k_ ≠ gb101) ho0 (fun k_ hk_=>⟨(Nat.le_trans (zi (by apply_rules only [HB.out,zc,zd,zb,zg,GE101.out])) hk_),(Kd.fresh' (Kd.N_lt (by apply_rules only [HO_10.out,zz,zA,zy])) k_ hk_),(Kd.fresh' (Kd.R_lt (by apply_rules only [HO113.out,zs,zt,zr])) k_ hk_),(Kd.fresh' (Kd.R_lt (by apply_rules only [HO116.out,zs,zt,zr])) k_ hk_),(Kd.freshB (g:=gb101) (o:=.cells #[.int .i64 a0_0,.int .i64 a0_1,.slice A0_2 l0_2.length c0_2] 26 (0,0)) (by apply_rules only [BK101.out,zj,zh,zk]) k_ hk_)⟩)) (zi (by apply_rules only [HB.out,zc,zd,zb,zg,GE101.out])));replace HO_10:=za (Kd.N_elder' (by apply_rules only [HO_10.out,zz,zA,zy]) (Kd.N_base ho0) hb);replace HO113:=za (Kd.R_below (by apply_rules only [HO113.out,zs,zt,zr]) hb);replace HO116:=za (Kd.R_below (by apply_rules only [HO116.out,zs,zt,zr]) hb);replace BK101:=za (zp (g:=gb101) (o:=.cells #[.int .i64 a0_0,.int .i64 a0_1,.slice A0_2 l0_2.length c0_2] 26 (0,0)) (by apply_rules only [BK101.out,zj,zh,zk]) hb);replace HB:=za (zl (by apply_rules only [HB.out,zc,zd,zb,zg,GE101.out]) hb);obtain ⟨Ao70,co70,eo70⟩:=Kd.N_slice HO119.out;(first|subst eo70|(injection eo70 with f1_ f2_ f3_;have f4_:=f1_.symm;have f5_:=f3_.symm;clear f1_ f2_ f3_;subst f4_;subst f5_));refine hK.out _ _ ⟨(ze BK101.out 0).trans rfl,(ze BK101.out 1).trans rfl,(ze BK101.out 2).trans rfl⟩ (fun hHeld=>?_);clear hK K;refine norm_ (a':=?_) ?_ ?_;rotate_left
        · show Act.put _ (some 73) _=_;simp only [Act.put,z0_,z1_,z2_,i64_w,i32_w];rfl
        refine one_ (i:=9) (N:=some 74) #[true,true,true,true,true,true,true,true,true,true,false] rfl rfl (one_of HT_.out (by kernel_rfl)) (by decide) (fun K hK=>?_);refine Kd.N_append_rows_step (Kd.slice 3 (Kd.int .i64)) (w0:=w) w.heap.size (by rfl) (.tmp 65) (.tmp 73) 28 24 (.slice none 0 0) 24 rfl Tryz.underlying28 info24 rfl (by decide) (by omega) (.slice Ao59 x10_1.length co59) x10_1 t117 _ _ _ (fun k_=>(w.heap.size≤k_)∧some k_ ≠ (.slice Ao66 y111.length co66:Value).ownBlock∧some k_ ≠ (.slice Ao67 y114.length co67:Value).ownBlock∧k_ ≠ gb101) (fun k_=>((fun k_=>(w.heap.size≤k_)∧some k_ ≠ (.slice Ao66 y111.length co66:Value).ownBlock∧some k_ ≠ (.slice Ao67 y114.length co67:Value).ownBlock∧k_ ≠ gb101)) k_∧some k_ ≠ (.slice Ao59 x10_1.length co59:Value).ownBlock) rfl rfl ?aO ?aR (fun _ hk=>hk) ?aF ?aB ?aS ?aL ?_;(case aR=>exact (by skip;exact Kd.N_F (Kd.N_mono (ok':=(fun k_=>((fun k_=>(w.heap.size≤k_)∧some k_ ≠ (.slice Ao66 y111.length co66:Value).ownBlock∧some k_ ≠ (.slice Ao67 y114.length co67:Value).ownBlock∧k_ ≠ gb101)) k_∧some k_ ≠ (.slice Ao59 x10_1.length co59:Value).ownBlock)) (HO119.out) (fun k_ hk=>⟨⟨hk.1,⟨hk.2.2.1,⟨hk.2.2.2.1,hk.2.2.2.2⟩⟩⟩,hk.2.1⟩))));(case aB=>exact (by apply_rules only [HB.out,zc,zd,zb,zg,GE101.out]));(case aF=>exact (fun k_ hk=>⟨(Nat.le_trans (zi (by apply_rules only [HB.out,zc,zd,zb,zg,GE101.out])) hk),Kd.fresh' (Kd.R_lt (by apply_rules only [HO113.out,zs,zt,zr])) k_ hk,Kd.fresh' (Kd.R_lt (by apply_rules only [HO116.out,zs,zt,zr])) k_ hk,Kd.freshB (g:=gb101) (o:=.cells #[.int .i64 a0_0,.int .i64 a0_1,.slice A0_2 l0_2.length c0_2] 26 (0,0)) (by apply_rules only [BK101.out,zj,zh,zk]) k_ hk⟩));(case aO=>exact (by (with_reducible repeat (first|apply zz|apply zA|apply zy));exact Kd.N_mono HO_10.out (fun _ hk=>⟨hk.1.1.1,⟨hk.1.1.2.1,⟨hk.1.2,hk.1.1.2.2⟩⟩⟩)));(case aS=>exact (zi (by apply_rules only [HB.out,zc,zd,zb,zg,GE101.out])));(case aL=>have:=LMc57.out;omega);intro v121 w69 ho hb hg hat;rw [← Ny120.out] at ho;replace BK101:=za (blk_grown (g:=gb101) (o:=.cells #[.int .i64 a0_0,.int .i64 a0_1,.slice A0_2 l0_2.length c0_2] 26 (0,0)) (by apply_rules only [BK101.out,zj,zh,zk]) hg (Kd.N_ne HO_10.out BK101.out (by decide)));replace HO113:=za (Kd.R_over' (by apply_rules only [HO113.out,zs,zt,zr]) (Kd.N_typed (by apply_rules only [HO_10.out,zz,zA,zy])) (by decide) hg);replace HO116:=za (Kd.R_over' (by apply_rules only [HO116.out,zs,zt,zr]) (Kd.N_typed (by apply_rules only [HO_10.out,zz,zA,zy])) (by decide) hg);replace HO119:=za (Kd.N_afterv (ok:=(fun k_=>(w.heap.size≤k_)∧some k_ ≠ (.slice Ao66 y111.length co66:Value).ownBlock∧some k_ ≠ (.slice Ao67 y114.length co67:Value).ownBlock∧k_ ≠ gb101)) (by (with_reducible repeat (first|apply zz|apply zA|apply zy));exact Kd.N_mono HO119.out (fun _ hk=>⟨⟨hk.1,⟨hk.2.2.1,⟨hk.2.2.2.1,hk.2.2.2.2⟩⟩⟩,hk.2.1⟩)) hg hat);replace HB:=za (hb);have HO122:=za (ho);clear HO_10;clear ho hb hg hat;refine hK.out _ _ ⟨(ze BK101.out 0).trans rfl,(ze BK101.out 1).trans rfl,(ze BK101.out 2).trans rfl⟩ (fun hHeld=>?_);clear hK K;refine norm_ (a':=?_) ?_ ?_;rotate_left
        · show Act.put _ (some 74) _=_;simp only [Act.put,z0_,z1_,z2_,i64_w,i32_w];rfl
        refine pure_ (i:=10) (N:=some 8) (v:=?_) (a':=?_) #[true,true,true,true,true,true,true,true,true,true,true] rfl rfl (any_of HT_.out (by kernel_rfl)) (fun _ _ _ h=>h) (Or.inl ⟨by rfl,?_⟩) ?_ ?_;rotate_left
        · intro w';go_simp;with_reducible rfl
        rotate_left
        · simp only [Act.put,z0_,z1_,z2_,i64_w,i32_w];rfl
        refine done_ (done_of HT_.out (by kernel_rfl)) ?_;(try go_wp2);(go_ret);exact ⟨_,by first|rfl|simp [*,errW_none,errW_some] <;> rfl,by (with_reducible repeat (first|apply zz|apply zA|apply zy));exact Kd.N_mono HO122.out (fun _ hk=>hk.1),by repeat (first|(with_reducible first|exact HB.out|apply zc|apply zd|apply zb|refine zg ?_ GE101.out)|exact HB.out)⟩
       · rw [if_neg c57] at H;exact absurd H (by simp)
      · rw [if_neg c55] at H;exact absurd H (by simp)
def spec_lcLargest.f (k:Nat) (a0_0:Int) (a0_1:Int) (l0_2:List Int):Option ((List (List Int))):=(spec_lcMost.f k a0_0 a0_1 l0_2 0 0).bind fun t102=>((spec_lcAll.f k a0_0 a0_1 l0_2 ([]:List Int) 0 t102).bind fun t103=>(some t103))
set_option maxHeartbeats 8000000 in
set_option maxRecDepth 100000 in
theorem spec_lcLargest.calls (k:Nat) (a0_0:Int) (a0_1:Int) (A0_2:Option Addr) (c0_2:Nat) (l0_2:List Int) (r:List (List Int)) (w:World) (hr0_2:Kd.C (Kd.int .i64) w A0_2 l0_2.length l0_2) (hc0_2:l0_2.length≤c0_2) (h:spec_lcLargest.f k a0_0 a0_1 l0_2=some r) :
  Calls Tryz.prog 27 #[.agg #[.int .i64 a0_0,.int .i64 a0_1,.slice A0_2 l0_2.length c0_2]] w fun e w'=>∃ v0_:Value,e=.returned (v0_)∧Kd.N (Kd.slice 3 (Kd.int .i64)) 24 w' w.heap.size (fun k_=>(w.heap.size≤k_)) v0_ r∧Below w.heap.size w w':=by
 have hu26:=Tryz.underlying26;have HR0_2:=za hr0_2;have HC0_2:=za hc0_2;clear hr0_2 hc0_2;have HB:=za (Below.refl w.heap.size w);have H:((spec_lcMost.f k a0_0 a0_1 l0_2 0 0).bind fun t102=>((spec_lcAll.f k a0_0 a0_1 l0_2 ([]:List Int) 0 t102).bind fun t103=>(some t103)))=some r:=h;clear h;obtain ⟨t102,A2,H⟩:=bindAside H;(try dsimp only at H);obtain ⟨t103,A3,H⟩:=bindAside H;(try dsimp only at H);obtain rfl:=Option.some.inj H;(go_enter Tryz.func27,Tryz.ntmps27);(try go_wp2_with (first|((with_reducible refine zv (N:=1) rfl ?_);refine zw ?hg (N:=1) ?hd (cs:=#[.int .i64 a0_0,.int .i64 a0_1,.slice A0_2 l0_2.length c0_2]) (t:=26) ?hr ?_;(case hd=>rfl);(case hg=>rfl);(case hr=>first|(go_simp;done)|(go_simp;rfl));intro gb101 hg w4 hbox hb;have BK101:=za (hbox);have GW101:=za ((by rw [hg];exact (zi (by apply_rules only [HB.out,zc,zd,zb])):w.heap.size≤gb101));have GE101:=za ((by rw [hg];exact (zi (by apply_rules only [HB.out,zc,zd,zb])):w.heap.size≤gb101));replace HB:=za (zl (by apply_rules only [HB.out,zc,zd,zb]) hb);clear hb hbox hg)));replace BK101:=za (zh BK101.out);replace HB:=za (zb HB.out);refine start_ (n:=5) (S:=fun w'=>w'.cell? ⟨gb101,0,none⟩=some (.int .i64 a0_0)∧w'.cell? ⟨gb101,1,none⟩=some (.int .i64 a0_1)∧w'.cell? ⟨gb101,2,none⟩=some (.slice A0_2 l0_2.length c0_2)) (ds:=[]) #[false,false,false,false,false] (by kernel_rfl) rfl rfl ⟨(ze BK101.out 0).trans rfl,(ze BK101.out 1).trans rfl,(ze BK101.out 2).trans rfl⟩ (fun hHeld=>?_);generalize w4.drew=w5 at BK101 HB hHeld ⊢;refine take_ (i:=0) (N:=some 3) (v:=?_) (a':=?_) #[true,false,false,false,false] rfl rfl (by kernel_rfl) (fun _ _ _ h=>h) (Or.inl ⟨by rfl,?_⟩) hHeld ?_ ?_;rotate_left
 · rintro w' ⟨s0,s1,s2⟩;go_simp;with_reducible rfl
 rotate_left
 · simp only [Act.put,z0_,z1_,z2_,i64_w,i32_w];rfl
 refine take_ (i:=1) (N:=some 4) (v:=?_) (a':=?_) #[true,true,false,false,false] rfl rfl (by kernel_rfl) (fun _ _ _ h=>h) (Or.inl ⟨by rfl,?_⟩) hHeld ?_ ?_;rotate_left
 · rintro w' ⟨s0,s1,s2⟩;go_simp;with_reducible rfl
 rotate_left
 · simp only [Act.put,z0_,z1_,z2_,i64_w,i32_w];rfl
 refine one_ (i:=2) (N:=some 5) #[true,true,true,false,false] rfl rfl (by kernel_rfl) (by decide) (fun K hK=>?_);refine goes_ Tryz.func56 (by kernel_rfl) rfl #[.agg #[.int .i64 a0_0,.int .i64 a0_1,.slice A0_2 l0_2.length c0_2],.int .i64 0,.int .i64 0] (by rfl) rfl rfl (by first|rfl|simp only [z3_,z4_,z5_];try rfl) ?_;(with_reducible refine (spec_lcMost.calls k a0_0 a0_1 _ _ l0_2 0 0 t102 _ ?side1 ?side2 A2.out).mono ?_);(case side1=>apply_rules only [zq HR0_2.out HB.out,zm,zn,zo]);(case side2=>exact HC0_2.out);rintro e w6 ⟨rfl,hb⟩;refine ⟨_,rfl,?_⟩;replace BK101:=za (zp (g:=gb101) (o:=.cells #[.int .i64 a0_0,.int .i64 a0_1,.slice A0_2 l0_2.length c0_2] 26 (0,0)) (by apply_rules only [BK101.out,zj,zh,zk]) hb);replace HB:=za (zl (by apply_rules only [HB.out,zc,zd,zb,zg,GE101.out]) hb);refine hK.out _ _ ⟨(ze BK101.out 0).trans rfl,(ze BK101.out 1).trans rfl,(ze BK101.out 2).trans rfl⟩ (fun hHeld=>?_);clear hK K;refine norm_ (a':=?_) ?_ ?_;rotate_left
 · show Act.put _ (some 5) _=_;simp only [Act.put,z0_,z1_,z2_,i64_w,i32_w];rfl
 refine one_ (i:=3) (N:=some 6) #[true,true,true,true,false] rfl rfl (by kernel_rfl) (by decide) (fun K hK=>?_);refine goes_ Tryz.func55 (by kernel_rfl) rfl #[.agg #[.int .i64 a0_0,.int .i64 a0_1,.slice A0_2 l0_2.length c0_2],.slice none 0 0,.int .i64 0,.int .i64 t102] (by rfl) rfl rfl (by first|rfl|simp only [z3_,z4_,z5_];try rfl) ?_;refine (spec_lcAll.calls k a0_0 a0_1 _ _ l0_2 _ _ ([]:List Int) 0 t102 t103 _ ?side1 ?side2 ?side3 ?side4 A3.out).mono ?_;(case side1=>apply_rules only [zq HR0_2.out HB.out,zm,zn,zo]);(case side2=>exact HC0_2.out);(case side3=>exact Kd.C_nil _ _);(case side4=>exact Nat.le_refl _);rintro e w7 ⟨v104,rfl,ho0,hb⟩;refine ⟨_,rfl,?_⟩;have HO105:=za (Kd.N_lower (Kd.N_mono (ok':=fun k_=>(w.heap.size≤k_)∧k_ ≠ gb101) ho0 (fun k_ hk_=>⟨(Nat.le_trans (zi (by apply_rules only [HB.out,zc,zd,zb,zg,GE101.out])) hk_),(Kd.freshB (g:=gb101) (o:=.cells #[.int .i64 a0_0,.int .i64 a0_1,.slice A0_2 l0_2.length c0_2] 26 (0,0)) (by apply_rules only [BK101.out,zj,zh,zk]) k_ hk_)⟩)) (zi (by apply_rules only [HB.out,zc,zd,zb,zg,GE101.out])));replace BK101:=za (zp (g:=gb101) (o:=.cells #[.int .i64 a0_0,.int .i64 a0_1,.slice A0_2 l0_2.length c0_2] 26 (0,0)) (by apply_rules only [BK101.out,zj,zh,zk]) hb);replace HB:=za (zl (by apply_rules only [HB.out,zc,zd,zb,zg,GE101.out]) hb);refine hK.out _ _ ⟨(ze BK101.out 0).trans rfl,(ze BK101.out 1).trans rfl,(ze BK101.out 2).trans rfl⟩ (fun hHeld=>?_);clear hK K;refine norm_ (a':=?_) ?_ ?_;rotate_left
 · show Act.put _ (some 6) _=_;simp only [Act.put,z0_,z1_,z2_,i64_w,i32_w];rfl
 refine pure_ (i:=4) (N:=some 2) (v:=?_) (a':=?_) #[true,true,true,true,true] rfl rfl (by kernel_rfl) (fun _ _ _ h=>h) (Or.inl ⟨by rfl,?_⟩) ?_ ?_;rotate_left
 · intro w';go_simp;with_reducible rfl
 rotate_left
 · simp only [Act.put,z0_,z1_,z2_,i64_w,i32_w];rfl
 refine done_ (by kernel_rfl) ?_;(try go_wp2);(go_ret);exact ⟨_,by first|rfl|simp [*,errW_none,errW_some] <;> rfl,by (with_reducible repeat (first|apply zz|apply zA|apply zy));exact Kd.N_mono HO105.out (fun _ hk=>hk.1),by repeat (first|(with_reducible first|exact HB.out|apply zc|apply zd|apply zb|refine zg ?_ GE101.out)|exact HB.out)⟩
end Go.Proofs.YtpjjeeabpaojnaaGreat.Q
end
section
namespace Go.Proofs.YtpjjeeabpaojnaaGreat.AllK
set_option linter.unusedVariables false
open Go.RowKit Go.Proofs.YtpjjeeabpaojnaaGreat.Q Go.Proofs.YtpjjeeabpaojnaaGreatW.PrintWords Go.Proofs.YtpjjeeabpaojnaaGreatW.PrintLast Go.Proofs.YtpjjeeabpaojnaaGreatW.PrintMore
open Go.Proofs.YtpjjeeabpaojnaaGreatL Go.Proofs.YtpjjeeabpaojnaaGreat.LawK Go.Proofs.YtpjjeeabpaojnaaGreat.BoardK Go.Proofs.YtpjjeeabpaojnaaGreat.LinesK Go.Proofs.YtpjjeeabpaojnaaGreat.Koenig Go.Proofs.YtpjjeeabpaojnaaGreat.Walk Go.Proofs.YtpjjeeabpaojnaaGreat.MostK
theorem l1Own {x:List Int} (h:x.length≤1000):spec_l1Own.f x=some x:=by
 unfold spec_l1Own.f
 rw [Option.bind_some,List.length_nil,if_pos (by omega),List.nil_append]
theorem all_len {l:List Int} {C:Nat} (hC:C≤6) {d:Nat} (hd:d≤6) (r t:Nat) (pre:List Int) (m:Nat):(allS l C d r t pre m).length≤117649:=by
 have h0:=(all_perm (l:=l) hC d r t pre m).length_eq
 have h00:=List.length_filter_le (fun p=>decide (rooksN p=rooksN pre + m)) (waysFrom l C d r t pre)
 have h1:=ways_len l C d r t pre
 have h2:(C + 1) ^ d≤7 ^ 6:=Nat.le_trans (Nat.pow_le_pow_left (by omega) _) (Nat.pow_le_pow_right (by decide) hd)
 have h3:(7:Nat) ^ 6=117649:=by decide
 omega
theorem lcAll_l0 {l:List Int} {R C:Nat} (hlR:l.length=R) (hR:R≤6) (hC:C≤6) (hb:∀ i (hi:i < l.length),0≤l[i]∧l[i] < 64) (r used m d:Nat) (pre:List Int) (hpl:pre.length=r) (hr:r + (d + 1)=R) (hu:used < 64) (hm:m≤6)
  (ih:∀ (pre:List Int) (used m:Nat),pre.length=r + 1→used < 64→m≤6→Ev (fun k=>spec_lcAll.f k R C l pre used m) (allS l C d (r + 1) used pre m)) :
  ∀ (e c:Nat) (acc:List (List Int)),c + e=C→(acc ++ ((List.range' c e).flatMap (fun c=>if (cell l r c && !used.testBit c && decide (m > 0))=true then allS l C d (r + 1) (used ||| 2 ^ c) (pre ++ [(c:Int)]) (m - 1) else []) ++ allS l C d (r + 1) used (pre ++ [-1]) m)).length≤200000→Ev (fun k=>spec_lcAll.l0 k pre used m r acc c R C l) (acc ++ ((List.range' c e).flatMap (fun c=>if (cell l r c && !used.testBit c && decide (m > 0))=true then allS l C d (r + 1) (used ||| 2 ^ c) (pre ++ [(c:Int)]) (m - 1) else []) ++ allS l C d (r + 1) used (pre ++ [-1]) m))
|0,c,acc,hc,ha=>by
  have ha1:=ha
  simp only [List.length_append] at ha1
  refine Ev.step (f:=fun k=>(spec_lcAll.f k R C l (pre ++ [-1]) used m).bind fun t=>if acc.length + t.length < 5864062014805 then some (acc ++ t) else none) (fun k=>?_) ?_
  ·
   rw [spec_lcAll.l0,if_neg (by omega),l1Own (by omega),Option.bind_some,Option.bind_some,if_pos (by rw [List.length_singleton];omega)]
  ·
   refine Ev.bind (ih (pre ++ [-1]) used m (by rw [List.length_append,List.length_singleton];omega) hu hm) ?_
   refine Ev.congr (fun k=>if_pos (by omega)) (evEq (Ev.now _) ?_)
   rw [List.range'_zero,List.flatMap_nil,List.nil_append]
|e + 1,c,acc,hc,ha=>by
  have w1:=Aside0.mk (show wrap64 ((c:Int) + 1)=((c + 1:Nat):Int) from by rw [w64 (by omega) (by omega)];rfl)
  have hrl:r < l.length:=by omega
  have hu2:used ||| 2 ^ c < 64:=Nat.or_lt_two_pow (n:=6) hu (Nat.pow_lt_pow_right (by decide) (by omega))
  have hc1:c + 1 + e=C:=by omega
  rw [List.range'_succ,List.flatMap_cons] at ha ⊢
  by_cases hg:(cell l r c && !used.testBit c && decide (m > 0))=true
  ·
   rw [if_pos hg] at ha ⊢
   have ha1:=ha
   simp only [List.length_append] at ha1
   rw [Bool.and_eq_true,Bool.and_eq_true] at hg
   have hbit:¬ used.testBit c=true:=by have:=hg.1.2;simpa using this
   have hm0:=of_decide_eq_true hg.2
   have w2:=Aside0.mk (show wrap64 ((m:Int) - 1)=((m - 1:Nat):Int) from by rw [w64 (by omega) (by omega)];omega)
   have ihe:=lcAll_l0 hlR hR hC hb r used m d pre hpl hr hu hm ih e (c + 1) (acc ++ allS l C d (r + 1) (used ||| 2 ^ c) (pre ++ [(c:Int)]) (m - 1)) hc1 (by simp only [List.length_append];omega)
   refine Ev.step (f:=fun k=>spec_lcAll.j1 k pre used m r acc c true R C l) (fun k=>?_) ?_
   ·
    rw [spec_lcAll.l0,if_pos (by omega),boHas_f (R:Int) (C:Int) hrl (hb r hrl).1 (hb r hrl).2 (by omega),Option.bind_some,if_pos hg.1.1,if_pos (by omega),bit_mod _ _ (by omega),if_neg hbit,if_pos rfl,decide_eq_true (by omega)]
   ·
    refine Ev.step (f:=fun k=>(spec_lcAll.f k R C l (pre ++ [(c:Int)]) ((used ||| 2 ^ c:Nat):Int) ((m - 1:Nat):Int)).bind fun t=>if acc.length + t.length < 5864062014805 then spec_lcAll.l0 k pre used m r (acc ++ t) ((c + 1:Nat):Int) R C l else none) (fun k=>?_) ?_
    ·
     rw [spec_lcAll.j1,if_pos rfl,l1Own (by omega),Option.bind_some,Option.bind_some,if_pos (by rw [List.length_singleton];omega),if_pos (by omega),w1.out,w2.out,shl_one c (by omega),or_nat _ _ (by omega) (by have:2 ^ c < 2 ^ 6:=Nat.pow_lt_pow_right (by decide) (by omega);omega)]
    ·
     refine Ev.bind (ih _ _ _ (by rw [List.length_append,List.length_singleton];omega) hu2 (by omega)) ?_
     refine Ev.congr (fun k=>if_pos (by omega)) (evEq ihe ?_)
     simp only [List.append_assoc]
  ·
   rw [if_neg hg,List.nil_append] at ha ⊢
   have ihe:=lcAll_l0 hlR hR hC hb r used m d pre hpl hr hu hm ih e (c + 1) acc hc1 ha
   refine Ev.step (f:=fun k=>spec_lcAll.j1 k pre used m r acc c false R C l) (fun k=>?_) ?_
   ·
    rw [spec_lcAll.l0,if_pos (by omega),boHas_f (R:Int) (C:Int) hrl (hb r hrl).1 (hb r hrl).2 (by omega),Option.bind_some]
    by_cases hcell:cell l r c=true
    ·
     rw [if_pos hcell,if_pos (by omega),bit_mod _ _ (by omega)]
     by_cases hbit:used.testBit c=true
     ·
      rw [if_pos hbit,if_neg (by omega)]
     ·
      have hm0:¬ m > 0:=fun h=>hg (by rw [hcell,Bool.eq_false_iff.2 hbit,decide_eq_true h];rfl)
      rw [if_neg hbit,if_pos rfl,decide_eq_false (by omega)]
    ·
     rw [if_neg hcell]
   ·
    refine Ev.step (fun k=>?_) ihe
    rw [spec_lcAll.j1,if_neg (by simp),w1.out]
theorem lcAll_f {l:List Int} {R C:Nat} (hlR:l.length=R) (hR:R≤6) (hC:C≤6) (hb:∀ i (hi:i < l.length),0≤l[i]∧l[i] < 64):∀ (d r used m:Nat) (pre:List Int),r + d=R→pre.length=r→used < 64→m≤6→Ev (fun k=>spec_lcAll.f k R C l pre used m) (allS l C d r used pre m)
|0,r,used,m,pre,hr,hp,hu,hm=>by
  rw [allS]
  by_cases h:m > 0
  ·
   rw [if_pos h]
   refine Ev.step (f:=fun _=>some []) (fun k=>?_) (Ev.now _)
   rw [spec_lcAll.f,w64 (by omega) (by omega),if_pos (by omega)]
  ·
   rw [if_neg h]
   refine Ev.step (f:=fun _=>some [pre]) (fun k=>?_) (Ev.now _)
   rw [spec_lcAll.f,w64 (by omega) (by omega),if_neg (by omega),if_pos (by omega),if_neg (by omega),l1Own (by omega),Option.bind_some]
|d + 1,r,used,m,pre,hr,hp,hu,hm=>by
  rw [allS]
  by_cases h:m > d + 1
  ·
   rw [if_pos h]
   refine Ev.step (f:=fun _=>some []) (fun k=>?_) (Ev.now _)
   rw [spec_lcAll.f,w64 (by omega) (by omega),if_pos (by omega)]
  ·
   rw [if_neg h]
   refine Ev.step (f:=fun k=>spec_lcAll.l0 k pre used m r [] 0 R C l) (fun k=>?_) ?_
   ·
    rw [spec_lcAll.f,w64 (by omega) (by omega),if_neg (by omega),if_neg (by omega),hp]
   ·
    have hal:=all_len (l:=l) hC (show d + 1≤6 by omega) r used pre m
    rw [allS,if_neg h] at hal
    have:=lcAll_l0 hlR hR hC hb r used m d pre hp hr hu hm (fun pre' used' m' hp' hu' hm'=>lcAll_f hlR hR hC hb d (r + 1) used' m' pre' (by omega) hp' hu' hm') C 0 [] (by omega) (by rw [List.nil_append];exact Nat.le_trans hal (by decide))
    rw [List.nil_append] at this
    exact this
theorem lcLargest {l:List Int} {R C:Nat} (hlR:l.length=R) (hR:R≤6) (hC:C≤6) (hb:∀ i (hi:i < l.length),0≤l[i]∧l[i] < 64):Ev (fun k=>spec_lcLargest.f k R C l) (largestS l C R):=by
 unfold spec_lcLargest.f
 have hm:=mostN_le l C R 0 0
 refine Ev.bind (lcMost hlR hR hC hb) ?_
 exact Ev.bind (lcAll_f hlR hR hC hb R 0 0 _ [] (by omega) rfl (by decide) (by omega)) (Ev.now _)
end Go.Proofs.YtpjjeeabpaojnaaGreat.AllK
end
section
namespace Go.Proofs.YtpjjeeabpaojnaaGreat.Q
open Go.RowKit Go.Proofs.YtpjjeeabpaojnaaGreatW.PrintWords Go.Proofs.YtpjjeeabpaojnaaGreatW.PrintLast Go.Proofs.YtpjjeeabpaojnaaGreatW.PrintMore
attribute [local go_sem] max2_int min2_int max_two min_two max_three min_three max_four min_four   -- for this text's walks alone
set_option linter.unusedVariables false
set_option linter.unusedSimpArgs false
def impl_behind_1.f (a0:Int):Option (Int):=if a0=(-1) then (some 6) else (some a0)
set_option maxHeartbeats 8000000 in
set_option maxRecDepth 100000 in
theorem impl_behind_1.calls (a0:Int) (r:Int) (w:World) (h:impl_behind_1.f a0=some r) :
  Calls Tryz.prog 78 #[.int .i64 a0] w fun e w'=>e=.returned (.int .i64 r)∧Drawn0 w w':=by
 have H:(if a0=(-1) then (some 6) else (some a0))=some r:=h;clear h;by_cases c2:a0=(-1)
 · rw [if_pos c2] at H;have c2b0:(a0 == (-1))=true:=beq_iff_eq.mpr c2;have c2b1:(a0 != (-1))=false:=bne_eq_false_iff_eq.mpr c2;clear c2;obtain rfl:=Option.some.inj H;(go_enter Tryz.func78,Tryz.ntmps78);(go_wp2);(go_ret);exact ⟨by first|rfl|(simp;done)|(simp [*];done),by apply_rules only [Drawn0.refl _,Drawn0.step]⟩
 · rw [if_neg c2] at H;have c2b0:(a0 == (-1))=false:=beq_eq_false_iff_ne.mpr c2;have c2b1:(a0 != (-1))=true:=bne_iff_ne.mpr c2;obtain rfl:=Option.some.inj H;(go_enter Tryz.func78,Tryz.ntmps78);(go_wp2);(go_ret);exact ⟨by first|rfl|(simp;done)|(simp [*];done),by apply_rules only [Drawn0.refl _,Drawn0.step]⟩
def impl_behind.l0:Nat→List Int→List Int→Int→Int→Option (Int)
|0,_,_,_,_=>none
|k + 1,x0,x1,x8,x9=>if x9 < x8 then (if 0≤x9 then (if x9 < (x0.length:Int) then (if x9 < (x1.length:Int) then (if (rd x0 x9)=(rd x1 x9) then (impl_behind.l0 k x0 x1 x8 (wrap64 (x9 + 1))) else ((impl_behind_1.f (rd x0 x9)).bind fun t104=>((impl_behind_1.f (rd x1 x9)).bind fun t106=>(some (wrap64 (t104 - t106)))))) else (none)) else (none)) else (none)) else (some 0)
def impl_behind.f (k:Nat) (l0:List Int) (l1:List Int):Option (Int):=impl_behind.l0 k l0 l1 (l0.length:Int) 0
set_option maxHeartbeats 8000000 in
set_option maxRecDepth 100000 in
theorem impl_behind.calls (k:Nat) (A0:Option Addr) (c0:Nat) (l0:List Int) (A1:Option Addr) (c1:Nat) (l1:List Int) (r:Int) (w:World) (hr0:Kd.C (Kd.int .i64) w A0 l0.length l0) (hc0:l0.length≤c0) (hr1:Kd.C (Kd.int .i64) w A1 l1.length l1) (hc1:l1.length≤c1) (h:impl_behind.f k l0 l1=some r) :
  Calls Tryz.prog 52 #[.slice A0 l0.length c0,.slice A1 l1.length c1] w fun e w'=>e=.returned (.int .i64 r)∧Drawn0 w w':=by
 have HR0:=za hr0;have HC0:=za hc0;clear hr0 hc0;have HR1:=za hr1;have HC1:=za hc1;clear hr1 hc1;have H:(impl_behind.l0 k l0 l1 (l0.length:Int) 0)=some r:=h;clear h;have H':=za H;clear H;(go_enter Tryz.func52,Tryz.ntmps52);(go_wp2);(repeat (go_quiet (fail);try go_wp2));(go_loopg [9] k (fun kq v9 w'=>∃ (x9_1:Int),v9=.int .i64 x9_1∧Aside0 (impl_behind.l0 kq l0 l1 (l0.length:Int) x9_1=some r)∧Aside0 (kq≤k)∧Drawn0 w w'));case atStart=>exact ⟨(0),(by first|rfl|(simp;done)|(simp [*];done)),H',⟨Nat.le_refl _⟩,by apply_rules only [Drawn0.refl _,Drawn0.step]⟩
 case round =>
  clear H';(try clear c1);(try clear p2);obtain ⟨x9_1,rfl,HA,HK1,⟨m1,rfl⟩⟩:=hrel
  cases gk with
 |zero=>exact absurd HA.out (by simp [impl_behind.l0])
 |succ k1 =>
   have H:=HA.out;clear HA;simp only [impl_behind.l0] at H;by_cases c3:x9_1 < (l0.length:Int)
   ·
    rw [if_pos c3] at H;have c3b0:decide (x9_1 < (l0.length:Int))=true:=decide_eq_true c3;clear c3;by_cases c4:0≤x9_1
    ·
     rw [if_pos c4] at H;have c4b0:decide (0≤x9_1)=true:=decide_eq_true c4;clear c4;by_cases c5:x9_1 < (l0.length:Int)
     ·
      rw [if_pos c5] at H;have c5b0:decide (x9_1 < (l0.length:Int))=true:=decide_eq_true c5;clear c5;by_cases c6:x9_1 < (l1.length:Int)
      ·
       rw [if_pos c6] at H;have c6b0:decide (x9_1 < (l1.length:Int))=true:=decide_eq_true c6;clear c6;by_cases c7:(rd l0 x9_1)=(rd l1 x9_1)
       · rw [if_pos c7] at H;have c7b0:((rd l0 x9_1) == (rd l1 x9_1))=true:=beq_iff_eq.mpr c7;have c7b1:((rd l0 x9_1) != (rd l1 x9_1))=false:=bne_eq_false_iff_eq.mpr c7;clear c7;have H':=za H;clear H;have p101:0≤(x9_1:Int):=of_decide_eq_true ‹_›;have q101:x9_1 < (l0.length:Int):=of_decide_eq_true ‹_›;obtain ⟨ad101,e101,hx101_0⟩:=zx HR0.out x9_1 p101 q101;cases e101;replace p101:=eq_true p101;replace q101:=eq_true q101;have p102:0≤(x9_1:Int):=of_decide_eq_true ‹_›;have q102:x9_1 < (l1.length:Int):=of_decide_eq_true ‹_›;obtain ⟨ad102,e102,hx102_0⟩:=zx HR1.out x9_1 p102 q102;cases e102;replace p102:=eq_true p102;replace q102:=eq_true q102;(go_wp2);(repeat (go_quiet (fail);try go_wp2));(go_roundg k1);(case measure=>have:=HK1.out;omega);case rel=>exact ⟨(wrap64 (x9_1 + 1)),(by first|rfl|(simp;done)|(simp [*];done)),H',⟨by have:=HK1.out;omega⟩,by apply_rules only [Drawn0.refl _,Drawn0.step]⟩
       · rw [if_neg c7] at H;have c7b0:((rd l0 x9_1) == (rd l1 x9_1))=false:=beq_eq_false_iff_ne.mpr c7;have c7b1:((rd l0 x9_1) != (rd l1 x9_1))=true:=bne_iff_ne.mpr c7;obtain ⟨t104,A8,H⟩:=bindAside H;(try dsimp only at H);obtain ⟨t106,A9,H⟩:=bindAside H;(try dsimp only at H);obtain rfl:=Option.some.inj H;have p101:0≤(x9_1:Int):=of_decide_eq_true ‹_›;have q101:x9_1 < (l0.length:Int):=of_decide_eq_true ‹_›;obtain ⟨ad101,e101,hx101_0⟩:=zx HR0.out x9_1 p101 q101;cases e101;replace p101:=eq_true p101;replace q101:=eq_true q101;have p102:0≤(x9_1:Int):=of_decide_eq_true ‹_›;have q102:x9_1 < (l1.length:Int):=of_decide_eq_true ‹_›;obtain ⟨ad102,e102,hx102_0⟩:=zx HR1.out x9_1 p102 q102;cases e102;replace p102:=eq_true p102;replace q102:=eq_true q102;have p103:0≤(x9_1:Int):=of_decide_eq_true ‹_›;have q103:x9_1 < (l0.length:Int):=of_decide_eq_true ‹_›;obtain ⟨ad103,e103,hx103_0⟩:=zx HR0.out x9_1 p103 q103;obtain rfl:ad101=ad103:=(by injection e103);replace p103:=eq_true p103;replace q103:=eq_true q103;(go_wp2_with (first|(go_at_call 78;(with_reducible refine (impl_behind_1.calls (rd l0 x9_1) t104 _ A8.out).mono ?_);rintro e w' ⟨rfl,⟨nd,rfl⟩⟩;(try first|exact ⟨rfl,_,World.drewN_drewN _ _ _⟩|exact ⟨rfl,_,Eq.trans (World.drewN_drewN _ _ _) (congrArg (World.drewN _) (Nat.add_assoc _ _ _))⟩);have p105:0≤(x9_1:Int):=of_decide_eq_true ‹_›;have q105:x9_1 < (l1.length:Int):=of_decide_eq_true ‹_›;obtain ⟨ad105,e105,hx105_0⟩:=zx HR1.out x9_1 p105 q105;obtain rfl:ad102=ad105:=(by injection e105);replace p105:=eq_true p105;replace q105:=eq_true q105)|(go_at_call 78;(with_reducible refine (impl_behind_1.calls (rd l1 x9_1) t106 _ A9.out).mono ?_);rintro e w' ⟨rfl,⟨nd,rfl⟩⟩;(try first|exact ⟨rfl,_,World.drewN_drewN _ _ _⟩|exact ⟨rfl,_,Eq.trans (World.drewN_drewN _ _ _) (congrArg (World.drewN _) (Nat.add_assoc _ _ _))⟩))));(repeat (go_quiet (first|(go_at_call 78;(with_reducible refine (impl_behind_1.calls (rd l0 x9_1) t104 _ A8.out).mono ?_);rintro e w' ⟨rfl,⟨nd,rfl⟩⟩;(try first|exact ⟨rfl,_,World.drewN_drewN _ _ _⟩|exact ⟨rfl,_,Eq.trans (World.drewN_drewN _ _ _) (congrArg (World.drewN _) (Nat.add_assoc _ _ _))⟩);have p105:0≤(x9_1:Int):=of_decide_eq_true ‹_›;have q105:x9_1 < (l1.length:Int):=of_decide_eq_true ‹_›;obtain ⟨ad105,e105,hx105_0⟩:=zx HR1.out x9_1 p105 q105;obtain rfl:ad102=ad105:=(by injection e105);replace p105:=eq_true p105;replace q105:=eq_true q105)|(go_at_call 78;(with_reducible refine (impl_behind_1.calls (rd l1 x9_1) t106 _ A9.out).mono ?_);rintro e w' ⟨rfl,⟨nd,rfl⟩⟩;(try first|exact ⟨rfl,_,World.drewN_drewN _ _ _⟩|exact ⟨rfl,_,Eq.trans (World.drewN_drewN _ _ _) (congrArg (World.drewN _) (Nat.add_assoc _ _ _))⟩)));try go_wp2_with (first|(go_at_call 78;(with_reducible refine (impl_behind_1.calls (rd l0 x9_1) t104 _ A8.out).mono ?_);rintro e w' ⟨rfl,⟨nd,rfl⟩⟩;(try first|exact ⟨rfl,_,World.drewN_drewN _ _ _⟩|exact ⟨rfl,_,Eq.trans (World.drewN_drewN _ _ _) (congrArg (World.drewN _) (Nat.add_assoc _ _ _))⟩);have p105:0≤(x9_1:Int):=of_decide_eq_true ‹_›;have q105:x9_1 < (l1.length:Int):=of_decide_eq_true ‹_›;obtain ⟨ad105,e105,hx105_0⟩:=zx HR1.out x9_1 p105 q105;obtain rfl:ad102=ad105:=(by injection e105);replace p105:=eq_true p105;replace q105:=eq_true q105)|(go_at_call 78;(with_reducible refine (impl_behind_1.calls (rd l1 x9_1) t106 _ A9.out).mono ?_);rintro e w' ⟨rfl,⟨nd,rfl⟩⟩;(try first|exact ⟨rfl,_,World.drewN_drewN _ _ _⟩|exact ⟨rfl,_,Eq.trans (World.drewN_drewN _ _ _) (congrArg (World.drewN _) (Nat.add_assoc _ _ _))⟩)))));(go_ret);exact ⟨by first|rfl|(simp;done)|(simp [*];done)|(simp;rw [IntKind.wrap_i64];unfold wrap64;rfl),by apply_rules only [Drawn0.refl _,Drawn0.step]⟩
      · rw [if_neg c6] at H;exact absurd H (by simp)
     · rw [if_neg c5] at H;exact absurd H (by simp)
    · rw [if_neg c4] at H;exact absurd H (by simp)
   · rw [if_neg c3] at H;have c3b0:decide (x9_1 < (l0.length:Int))=false:=decide_eq_false c3;clear c3;obtain rfl:=Option.some.inj H;(go_wp2);(repeat (go_quiet (fail);try go_wp2));(go_ret);exact ⟨by first|rfl|(simp;done)|(simp [*];done)|(simp;rw [IntKind.wrap_i64];unfold wrap64;rfl),by apply_rules only [Drawn0.refl _,Drawn0.step]⟩
end Go.Proofs.YtpjjeeabpaojnaaGreat.Q
end
section
namespace Go.Proofs.YtpjjeeabpaojnaaGreat.WalkWith
set_option linter.unusedVariables false
open Go.RowKit Go.Proofs.YtpjjeeabpaojnaaGreatW.PrintWords Go.Proofs.YtpjjeeabpaojnaaGreatW.PrintLast Go.Proofs.YtpjjeeabpaojnaaGreatW.PrintMore
open Go.Proofs.YtpjjeeabpaojnaaGreatL Go.Proofs.YtpjjeeabpaojnaaGreat.LawK Go.Proofs.YtpjjeeabpaojnaaGreat.BoardK Go.Proofs.YtpjjeeabpaojnaaGreat.Walk Go.Proofs.YtpjjeeabpaojnaaGreat.Q
theorem run_store_func {P:Program} {w:World} {a:Addr} {m:Mode} (f:Fn) (xs:Array Value) (ys:Array Value):(store a (.func f xs ys) m).run P w=stored P w a (.func f xs ys) m:=run_store P w a _ m rfl
attribute [local go_sem] run_store_func
section
variable (k : Blks) (hk : k.Apart) (Inv : List (List Int) → World → Prop) (hI : ∀ vis w w', Inv vis w → Still k.has w w' → Inv vis w') (R C : Nat) (RI CI : Int) (hRI : RI = R) (hCI : CI = C) (l : List Int) (A0 : Option Addr) (c0 cp : Nat) (hc0 : l.length ≤ c0) (cc1 cc2 : Value)
  (hL : ∀ vis w, Inv vis w → Kd.C (Kd.int .i64) w A0 l.length l)
  (hl : l.length = R) (hR : R ≤ 6) (hC : C ≤ 6) (hb : ∀ i (hi : i < l.length), 0 ≤ l[i] ∧ l[i] < 2 ^ C)
  (P : List (List Int) → List Int → Prop) (hdo : ∀ vis ps w, ps.length = R → P vis ps → WSt k Inv RI CI R cp l A0 c0 (.func (.func 75) #[] #[cc1, cc2]) vis ps w →
    Calls Tryz.prog 75 #[.slice (some ⟨k.a, 0, none⟩) R cp, cc1, cc2] w fun e w' => e = .returned (.bool true) ∧ WSt k Inv RI CI R cp l A0 c0 (.func (.func 75) #[] #[cc1, cc2]) (vis ++ [ps]) ps w')
include hk hI hRI hCI hc0 hL hl hR hC hb hdo
set_option maxHeartbeats 4000000 in
set_option maxRecDepth 100000 in
theorem row_calls:∀ (d r t:Nat) (rI tI:Int),rI=r→tI=t→r + d=R→t < 64→∀ vis ps w,ps.length=R→(∀ a q b,waysFrom l C d r t (ps.take r)=a ++ q :: b→P (vis ++ a) q)→WSt k Inv RI CI R cp l A0 c0 (.func (.func 75) #[] #[cc1,cc2]) vis ps w →
  Calls Tryz.prog 89 #[.int .i64 rI,.int .i64 tI,.pointer (some ⟨k.b,0,none⟩),.pointer (some ⟨k.d,0,none⟩),.pointer (some ⟨k.p,0,none⟩),.pointer (some ⟨k.g,0,none⟩),.pointer (some ⟨k.r,0,none⟩)] w fun e w'=>e=.returned (.tuple #[]) ∧
   ∃ ps',ps'.length=R∧ps'.take r=ps.take r∧WSt k Inv RI CI R cp l A0 c0 (.func (.func 75) #[] #[cc1,cc2]) (vis ++ waysFrom l C d r t (ps.take r)) ps' w'
|0,r,t,rI,tI,hr,ht,hrd,ht6,vis,ps,w,hps,hPP,hst=>by
  have hP0:P vis ps:=by have:=hPP [] ps [] (by rw [waysFrom,List.take_of_length_le (by omega)];rfl);rwa [List.append_nil] at this
  have CX:=Lib.hid (fun W (h:Aside0 (WSt k Inv RI CI R cp l A0 c0 (.func (.func 75) #[] #[cc1,cc2]) vis ps W))=>hdo vis ps W hps hP0 h.out)
  have MV:=Lib.hid (fun W (h:Aside0 (WSt k Inv RI CI R cp l A0 c0 (.func (.func 75) #[] #[cc1,cc2]) (vis ++ [ps]) ps W))=>h.out.setG hI hk)
  have e0:(rI == RI)=true:=beq_iff_eq.mpr (by omega)
  have e1:=za (show ps.take r=ps from List.take_of_length_le (by omega))
  have hz1:w.cell? ⟨k.b,0,none⟩=some (.int .i64 RI):=(ze hst.cB 0).trans rfl
  have hz2:w.cell? ⟨k.d,0,none⟩=some (.func (.func 75) #[] #[cc1,cc2]):=(ze hst.cD 0).trans rfl
  have hz3:w.cell? ⟨k.p,0,none⟩=some (.slice (some ⟨k.a,0,none⟩) R cp):=(ze hst.cP 0).trans rfl
  have HS:=za hst
  have HP:=za hps
  have hu24:=Tryz.underlying26
  clear hdo hst hps hr ht hrd ht6 hRI hCI hk hI hL hl hR hC hb hc0 hPP hP0
  go_enter Tryz.func89,Tryz.ntmps89
  go_wp2_with (first|(go_at_call 75;(refine (CX.out _ HS).mono ?_);rintro e w2 ⟨rfl,hs2⟩;have hz4:w2.cell? ⟨k.g,0,none⟩=some (.bool true):=(ze hs2.cG 0).trans rfl;have hf4:=zf hs2.cG 0;have HS2:=za hs2;clear hs2))
  first|go_end0|((try simp only [Exit.inBlock,Exit.then]);refine bodyPost_ret (results_none rfl _ _ _) rfl ?_)
  refine ⟨rfl,ps,HP.out,rfl,?_⟩
  rw [e1.out]
  exact MV.out _ HS2
|d + 1,r,t,rI,tI,hr,ht,hrd,ht6,vis,ps,w,hps,hPP,hst=>by
  have IH:=Lib.hid (fun (t':Nat) (tI':Int) (h2:tI'=(t':Int)) (h3:t' < 64) vis ps W (h4:ps.length=R) (h5:∀ a q b,waysFrom l C d (r + 1) t' (ps.take (r + 1))=a ++ q :: b→P (vis ++ a) q) (h:WSt k Inv RI CI R cp l A0 c0 (.func (.func 75) #[] #[cc1,cc2]) vis ps W)=>row_calls d (r + 1) t' (wrap64 (rI + 1)) tI' (by rw [hr,w64 (by omega) (by omega)];rfl) h2 (by omega) h3 vis ps W h4 h5 h)
  have MVB:=Lib.hid (fun vis ps W W' (h:WSt k Inv RI CI R cp l A0 c0 (.func (.func 75) #[] #[cc1,cc2]) vis ps W) (hb:Below W.heap.size W W')=>h.below hI hb)
  have MVA:=Lib.hid (fun vis ps W (h:WSt k Inv RI CI R cp l A0 c0 (.func (.func 75) #[] #[cc1,cc2]) vis ps W) (i c:Int)=>h.setA hI hk i c)
  have HL:=Lib.hid (fun vis ps W (h:WSt k Inv RI CI R cp l A0 c0 (.func (.func 75) #[] #[cc1,cc2]) vis ps W)=>hL vis W h.inv)
  have HASF:=Lib.hid (fun (j:Nat) (hj:j≤64)=>has_f RI CI (l:=l) (i:=r) (j:=j) (by omega) (hb r (by omega)).1 (by have:=(hb r (by omega)).2;have:=two_pow_six hC;omega) hj)
  have e0:(rI == RI)=false:=beq_eq_false_iff_ne.mpr (by omega)
  have z1:w.cell? ⟨k.b,0,none⟩=some (.int .i64 RI):=(ze hst.cB 0).trans rfl
  have HS:=za hst
  have HP:=za hps
  have HR:=za hr
  have HT:=za ht
  have HT6:=za ht6
  have HRD:=za hrd
  have HCI:=za hCI
  have HC0:=za hc0
  have HC6:=za hC
  have HR6:=za hR
  have hu24:=Tryz.underlying26
  obtain ⟨pre,hpre⟩:∃ pre,pre=ps.take r:=⟨_,rfl⟩
  rw [← hpre] at hPP ⊢
  have HPP:=za hPP
  have HPRE:=za hpre
  have plt:=eq_true (show 0≤rI by omega)
  have plt2:=eq_true (show rI < (R:Int) by omega)
  clear hdo hst hps hr ht hrd ht6 hRI hCI hk hI hL hl hR hC hb hc0 hpre hPP row_calls
  go_enter Tryz.func89,Tryz.ntmps89
  go_wp2
  go_loopg [9] (C + 1) (fun kq v9 w'=>∃ (x9:Int),v9=.int .i64 x9∧Aside0 (∃ (j:Nat) (ps':List Int),x9=-1 + j∧j + kq=C + 1∧ps'.length=R∧ps'.take r=pre∧WSt k Inv RI CI R cp l A0 c0 (.func (.func 75) #[] #[cc1,cc2]) (vis ++ (iota (-1) j).flatMap (colWays l r t pre (waysFrom l C d (r + 1)))) ps' w'))
  case atStart=>exact ⟨-1,rfl,⟨0,ps,by omega,by omega,HP.out,HPRE.out.symm,by simpa [iota] using HS.out⟩⟩
  case round =>
   clear z1
   obtain ⟨x9,rfl,HX⟩:=hrel
   obtain ⟨j,qs,hx,hj,hql,hqt,hs⟩:=HX.out
   clear HX
   have HX:=za hx
   have HQL:=za hql
   have HQT:=za hqt
   have HS2:=za hs
   have HJ:=za hj
   have z1:wr.cell? ⟨k.b,1,none⟩=some (.int .i64 CI):=(ze hs.cB 1).trans rfl
   have z2:wr.cell? ⟨k.g,0,none⟩=some (.bool true):=(ze hs.cG 0).trans rfl
   have z3:wr.cell? ⟨k.b,0,none⟩=some (.int .i64 RI):=(ze hs.cB 0).trans rfl
   have z4:wr.cell? ⟨k.b,2,none⟩=some (.slice A0 l.length c0):=(ze hs.cB 2).trans rfl
   clear hx hj hql hqt hs
   by_cases c1:x9 < CI
   ·
    have c1b:decide (x9 < CI)=true:=decide_eq_true c1
    cases gk with
   |zero=>exact absurd c1 (by have:=HX.out;have:=HJ.out;have:=HCI.out;omega)
   |succ k1 =>
     have EW:=za (show wrap64 (x9 + 1)=-1 + ((j + 1:Nat):Int) by have:=HX.out;have:=HJ.out;have:=HC6.out;rw [w64 (by omega) (by omega)];omega)
     have EJ:=za (show j + 1 + k1=C + 1 by have:=HJ.out;omega)
     have ES:=za (show (iota (-1) (j + 1)).flatMap (colWays l r t pre (waysFrom l C d (r + 1)))=(iota (-1) j).flatMap (colWays l r t pre (waysFrom l C d (r + 1))) ++ colWays l r t pre (waysFrom l C d (r + 1)) x9 by rw [iota_snoc,List.flatMap_append,HX.out];simp)
     have C1:=za c1
     clear c1
     by_cases c2:0≤x9
     ·
      have c2b:decide (0≤x9)=true:=decide_eq_true c2
      have c2e:=eq_true c2
      obtain ⟨xn,hxn⟩:∃ xn:Nat,x9=xn:=⟨x9.toNat,by omega⟩
      have HXN:=za hxn
      have HX6:=za (show xn < 6 by have:=C1.out;have:=HCI.out;have:=HC6.out;omega)
      have A1:=za (show impl_Board_has.f RI CI l rI x9=some (cell l r xn) by rw [HR.out,hxn];exact HASF.out xn (by have:=HX6.out;omega))
      obtain ⟨sh,hsh⟩:∃ s:Int,shr .i64 tI x9=s:=⟨_,rfl⟩
      have hsh1:(tI / 2 ^ min x9.toNat 64)=sh:=hsh
      have BT:Go.bits .and .i64 sh 1=if t.testBit xn then 1 else 0:=by rw [← hsh,HT.out,hxn];exact bit_and t xn (by have:=HT6.out;omega) (by have:=HX6.out;omega)
      clear c2 hxn
      by_cases c3:cell l r xn=true
      ·
       rw [c3] at A1
       by_cases c4:t.testBit xn=true
       ·
        have c4b:(Go.bits .and .i64 sh 1 == 1)=true:=by rw [BT,if_pos c4];rfl
        have NIL:=za (show colWays l r t pre (waysFrom l C d (r + 1)) x9=[] by have:=HXN.out;unfold colWays;rw [if_neg (by omega),if_neg (by rw [HXN.out];simp [c4])])
        clear c3 c4 BT hsh
        go_wp2_with (first|(go_at_call 66;(refine (impl_Board_has.calls RI CI _ _ l rI x9 true _ ?side1 ?side2 A1.out).mono ?_);(case side1=>exact HL.out _ _ _ HS2.out);(case side2=>exact HC0.out);rintro e w2 ⟨rfl,hb2⟩;have HS3:=za (MVB.out _ _ _ _ HS2.out hb2);clear hb2))
        go_roundg k1
        case measure=>omega
        case rel=>exact ⟨wrap64 (x9 + 1),(by first|rfl|(simp;done)),⟨j + 1,qs,EW.out,EJ.out,HQL.out,HQT.out,by rw [ES.out,NIL.out,List.append_nil];exact HS3.out⟩⟩
       ·
        have c4b:(Go.bits .and .i64 sh 1 == 1)=false:=by rw [BT,if_neg c4];rfl
        have c4f:t.testBit xn=false:=by simpa using c4
        have ONE:=za (show colWays l r t pre (waysFrom l C d (r + 1)) x9=waysFrom l C d (r + 1) (t ||| 2 ^ xn) (pre ++ [x9]) by have:=HXN.out;unfold colWays;rw [if_neg (by omega),HXN.out,Int.toNat_natCast,if_pos (by rw [c3,c4f];rfl)])
        obtain ⟨ji,hji⟩:∃ s:Int,shl .i64 1 x9=s:=⟨_,rfl⟩
        have hji_:(IntKind.i64.wrap (1 * 2 ^ min x9.toNat 64))=ji:=hji
        have hjiu:(IntKind.i64.wrap (2 ^ min x9.toNat 64))=ji:=by have h_:=hji_;rw [Int.one_mul] at h_;exact h_
        have p2x:=Nat.pow_le_pow_right (show 0 < 2 by decide) (show xn≤5 by have:=HX6.out;omega)
        have OR:=za (show Go.bits .or .i64 tI ji=((t ||| 2 ^ xn:Nat):Int) by rw [← hji,HT.out,HXN.out,shl_one xn (by have:=HX6.out;omega)];exact or_nat _ _ (by have:=HT6.out;omega) (by omega))
        have OR6:=za (show t ||| 2 ^ xn < 64 from Nat.or_lt_two_pow (n:=6) HT6.out (by omega))
        clear c3 c4 c4f BT hsh hji p2x
        have HRT:=za (show rI.toNat=r by rw [HR.out];rfl)
        have HPT:=za (show (qs.set rI.toNat x9).take (r + 1)=pre ++ [x9] by have hrl:r < qs.length:=(by have:=HQL.out;have:=HRD.out;omega);rw [HRT.out,List.take_add_one,List.take_set_of_le (Nat.le_refl _),HQT.out];simp [hrl])
        have NXT:=za (show ∀ a q b,waysFrom l C d (r + 1) (t ||| 2 ^ xn) ((qs.set rI.toNat x9).take (r + 1))=a ++ q :: b→P ((vis ++ (iota (-1) j).flatMap (colWays l r t pre (waysFrom l C d (r + 1)))) ++ a) q from fun a q b hq=>by rw [HPT.out,← ONE.out] at hq;rw [List.append_assoc];exact HPP.out _ q (b ++ (iota (x9 + 1) (C + 1 - j - 1)).flatMap (colWays l r t pre (waysFrom l C d (r + 1)))) (by rw [ways_cut l C d r t pre j (by have:=HX.out;have:=C1.out;have:=HCI.out;omega) HX.out,hq,List.append_assoc,List.append_assoc];rfl))
        go_wp2_with (first|(go_at_call 66;(refine (impl_Board_has.calls RI CI _ _ l rI x9 true _ ?side1 ?side2 A1.out).mono ?_);(case side1=>exact HL.out _ _ _ HS2.out);(case side2=>exact HC0.out);rintro e w2 ⟨rfl,hb2⟩;have HS3:=za (MVB.out _ _ _ _ HS2.out hb2);clear hb2;have z5:w2.cell? ⟨k.p,0,none⟩=some (.slice (some ⟨k.a,0,none⟩) R cp):=(ze HS3.out.cP 0).trans rfl;obtain ⟨z6,f6⟩:=Kd.R_celln 0 HS3.out.cA rI (of_eq_true plt) (of_eq_true plt2))|((with_reducible refine gate_store (t:=3) (p:=46) rfl ?_);refine store_event (t:=3) (p:=46) (v:=?vo) (w1:=(w2.setCell ⟨k.a,rI.toNat,none⟩ (.int .i64 x9))) ?hg ?ho ?hn ?hr ?_;(case ho=>rfl);(case hg=>rfl);(case hn=>rfl);(case hr=>first|(go_simp;done)|(go_simp;rfl));intro w4 hw;have HS4:=za (by rw [hw];exact MVA.out _ _ _ HS3.out rI x9:WSt k Inv RI CI R cp l A0 c0 (.func (.func 75) #[] #[cc1,cc2]) (vis ++ (iota (-1) j).flatMap (colWays l r t pre (waysFrom l C d (r + 1)))) (qs.set rI.toNat x9) w4);clear hw;have z7:w4.cell? ⟨k.r,0,none⟩=_:=(ze HS4.out.cR 0).trans rfl)|(go_at_call 89;(refine (IH.out (t ||| 2 ^ xn) _ OR.out OR6.out _ (qs.set rI.toNat x9) _ (by rw [List.length_set];exact HQL.out) NXT.out HS4.out).mono ?_);rintro e w5 ⟨rfl,hex⟩;have HE:=za hex;clear hex))
        go_roundg k1
        case measure=>omega
        case rel =>
         obtain ⟨qs2,hl2,ht2,hs5⟩:=HE.out
         have hrt:=HRT.out
         have hrl:r < qs.length:=by have:=HQL.out;have:=HRD.out;omega
         have hpt:=HPT.out
         refine ⟨wrap64 (x9 + 1),(by first|rfl|(simp;done)),⟨j + 1,qs2,EW.out,EJ.out,hl2,?_,?_⟩⟩
         ·
          have h3:=congrArg (List.take r) ht2
          rw [List.take_take,List.take_take,Nat.min_eq_left (by omega),hrt,List.take_set_of_le (Nat.le_refl _),HQT.out] at h3
          exact h3
         ·
          rw [hpt,List.append_assoc] at hs5
          rw [ES.out,ONE.out]
          exact hs5
      ·
       have c3f:cell l r xn=false:=by simpa using c3
       rw [c3f] at A1
       have NIL:=za (show colWays l r t pre (waysFrom l C d (r + 1)) x9=[] by have:=HXN.out;unfold colWays;rw [if_neg (by omega),if_neg (by rw [HXN.out];simp [c3f])])
       clear c3 c3f BT hsh
       go_wp2_with (first|(go_at_call 66;(refine (impl_Board_has.calls RI CI _ _ l rI x9 false _ ?side1 ?side2 A1.out).mono ?_);(case side1=>exact HL.out _ _ _ HS2.out);(case side2=>exact HC0.out);rintro e w2 ⟨rfl,hb2⟩;have HS3:=za (MVB.out _ _ _ _ HS2.out hb2);clear hb2))
       go_roundg k1
       case measure=>omega
       case rel=>exact ⟨wrap64 (x9 + 1),(by first|rfl|(simp;done)),⟨j + 1,qs,EW.out,EJ.out,HQL.out,HQT.out,by rw [ES.out,NIL.out,List.append_nil];exact HS3.out⟩⟩
     ·
      have c2b:decide (0≤x9)=false:=decide_eq_false c2
      have ONE:=za (show colWays l r t pre (waysFrom l C d (r + 1)) x9=waysFrom l C d (r + 1) t (pre ++ [x9]) by unfold colWays;rw [if_pos (by omega)])
      clear c2
      have z5:wr.cell? ⟨k.p,0,none⟩=some (.slice (some ⟨k.a,0,none⟩) R cp):=(ze HS2.out.cP 0).trans rfl
      obtain ⟨z6,f6⟩:=Kd.R_celln 0 HS2.out.cA rI (of_eq_true plt) (of_eq_true plt2)
      have HRT:=za (show rI.toNat=r by rw [HR.out];rfl)
      have HPT:=za (show (qs.set rI.toNat x9).take (r + 1)=pre ++ [x9] by have hrl:r < qs.length:=(by have:=HQL.out;have:=HRD.out;omega);rw [HRT.out,List.take_add_one,List.take_set_of_le (Nat.le_refl _),HQT.out];simp [hrl])
      have NXT:=za (show ∀ a q b,waysFrom l C d (r + 1) t ((qs.set rI.toNat x9).take (r + 1))=a ++ q :: b→P ((vis ++ (iota (-1) j).flatMap (colWays l r t pre (waysFrom l C d (r + 1)))) ++ a) q from fun a q b hq=>by rw [HPT.out,← ONE.out] at hq;rw [List.append_assoc];exact HPP.out _ q (b ++ (iota (x9 + 1) (C + 1 - j - 1)).flatMap (colWays l r t pre (waysFrom l C d (r + 1)))) (by rw [ways_cut l C d r t pre j (by have:=HX.out;have:=C1.out;have:=HCI.out;omega) HX.out,hq,List.append_assoc,List.append_assoc];rfl))
      go_wp2_with (first|((with_reducible refine gate_store (t:=3) (p:=46) rfl ?_);refine store_event (t:=3) (p:=46) (v:=?vo) (w1:=(wr.setCell ⟨k.a,rI.toNat,none⟩ (.int .i64 x9))) ?hg ?ho ?hn ?hr ?_;(case ho=>rfl);(case hg=>rfl);(case hn=>rfl);(case hr=>first|(go_simp;done)|(go_simp;rfl));intro w4 hw;have HS4:=za (by rw [hw];exact MVA.out _ _ _ HS2.out rI x9:WSt k Inv RI CI R cp l A0 c0 (.func (.func 75) #[] #[cc1,cc2]) (vis ++ (iota (-1) j).flatMap (colWays l r t pre (waysFrom l C d (r + 1)))) (qs.set rI.toNat x9) w4);clear hw;have z7:w4.cell? ⟨k.r,0,none⟩=_:=(ze HS4.out.cR 0).trans rfl)|(go_at_call 89;(refine (IH.out t _ HT.out HT6.out _ (qs.set rI.toNat x9) _ (by rw [List.length_set];exact HQL.out) NXT.out HS4.out).mono ?_);rintro e w5 ⟨rfl,hex⟩;have HE:=za hex;clear hex))
      go_roundg k1
      case measure=>omega
      case rel =>
       obtain ⟨qs2,hl2,ht2,hs5⟩:=HE.out
       have hrt:=HRT.out
       have hrl:r < qs.length:=by have:=HQL.out;have:=HRD.out;omega
       have hpt:=HPT.out
       refine ⟨wrap64 (x9 + 1),(by first|rfl|(simp;done)),⟨j + 1,qs2,EW.out,EJ.out,hl2,?_,?_⟩⟩
       ·
        have h3:=congrArg (List.take r) ht2
        rw [List.take_take,List.take_take,Nat.min_eq_left (by omega),hrt,List.take_set_of_le (Nat.le_refl _),HQT.out] at h3
        exact h3
       ·
        rw [hpt,List.append_assoc] at hs5
        rw [ES.out,ONE.out]
        exact hs5
   ·
    have c1b:decide (x9 < CI)=false:=decide_eq_false c1
    have FIN:=za (show j=C + 1 by have:=HX.out;have:=HJ.out;have:=HCI.out;omega)
    clear c1
    go_wp2
    first|go_end0|((try simp only [Exit.inBlock,Exit.then]);refine bodyPost_ret (results_none rfl _ _ _) rfl ?_)
    exact ⟨rfl,qs,HQL.out,HQT.out,by have:=HS2.out;rw [FIN.out] at this;exact this⟩
end
section
variable (Inv : (Nat → Prop) → List (List Int) → World → Prop) (hI : ∀ S vis w w', Inv S vis w → Still S w w' → Inv S vis w') (R C : Nat) (RI CI : Int) (hRI : RI = R) (hCI : CI = C) (l : List Int) (A0 : Option Addr) (c0 : Nat) (hc0 : l.length ≤ c0) (cc1 cc2 : Value)
  (hL : ∀ S vis w, Inv S vis w → Kd.C (Kd.int .i64) w A0 l.length l)
  (hl : l.length = R) (h1R : 1 ≤ R) (hR : R ≤ 6) (hC : C ≤ 6) (hb : ∀ i (hi : i < l.length), 0 ≤ l[i] ∧ l[i] < 2 ^ C) (w0 : World)
  (h0 : ∀ S w, (∀ i, S i → w0.heap.size ≤ i) → Below w0.heap.size w0 w → Inv S [] w)
  (hdo : ∀ S vis ps w a cp, (∀ i, S i → w0.heap.size ≤ i) → (∀ i, S i → i < w.heap.size) → ps.length = R → (∃ b, waysFrom l C R 0 0 [] = vis ++ ps :: b) → S a → Kd.C (Kd.int .i64) w (some ⟨a, 0, none⟩) R ps → R ≤ cp → Inv S vis w →
    Calls Tryz.prog 75 #[.slice (some ⟨a, 0, none⟩) R cp, cc1, cc2] w fun e w' => e = .returned (.bool true) ∧ Inv S (vis ++ [ps]) w' ∧ (∀ i, S i → i < w.heap.size → w'.heap[i]? = w.heap[i]?))
include hI hRI hCI hc0 hL hl h1R hR hC hb h0 hdo
set_option maxHeartbeats 4000000 in
set_option maxRecDepth 100000 in
theorem walk_calls:Calls Tryz.prog 74 #[.agg #[.int .i64 RI,.int .i64 CI,.slice A0 l.length c0],.func (.func 75) #[] #[cc1,cc2]] w0 fun e w'=>e=.returned (.tuple #[])∧∃ S,(∀ i,S i→w0.heap.size≤i)∧Inv S (waysFrom l C R 0 0 []) w':=by
 have KEY:∀ (k:Blks) (cp:Nat) W,k.Apart→(∀ i,k.has i→w0.heap.size≤i)→R≤cp→WSt k (Inv k.has) RI CI R cp l A0 c0 (.func (.func 75) #[] #[cc1,cc2]) [] (List.replicate R 0) W →
   Calls Tryz.prog 89 #[.int .i64 0,.int .i64 0,.pointer (some ⟨k.b,0,none⟩),.pointer (some ⟨k.d,0,none⟩),.pointer (some ⟨k.p,0,none⟩),.pointer (some ⟨k.g,0,none⟩),.pointer (some ⟨k.r,0,none⟩)] W fun e w'=>e=.returned (.tuple #[])∧∃ S,(∀ i,S i→w0.heap.size≤i)∧Inv S (waysFrom l C R 0 0 []) w':=by
  intro k cp W hk hS hcp hst
  have:=row_calls k hk (Inv k.has) (hI k.has) R C RI CI hRI hCI l A0 c0 cp hc0 cc1 cc2 (hL k.has) hl hR hC hb (fun vis q=>∃ b,waysFrom l C R 0 0 []=vis ++ q :: b) (fun vis ps w hps hmem hs=>by
   obtain ⟨_,_,hC'⟩:=Kd.R_reads' hs.cA
   rw [hps] at hC'
   have hlt:k.a < w.heap.size:=by obtain ⟨cells,hc⟩:=Kd.R_typed hs.cA k.a rfl;exact blk_lt hc
   have hSlt:∀ i,k.has i→i < w.heap.size:=by
    rintro i (rfl|rfl|rfl|rfl|rfl|rfl)
    ·
     exact blk_lt hs.cB
    ·
     exact blk_lt hs.cD
    ·
     exact hlt
    ·
     exact blk_lt hs.cP
    ·
     exact blk_lt hs.cG
    ·
     exact blk_lt hs.cR
   refine (hdo k.has vis ps w k.a cp hS hSlt hps hmem (.inr (.inr (.inl rfl))) hC' hcp hs.inv).mono ?_
   rintro e w' ⟨rfl,hi,hkeep⟩
   refine ⟨rfl,(hkeep _ (.inl rfl) (blk_lt hs.cB)).trans hs.cB,(hkeep _ (.inr (.inl rfl)) (blk_lt hs.cD)).trans hs.cD,Kd.R_step hs.cA (fun i hi _=>by subst hi;exact hkeep _ (.inr (.inr (.inl rfl))) hlt),(hkeep _ (.inr (.inr (.inr (.inl rfl)))) (blk_lt hs.cP)).trans hs.cP,(hkeep _ (.inr (.inr (.inr (.inr (.inl rfl))))) (blk_lt hs.cG)).trans hs.cG,(hkeep _ (.inr (.inr (.inr (.inr (.inr rfl))))) (blk_lt hs.cR)).trans hs.cR,hi⟩)
   R 0 0 0 0 rfl rfl (by omega) (by omega) [] (List.replicate R 0) W (by simp) (fun a q b hq=>⟨b,by simpa using hq⟩) hst
  refine this.mono ?_
  rintro e w' ⟨rfl,ps',_,_,hw⟩
  exact ⟨rfl,k.has,hS,by simpa using hw.inv⟩
 have KX:=Lib.hid KEY;have H0:=Lib.hid h0;have hu24:=Tryz.underlying26;have p1:=za (show 0≤RI by omega);have p2:=za (show RI.toNat * 8≤281474976710656 by omega);have p3:=za (show RI.toNat=R by omega);have p4:=za h1R;clear KEY h0 hdo hb hC hR hl hL hc0 hCI hRI hI h1R;go_enter Tryz.func74,Tryz.ntmps74
 go_wp2_with (first
 |((with_reducible refine zv (N:=2) rfl ?_);refine zw ?hg (N:=2) ?hd (cs:=#[.int .i64 RI,.int .i64 CI,.slice A0 l.length c0]) (t:=26) ?hr ?_;(case hd=>rfl);(case hg=>rfl);(case hr=>first|(go_simp;done)|(go_simp;rfl));intro gb hg w1 hbox hb;have G1:=za hg;have K1:=za hbox;have B1:=za hb;clear hg hbox hb;have z1:w1.cell? ⟨gb,0,none⟩=some (.int .i64 RI):=(ze K1.out 0).trans rfl)
 |((with_reducible refine zv (N:=3) rfl ?_);refine zw ?hg (N:=3) ?hd (cs:=#[.func (.func 75) #[] #[cc1,cc2]]) (t:=62) ?hr ?_;(case hd=>rfl);(case hg=>rfl);(case hr=>first|(go_simp;done)|(go_simp;rfl));intro gd hg w2 hbox hb;have G2:=za hg;have K2:=za hbox;have B2:=za hb;clear hg hbox hb;have z2:w2.cell? ⟨gb,0,none⟩=some (.int .i64 RI):=(ze (zp K1.out B2.out) 0).trans rfl)
 |((with_reducible refine zv (N:=9) rfl ?_);refine Kd.R_make (Kd.int .i64) (w0:=w2) w2.heap.size 3 rfl (N:=9) rfl 24 _ _ rfl RI rfl rfl Tryz.underlying24 (.int .i64 0) 8 info3 rfl (by decide) (by omega) 0 (ok:=fun _=>True) (okp:=fun _=>True) rfl (fun _ hk=>hk) trivial p1.out p2.out (Below.refl _ _) (Nat.le_refl _) ?_;intro v3 w3 ho3 hb hg_ hnew_;clear hg_ hnew_;rw [p3.out] at ho3;obtain ⟨ga,cp,hv3,hga,hga2,cells3,hc3⟩:=Kd.R_form ho3 (by rw [List.length_replicate];exact p4.out);rw [List.length_replicate] at hv3;subst hv3;have G3:=za (And.intro hga hga2);have K3:=za hc3;clear hga hga2 hc3;have B3:=za hb;have O3:=za ho3;clear hb ho3)
 |((with_reducible refine zv (N:=4) rfl ?_);refine zw ?hg (N:=4) ?hd (cs:=#[.slice none 0 0]) (t:=24) ?hr ?_;(case hd=>rfl);(case hg=>rfl);(case hr=>first|(go_simp;done)|(go_simp;rfl));intro gp hg w4 hbox hb;have G4:=za hg;have K4:=za hbox;have B4:=za hb;clear hg hbox hb)
 |((with_reducible refine zv (N:=5) rfl ?_);refine zw ?hg (N:=5) ?hd (cs:=#[.bool false]) (t:=4) ?hr ?_;(case hd=>rfl);(case hg=>rfl);(case hr=>first|(go_simp;done)|(go_simp;rfl));intro gg hg w5 hbox hb;have G5:=za hg;have K5:=za hbox;have B5:=za hb;clear hg hbox hb;have y1:w5.cell? ⟨gp,0,none⟩=some (.slice none 0 0):=(ze (zp K4.out B5.out) 0).trans rfl;have f1:w5.frozen? ⟨gp,0,none⟩=false:=zf (zp K4.out B5.out) 0)
 |((with_reducible refine gate_store (t:=24) (p:=4) rfl ?_);refine store_event (t:=24) (p:=4) (v:=?vo) (w1:=(w5.setCell ⟨gp,0,none⟩ (.slice (some ⟨ga,0,none⟩) R cp))) ?hg ?ho ?hn ?hr ?_;(case ho=>rfl);(case hg=>rfl);(case hn=>rfl);(case hr=>first|(go_simp;done)|(go_simp;rfl));intro w6 hw;have E6:=za hw;clear hw;have N65:=za (show gg ≠ gp by rw [G5.out];exact Nat.ne_of_gt (blk_lt K4.out));have K56:=za (show w6.heap[gg]?=some (.cells #[.bool false] 4 (0,0)) by rw [E6.out];exact blk_far K5.out N65.out _);have y2:w6.cell? ⟨gg,0,none⟩=some (.bool false):=(ze K56.out 0).trans rfl;have f2:w6.frozen? ⟨gg,0,none⟩=false:=zf K56.out 0)
 |((with_reducible refine zv (N:=6) rfl ?_);refine zw ?hg (N:=6) ?hd (cs:=#[.nilFunc]) (t:=92) ?hr ?_;(case hd=>rfl);(case hg=>rfl);(case hr=>first|(go_simp;done)|(go_simp;rfl));intro gr hg w8 hbox hb;have G8:=za hg;have K8:=za hbox;have B8:=za hb;clear hg hbox hb;have y3:w8.cell? ⟨gr,0,none⟩=some .nilFunc:=(ze K8.out 0).trans rfl;have f3:w8.frozen? ⟨gr,0,none⟩=false:=zf K8.out 0)
 |(go_at_call 89;(refine (KX.out ⟨gb,gd,ga,gp,gg,gr⟩ cp _ ?sa ?ss ?sc ?sw).mono ?_);(case sa=>(have o1:=blk_lt K1.out;have o2:=G2.out;have o3:=blk_lt K2.out;have o4:=G3.out;have o5:=G4.out;have o6:=blk_lt K4.out;have o7:=G5.out;have o8:=blk_lt K5.out;have o9:w6.heap.size=w5.heap.size:=(by rw [E6.out];simp [World.setCell]);have o10:(w6.setCell ⟨gg,0,none⟩ (.bool true)).heap.size=w6.heap.size:=(by simp [World.setCell]);have o11:=G8.out;have o12:=G1.out;constructor <;> (try simp only []) <;> omega));(case ss=>(have o1:=blk_lt K1.out;have o2:=G2.out;have o3:=blk_lt K2.out;have o4:=G3.out;have o5:=G4.out;have o6:=blk_lt K4.out;have o7:=G5.out;have o8:=blk_lt K5.out;have o9:w6.heap.size=w5.heap.size:=(by rw [E6.out];simp [World.setCell]);have o10:(w6.setCell ⟨gg,0,none⟩ (.bool true)).heap.size=w6.heap.size:=(by simp [World.setCell]);have o11:=G8.out;have o12:=G1.out;rintro i (rfl|rfl|rfl|rfl|rfl|rfl) <;> (try simp only []) <;> omega));(case sc=>exact (Kd.R_reads' O3.out).2.1);(case sw=>(have o1:=blk_lt K1.out;have o2:=G2.out;have o3:=blk_lt K2.out;have o4:=G3.out;have o5:=G4.out;have o6:=blk_lt K4.out;have o7:=G5.out;have o8:=blk_lt K5.out;have o9:w6.heap.size=w5.heap.size:=(by rw [E6.out];simp [World.setCell]);have o10:(w6.setCell ⟨gg,0,none⟩ (.bool true)).heap.size=w6.heap.size:=(by simp [World.setCell]);have o11:=G8.out;have o12:=G1.out;have q1:=zp (zp (zp (zp K1.out B2.out) B3.out) B4.out) B5.out;have q2:=zp (zp (zp K2.out B3.out) B4.out) B5.out;have q3:=Kd.R_below (Kd.R_below (Kd.R_mono (Kd.R_lower (Kd.R_tight rfl O3.out) (Nat.zero_le _)) (fun i hi=>(by simpa [Value.ownBlock] using hi:i=ga))) B4.out) B5.out;have q4:=zp K4.out B5.out;have e1:gb ≠ gp:=(by omega);have e2:gd ≠ gp:=(by omega);have e3:ga ≠ gp:=(by omega);have e4:gb ≠ gg:=(by omega);have e5:gd ≠ gg:=(by omega);have e6:ga ≠ gg:=(by omega);have e7:gp ≠ gg:=(by omega);have e8:gb ≠ gr:=(by omega);have e9:gd ≠ gr:=(by omega);have e10:ga ≠ gr:=(by omega);have e11:gp ≠ gr:=(by omega);have e12:gg ≠ gr:=(by omega);have b5:Below w0.heap.size w0 w5:=(((B1.out.trans (B2.out.mono (by omega))).trans (B3.out.mono (by omega))).trans (B4.out.mono (by omega))).trans (B5.out.mono (by omega));have b7:Below w0.heap.size w0 (w6.setCell ⟨gg,0,none⟩ (.bool true)):=(by refine Below.setCell ?_ (by (try simp only []);omega) _;rw [E6.out];exact Below.setCell b5 (by (try simp only []);omega) _);have b9:Below w0.heap.size w0 (w8.setCell ⟨gr,0,none⟩ (.func (.func 89) #[] #[.pointer (some ⟨gb,0,none⟩),.pointer (some ⟨gd,0,none⟩),.pointer (some ⟨gp,0,none⟩),.pointer (some ⟨gg,0,none⟩),.pointer (some ⟨gr,0,none⟩)])):=(by exact Below.setCell (b7.trans (B8.out.mono (by omega))) (by (try simp only []);omega) _);exact ⟨(by refine blk_far (zp ?_ B8.out) e8 _;rw [E6.out];exact blk_far (blk_far q1 e1 _) e4 _),(by refine blk_far (zp ?_ B8.out) e9 _;rw [E6.out];exact blk_far (blk_far q2 e2 _) e5 _),(by refine Kd.R_far (Kd.R_below ?_ B8.out) (fun i hi=>(by rw [hi];exact e10)) _;rw [E6.out];exact Kd.R_far (Kd.R_far q3 (fun i hi=>(by rw [hi];exact e3)) _) (fun i hi=>(by rw [hi];exact e6)) _),(by refine blk_far (zp ?_ B8.out) e11 _;rw [E6.out];exact blk_far (blk_put q4 0 _ rfl) e7 _),(by refine blk_far (zp ?_ B8.out) e12 _;rw [E6.out];exact blk_put (blk_far K5.out e7.symm _) 0 _ rfl),(by exact blk_put K8.out 0 _ rfl),H0.out _ _ (by rintro i (rfl|rfl|rfl|rfl|rfl|rfl) <;> (try simp only []) <;> omega) b9⟩));rintro e w10 ⟨rfl,hfin⟩))
 (first|go_end0|((try simp only [Exit.inBlock,Exit.then]);refine bodyPost_ret (results_none rfl _ _ _) rfl ?_));exact ⟨rfl,hfin⟩
end
end Go.Proofs.YtpjjeeabpaojnaaGreat.WalkWith
end
