/- Texts of this claim put together (14): words, what the functions compute, and plain facts. No conditions. -/
import Derived.Test.YtpjjeeabpaojnaaGreatSFnLargestHaveCovers11
import Derived.Test.YtpjjeeabpaojnaaGreatSFnLargestHaveCovers8
import Derived.Test.YtpjjeeabpaojnaaGreatSFnLargestHaveCovers13
import Derived.Test.YtpjjeeabpaojnaaGreatSFnLargestHaveCovers6
import Derived.Test.YtpjjeeabpaojnaaGreatSFnLargestHaveCovers7
import Derived.Deep.DeepCutAuto
import Derived.Deep.CutBlock
import Derived.Outline
import Derived.Test.YtpjjeeabpaojnaaGreatSFnLargestHaveCovers9
import Derived.Deep.RegionHeld3
import Derived.Lib.Hide
section
namespace Go.Proofs.YtpjjeeabpaojnaaGreat.CovD
set_option linter.unusedVariables false
set_option linter.unusedSimpArgs false
open Go.RowKit Go.Proofs.YtpjjeeabpaojnaaGreat.Q Go.Proofs.YtpjjeeabpaojnaaGreatW.PrintWords Go.Proofs.YtpjjeeabpaojnaaGreatW.PrintLast Go.Proofs.YtpjjeeabpaojnaaGreatW.PrintMore
open Go.Proofs.YtpjjeeabpaojnaaGreatL Go.Proofs.YtpjjeeabpaojnaaGreat.LawK Go.Proofs.YtpjjeeabpaojnaaGreat.BoardK Go.Proofs.YtpjjeeabpaojnaaGreat.LinesK Go.Proofs.YtpjjeeabpaojnaaGreat.AllK Go.Proofs.YtpjjeeabpaojnaaGreat.CoversK Go.Proofs.YtpjjeeabpaojnaaGreat.DrawK Go.Proofs.YtpjjeeabpaojnaaGreat.Pure
def spec_DrawIsCover.T7:Bool × List (List Nat × List Nat):=(true,[([],[]),([0],[0]),([1],[1]),([],[]),([3],[3]),([4,2],[4]),([2,5],[2,5]),([6,5,0,1,2,3,4,5,6],[6])])
def spec_DrawIsCover.B7:List Nat:=[0,1,3,0,8,31,63,127]
theorem spec_DrawIsCover.tab7:rtab .any (opsOf Tryz.f22 7)=spec_DrawIsCover.T7:=by kernel_rfl
theorem spec_DrawIsCover.bits7:waitsOk spec_DrawIsCover.T7.2 spec_DrawIsCover.B7=true:=by kernel_rfl
def spec_DrawIsCover.T13:Bool × List (List Nat × List Nat):=(true,[([],[]),([0],[0]),([],[]),([],[]),([3],[3]),([2,4],[2,4]),([1,5,5],[1,5]),([0,1,2,3,4,5,6],[]),([7,6,6,0,1,2,3,4,5,6],[6,7])])
def spec_DrawIsCover.B13:List Nat:=[0,1,0,0,8,28,63,127,255]
theorem spec_DrawIsCover.tab13:rtab .any (opsOf Tryz.f22 13)=spec_DrawIsCover.T13:=by kernel_rfl
theorem spec_DrawIsCover.bits13:waitsOk spec_DrawIsCover.T13.2 spec_DrawIsCover.B13=true:=by kernel_rfl
def spec_DrawIsCover.T15:Bool × List (List Nat × List Nat):=(true,[([],[]),([0],[0]),([],[]),([],[]),([2,3],[2,3]),([4],[4]),([1,5,4],[1,5]),([0,1,2,3,4,5,6],[]),([7,6,6,0,1,2,3,4,5,6],[6,7])])
def spec_DrawIsCover.B15:List Nat:=[0,1,0,0,12,28,63,127,255]
theorem spec_DrawIsCover.tab15:rtab .any (opsOf Tryz.f22 15)=spec_DrawIsCover.T15:=by kernel_rfl
theorem spec_DrawIsCover.bits15:waitsOk spec_DrawIsCover.T15.2 spec_DrawIsCover.B15=true:=by kernel_rfl
theorem zero_at:At 0 0:=⟨by omega,by omega,by omega⟩
theorem put_run {l:List Int} (hl:l.length≤100) (x:Int):∀ (d i:Nat),i + d=l.length→Run (fun k=>spec_l1Put.l0 k l x (i:Int)) (fun y=>y.length≤l.length + 1)
|0,i,hi=>by
  refine Run.step (f:=fun _=>some (l ++ [x])) (fun k=>?_) (Run.now (by rw [List.length_append];exact Nat.le_refl _))
  rw [spec_l1Put.l0,if_neg (by omega)]
  have e1:l.take ((i:Int)).toNat=l:=List.take_of_length_le (by omega)
  have e2:l.drop ((i:Int)).toNat=[]:=List.drop_eq_nil_of_le (by omega)
  simp only [Option.bind_some,e1,e2,List.nil_append,List.append_nil,List.length_nil,List.length_append,List.length_singleton]
  rw [if_pos (by omega),if_pos (by omega),if_pos (by omega),if_pos (by omega),if_pos (by omega)]
|d + 1,i,hi=>by
  have w1:=Aside0.mk (show wrap64 ((i:Int) + 1)=((i + 1:Nat):Int) from by rw [w64 (by omega) (by omega)];rfl)
  by_cases h1:rd l (i:Int) < x
  ·
   refine Run.step (fun k=>?_) (put_run hl x d (i + 1) (by omega))
   rw [spec_l1Put.l0,if_pos (by omega),if_pos (by omega),if_pos h1,w1.out]
  ·
   by_cases h2:rd l (i:Int)=x
   ·
    refine Run.step (f:=fun _=>some l) (fun k=>?_) (Run.now (by omega))
    rw [spec_l1Put.l0,if_pos (by omega),if_pos (by omega),if_neg h1,if_pos h2]
   ·
    refine Run.step (f:=fun _=>some (l.take ((i:Int)).toNat ++ [x] ++ l.drop ((i:Int)).toNat)) (fun k=>?_) (Run.now (by rw [List.length_append,List.length_append,List.length_take,List.length_drop,List.length_singleton,Int.toNat_natCast];omega))
    rw [spec_l1Put.l0,if_pos (by omega),if_pos (by omega),if_neg h1,if_neg h2]
    simp only [Option.bind_some,List.nil_append,List.length_nil,List.length_append,List.length_take,List.length_drop,List.length_singleton,Int.toNat_natCast]
    rw [if_pos (by omega),if_pos (by omega),if_pos (by omega),if_pos (by omega)]
structure DQ (W:World) (g1 g2 gb s3:Nat) (r c:Int) (A:Option Addr) (cp:Nat) (l:List Int):Prop where
 b1:W.heap[g1]?=some (.cells #[.int .i64 0,.int .i64 0,.slice none 0 0] 26 (0,0))
 b2:W.heap[g2]?=some (.cells #[.slice none 0 0,.slice none 0 0] 37 (0,0))
 bb:W.heap[gb]?=some (.cells #[.int .i64 r,.int .i64 c,.slice A l.length cp] 26 (0,0))
 vl:Kd.V (Kd.int .i64) 3 W 0 (fun k=>s3≤k∧k < gb) (.slice A l.length cp) l
section
variable {W W' : World} {g1 g2 gb s3 : Nat} {r c : Int} {A : Option Addr} {cp : Nat} {l : List Int} (h : DQ W g1 g2 gb s3 r c A cp l)
include h
theorem DQ.move (hm:∀ k,k < W.heap.size→k≤gb→(k=g1 ∨ k=g2 ∨ s3≤k)→W'.heap[k]?=W.heap[k]?) (h1:g1≤gb) (h2:g2≤gb) (h3:s3≤gb):DQ W' g1 g2 gb s3 r c A cp l :=
 ⟨(hm _ (blk_lt h.b1) h1 (.inl rfl)).trans h.b1,(hm _ (blk_lt h.b2) h2 (.inr (.inl rfl))).trans h.b2,(hm _ (blk_lt h.bb) (Nat.le_refl _) (.inr (.inr h3))).trans h.bb,Kd.V_step h.vl (fun k ho hk=>hm k hk (by omega) (.inr (.inr ho.1)))⟩
theorem DQ.up (hb:Below W.heap.size W W'):DQ W' g1 g2 gb s3 r c A cp l :=
 ⟨blk_below h.b1 hb,blk_below h.b2 hb,blk_below h.bb hb,Kd.V_below h.vl hb⟩
theorem DQ.keep {b:Nat} (hk:KeepBut W W' b none) (hn:g1≤gb∧g2≤gb∧s3≤gb∧b ≠ g1∧b ≠ g2∧(b < s3 ∨ gb < b)):DQ W' g1 g2 gb s3 r c A cp l :=
 h.move (fun k hk' h1 h2=>hk.2 k hk' (by omega) (by simp)) hn.1 hn.2.1 hn.2.2.1
theorem DQ.grown {row:Option Nat} (hg:W.grownBy W' row) (hn:g1≤gb∧g2≤gb∧s3≤gb∧∀ k,row=some k→gb < k):DQ W' g1 g2 gb s3 r c A cp l :=
 h.move (fun k hk' h1 h2=>hg.block k hk' (fun h=>by have:=hn.2.2.2 k h.symm;omega)) hn.1 hn.2.1 hn.2.2.1
theorem DQ.kept {S:Nat→Prop} (hk:Kept W W' S) (hn:g1≤gb∧g2≤gb∧s3≤gb∧∀ k,S k→gb < k):DQ W' g1 g2 gb s3 r c A cp l :=
 h.move (fun k hk' h1 h2=>hk.2 k hk' (fun h=>by have:=hn.2.2.2 k h;omega)) hn.1 hn.2.1 hn.2.2.1
end
set_option maxHeartbeats 8000000 in
set_option maxRecDepth 100000 in
theorem drawn_lines {code:List Int} (hc:Bytes code) (w:World) (A0:Option Addr) (c0:Nat) (hr:Kd.C (Kd.int .u8) w A0 code.length code) :
  Calls Tryz.prog 22 #[.slice A0 code.length c0] w fun e w'=>∃ (r c:Int) (l x y:List Int) (v0 v1 v2:Value),(l.length≤7∧x.length≤7∧y.length≤7)∧e=.returned (.tuple #[.agg #[.int .i64 r,.int .i64 c,v0],.agg #[v1,v2]])∧Kd.V (Kd.int .i64) 3 w' 0 (fun _=>True) v0 l∧Kd.V (Kd.int .i64) 3 w' 0 (fun _=>True) v1 x∧Kd.V (Kd.int .i64) 3 w' 0 (fun _=>True) v2 y∧Below w.heap.size w w':=by
 have hu26:=Tryz.underlying26
 have hu37:=Tryz.underlying37
 replace hc:=Aside0.mk hc
 replace hr:=Aside0.mk hr
 go_enter Tryz.func22,Tryz.ntmps22
 go_upto_region 2 with fail
 obtain ⟨w3,hw3⟩:∃ W:World,W=((w.alloc (Obj.cells #[.int .i64 0,.int .i64 0,.slice none 0 0] 26)).alloc (Obj.cells #[.slice none 0 0,.slice none 0 0] 37)).alloc (Obj.cells #[.slice A0 code.length c0,.int .i64 0,.int .u64 0] 68):=⟨_,rfl⟩
 have hs3:w3.heap.size=w.heap.size + 1 + 1 + 1:=by rw [hw3,size_alloc,size_alloc,size_alloc]
 have b1:w3.heap[w.heap.size]?=some (.cells #[.int .i64 0,.int .i64 0,.slice none 0 0] 26 (0,0)):=by rw [hw3];exact blk_below (blk_below (boxed _ _ _) (alloc_up _ _)) (alloc_up _ _)
 have b2:w3.heap[w.heap.size + 1]?=some (.cells #[.slice none 0 0,.slice none 0 0] 37 (0,0)):=by rw [hw3];exact blk_below (boxed2 _ _ _ _) (alloc_up _ _)
 have HD:Dr w w3 (w.heap.size + 1 + 1) code 0:=by
  have hB:=below_alloc (below_alloc (Below.refl w.heap.size w) (Obj.cells #[.int .i64 0,.int .i64 0,.slice none 0 0] 26)) (Obj.cells #[.slice none 0 0,.slice none 0 0] 37)
  have hI:=IsS68.new w _ A0 c0 code 0 0 hB hr.out
  rw [size_alloc,size_alloc] at hI
  rw [hw3]
  exact ⟨below_alloc hB _,0,0,hI,zero_at⟩
 rw [← hw3]
 obtain ⟨g1,hg1⟩:∃ g:Nat,g=w.heap.size:=⟨_,rfl⟩
 obtain ⟨g2,hg2⟩:∃ g:Nat,g=w.heap.size + 1:=⟨_,rfl⟩
 obtain ⟨gs,hgs⟩:∃ g:Nat,g=w.heap.size + 1 + 1:=⟨_,rfl⟩
 rw [← hgs] at HD ⊢;rw [← hg2] at b2 ⊢;rw [← hg1] at b1 ⊢
 have HN:=Aside0.mk (show w.heap.size=g1∧g2=g1 + 1∧gs=g1 + 2∧w3.heap.size=g1 + 3 from by omega)
 replace HD:=Aside0.mk HD;replace b1:=Aside0.mk b1;replace b2:=Aside0.mk b2;clear hg1 hg2 hgs hw3 hs3
 go_wp2_with fail
 go_at_call 42;refine (sparse_c hc.out HD.out (by omega)).mono ?_;rintro e w4 ⟨r,c,l,A,cp,rfl,hl,hR,hd,hk⟩
 replace HD:=Aside0.mk hd;replace b1:=Aside0.mk (KeepBut.blk hk b1.out (by have:=HN.out;omega) (by simp));replace b2:=Aside0.mk (KeepBut.blk hk b2.out (by have:=HN.out;omega) (by simp));have HS:=Aside0.mk hk.1;have HR:=Aside0.mk hR;replace hl:=Aside0.mk hl;clear hd hk hR
 go_upto_region 3 with fail
 obtain ⟨w5,hw5⟩:∃ W:World,W=w4.alloc (Obj.cells #[.int .i64 r,.int .i64 c,.slice A l.length cp] 26):=⟨_,rfl⟩
 obtain ⟨gb,hgb⟩:∃ g:Nat,g=w4.heap.size:=⟨_,rfl⟩
 rw [← hw5,← hgb]
 have hb:Below w4.heap.size w4 w5:=by rw [hw5];exact alloc_up _ _
 have HQ:=Aside0.mk (show DQ w5 g1 g2 gb (g1 + 3) r c A cp l from ⟨blk_below b1.out hb,blk_below b2.out hb,by rw [hw5,hgb];exact boxed _ _ _,Kd.V_mono (Kd.V_below (Kd.R_V (Kd.R_bound HR.out)) hb) (fun k hk=>by have:=hk.2.1;have:=hk.2.2.1;have:=HN.out;omega)⟩)
 have CL:=Aside0.mk (show l.length≤cp∧Kd.C (Kd.int .i64) w5 A l.length l from ⟨(Kd.R_reads' HR.out).2.1,Kd.C_below (Kd.R_reads' HR.out).2.2 hb⟩)
 replace HN:=Aside0.mk (show w.heap.size=g1∧g2=g1 + 1∧gs=g1 + 2∧g1 + 3≤gb∧w5.heap.size=gb + 1 from by have:=HN.out;have:=HS.out;rw [hw5,size_alloc];omega)
 replace HD:=Aside0.mk (HD.out.up hb);clear b1 b2 HS HR hb hw5 hgb
 have y0:w5.cell? ⟨gb,0,none⟩=some (.int .i64 r):=(blk_cell HQ.out.bb 0).trans rfl;have y1:w5.cell? ⟨gb,1,none⟩=some (.int .i64 c):=(blk_cell HQ.out.bb 1).trans rfl;have y2:w5.cell? ⟨gb,2,none⟩=some (.slice A l.length cp):=(blk_cell HQ.out.bb 2).trans rfl
 obtain ⟨kb,hkb⟩:=(boGood (l:=l) r c (by have:=hl.out;omega)).rounds
 replace hkb:=Aside0.mk hkb
 go_wp2_with fail
 go_at_call 26;refine (spec_boGood.calls kb r c A cp l _ w5 CL.out.2 CL.out.1 hkb.out).mono ?_;rintro e w6 ⟨rfl,hb⟩
 replace HD:=Aside0.mk (HD.out.up hb);replace HQ:=Aside0.mk (HQ.out.up hb);replace CL:=Aside0.mk (And.intro CL.out.1 (Kd.C_below CL.out.2 hb));have H6:=Aside0.mk hb.size;clear hb y0 y1 y2
 have y0:w6.cell? ⟨gb,0,none⟩=some (.int .i64 r):=(blk_cell HQ.out.bb 0).trans rfl;have y1:w6.cell? ⟨gb,1,none⟩=some (.int .i64 c):=(blk_cell HQ.out.bb 1).trans rfl;have y2:w6.cell? ⟨gb,2,none⟩=some (.slice A l.length cp):=(blk_cell HQ.out.bb 2).trans rfl
 by_cases hbd:isBoardB r c l=true
 rotate_left
 ·
  have hbf:isBoardB r c l=false:=by simpa using hbd
  rw [hbf];clear hbd
  have z0:w6.cell? ⟨g1,0,none⟩=some (.int .i64 0):=(blk_cell HQ.out.b1 0).trans rfl;have z1:w6.cell? ⟨g1,1,none⟩=some (.int .i64 0):=(blk_cell HQ.out.b1 1).trans rfl;have z2:w6.cell? ⟨g1,2,none⟩=some (.slice none 0 0):=(blk_cell HQ.out.b1 2).trans rfl;have z3:w6.cell? ⟨g2,0,none⟩=some (.slice none 0 0):=(blk_cell HQ.out.b2 0).trans rfl;have z4:w6.cell? ⟨g2,1,none⟩=some (.slice none 0 0):=(blk_cell HQ.out.b2 1).trans rfl;have f0:=blk_frozen HQ.out.b1 0;have f1:=blk_frozen HQ.out.b1 1;have f2:=blk_frozen HQ.out.b1 2;have f3:=blk_frozen HQ.out.b2 0;have f4:=blk_frozen HQ.out.b2 1;have n12:g1 ≠ g2:=(by have:=HN.out;omega);have n21:g2 ≠ g1:=(by have:=HN.out;omega)
  go_wp2
  have hn:g1 ≠ g2∧w.heap.size≤g1∧w.heap.size≤g2:=by have:=HN.out;omega
  have e1:=put3 (x:=.int .i64 r) (y:=.int .i64 c) (z:=.slice A l.length cp) HQ.out.b1
  have k1:=keep3 w6 g1 (.int .i64 r) (.int .i64 c) (.slice A l.length cp)
  have e2:=KeepBut.blk k1 HQ.out.b2 hn.1.symm (by simp)
  have k2:=keep2 (((w6.setCell ⟨g1,0,none⟩ (.int .i64 r)).setCell ⟨g1,1,none⟩ (.int .i64 c)).setCell ⟨g1,2,none⟩ (.slice A l.length cp)) g2 (.slice none 0 0) (.slice none 0 0)
  have HW:=below_set (below_set (below_set (below_set (below_set HD.out.B hn.2.1  (j:=0) (v:=.int .i64 r)) hn.2.1  (j:=1) (v:=.int .i64 c)) hn.2.1  (j:=2) (v:=.slice A l.length cp)) hn.2.2  (j:=0) (v:=(.slice none 0 0))) hn.2.2  (j:=1) (v:=(.slice none 0 0))
  refine bodyPost_ret (results_cc rfl _ _ g1 g2 26 37 #[.int .i64 r,.int .i64 c,.slice A l.length cp] #[(.slice none 0 0),(.slice none 0 0)] (0,0) (0,0) _ _ rfl (KeepBut.blk k2 e1 hn.1 (by simp)) hu26 rfl (by kernel_rfl) rfl (put2 e2) hu37 rfl (by kernel_rfl)) rfl ?_
  exact ⟨r,c,l,[],[],_,_,_,⟨hl.out,by simp,by simp⟩,rfl,Kd.V_mono (Kd.V_keep (Kd.V_keep HQ.out.vl k1 (fun k hk=>by have:=HN.out;omega)) k2 (fun k hk=>by have:=HN.out;omega)) (fun _ _=>trivial),Kd.V_nil _ _ _ _ _,Kd.V_nil _ _ _ _ _,HW⟩
 have hcov:∃ cs,(∃ k,spec_lcCovers.f k r c l=some cs)∧0 < cs.length∧cs.length≤64∧∀ i:Int,(rd_T37 cs i).f0.length≤6∧(rd_T37 cs i).f1.length≤6:=by
  obtain ⟨R,C,rfl,rfl,hlR,h1R,hR,h1C,hC,hbits⟩:=board_of hbd
  exact ⟨covs l R C,(lcCovers hlR hR hC hbits).rounds,covs_pos hlR hR hC hbits,covs_len l R C,LeastCoverK.covs_short l R C⟩
 obtain ⟨cs,⟨kc,hkc⟩,hp,hcl,hsh⟩:=hcov
 rw [hbd];clear hbd hkb
 replace hkc:=Aside0.mk hkc;replace hcl:=Aside0.mk (And.intro hp hcl);replace hsh:=Lib.hid hsh;clear hp
 go_wp2_with fail
 go_at_call 30;refine (spec_lcCovers.calls kc r c A cp l cs w6 CL.out.2 CL.out.1 hkc.out).mono ?_;rintro e w7 ⟨vc,rfl,hN,hb⟩
 obtain ⟨Ac,cc,rfl⟩:=Kd.N_slice hN
 have VC:=Aside0.mk (show Kd.V k37 37 w7 0 (fun k=>w6.heap.size≤k) (.slice Ac cs.length cc) cs from Kd.N_V hN)
 replace HD:=Aside0.mk (HD.out.up hb);replace HQ:=Aside0.mk (HQ.out.up hb);have H7:=Aside0.mk hb.size;clear hb hN CL y0 y1 y2 hkc
 go_wp2_with fail
 go_at_call 43;refine (pick_c hc.out HD.out (by omega) _).mono ?_;rintro e w8 ⟨v,rfl,hv,hd,hk⟩
 replace HD:=Aside0.mk hd;replace HQ:=Aside0.mk (HQ.out.keep hk (by have:=HN.out;omega));replace VC:=Aside0.mk (Kd.V_keep VC.out hk (fun k h=>by have:=HN.out;have:=H6.out;omega));have H8:=Aside0.mk hk.1;clear hd hk
 have p0:0≤v:=hv.1;have q0:v < (cs.length:Int):=by have:=hcl.out;omega
 obtain ⟨ad,A6,c6,A7,c7,eA,z0,z1,l0,C0,l1,C1⟩:=at_T37 (Kd.V_reads' VC.out).2.2 v p0 q0
 subst eA;have hs:=hsh.out v
 generalize (rd_T37 cs v).f0=x at *;generalize (rd_T37 cs v).f1=y at *
 have X0:=Aside0.mk (And.intro l0 C0);have X1:=Aside0.mk (And.intro l1 C1);replace hs:=Aside0.mk hs
 have p1:=eq_true p0;have q1:=eq_true q0;clear p0 q0 hv l0 C0 l1 C1 VC hcl hsh
 go_upto_region 7 with fail
 obtain ⟨w9,hw9⟩:∃ W:World,W=w8.alloc (Obj.cells #[.slice A6 x.length c6,.slice A7 y.length c7] 37):=⟨_,rfl⟩
 obtain ⟨g7,hg7⟩:∃ g:Nat,g=w8.heap.size:=⟨_,rfl⟩
 rw [← hw9,← hg7]
 have hb:Below w8.heap.size w8 w9:=by rw [hw9];exact alloc_up _ _
 have B7:=Aside0.mk (show w9.heap[g7]?=some (.cells #[.slice A6 x.length c6,.slice A7 y.length c7] 37 (0,0)) by rw [hw9,hg7];exact boxed _ _ _)
 replace HD:=Aside0.mk (HD.out.up hb);replace HQ:=Aside0.mk (HQ.out.up hb);replace X0:=Aside0.mk (And.intro X0.out.1 (Kd.C_below X0.out.2 hb));replace X1:=Aside0.mk (And.intro X1.out.1 (Kd.C_below X1.out.2 hb))
 replace HN:=Aside0.mk (show w.heap.size=g1∧g2=g1 + 1∧gs=g1 + 2∧g1 + 3≤gb∧gb < g7∧w9.heap.size=g7 + 1 from by have:=HN.out;have:=H6.out;have:=H7.out;have:=H8.out;rw [hw9,size_alloc];omega)
 clear hb hw9 hg7 H6 H7 H8 z0 z1 p1 q1
 have hb:Below w9.heap.size w9 w9.drew:=below_drew1 (Below.refl _ _)
 refine start_ (n:=8) (S:=fun w'=>w'.cell? ⟨g7,0,none⟩=some (.slice A6 x.length c6)∧w'.cell? ⟨g7,1,none⟩=some (.slice A7 y.length c7)) (ds:=[7]) #[false,false,false,false,false,false,false,false] (by kernel_rfl) rfl rfl ⟨(blk_cell B7.out 0).trans rfl,(blk_cell B7.out 1).trans rfl⟩ (fun hHeld=>?_);refine with_tabW spec_DrawIsCover.tab7 spec_DrawIsCover.bits7 (fun HT_ HW_=>?_)
 replace HD:=Aside0.mk (HD.out.up hb);replace HQ:=Aside0.mk (HQ.out.up hb);replace B7:=Aside0.mk (blk_below B7.out hb);replace X0:=Aside0.mk (And.intro X0.out.1 (Kd.C_below X0.out.2 hb));replace X1:=Aside0.mk (And.intro X1.out.1 (Kd.C_below X1.out.2 hb));replace HN:=Aside0.mk (show w.heap.size=g1∧g2=g1 + 1∧gs=g1 + 2∧g1 + 3≤gb∧gb < g7∧w9.drew.heap.size=g7 + 1 from HN.out);clear hb
 generalize w9.drew=wd at HD HQ B7 X0 X1 HN hHeld ⊢
 refine pure_ (i:=0) (N:=some 27) (v:=?_) (a':=?_) #[true,false,false,false,false,false,false,false] rfl rfl (any_of HT_.out (by kernel_rfl)) (fun _ _ _ h=>h) (Or.inl ⟨by rfl,?_⟩) ?_ ?_
 rotate_left
 ·
  intro w'
  go_simp
  with_reducible rfl
 rotate_left
 ·
  simp only [Act.put,List.setIfInBounds_toArray,List.set_cons_zero,List.set_cons_succ,i64_w,i32_w]
  rfl
 refine pure_ (i:=3) (N:=some 30) (v:=?_) (a':=?_) #[true,false,false,true,false,false,false,false] rfl rfl (any_of HT_.out (by kernel_rfl)) (fun _ _ _ h=>h) (Or.inl ⟨by rfl,?_⟩) ?_ ?_
 rotate_left
 ·
  intro w'
  go_simp
  with_reducible rfl
 rotate_left
 ·
  simp only [Act.put,List.setIfInBounds_toArray,List.set_cons_zero,List.set_cons_succ,i64_w,i32_w]
  rfl
 refine take_ (i:=1) (N:=some 28) (v:=?_) (a':=?_) #[true,true,false,true,false,false,false,false] rfl rfl (take_ofW HT_.out HW_.out (by kernel_rfl)) (fun _ _ _ h=>h) (Or.inl ⟨by rfl,?_⟩) hHeld ?_ ?_
 rotate_left
 ·
  rintro w' ⟨s0,s1⟩
  go_simp
  with_reducible rfl
 rotate_left
 ·
  simp only [Act.put,List.setIfInBounds_toArray,List.set_cons_zero,List.set_cons_succ,i64_w,i32_w]
  rfl
 refine take_ (i:=4) (N:=some 31) (v:=?_) (a':=?_) #[true,true,false,true,true,false,false,false] rfl rfl (take_ofW HT_.out HW_.out (by kernel_rfl)) (fun _ _ _ h=>h) (Or.inl ⟨by rfl,?_⟩) hHeld ?_ ?_
 rotate_left
 ·
  rintro w' ⟨s0,s1⟩
  go_simp
  with_reducible rfl
 rotate_left
 ·
  simp only [Act.put,List.setIfInBounds_toArray,List.set_cons_zero,List.set_cons_succ,i64_w,i32_w]
  rfl
 refine one_ (i:=2) (N:=some 29) #[true,true,true,true,true,false,false,false] rfl rfl (one_of HT_.out (by kernel_rfl)) (by decide) (fun K hK=>?_)
 refine goes_ Tryz.func44 (by kernel_rfl) rfl #[.slice A6 x.length c6] (by rfl) rfl rfl (by (try simp only [List.map_toArray,List.map_cons,List.map_nil]);first|done|rfl) ?_
 refine (spec_l1Own.calls A6 c6 x x wd X0.out.2 X0.out.1 (l1Own (by have:=hs.out.1;omega))).mono ?_;rintro e wa ⟨v0,rfl,ho,hb⟩
 refine ⟨_,rfl,?_⟩
 obtain ⟨A8,c8,rfl⟩:=Kd.R_slice ho
 replace HD:=Aside0.mk (HD.out.up hb);replace HQ:=Aside0.mk (HQ.out.up hb);replace B7:=Aside0.mk (blk_below B7.out hb);replace X1:=Aside0.mk (And.intro X1.out.1 (Kd.C_below X1.out.2 hb));have RX:=Aside0.mk (Kd.R_mono (ok':=fun k=>g7 < k∧k < wa.heap.size) (Kd.R_lower (Kd.R_bound ho) (by have:=HN.out;omega:w.heap.size≤wd.heap.size)) (fun k h=>by have:=HN.out;have:=h.2.1;have:=h.2.2.1;omega));have H10:=Aside0.mk hb.size;clear ho hb X0
 refine hK.out _ _ ⟨(blk_cell B7.out 0).trans rfl,(blk_cell B7.out 1).trans rfl⟩ (fun hHeld=>?_)
 clear hK K
 refine norm_ (a':=?_) ?_ ?_
 rotate_left
 ·
  show Act.put _ (some 29) _=_
  simp only [Act.put,List.setIfInBounds_toArray,List.set_cons_zero,List.set_cons_succ,i64_w,i32_w]
  rfl
 refine one_ (i:=5) (N:=some 32) #[true,true,true,true,true,true,false,false] rfl rfl (one_of HT_.out (by kernel_rfl)) (by decide) (fun K hK=>?_)
 refine goes_ Tryz.func44 (by kernel_rfl) rfl #[.slice A7 y.length c7] (by rfl) rfl rfl (by (try simp only [List.map_toArray,List.map_cons,List.map_nil]);first|done|rfl) ?_
 refine (spec_l1Own.calls A7 c7 y y wa X1.out.2 X1.out.1 (l1Own (by have:=hs.out.2;omega))).mono ?_;rintro e wb ⟨v0,rfl,ho,hb⟩
 refine ⟨_,rfl,?_⟩
 obtain ⟨A9,c9,rfl⟩:=Kd.R_slice ho
 replace HD:=Aside0.mk (HD.out.up hb);replace HQ:=Aside0.mk (HQ.out.up hb);replace B7:=Aside0.mk (blk_below B7.out hb);replace RX:=Aside0.mk (Kd.R_below RX.out hb);have RY:=Aside0.mk (Kd.R_mono (ok':=fun k=>g7 < k∧wa.heap.size≤k) (Kd.R_lower (Kd.R_bound ho) (by have:=HN.out;have:=H10.out;omega:w.heap.size≤wa.heap.size)) (fun k h=>by have:=HN.out;have:=H10.out;have:=h.2.1;omega));clear ho hb X1
 refine hK.out _ _ ⟨(blk_cell B7.out 0).trans rfl,(blk_cell B7.out 1).trans rfl⟩ (fun hHeld=>?_)
 clear hK K
 refine norm_ (a':=?_) ?_ ?_
 rotate_left
 ·
  show Act.put _ (some 32) _=_
  simp only [Act.put,List.setIfInBounds_toArray,List.set_cons_zero,List.set_cons_succ,i64_w,i32_w]
  rfl
 refine pure_ (i:=6) (N:=some 33) (v:=?_) (a':=?_) #[true,true,true,true,true,true,true,false] rfl rfl (any_of HT_.out (by kernel_rfl)) (fun _ _ _ h=>h) (Or.inl ⟨by rfl,?_⟩) ?_ ?_
 rotate_left
 ·
  intro w'
  go_simp
  with_reducible rfl
 rotate_left
 ·
  simp only [Act.put,List.setIfInBounds_toArray,List.set_cons_zero,List.set_cons_succ,i64_w,i32_w]
  rfl
 refine last_ (i:=7) (N:=none) #[true,true,true,true,true,true,true,true] rfl rfl (one_of HT_.out (by kernel_rfl)) (by decide) (fun K hK=>?_)
 have hs0:wb.cell? ⟨g7,0,none⟩=some (.slice A6 x.length c6):=(blk_cell B7.out 0).trans rfl;have hf0:=blk_frozen B7.out 0
 have hs1:wb.cell? ⟨g7,1,none⟩=some (.slice A7 y.length c7):=(blk_cell B7.out 1).trans rfl;have hf1:=blk_frozen B7.out 1
 refine skip_ (w1:=?_) (by rfl) rfl ?_ ?_
 rotate_left
 ·
  go_simp;rfl
 refine hK.out _ _ ?_
 clear hK K hs0 hf0 hs1 hf1
 refine done_ (done_of HT_.out (by kernel_rfl)) ?_
 have hn:gs ≠ g7∧w.heap.size≤g7∧g7 ≠ g1∧g7 ≠ g2∧gb < g7∧g1≤gb∧g2≤gb∧g1 + 3≤gb:=by have:=HN.out;omega
 have HG:=Aside0.mk (show w.heap.size=g1∧g2=g1 + 1∧gs=g1 + 2 by have:=HN.out;omega)
 have k7:=keep2 wb g7 (.slice A8 x.length c8) (.slice A9 y.length c9)
 replace B7:=Aside0.mk (put2 (x:=.slice A8 x.length c8) (y:=.slice A9 y.length c9) B7.out)
 replace HD:=Aside0.mk ((HD.out.set hn.1 hn.2.1 0 (.slice A8 x.length c8)).set hn.1 hn.2.1 1 (.slice A9 y.length c9));replace HQ:=Aside0.mk (HQ.out.keep k7 (by omega));replace RX:=Aside0.mk (Kd.R_keep RX.out k7 (fun k h=>by omega));replace RY:=Aside0.mk (Kd.R_keep RY.out k7 (fun k h=>by omega));clear k7 hHeld
 generalize (wb.setCell ⟨g7,0,none⟩ (.slice A8 x.length c8)).setCell ⟨g7,1,none⟩ (.slice A9 y.length c9)=wc at HD HQ B7 RX RY ⊢
 obtain ⟨s8,hs8⟩:∃ n:Nat,n=wa.heap.size:=⟨_,rfl⟩
 rw [← hs8] at RX RY
 replace HN:=Aside0.mk hn;clear hn hs8 H10
 go_wp2_with fail
 go_at_call 43;refine (pick_c hc.out HD.out (by omega) _).mono ?_;rintro e wp ⟨u,rfl,hu,hd,hk⟩
 replace HD:=Aside0.mk hd;replace HQ:=Aside0.mk (HQ.out.keep hk (by have:=HN.out;have:=HG.out;omega));replace B7:=Aside0.mk (KeepBut.blk hk B7.out (by have:=HN.out;omega) (by simp));replace RX:=Aside0.mk (Kd.R_keep RX.out hk (fun k h=>by have:=HN.out;have:=HG.out;omega));replace RY:=Aside0.mk (Kd.R_keep RY.out hk (fun k h=>by have:=HN.out;have:=HG.out;omega));clear hd hk hu
 go_upto_block 0 with fail
 obtain ⟨P,HP⟩:∃ P:World→Prop,P=(fun W=>∃ (x y:List Int) (vx vy:Value),(x.length≤7∧y.length≤7)∧DQ W g1 g2 gb (g1 + 3) r c A cp l∧Dr w W gs code 1000∧W.heap[g7]?=some (.cells #[vx,vy] 37 (0,0))∧Kd.V (Kd.int .i64) 3 W 0 (fun k=>g7 < k) vx x∧Kd.V (Kd.int .i64) 3 W 0 (fun k=>g7 < k) vy y):=⟨_,rfl⟩
 go_cut [] (fun wz=>Aside0 (P wz))
 case first =>
  have c7a:wp.cell? ⟨g7,0,none⟩=some (.slice A8 x.length c8):=(blk_cell B7.out 0).trans rfl;have c7b:wp.cell? ⟨g7,1,none⟩=some (.slice A9 y.length c9):=(blk_cell B7.out 1).trans rfl;have f7a:=blk_frozen B7.out 0;have f7b:=blk_frozen B7.out 1
  have MEET:Aside0 (P wp):=⟨by rw [HP];exact ⟨x,y,_,_,by have:=hs.out;omega,HQ.out,HD.out.le (by omega) (by omega),B7.out,Kd.V_mono (Kd.R_V RX.out) (fun _ h=>h.1),Kd.V_mono (Kd.R_V RY.out) (fun _ h=>h.1)⟩⟩
  by_cases u0:u=0
  ·
   have u0b:(u == 0)=true:=beq_iff_eq.mpr u0
   clear u0
   by_cases hy:0 < (y.length:Int)
   ·
    have hyb:decide (0 < (y.length:Int))=true:=decide_eq_true hy;have hyc:decide (0 < y.length)=true:=decide_eq_true (by omega)
    obtain ⟨i0,hi0,_,hsz,_⟩:=info_parts info3
    have hcut:=cut_from (P:=Tryz.prog) 24 3 .i64 Tryz.underlying24 hi0 1 hsz A9 y.length c9 1 (by omega) (by omega)
    have hq:=Kd.Q_drop (k:=(1:Int).toNat) (Kd.Q_of_R RY.out) (by omega)
    obtain ⟨B1,hB1⟩:∃ A1,A1=(if c9=(1:Int).toNat then A9 else (A9:Option Addr).map (·.add ((1:Int).toNat * 1))):=⟨_,rfl⟩
    obtain ⟨d1,hd1⟩:∃ c1,c1=c9 - (1:Int).toNat:=⟨_,rfl⟩
    obtain ⟨y',hy'⟩:∃ z,z=y.drop (1:Int).toNat:=⟨_,rfl⟩
    have hl':y'.length=y.length - (1:Int).toNat:=by rw [hy',List.length_drop]
    rw [← hy'] at hq;rw [← hl',← hB1,← hd1] at hcut
    have hq2:Kd.Q (Kd.int .i64) 3 wp w.heap.size (fun k=>g7 < k∧s8≤k) (.slice B1 y'.length d1) y':=by rw [hB1,hd1,hl'];exact hq
    have VY:=Aside0.mk (show Kd.V (Kd.int .i64) 3 wp 0 (fun k=>g7 < k) (.slice B1 y'.length d1) y' from Kd.V_mono (Kd.Q_V hq2) (fun _ h=>h.1));clear hq2
    have hy7:=Aside0.mk (show y'.length≤7 by have:=hs.out;omega)
    have q1:=eq_true (show (1:Int)≤(y.length:Int) by omega);clear hq hB1 hd1 hy' hl' hy hi0
    go_wp2;go_meet
    case rel =>
     have hn:=HN.out;have k7:=keep1 wp g7 1 (.slice B1 y'.length d1)
     refine ⟨?_⟩;rw [HP];exact ⟨x,y',_,_,⟨by have:=hs.out;omega,hy7.out⟩,HQ.out.keep k7 (by omega),(HD.out.set hn.1 hn.2.1 1 _).le (by omega) (by omega),blk_put (cs:=#[.slice A8 x.length c8,.slice A9 y.length c9]) B7.out 1 _ rfl,Kd.V_mono (Kd.V_keep (Kd.R_V RX.out) k7 (fun k h=>by omega)) (fun _ h=>h.1),Kd.V_keep VY.out k7 (fun k h=>by omega)⟩
   ·
    have hyb:decide (0 < (y.length:Int))=false:=decide_eq_false hy;have hyc:decide (0 < y.length)=false:=decide_eq_false (by omega)
    clear hy;go_wp2;go_meet;case rel=>exact MEET
  ·
   have u0b:(u == 0)=false:=beq_eq_false_iff_ne.mpr u0
   by_cases u1:u=1
   ·
    have u1b:(u == 1)=true:=beq_iff_eq.mpr u1
    clear u0 u1 MEET
    have y0:wp.cell? ⟨gb,0,none⟩=some (.int .i64 r):=(blk_cell HQ.out.bb 0).trans rfl;have y1:wp.cell? ⟨gb,1,none⟩=some (.int .i64 c):=(blk_cell HQ.out.bb 1).trans rfl;have y2:wp.cell? ⟨gb,2,none⟩=some (.slice A l.length cp):=(blk_cell HQ.out.bb 2).trans rfl
    go_upto_region 13 with fail
    have hb:Below wp.heap.size wp wp.drew:=below_drew1 (Below.refl _ _)
    refine start_ (n:=9) (S:=fun w'=>w'.cell? ⟨g7,0,none⟩=some (.slice A8 x.length c8)∧w'.cell? ⟨g7,1,none⟩=some (.slice A9 y.length c9)∧w'.cell? ⟨gb,0,none⟩=some (.int .i64 r)∧w'.cell? ⟨gb,1,none⟩=some (.int .i64 c)∧w'.cell? ⟨gb,2,none⟩=some (.slice A l.length cp)) (ds:=[8]) #[false,false,false,false,false,false,false,false,false] (by kernel_rfl) rfl rfl ⟨(blk_cell B7.out 0).trans rfl,(blk_cell B7.out 1).trans rfl,(blk_cell HQ.out.bb 0).trans rfl,(blk_cell HQ.out.bb 1).trans rfl,(blk_cell HQ.out.bb 2).trans rfl⟩ (fun hHeld=>?_);refine with_tabW spec_DrawIsCover.tab13 spec_DrawIsCover.bits13 (fun HT_ HW_=>?_)
    replace HD:=Aside0.mk (HD.out.up hb);replace HQ:=Aside0.mk (HQ.out.up hb);replace B7:=Aside0.mk (blk_below B7.out hb);replace RX:=Aside0.mk (Kd.R_below RX.out hb);replace RY:=Aside0.mk (Kd.R_below RY.out hb);clear hb y0 y1 y2 c7a c7b f7a f7b
    generalize wp.drew=wd at HD HQ B7 RX RY hHeld ⊢
    refine pure_ (i:=0) (N:=some 48) (v:=?_) (a':=?_) #[true,false,false,false,false,false,false,false,false] rfl rfl (any_of HT_.out (by kernel_rfl)) (fun _ _ _ h=>h) (Or.inl ⟨by rfl,?_⟩) ?_ ?_
    rotate_left
    ·
     intro w'
     go_simp
     with_reducible rfl
    rotate_left
    ·
     simp only [Act.put,List.setIfInBounds_toArray,List.set_cons_zero,List.set_cons_succ,i64_w,i32_w]
     rfl
    refine pure_ (i:=2) (N:=some 50) (v:=?_) (a':=?_) #[true,false,true,false,false,false,false,false,false] rfl rfl (any_of HT_.out (by kernel_rfl)) (fun _ _ _ h=>h) (Or.inl ⟨by rfl,?_⟩) ?_ ?_
    rotate_left
    ·
     intro w'
     go_simp
     with_reducible rfl
    rotate_left
    ·
     simp only [Act.put,List.setIfInBounds_toArray,List.set_cons_zero,List.set_cons_succ,i64_w,i32_w]
     rfl
    refine pure_ (i:=3) (N:=some 51) (v:=?_) (a':=?_) #[true,false,true,true,false,false,false,false,false] rfl rfl (any_of HT_.out (by kernel_rfl)) (fun _ _ _ h=>h) (Or.inl ⟨by rfl,?_⟩) ?_ ?_
    rotate_left
    ·
     intro w'
     go_simp
     with_reducible rfl
    rotate_left
    ·
     simp only [Act.put,List.setIfInBounds_toArray,List.set_cons_zero,List.set_cons_succ,i64_w,i32_w]
     rfl
    refine take_ (i:=1) (N:=some 49) (v:=?_) (a':=?_) #[true,true,true,true,false,false,false,false,false] rfl rfl (take_ofW HT_.out HW_.out (by kernel_rfl)) (fun _ _ _ h=>h) (Or.inl ⟨by rfl,?_⟩) hHeld ?_ ?_
    rotate_left
    ·
     rintro w' ⟨s0,s1,s2,s3,s4⟩
     go_simp
     with_reducible rfl
    rotate_left
    ·
     simp only [Act.put,List.setIfInBounds_toArray,List.set_cons_zero,List.set_cons_succ,i64_w,i32_w]
     rfl
    refine take_ (i:=4) (N:=some 52) (v:=?_) (a':=?_) #[true,true,true,true,true,false,false,false,false] rfl rfl (take_ofW HT_.out HW_.out (by kernel_rfl)) (fun _ _ _ h=>h) (Or.inl ⟨by rfl,?_⟩) hHeld ?_ ?_
    rotate_left
    ·
     rintro w' ⟨s0,s1,s2,s3,s4⟩
     go_simp
     with_reducible rfl
    rotate_left
    ·
     simp only [Act.put,List.setIfInBounds_toArray,List.set_cons_zero,List.set_cons_succ,i64_w,i32_w]
     rfl
    refine one_ (i:=5) (N:=some 53) #[true,true,true,true,true,true,false,false,false] rfl rfl (one_of HT_.out (by kernel_rfl)) (by decide) (fun K hK=>?_)
    refine goes_ Tryz.func43 (by kernel_rfl) rfl #[.pointer (some ⟨gs,0,none⟩),.int .i64 r] (by rfl) rfl rfl (by (try simp only [List.map_toArray,List.map_cons,List.map_nil]);first|done|rfl) ?_
    refine (pick_c hc.out HD.out (by omega) r).mono ?_;rintro e wa ⟨v,rfl,hv,hd,hk⟩
    refine ⟨_,rfl,?_⟩
    replace HD:=Aside0.mk hd;replace HQ:=Aside0.mk (HQ.out.keep hk (by have:=HN.out;have:=HG.out;omega));replace B7:=Aside0.mk (KeepBut.blk hk B7.out (by have:=HN.out;omega) (by simp));replace RX:=Aside0.mk (Kd.R_keep RX.out hk (fun k h=>by have:=HN.out;have:=HG.out;omega));replace RY:=Aside0.mk (Kd.R_keep RY.out hk (fun k h=>by have:=HN.out;have:=HG.out;omega));clear hd hk hv
    refine hK.out _ _ ⟨(blk_cell B7.out 0).trans rfl,(blk_cell B7.out 1).trans rfl,(blk_cell HQ.out.bb 0).trans rfl,(blk_cell HQ.out.bb 1).trans rfl,(blk_cell HQ.out.bb 2).trans rfl⟩ (fun hHeld=>?_)
    clear hK K
    refine norm_ (a':=?_) ?_ ?_
    rotate_left
    ·
     show Act.put _ (some 53) _=_
     simp only [Act.put,List.setIfInBounds_toArray,List.set_cons_zero,List.set_cons_succ,i64_w,i32_w]
     rfl
    refine one_ (i:=6) (N:=some 54) #[true,true,true,true,true,true,true,false,false] rfl rfl (one_of HT_.out (by kernel_rfl)) (by decide) (fun K hK=>?_)
    obtain ⟨x',hx',hx7⟩:=put_run (l:=x) (by have:=hs.out;omega) v x.length 0 (by omega)
    obtain ⟨kp,hkp⟩:=hx'.rounds;replace hx7:=Aside0.mk hx7
    refine goes_ Tryz.func45 (by kernel_rfl) rfl #[.slice A8 x.length c8,.int .i64 v] (by rfl) rfl rfl (by (try simp only [List.map_toArray,List.map_cons,List.map_nil]);first|done|rfl) ?_
    refine (spec_l1Put.calls kp _ _ x v x' w wa HD.out.B RX.out hkp).mono ?_;rintro e wb ⟨v0,rfl,ho,hb,hkt⟩
    refine ⟨_,rfl,?_⟩
    obtain ⟨B1,d1,rfl⟩:=Kd.R_slice ho
    have hn:=HN.out;have hgw:=blk_lt B7.out
    replace HD:=Aside0.mk (HD.out.kept hb hkt (fun h=>by have:=HG.out;omega));replace HQ:=Aside0.mk (HQ.out.kept hkt ⟨by omega,by omega,by omega,fun k h=>by omega⟩);replace B7:=Aside0.mk (blk_kept B7.out hkt (fun h=>by omega));have VX:=Aside0.mk (Kd.V_mono (ok':=fun k=>g7 < k) (Kd.R_V (base':=0) ho) (fun k h=>by omega));have VY:=Aside0.mk (Kd.V_kept (Kd.R_V (base':=0) RY.out) hkt (fun k h=>by omega));clear RX RY ho hb hkt hn hgw hkp hx'
    refine hK.out _ _ ⟨(blk_cell B7.out 0).trans rfl,(blk_cell B7.out 1).trans rfl,(blk_cell HQ.out.bb 0).trans rfl,(blk_cell HQ.out.bb 1).trans rfl,(blk_cell HQ.out.bb 2).trans rfl⟩ (fun hHeld=>?_)
    clear hK K
    refine norm_ (a':=?_) ?_ ?_
    rotate_left
    ·
     show Act.put _ (some 54) _=_
     simp only [Act.put,List.setIfInBounds_toArray,List.set_cons_zero,List.set_cons_succ,i64_w,i32_w]
     rfl
    refine pure_ (i:=7) (N:=some 55) (v:=?_) (a':=?_) #[true,true,true,true,true,true,true,true,false] rfl rfl (any_of HT_.out (by kernel_rfl)) (fun _ _ _ h=>h) (Or.inl ⟨by rfl,?_⟩) ?_ ?_
    rotate_left
    ·
     intro w'
     go_simp
     with_reducible rfl
    rotate_left
    ·
     simp only [Act.put,List.setIfInBounds_toArray,List.set_cons_zero,List.set_cons_succ,i64_w,i32_w]
     rfl
    refine last_ (i:=8) (N:=none) #[true,true,true,true,true,true,true,true,true] rfl rfl (one_of HT_.out (by kernel_rfl)) (by decide) (fun K hK=>?_)
    have hs0:wb.cell? ⟨g7,0,none⟩=some (.slice A8 x.length c8):=(blk_cell B7.out 0).trans rfl;have hf0:=blk_frozen B7.out 0
    refine skip_ (w1:=?_) (by rfl) rfl ?_ ?_
    rotate_left
    ·
     go_simp;rfl
    refine hK.out _ _ ?_
    clear hK K hs0 hf0
    refine done_ (done_of HT_.out (by kernel_rfl)) ?_
    go_wp2;go_meet
    case rel =>
     have hn:=HN.out;have k7:=keep1 wb g7 0 (.slice B1 x'.length d1)
     refine ⟨?_⟩;rw [HP];exact ⟨x',y,_,_,⟨by have:=hx7.out;have:=hs.out;omega,by have:=hs.out;omega⟩,HQ.out.keep k7 (by omega),(HD.out.set hn.1 hn.2.1 0 _).le (by omega) (by omega),blk_put (cs:=#[.slice A8 x.length c8,.slice A9 y.length c9]) B7.out 0 _ rfl,Kd.V_keep VX.out k7 (fun k h=>by omega),Kd.V_mono (Kd.V_keep VY.out k7 (fun k h=>by omega)) (fun _ h=>h.1)⟩
   ·
    have u1b:(u == 1)=false:=beq_eq_false_iff_ne.mpr u1
    by_cases u2:u=2
    rotate_left
    ·
     have u2b:(u == 2)=false:=beq_eq_false_iff_ne.mpr u2
     clear u0 u1 u2;go_wp2;go_meet;case rel=>exact MEET
    have u2b:(u == 2)=true:=beq_iff_eq.mpr u2
    clear u0 u1 u2 MEET
    go_upto_region 15 with fail
    have hb:Below wp.heap.size wp wp.drew:=below_drew1 (Below.refl _ _)
    refine start_ (n:=9) (S:=fun w'=>w'.cell? ⟨g7,0,none⟩=some (.slice A8 x.length c8)∧w'.cell? ⟨g7,1,none⟩=some (.slice A9 y.length c9)) (ds:=[8]) #[false,false,false,false,false,false,false,false,false] (by kernel_rfl) rfl rfl ⟨(blk_cell B7.out 0).trans rfl,(blk_cell B7.out 1).trans rfl⟩ (fun hHeld=>?_);refine with_tabW spec_DrawIsCover.tab15 spec_DrawIsCover.bits15 (fun HT_ HW_=>?_)
    replace HD:=Aside0.mk (HD.out.up hb);replace HQ:=Aside0.mk (HQ.out.up hb);replace B7:=Aside0.mk (blk_below B7.out hb);replace RX:=Aside0.mk (Kd.R_below RX.out hb);replace RY:=Aside0.mk (Kd.R_below RY.out hb);clear hb c7a c7b f7a f7b
    generalize wp.drew=wd at HD HQ B7 RX RY hHeld ⊢
    refine pure_ (i:=0) (N:=some 58) (v:=?_) (a':=?_) #[true,false,false,false,false,false,false,false,false] rfl rfl (any_of HT_.out (by kernel_rfl)) (fun _ _ _ h=>h) (Or.inl ⟨by rfl,?_⟩) ?_ ?_
    rotate_left
    ·
     intro w'
     go_simp
     with_reducible rfl
    rotate_left
    ·
     simp only [Act.put,List.setIfInBounds_toArray,List.set_cons_zero,List.set_cons_succ,i64_w,i32_w]
     rfl
    refine pure_ (i:=2) (N:=some 60) (v:=?_) (a':=?_) #[true,false,true,false,false,false,false,false,false] rfl rfl (any_of HT_.out (by kernel_rfl)) (fun _ _ _ h=>h) (Or.inl ⟨by rfl,?_⟩) ?_ ?_
    rotate_left
    ·
     intro w'
     go_simp
     with_reducible rfl
    rotate_left
    ·
     simp only [Act.put,List.setIfInBounds_toArray,List.set_cons_zero,List.set_cons_succ,i64_w,i32_w]
     rfl
    refine take_ (i:=1) (N:=some 59) (v:=?_) (a':=?_) #[true,true,true,false,false,false,false,false,false] rfl rfl (take_ofW HT_.out HW_.out (by kernel_rfl)) (fun _ _ _ h=>h) (Or.inl ⟨by rfl,?_⟩) hHeld ?_ ?_
    rotate_left
    ·
     rintro w' ⟨s0,s1⟩
     go_simp
     with_reducible rfl
    rotate_left
    ·
     simp only [Act.put,List.setIfInBounds_toArray,List.set_cons_zero,List.set_cons_succ,i64_w,i32_w]
     rfl
    refine one_ (i:=3) (N:=some 61) #[true,true,true,true,false,false,false,false,false] rfl rfl (one_of HT_.out (by kernel_rfl)) (by decide) (fun K hK=>?_)
    refine Kd.R_lit_step (Kd.int .i64) _ 3 ?hg (N:=61) ?hd (xs:=([(-1),0,6]:List Int)) (inner:=[.int .i64 (-1),.int .i64 0,.int .i64 6]) (ok:=fun _=>True) (okp:=fun _=>True) ?hr ?hp (fun _ hk=>hk) trivial (Below.refl _ _) (Nat.le_refl _) (by simp) ?_;(case hd=>rfl);(case hg=>rfl);(case hr=>first|(go_simp;done)|(go_simp;rfl));(case hp=>exact (Reps.one (show Kd.M (Kd.int .i64) _ _ _ (-1) [.int .i64 (-1)] from rfl) (Reps.one (show Kd.M (Kd.int .i64) _ _ _ 0 [.int .i64 0] from rfl) (Reps.one (show Kd.M (Kd.int .i64) _ _ _ 6 [.int .i64 6] from rfl) (Reps.none _ _)))))
    intro vl wl ho hb hg_ hnew_
    obtain ⟨Bl,dl,rfl⟩:=Kd.R_slice ho
    replace HD:=Aside0.mk (HD.out.up hb);replace HQ:=Aside0.mk (HQ.out.up hb);replace B7:=Aside0.mk (blk_below B7.out hb);replace RX:=Aside0.mk (Kd.R_below RX.out hb);replace RY:=Aside0.mk (Kd.R_below RY.out hb);have HL:=Aside0.mk ho;clear hb ho hg_ hnew_
    refine hK.out _ _ ⟨(blk_cell B7.out 0).trans rfl,(blk_cell B7.out 1).trans rfl⟩ (fun hHeld=>?_)
    clear hK K
    refine norm_ (a':=?_) ?_ ?_
    rotate_left
    ·
     show Act.put _ (some 61) _=_
     simp only [Act.put,List.setIfInBounds_toArray,List.set_cons_zero,List.set_cons_succ,i64_w,i32_w]
     rfl
    refine one_ (i:=4) (N:=some 62) #[true,true,true,true,true,false,false,false,false] rfl rfl (one_of HT_.out (by kernel_rfl)) (by decide) (fun K hK=>?_)
    refine goes_ Tryz.func46 (by kernel_rfl) rfl #[.pointer (some ⟨gs,0,none⟩),.slice Bl ([(-1),0,6]:List Int).length dl] (by rfl) rfl rfl (by (try simp only [List.map_toArray,List.map_cons,List.map_nil]);first|done|rfl) ?_
    refine (among_c hc.out HD.out (by omega) (by simp) (Kd.R_reads' HL.out).2.2 (Kd.R_reads' HL.out).2.1 (far_slice (by obtain ⟨a_,s_,hI_,_⟩:=HD.out.I;exact IsS68.own_ne hI_ HL.out (by decide)))).mono ?_;rintro e wa ⟨v,rfl,hd,hk⟩
    refine ⟨_,rfl,?_⟩
    replace HD:=Aside0.mk hd;replace HQ:=Aside0.mk (HQ.out.keep hk (by have:=HN.out;have:=HG.out;omega));replace B7:=Aside0.mk (KeepBut.blk hk B7.out (by have:=HN.out;omega) (by simp));replace RX:=Aside0.mk (Kd.R_keep RX.out hk (fun k h=>by have:=HN.out;have:=HG.out;omega));replace RY:=Aside0.mk (Kd.R_keep RY.out hk (fun k h=>by have:=HN.out;have:=HG.out;omega));clear hd hk;clear HL
    refine hK.out _ _ ⟨(blk_cell B7.out 0).trans rfl,(blk_cell B7.out 1).trans rfl⟩ (fun hHeld=>?_)
    clear hK K
    refine norm_ (a':=?_) ?_ ?_
    rotate_left
    ·
     show Act.put _ (some 62) _=_
     simp only [Act.put,List.setIfInBounds_toArray,List.set_cons_zero,List.set_cons_succ,i64_w,i32_w]
     rfl
    refine one_ (i:=5) (N:=some 63) #[true,true,true,true,true,true,false,false,false] rfl rfl (one_of HT_.out (by kernel_rfl)) (by decide) (fun K hK=>?_)
    refine value_ (w1:=?_) (v:=?_) (by rfl) rfl ?_ ?_
    rotate_left 2
    ·
     go_simp
     constructor
     ·
      rfl
     ·
      rfl
    refine hK.out _ _ ⟨(blk_cell (blk_alloc B7.out _) 0).trans rfl,(blk_cell (blk_alloc B7.out _) 1).trans rfl⟩ (fun hHeld=>?_)
    clear hK K
    refine norm_ (a':=?_) ?_ ?_
    rotate_left
    ·
     show Act.put _ (some 63) _=_
     simp only [Act.put,List.setIfInBounds_toArray,List.set_cons_zero,List.set_cons_succ,i64_w,i32_w]
     rfl
    skip
    refine one_ (i:=6) (N:=some 64) #[true,true,true,true,true,true,true,false,false] rfl rfl (one_of HT_.out (by kernel_rfl)) (by decide) (fun K hK=>?_)
    refine Kd.R_append_step (Kd.int .i64) (w0:=w) w.heap.size (by rfl) (.tmp 59) (.tmp 63) 24 3 (.int .i64 0) 8 rfl Tryz.underlying24 info3 rfl (by decide) (by omega) (.slice A8 x.length c8) x v [.int .i64 v] (fun k=>g7 < k) (fun _=>False) rfl rfl ?aP (fun _ hk=>hk.elim) ?aF ?aO ?aB ?aS ?aL ?_
    (case aP=>exact rfl)
    (case aB=>exact HD.out.B)
    (case aF=>exact fun k hk=>Nat.lt_of_lt_of_le (blk_lt B7.out) hk)
    (case aO=>exact Kd.R_mono RX.out (fun _ h=>h.1))
    (case aS=>exact HD.out.B.size)
    (case aL=>have:=hs.out;omega)
    intro vn wb ho hb hg hat
    obtain ⟨B1,d1,rfl⟩:=Kd.R_slice ho
    have hrow:∀ k,(Value.slice A8 x.length c8).ownBlock=some k→g7 < k∧k < s8:=RX.out.1
    have hn:=HN.out;have hb0:=HG.out
    replace HD:=Aside0.mk (HD.out.grown hb hg (fun e=>by have:=hrow _ e.symm;omega));replace HQ:=Aside0.mk (HQ.out.grown hg ⟨by omega,by omega,by omega,fun k h=>by have:=hrow _ h;omega⟩);replace B7:=Aside0.mk (blk_grown B7.out hg (fun e=>by have:=hrow _ e.symm;omega));have VX:=Aside0.mk (Kd.R_V (base':=0) ho);have VY:=Aside0.mk (Kd.V_grown (Kd.R_V (base':=0) RY.out) hg (fun k h e=>by have:=hrow _ e.symm;omega))
    obtain ⟨x',hx'⟩:∃ z,z=x ++ [v]:=⟨_,rfl⟩
    have hx7:=Aside0.mk (show x'.length≤7 by have:=hs.out;rw [hx',List.length_append,List.length_singleton];omega)
    rw [← hx'] at VX;rw [← hx'];clear RX RY ho hb hg hat hrow hn hb0 hx'
    refine hK.out _ _ ⟨(blk_cell B7.out 0).trans rfl,(blk_cell B7.out 1).trans rfl⟩ (fun hHeld=>?_)
    clear hK K
    refine norm_ (a':=?_) ?_ ?_
    rotate_left
    ·
     show Act.put _ (some 64) _=_
     simp only [Act.put,List.setIfInBounds_toArray,List.set_cons_zero,List.set_cons_succ,i64_w,i32_w]
     rfl
    refine pure_ (i:=7) (N:=some 65) (v:=?_) (a':=?_) #[true,true,true,true,true,true,true,true,false] rfl rfl (any_of HT_.out (by kernel_rfl)) (fun _ _ _ h=>h) (Or.inl ⟨by rfl,?_⟩) ?_ ?_
    rotate_left
    ·
     intro w'
     go_simp
     with_reducible rfl
    rotate_left
    ·
     simp only [Act.put,List.setIfInBounds_toArray,List.set_cons_zero,List.set_cons_succ,i64_w,i32_w]
     rfl
    refine last_ (i:=8) (N:=none) #[true,true,true,true,true,true,true,true,true] rfl rfl (one_of HT_.out (by kernel_rfl)) (by decide) (fun K hK=>?_)
    have hs0:wb.cell? ⟨g7,0,none⟩=some (.slice A8 x.length c8):=(blk_cell B7.out 0).trans rfl;have hf0:=blk_frozen B7.out 0
    refine skip_ (w1:=?_) (by rfl) rfl ?_ ?_
    rotate_left
    ·
     go_simp;rfl
    refine hK.out _ _ ?_
    clear hK K hs0 hf0
    refine done_ (done_of HT_.out (by kernel_rfl)) ?_
    go_wp2;go_meet
    case rel =>
     have hn:=HN.out;have k7:=keep1 wb g7 0 (.slice B1 x'.length d1)
     refine ⟨?_⟩;rw [HP];exact ⟨x',y,_,_,⟨hx7.out,by have:=hs.out;omega⟩,HQ.out.keep k7 (by omega),(HD.out.set hn.1 hn.2.1 0 _).le (by omega) (by omega),blk_put (cs:=#[.slice A8 x.length c8,.slice A9 y.length c9]) B7.out 0 _ rfl,Kd.V_keep VX.out k7 (fun k h=>by omega),Kd.V_mono (Kd.V_keep VY.out k7 (fun k h=>by omega)) (fun _ h=>h.1)⟩
 case rest =>
  have HZ:=hcut.out;rw [HP] at HZ
  obtain ⟨x',y',vx,vy,hlen,hq,hd,b7,hvx,hvy⟩:=HZ
  clear hcut HP HQ HD B7 RX RY
  have HQ:=Aside0.mk hq;have HD:=Aside0.mk hd;have B7:=Aside0.mk b7;have VX:=Aside0.mk hvx;have VY:=Aside0.mk hvy;replace hlen:=Aside0.mk hlen;clear hq hd b7 hvx hvy
  go_upto_region 16 with fail
  have hb:Below wc.heap.size wc wc.drew:=below_drew1 (Below.refl _ _)
  refine start_ (n:=4) (S:=fun w'=>w'.cell? ⟨gb,0,none⟩=some (.int .i64 r)∧w'.cell? ⟨gb,1,none⟩=some (.int .i64 c)∧w'.cell? ⟨gb,2,none⟩=some (.slice A l.length cp)∧w'.cell? ⟨g7,0,none⟩=some (vx)∧w'.cell? ⟨g7,1,none⟩=some (vy)) (ds:=[]) #[false,false,false,false] (by kernel_rfl) rfl rfl ⟨(blk_cell HQ.out.bb 0).trans rfl,(blk_cell HQ.out.bb 1).trans rfl,(blk_cell HQ.out.bb 2).trans rfl,(blk_cell B7.out 0).trans rfl,(blk_cell B7.out 1).trans rfl⟩ (fun hHeld=>?_)
  replace HD:=Aside0.mk (HD.out.up hb);replace HQ:=Aside0.mk (HQ.out.up hb);replace B7:=Aside0.mk (blk_below B7.out hb);replace VX:=Aside0.mk (Kd.V_below VX.out hb);replace VY:=Aside0.mk (Kd.V_below VY.out hb);clear hb
  generalize wc.drew=wd at HD HQ B7 VX VY hHeld ⊢
  obtain ⟨B8,d8,rfl⟩:=Kd.V_slice VX.out;obtain ⟨B9,d9,rfl⟩:=Kd.V_slice VY.out
  refine take_ (i:=0) (N:=some 66) (v:=?_) (a':=?_) #[true,false,false,false] rfl rfl (by kernel_rfl) (fun _ _ _ h=>h) (Or.inl ⟨by rfl,?_⟩) hHeld ?_ ?_
  rotate_left
  ·
   rintro w' ⟨s0,s1,s2,s3,s4⟩
   go_simp
   with_reducible rfl
  rotate_left
  ·
   simp only [Act.put,List.setIfInBounds_toArray,List.set_cons_zero,List.set_cons_succ,i64_w,i32_w]
   rfl
  refine take_ (i:=1) (N:=some 67) (v:=?_) (a':=?_) #[true,true,false,false] rfl rfl (by kernel_rfl) (fun _ _ _ h=>h) (Or.inl ⟨by rfl,?_⟩) hHeld ?_ ?_
  rotate_left
  ·
   rintro w' ⟨s0,s1,s2,s3,s4⟩
   go_simp
   with_reducible rfl
  rotate_left
  ·
   simp only [Act.put,List.setIfInBounds_toArray,List.set_cons_zero,List.set_cons_succ,i64_w,i32_w]
   rfl
  have hn:g1 ≠ g2∧w.heap.size≤g1∧w.heap.size≤g2∧gb ≠ g1∧g7 ≠ g1:=by have:=HN.out;have:=HG.out;omega
  have k1:=keep3 wd g1 (.int .i64 r) (.int .i64 c) (.slice A l.length cp)
  have eb:=KeepBut.blk k1 HQ.out.bb hn.2.2.2.1 (by simp);have e7:=KeepBut.blk k1 B7.out hn.2.2.2.2 (by simp);have e2:=KeepBut.blk k1 HQ.out.b2 hn.1.symm (by simp)
  refine one_ (i:=2) (N:=none) #[true,true,true,false] rfl rfl (by kernel_rfl) (by decide) (fun K hK=>?_)
  have hs0:wd.cell? ⟨g1,0,none⟩=some (.int .i64 0):=(blk_cell HQ.out.b1 0).trans rfl;have hf0:=blk_frozen HQ.out.b1 0
  have hs1:wd.cell? ⟨g1,1,none⟩=some (.int .i64 0):=(blk_cell HQ.out.b1 1).trans rfl;have hf1:=blk_frozen HQ.out.b1 1
  have hs2:wd.cell? ⟨g1,2,none⟩=some (.slice none 0 0):=(blk_cell HQ.out.b1 2).trans rfl;have hf2:=blk_frozen HQ.out.b1 2
  refine skip_ (w1:=?_) (by rfl) rfl ?_ ?_
  rotate_left
  ·
   go_simp;rfl
  refine hK.out _ _ ⟨(blk_cell eb 0).trans rfl,(blk_cell eb 1).trans rfl,(blk_cell eb 2).trans rfl,(blk_cell e7 0).trans rfl,(blk_cell e7 1).trans rfl⟩ (fun hHeld=>?_)
  clear hK K hs0 hf0 hs1 hf1 hs2 hf2
  refine one_ (i:=3) (N:=none) #[true,true,true,true] rfl rfl (by kernel_rfl) (by decide) (fun K hK=>?_)
  have k2:=keep2 (((wd.setCell ⟨g1,0,none⟩ (.int .i64 r)).setCell ⟨g1,1,none⟩ (.int .i64 c)).setCell ⟨g1,2,none⟩ (.slice A l.length cp)) g2 (.slice B8 x'.length d8) (.slice B9 y'.length d9)
  have hs0:(((wd.setCell ⟨g1,0,none⟩ (.int .i64 r)).setCell ⟨g1,1,none⟩ (.int .i64 c)).setCell ⟨g1,2,none⟩ (.slice A l.length cp)).cell? ⟨g2,0,none⟩=some (.slice none 0 0):=(blk_cell e2 0).trans rfl;have hf0:=blk_frozen e2 0
  have hs1:(((wd.setCell ⟨g1,0,none⟩ (.int .i64 r)).setCell ⟨g1,1,none⟩ (.int .i64 c)).setCell ⟨g1,2,none⟩ (.slice A l.length cp)).cell? ⟨g2,1,none⟩=some (.slice none 0 0):=(blk_cell e2 1).trans rfl;have hf1:=blk_frozen e2 1
  refine skip_ (w1:=?_) (by rfl) rfl ?_ ?_
  rotate_left
  ·
   go_simp;rfl
  refine hK.out _ _ ⟨(blk_cell (KeepBut.blk k2 eb (by have:=HN.out;have:=HG.out;omega) (by simp)) 0).trans rfl,(blk_cell (KeepBut.blk k2 eb (by have:=HN.out;have:=HG.out;omega) (by simp)) 1).trans rfl,(blk_cell (KeepBut.blk k2 eb (by have:=HN.out;have:=HG.out;omega) (by simp)) 2).trans rfl,(blk_cell (KeepBut.blk k2 e7 (by have:=HN.out;omega) (by simp)) 0).trans rfl,(blk_cell (KeepBut.blk k2 e7 (by have:=HN.out;omega) (by simp)) 1).trans rfl⟩ (fun hHeld=>?_)
  clear hK K hs0 hf0 hs1 hf1
  refine done_ (by kernel_rfl) ?_
  go_wp2
  have e1:=put3 (x:=.int .i64 r) (y:=.int .i64 c) (z:=.slice A l.length cp) HQ.out.b1
  have HW:=below_set (below_set (below_set (below_set (below_set HD.out.B hn.2.1 (j:=0) (v:=.int .i64 r)) hn.2.1 (j:=1) (v:=.int .i64 c)) hn.2.1 (j:=2) (v:=.slice A l.length cp)) hn.2.2.1 (j:=0) (v:=.slice B8 x'.length d8)) hn.2.2.1 (j:=1) (v:=.slice B9 y'.length d9)
  refine bodyPost_ret (results_cc rfl _ _ g1 g2 26 37 #[.int .i64 r,.int .i64 c,.slice A l.length cp] #[.slice B8 x'.length d8,.slice B9 y'.length d9] (0,0) (0,0) _ _ rfl (KeepBut.blk k2 e1 hn.1 (by simp)) hu26 rfl (by kernel_rfl) rfl (put2 e2) hu37 rfl (by kernel_rfl)) rfl ?_
  exact ⟨r,c,l,x',y',_,_,_,⟨hl.out,hlen.out.1,hlen.out.2⟩,rfl,Kd.V_mono (Kd.V_keep (Kd.V_keep HQ.out.vl k1 (fun k hk=>by have:=HG.out;omega)) k2 (fun k hk=>by have:=HG.out;omega)) (fun _ _=>trivial),Kd.V_mono (Kd.V_keep (Kd.V_keep VX.out k1 (fun k hk=>by have:=HN.out;omega)) k2 (fun k hk=>by have:=HN.out;omega)) (fun _ _=>trivial),Kd.V_mono (Kd.V_keep (Kd.V_keep VY.out k1 (fun k hk=>by have:=HN.out;omega)) k2 (fun k hk=>by have:=HN.out;omega)) (fun _ _=>trivial),HW⟩
end Go.Proofs.YtpjjeeabpaojnaaGreat.CovD
end
section
namespace Go.Proofs.YtpjjeeabpaojnaaGreat.CovW
set_option linter.unusedVariables false
open Go.RowKit Go.Proofs.YtpjjeeabpaojnaaGreat.Q Go.Proofs.YtpjjeeabpaojnaaGreatW.PrintWords Go.Proofs.YtpjjeeabpaojnaaGreatW.PrintLast Go.Proofs.YtpjjeeabpaojnaaGreatW.PrintMore
open Go.Proofs.YtpjjeeabpaojnaaGreatL Go.Proofs.YtpjjeeabpaojnaaGreat.DrawK
theorem cDB {code:List Int} (hc:Bytes code) (W:World) {A:Option Addr} {cp:Nat} (h:Rd (Kd.int .u8) W A cp code):Calls Tryz.prog 5 #[.slice A code.length cp] W fun e w'=>∃ (r c:Int) (l:List Int) (A':Option Addr) (c':Nat),l.length≤7∧e=.returned (.agg #[.int .i64 r,.int .i64 c,.slice A' l.length c'])∧Rd (Kd.int .i64) w' A' c' l∧Below W.heap.size W w':=by
 refine (CovD.drawn_board hc W A cp h.C).mono ?_
 rintro e w' ⟨r,c,l,A',c',rfl,hl,hR,hb⟩
 have:=Kd.R_reads' hR
 exact ⟨r,c,l,A',c',hl,rfl,⟨this.2.1,this.2.2⟩,hb⟩
theorem cDL {code:List Int} (hc:Bytes code) (W:World) {A:Option Addr} {cp:Nat} (h:Rd (Kd.int .u8) W A cp code):Calls Tryz.prog 22 #[.slice A code.length cp] W fun e w'=>∃ (r c:Int) (l x y:List Int) (A0:Option Addr) (c0:Nat) (A1:Option Addr) (c1:Nat) (A2:Option Addr) (c2:Nat),(l.length≤7∧x.length≤7∧y.length≤7)∧e=.returned (.tuple #[.agg #[.int .i64 r,.int .i64 c,.slice A0 l.length c0],.agg #[.slice A1 x.length c1,.slice A2 y.length c2]])∧Rd (Kd.int .i64) w' A0 c0 l∧Rd (Kd.int .i64) w' A1 c1 x∧Rd (Kd.int .i64) w' A2 c2 y∧Below W.heap.size W w':=by
 refine (CovD.drawn_lines hc W A cp h.C).mono ?_
 rintro e w' ⟨r,c,l,x,y,v0,v1,v2,hl,rfl,h0,h1,h2,hb⟩
 obtain ⟨A0,c0,rfl,g0⟩:=rdV h0
 obtain ⟨A1,c1,rfl,g1⟩:=rdV h1
 obtain ⟨A2,c2,rfl,g2⟩:=rdV h2
 exact ⟨r,c,l,x,y,A0,c0,A1,c1,A2,c2,hl,rfl,g0,g1,g2,hb⟩
end Go.Proofs.YtpjjeeabpaojnaaGreat.CovW
end
section
namespace Go.Proofs.YtpjjeeabpaojnaaGreat.Q
set_option linter.unusedVariables false
set_option linter.unusedSimpArgs false
open Go.RowKit Go.Proofs.YtpjjeeabpaojnaaGreatW.PrintWords Go.Proofs.YtpjjeeabpaojnaaGreatW.PrintLast Go.Proofs.YtpjjeeabpaojnaaGreatW.PrintMore
open Go.Proofs.YtpjjeeabpaojnaaGreatL Go.Proofs.YtpjjeeabpaojnaaGreat.LawK Go.Proofs.YtpjjeeabpaojnaaGreat.DrawK Go.Proofs.YtpjjeeabpaojnaaGreat.CovA Go.Proofs.YtpjjeeabpaojnaaGreat.CovW
def laws_FnLargestHaveCovers.T18:Bool × List (List Nat × List Nat):=(true,[([],[]),([0],[0]),([1],[1]),([2],[2]),([3,2],[2,3]),([2,4],[2,4]),([5,2],[5]),([6],[6]),([6],[6]),([7,8,6],[6,7,8]),([6,9],[6,9]),([10,6],[10]),([11],[11]),([12,11],[11,12]),([11,13],[11,13]),([14,11],[14]),([15],[15]),([16,15],[15,16]),([15,17],[15,17]),([18,15],[18]),([19],[19]),([20,19],[19,20]),([21,19],[19,21]),([19,22],[19,22]),([23,19],[23]),([24],[24]),([25,24],[24,25]),([26,24],[24,26]),([24],[24]),([27,28,24,24],[24,27,28]),([29,24],[24,29]),([24,30],[24,30])])
def laws_FnLargestHaveCovers.B18:List Nat:=[0,1,3,7,15,31,63,127,127,511,1023,2047,4095,8191,16383,32767,65535,131071,262143,524287,1048575,2097151,4194303,8388607,16777215,33554431,67108863,134217727,33554431,536870911,1073741823,2147483647]
theorem laws_FnLargestHaveCovers.tab18:rtab .any (opsOf Tryz.f3 18)=laws_FnLargestHaveCovers.T18:=by kernel_rfl
theorem laws_FnLargestHaveCovers.bits18:waitsOk laws_FnLargestHaveCovers.T18.2 laws_FnLargestHaveCovers.B18=true:=by kernel_rfl
def laws_FnLargestHaveCovers.T24:Bool × List (List Nat × List Nat):=(true,[([],[]),([],[]),([],[]),([1,2],[1,2]),([3],[3]),([0,4],[0,4]),([5],[5]),([6,5],[6]),([7],[7]),([8,7],[7,8]),([7,9],[7,9]),([10,7],[10]),([11],[11]),([12,11],[11,12]),([11,13],[11,13]),([14,11],[14]),([15],[15]),([16,15],[15,16]),([17,15],[15,17]),([15],[15]),([19,15],[15,19]),([20,15],[15,20]),([18,21,15],[15,18,21]),([15],[15]),([22,23,15],[15,22,23]),([15,24],[15,24])])
def laws_FnLargestHaveCovers.B24:List Nat:=[0,0,0,6,14,31,63,127,255,511,1023,2047,4095,8191,16383,32767,65535,131071,262143,65535,589823,1638399,4194303,65535,16777215,33554431]
theorem laws_FnLargestHaveCovers.tab24:rtab .any (opsOf Tryz.f3 24)=laws_FnLargestHaveCovers.T24:=by kernel_rfl
theorem laws_FnLargestHaveCovers.bits24:waitsOk laws_FnLargestHaveCovers.T24.2 laws_FnLargestHaveCovers.B24=true:=by kernel_rfl
structure Keep (P:World→Prop) (W:World):Prop where
 p:∀ W',Below W.heap.size W W'→P W'
theorem Keep.up {P:World→Prop} {W W':World} (h:Keep P W) (hb:Below W.heap.size W W'):Keep P W':=⟨fun W2 h2=>h.p W2 (hb.trans (h2.mono hb.size))⟩
theorem Keep.now {P:World→Prop} {W:World} (h:Keep P W):P W:=h.p W (Below.refl _ _)
set_option maxHeartbeats 16000000 in
set_option maxRecDepth 100000 in
theorem laws_FnLargestHaveCovers.walk (a0:Option Addr) (len0 cap0:Nat) (z0:List Int) (a1:Option Addr) (len1 cap1:Nat) (z1:List Int) (w:World) (w0:(a0=none∧len0=0∧cap0=0∧z0=[]) ∨ ∃ x,a0=some x∧len0≤cap0∧cap0≤maxLen∧z0.length=cap0∧(∀ i,i < z0.length→w.cell? (x.add i)=some (.int .u8 (z0.getD i 0)))∧∀ n ∈ z0,(Lit.int .u8 n).wf=true) (y0:len0 * 1≤140737488351232) (w1:(a1=none∧len1=0∧cap1=0∧z1=[]) ∨ ∃ x,a1=some x∧len1≤cap1∧cap1≤maxLen∧z1.length=cap1∧(∀ i,i < z1.length→w.cell? (x.add i)=some (.int .u8 (z1.getD i 0)))∧∀ n ∈ z1,(Lit.int .u8 n).wf=true) (y1:len1 * 1≤140737488351232) :
  Calls Tryz.prog 3 #[.slice a0 len0 cap0,.slice a1 len1 cap1] w fun e w'=>e=.returned (.bool true)∧Below w.heap.size w w':=by
 obtain ⟨l0,rfl,hr0,hm0,hw0,hc0⟩:=ReadsInt.ofRowC w0
 obtain ⟨l1,rfl,hr1,hm1,hw1,hc1⟩:=ReadsInt.ofRowC w1
 have R0:=Aside0.mk (Rd.mk hc0 (Kd.C_of_reads (d:=(0:Int)) (h1:=fun _=>rfl) hr0))
 have R1:=Aside0.mk (Rd.mk hc1 (Kd.C_of_reads (d:=(0:Int)) (h1:=fun _=>rfl) hr1))
 rcases big_f l0 l1 (by omega) with hbig|⟨hbig,hs0,hs1⟩
 ·
  have BG:=Lib.hid (laws_big.calls a0 cap0 l0 a1 cap1 l1 true w R0.out.C R0.out.le R1.out.C R1.out.le hbig)
  clear hbig R0 R1 hr0 hm0 hw0 hc0 hr1 hm1 hw1 hc1 w0 w1 y0 y1
  go_enter Tryz.func3,Tryz.ntmps3
  go_wp2_with (go_at_call 4;refine BG.out.mono ?_;rintro e w2 ⟨rfl,hd⟩;have HB:=Aside0.mk (Bw.mk hd.below);clear hd)
  go_ret
  exact ⟨rfl,HB.out.b⟩
 have BG:=Lib.hid (laws_big.calls a0 cap0 l0 a1 cap1 l1 false w R0.out.C R0.out.le R1.out.C R1.out.le hbig)
 have DB:=Aside0.mk (show Bytes l0 from ⟨hs0,fun x hx=>byte_of (hw0 x hx)⟩)
 have DL:=Aside0.mk (show Bytes l1 from ⟨hs1,fun x hx=>byte_of (hw1 x hx)⟩)
 have HB:=Aside0.mk (Bw.mk (Below.refl w.heap.size w))
 clear hbig hr0 hm0 hw0 hc0 hr1 hm1 hw1 hc1 w0 w1 y0 y1 hs0 hs1
 have bne_:∀ b:Bool,(b != b)=false:=fun b=>bne_self_eq_false b
 have hu26:=Tryz.underlying26
 have hu37:=Tryz.underlying37
 go_enter Tryz.func3,Tryz.ntmps3
 go_wp2_with fail
 go_at_call 4;refine BG.out.mono ?_;rintro e w2 ⟨rfl,hd⟩;have hb:=hd.below;replace HB:=Aside0.mk (HB.out.up hb);replace R0:=Aside0.mk (R0.out.up hb);replace R1:=Aside0.mk (R1.out.up hb);clear hb hd BG
 go_wp2_with fail
 go_at_call 5;refine (cDB DB.out _ R0.out).mono ?_;rintro e w3 ⟨r,c,l,A,cp,hl,rfl,RB,hb⟩;replace HB:=Aside0.mk (HB.out.up hb);replace R0:=Aside0.mk (R0.out.up hb);replace R1:=Aside0.mk (R1.out.up hb);obtain ⟨rows,ok,first,one,cs,f0,f1,most,HA⟩:=answers r c l (by omega);replace HA:=Aside0.mk HA;replace RB:=Aside0.mk RB;clear R0 DB hl;clear hb
 go_wp2_with fail
 obtain ⟨gb,hgb⟩:∃ g:Nat,g=w3.heap.size:=⟨_,rfl⟩
 obtain ⟨w4,hw4⟩:∃ W:World,W=w3.alloc (Obj.cells #[.int .i64 r,.int .i64 c,.slice A l.length cp] 26):=⟨_,rfl⟩
 rw [← hw4,← hgb]
 have hb:Below w3.heap.size w3 w4:=by rw [hw4];exact alloc_up _ _
 have hx:w4.heap[gb]?=some (.cells #[.int .i64 r,.int .i64 c,.slice A l.length cp] 26 (0,0)):=by rw [hw4,hgb];exact boxed _ _ _
 replace HB:=Aside0.mk (HB.out.up hb);replace R1:=Aside0.mk (R1.out.up hb);replace RB:=Aside0.mk (RB.out.up hb)
 have BD:=Aside0.mk (Bd.mk hx RB.out);clear RB
 clear hb hx hgb hw4
 have y1gb0:w4.cell? ⟨gb,0,none⟩=some (.int .i64 r):=(blk_cell BD.out.box 0).trans rfl;have y1gb1:w4.cell? ⟨gb,1,none⟩=some (.int .i64 c):=(blk_cell BD.out.box 1).trans rfl;have y1gb2:w4.cell? ⟨gb,2,none⟩=some (.slice A l.length cp):=(blk_cell BD.out.box 2).trans rfl
 go_at_call 6;refine (cAL HA.out _ BD.out.rd).mono ?_;rintro e w5 ⟨Aa,ca,rfl,AL,hb⟩;replace HB:=Aside0.mk (HB.out.up hb);replace R1:=Aside0.mk (R1.out.up hb);replace BD:=Aside0.mk (BD.out.up hb);replace AL:=Aside0.mk AL;clear hb
 clear y1gb0 y1gb1 y1gb2;have y2gb0:w5.cell? ⟨gb,0,none⟩=some (.int .i64 r):=(blk_cell BD.out.box 0).trans rfl;have y2gb1:w5.cell? ⟨gb,1,none⟩=some (.int .i64 c):=(blk_cell BD.out.box 1).trans rfl;have y2gb2:w5.cell? ⟨gb,2,none⟩=some (.slice A l.length cp):=(blk_cell BD.out.box 2).trans rfl
 go_wp2_with fail
 go_at_call 7;refine (cSL HA.out _ BD.out.rd).mono ?_;rintro e w6 ⟨Ab,cb,rfl,RI,hb⟩;replace HB:=Aside0.mk (HB.out.up hb);replace R1:=Aside0.mk (R1.out.up hb);replace BD:=Aside0.mk (BD.out.up hb);replace AL:=Aside0.mk (AL.out.up hb);replace RI:=Aside0.mk RI;clear hb
 clear y2gb0 y2gb1 y2gb2;have y3gb0:w6.cell? ⟨gb,0,none⟩=some (.int .i64 r):=(blk_cell BD.out.box 0).trans rfl;have y3gb1:w6.cell? ⟨gb,1,none⟩=some (.int .i64 c):=(blk_cell BD.out.box 1).trans rfl;have y3gb2:w6.cell? ⟨gb,2,none⟩=some (.slice A l.length cp):=(blk_cell BD.out.box 2).trans rfl
 go_wp2_with fail
 go_at_call 8;refine (cLP HA.out _ BD.out.rd).mono ?_;rintro e w7 ⟨Af,cf,rfl,FI,hb⟩;replace HB:=Aside0.mk (HB.out.up hb);replace R1:=Aside0.mk (R1.out.up hb);replace BD:=Aside0.mk (BD.out.up hb);replace AL:=Aside0.mk (AL.out.up hb);replace RI:=Aside0.mk (RI.out.up hb);replace FI:=Aside0.mk FI;clear hb
 clear y3gb0 y3gb1 y3gb2;have y4gb0:w7.cell? ⟨gb,0,none⟩=some (.int .i64 r):=(blk_cell BD.out.box 0).trans rfl;have y4gb1:w7.cell? ⟨gb,1,none⟩=some (.int .i64 c):=(blk_cell BD.out.box 1).trans rfl;have y4gb2:w7.cell? ⟨gb,2,none⟩=some (.slice A l.length cp):=(blk_cell BD.out.box 2).trans rfl
 go_wp2_with fail
 go_at_call 9;refine (cSP HA.out _ BD.out.rd).mono ?_;rintro e w8 ⟨Aw,cw,rfl,WA,hb⟩;replace HB:=Aside0.mk (HB.out.up hb);replace R1:=Aside0.mk (R1.out.up hb);replace BD:=Aside0.mk (BD.out.up hb);replace AL:=Aside0.mk (AL.out.up hb);replace RI:=Aside0.mk (RI.out.up hb);replace FI:=Aside0.mk (FI.out.up hb);replace WA:=Aside0.mk WA;clear hb
 clear y4gb0 y4gb1 y4gb2;have y5gb0:w8.cell? ⟨gb,0,none⟩=some (.int .i64 r):=(blk_cell BD.out.box 0).trans rfl;have y5gb1:w8.cell? ⟨gb,1,none⟩=some (.int .i64 c):=(blk_cell BD.out.box 1).trans rfl;have y5gb2:w8.cell? ⟨gb,2,none⟩=some (.slice A l.length cp):=(blk_cell BD.out.box 2).trans rfl
 go_wp2_with fail
 go_at_call 10;refine (cAC HA.out _ BD.out.rd).mono ?_;rintro e w9 ⟨Ac,cc,rfl,CO,hb⟩;replace HB:=Aside0.mk (HB.out.up hb);replace R1:=Aside0.mk (R1.out.up hb);replace BD:=Aside0.mk (BD.out.up hb);replace AL:=Aside0.mk (AL.out.up hb);replace RI:=Aside0.mk (RI.out.up hb);replace FI:=Aside0.mk (FI.out.up hb);replace WA:=Aside0.mk (WA.out.up hb);replace CO:=Aside0.mk CO;clear hb
 clear y5gb0 y5gb1 y5gb2;have y6gb0:w9.cell? ⟨gb,0,none⟩=some (.int .i64 r):=(blk_cell BD.out.box 0).trans rfl;have y6gb1:w9.cell? ⟨gb,1,none⟩=some (.int .i64 c):=(blk_cell BD.out.box 1).trans rfl;have y6gb2:w9.cell? ⟨gb,2,none⟩=some (.slice A l.length cp):=(blk_cell BD.out.box 2).trans rfl
 go_wp2_with fail
 go_at_call 11;refine (cSC HA.out _ BD.out.rd).mono ?_;rintro e w10 ⟨Al,cl,rfl,CL,hb⟩;replace HB:=Aside0.mk (HB.out.up hb);replace R1:=Aside0.mk (R1.out.up hb);replace BD:=Aside0.mk (BD.out.up hb);replace AL:=Aside0.mk (AL.out.up hb);replace RI:=Aside0.mk (RI.out.up hb);replace FI:=Aside0.mk (FI.out.up hb);replace WA:=Aside0.mk (WA.out.up hb);replace CO:=Aside0.mk (CO.out.up hb);replace CL:=Aside0.mk CL;clear hb
 clear y6gb0 y6gb1 y6gb2;have y7gb0:w10.cell? ⟨gb,0,none⟩=some (.int .i64 r):=(blk_cell BD.out.box 0).trans rfl;have y7gb1:w10.cell? ⟨gb,1,none⟩=some (.int .i64 c):=(blk_cell BD.out.box 1).trans rfl;have y7gb2:w10.cell? ⟨gb,2,none⟩=some (.slice A l.length cp):=(blk_cell BD.out.box 2).trans rfl
 go_wp2_with fail
 go_at_call 12;refine (cLC HA.out _ BD.out.rd).mono ?_;rintro e w11 ⟨A2,c2,A3,c3,rfl,E0,E1,hb⟩;replace HB:=Aside0.mk (HB.out.up hb);replace R1:=Aside0.mk (R1.out.up hb);replace BD:=Aside0.mk (BD.out.up hb);replace AL:=Aside0.mk (AL.out.up hb);replace RI:=Aside0.mk (RI.out.up hb);replace FI:=Aside0.mk (FI.out.up hb);replace WA:=Aside0.mk (WA.out.up hb);replace CO:=Aside0.mk (CO.out.up hb);replace CL:=Aside0.mk (CL.out.up hb);replace E0:=Aside0.mk E0;replace E1:=Aside0.mk E1;clear hb
 go_upto_region 11 with fail
 obtain ⟨gl,hgl⟩:∃ g:Nat,g=w11.heap.size:=⟨_,rfl⟩
 obtain ⟨w12,hw12⟩:∃ W:World,W=w11.alloc (Obj.cells #[.slice A2 f0.length c2,.slice A3 f1.length c3] 37):=⟨_,rfl⟩
 rw [← hw12,← hgl]
 have hb:Below w11.heap.size w11 w12:=by rw [hw12];exact alloc_up _ _
 have hx:w12.heap[gl]?=some (.cells #[.slice A2 f0.length c2,.slice A3 f1.length c3] 37 (0,0)):=by rw [hw12,hgl];exact boxed _ _ _
 replace HB:=Aside0.mk (HB.out.up hb);replace R1:=Aside0.mk (R1.out.up hb);replace BD:=Aside0.mk (BD.out.up hb);replace AL:=Aside0.mk (AL.out.up hb);replace RI:=Aside0.mk (RI.out.up hb);replace FI:=Aside0.mk (FI.out.up hb);replace WA:=Aside0.mk (WA.out.up hb);replace CO:=Aside0.mk (CO.out.up hb);replace CL:=Aside0.mk (CL.out.up hb);replace E0:=Aside0.mk (E0.out.up hb);replace E1:=Aside0.mk (E1.out.up hb)
 have LE:=Aside0.mk (Ln.mk hx E0.out E1.out);clear E0 E1
 clear hb hx hgl hw12
 clear y7gb0 y7gb1 y7gb2;have y8gb0:w12.cell? ⟨gb,0,none⟩=some (.int .i64 r):=(blk_cell BD.out.box 0).trans rfl;have y8gb1:w12.cell? ⟨gb,1,none⟩=some (.int .i64 c):=(blk_cell BD.out.box 1).trans rfl;have y8gb2:w12.cell? ⟨gb,2,none⟩=some (.slice A l.length cp):=(blk_cell BD.out.box 2).trans rfl
 go_wp2_with fail
 go_at_call 13;refine (cSV HA.out _ BD.out.rd).mono ?_;rintro e w13 ⟨A4,c4,A5,c5,rfl,E0,E1,hb⟩;replace HB:=Aside0.mk (HB.out.up hb);replace R1:=Aside0.mk (R1.out.up hb);replace BD:=Aside0.mk (BD.out.up hb);replace AL:=Aside0.mk (AL.out.up hb);replace RI:=Aside0.mk (RI.out.up hb);replace FI:=Aside0.mk (FI.out.up hb);replace WA:=Aside0.mk (WA.out.up hb);replace CO:=Aside0.mk (CO.out.up hb);replace CL:=Aside0.mk (CL.out.up hb);replace LE:=Aside0.mk (LE.out.up hb);replace E0:=Aside0.mk E0;replace E1:=Aside0.mk E1;clear hb
 clear y8gb0 y8gb1 y8gb2;have y9gb0:w13.cell? ⟨gb,0,none⟩=some (.int .i64 r):=(blk_cell BD.out.box 0).trans rfl;have y9gb1:w13.cell? ⟨gb,1,none⟩=some (.int .i64 c):=(blk_cell BD.out.box 1).trans rfl;have y9gb2:w13.cell? ⟨gb,2,none⟩=some (.slice A l.length cp):=(blk_cell BD.out.box 2).trans rfl
 go_upto_region 12 with fail
 obtain ⟨gm,hgm⟩:∃ g:Nat,g=w13.heap.size:=⟨_,rfl⟩
 obtain ⟨w14,hw14⟩:∃ W:World,W=w13.alloc (Obj.cells #[.slice A4 f0.length c4,.slice A5 f1.length c5] 37):=⟨_,rfl⟩
 rw [← hw14,← hgm]
 have hb:Below w13.heap.size w13 w14:=by rw [hw14];exact alloc_up _ _
 have hx:w14.heap[gm]?=some (.cells #[.slice A4 f0.length c4,.slice A5 f1.length c5] 37 (0,0)):=by rw [hw14,hgm];exact boxed _ _ _
 replace HB:=Aside0.mk (HB.out.up hb);replace R1:=Aside0.mk (R1.out.up hb);replace BD:=Aside0.mk (BD.out.up hb);replace AL:=Aside0.mk (AL.out.up hb);replace RI:=Aside0.mk (RI.out.up hb);replace FI:=Aside0.mk (FI.out.up hb);replace WA:=Aside0.mk (WA.out.up hb);replace CO:=Aside0.mk (CO.out.up hb);replace CL:=Aside0.mk (CL.out.up hb);replace LE:=Aside0.mk (LE.out.up hb);replace E0:=Aside0.mk (E0.out.up hb);replace E1:=Aside0.mk (E1.out.up hb)
 have MO:=Aside0.mk (Ln.mk hx E0.out E1.out);clear E0 E1
 clear hb hx hgm hw14
 obtain ⟨P,HP,FG⟩:∃ P:World→Prop,Keep P w14∧∀ W,P W→St w W a1 cap1 l1 gb r c A cp l Aa ca rows Af cf first Ac cc Al cl cs gl A2 c2 f0 A3 c3 f1:=⟨_,⟨fun W' hb=>(St.mk HB.out R1.out BD.out AL.out FI.out CO.out CL.out LE.out).up hb⟩,fun _ h=>h⟩
 replace HP:=Aside0.mk HP;replace FG:=Lib.hid FG
 go_cut [158] (fun v158 wc=>v158=.bool false∧Aside0 (Keep P wc))
 case first =>
  as_aux_lemma =>
   rcases Bool.eq_false_or_eq_true ok with hok|hok
   ·
    have h1:=HA.out.okOne hok;subst hok h1
    have hcl:((cs.length:Int) != (cs.length:Int))=false:=bne_self_eq_false _
    clear y9gb0 y9gb1 y9gb2;have y10gb0:w14.cell? ⟨gb,0,none⟩=some (.int .i64 r):=(blk_cell BD.out.box 0).trans rfl;have y10gb1:w14.cell? ⟨gb,1,none⟩=some (.int .i64 c):=(blk_cell BD.out.box 1).trans rfl;have y10gb2:w14.cell? ⟨gb,2,none⟩=some (.slice A l.length cp):=(blk_cell BD.out.box 2).trans rfl;have y11gl0:w14.cell? ⟨gl,0,none⟩=some (.slice A2 f0.length c2):=(blk_cell LE.out.box 0).trans rfl;have y11gl1:w14.cell? ⟨gl,1,none⟩=some (.slice A3 f1.length c3):=(blk_cell LE.out.box 1).trans rfl;have y12gm0:w14.cell? ⟨gm,0,none⟩=some (.slice A4 f0.length c4):=(blk_cell MO.out.box 0).trans rfl;have y12gm1:w14.cell? ⟨gm,1,none⟩=some (.slice A5 f1.length c5):=(blk_cell MO.out.box 1).trans rfl
    go_wp2_with fail
    go_at_call 14;refine (cKR HA.out _ AL.out RI.out).mono ?_;rintro e v1 ⟨rfl,hb⟩;replace HB:=Aside0.mk (HB.out.up hb);replace R1:=Aside0.mk (R1.out.up hb);replace BD:=Aside0.mk (BD.out.up hb);replace AL:=Aside0.mk (AL.out.up hb);replace RI:=Aside0.mk (RI.out.up hb);replace FI:=Aside0.mk (FI.out.up hb);replace WA:=Aside0.mk (WA.out.up hb);replace CO:=Aside0.mk (CO.out.up hb);replace CL:=Aside0.mk (CL.out.up hb);replace LE:=Aside0.mk (LE.out.up hb);replace MO:=Aside0.mk (MO.out.up hb);replace HP:=Aside0.mk (HP.out.up hb);clear hb
    go_wp2_with fail
    go_at_call 15;refine (cKS HA.out _ FI.out WA.out).mono ?_;rintro e v2 ⟨rfl,hb⟩;replace HB:=Aside0.mk (HB.out.up hb);replace R1:=Aside0.mk (R1.out.up hb);replace BD:=Aside0.mk (BD.out.up hb);replace AL:=Aside0.mk (AL.out.up hb);replace RI:=Aside0.mk (RI.out.up hb);replace FI:=Aside0.mk (FI.out.up hb);replace WA:=Aside0.mk (WA.out.up hb);replace CO:=Aside0.mk (CO.out.up hb);replace CL:=Aside0.mk (CL.out.up hb);replace LE:=Aside0.mk (LE.out.up hb);replace MO:=Aside0.mk (MO.out.up hb);replace HP:=Aside0.mk (HP.out.up hb);clear hb
    clear y10gb0 y10gb1 y10gb2;have y13gb0:v2.cell? ⟨gb,0,none⟩=some (.int .i64 r):=(blk_cell BD.out.box 0).trans rfl;have y13gb1:v2.cell? ⟨gb,1,none⟩=some (.int .i64 c):=(blk_cell BD.out.box 1).trans rfl;have y13gb2:v2.cell? ⟨gb,2,none⟩=some (.slice A l.length cp):=(blk_cell BD.out.box 2).trans rfl
    clear y11gl0 y11gl1;have y14gl0:v2.cell? ⟨gl,0,none⟩=some (.slice A2 f0.length c2):=(blk_cell LE.out.box 0).trans rfl;have y14gl1:v2.cell? ⟨gl,1,none⟩=some (.slice A3 f1.length c3):=(blk_cell LE.out.box 1).trans rfl
    clear y12gm0 y12gm1;have y15gm0:v2.cell? ⟨gm,0,none⟩=some (.slice A4 f0.length c4):=(blk_cell MO.out.box 0).trans rfl;have y15gm1:v2.cell? ⟨gm,1,none⟩=some (.slice A5 f1.length c5):=(blk_cell MO.out.box 1).trans rfl
    go_wp2_with fail
    go_at_call 16;refine (cKL HA.out _ LE.out.a LE.out.b MO.out.a MO.out.b).mono ?_;rintro e v3 ⟨rfl,hb⟩;replace HB:=Aside0.mk (HB.out.up hb);replace R1:=Aside0.mk (R1.out.up hb);replace BD:=Aside0.mk (BD.out.up hb);replace AL:=Aside0.mk (AL.out.up hb);replace RI:=Aside0.mk (RI.out.up hb);replace FI:=Aside0.mk (FI.out.up hb);replace WA:=Aside0.mk (WA.out.up hb);replace CO:=Aside0.mk (CO.out.up hb);replace CL:=Aside0.mk (CL.out.up hb);replace LE:=Aside0.mk (LE.out.up hb);replace MO:=Aside0.mk (MO.out.up hb);replace HP:=Aside0.mk (HP.out.up hb);clear hb
    clear y13gb0 y13gb1 y13gb2;have y16gb0:v3.cell? ⟨gb,0,none⟩=some (.int .i64 r):=(blk_cell BD.out.box 0).trans rfl;have y16gb1:v3.cell? ⟨gb,1,none⟩=some (.int .i64 c):=(blk_cell BD.out.box 1).trans rfl;have y16gb2:v3.cell? ⟨gb,2,none⟩=some (.slice A l.length cp):=(blk_cell BD.out.box 2).trans rfl
    go_wp2_with fail
    go_at_call 17;refine (cIB HA.out _ BD.out.rd).mono ?_;rintro e v4 ⟨rfl,hb⟩;replace HB:=Aside0.mk (HB.out.up hb);replace R1:=Aside0.mk (R1.out.up hb);replace BD:=Aside0.mk (BD.out.up hb);replace AL:=Aside0.mk (AL.out.up hb);replace RI:=Aside0.mk (RI.out.up hb);replace FI:=Aside0.mk (FI.out.up hb);replace WA:=Aside0.mk (WA.out.up hb);replace CO:=Aside0.mk (CO.out.up hb);replace CL:=Aside0.mk (CL.out.up hb);replace LE:=Aside0.mk (LE.out.up hb);replace MO:=Aside0.mk (MO.out.up hb);replace HP:=Aside0.mk (HP.out.up hb);clear hb
    go_wp2_with fail
    go_meet
    case rel=>exact ⟨by first|rfl|(simp;done)|(simp [*];done),HP⟩
   ·
    subst hok
    have bo:=bne_ one
    have hcl:((cs.length:Int) != (cs.length:Int))=false:=bne_self_eq_false _
    clear y9gb0 y9gb1 y9gb2;have y17gb0:w14.cell? ⟨gb,0,none⟩=some (.int .i64 r):=(blk_cell BD.out.box 0).trans rfl;have y17gb1:w14.cell? ⟨gb,1,none⟩=some (.int .i64 c):=(blk_cell BD.out.box 1).trans rfl;have y17gb2:w14.cell? ⟨gb,2,none⟩=some (.slice A l.length cp):=(blk_cell BD.out.box 2).trans rfl;have y18gl0:w14.cell? ⟨gl,0,none⟩=some (.slice A2 f0.length c2):=(blk_cell LE.out.box 0).trans rfl;have y18gl1:w14.cell? ⟨gl,1,none⟩=some (.slice A3 f1.length c3):=(blk_cell LE.out.box 1).trans rfl;have y19gm0:w14.cell? ⟨gm,0,none⟩=some (.slice A4 f0.length c4):=(blk_cell MO.out.box 0).trans rfl;have y19gm1:w14.cell? ⟨gm,1,none⟩=some (.slice A5 f1.length c5):=(blk_cell MO.out.box 1).trans rfl
    go_wp2_with fail
    go_at_call 14;refine (cKR HA.out _ AL.out RI.out).mono ?_;rintro e v1 ⟨rfl,hb⟩;replace HB:=Aside0.mk (HB.out.up hb);replace R1:=Aside0.mk (R1.out.up hb);replace BD:=Aside0.mk (BD.out.up hb);replace AL:=Aside0.mk (AL.out.up hb);replace RI:=Aside0.mk (RI.out.up hb);replace FI:=Aside0.mk (FI.out.up hb);replace WA:=Aside0.mk (WA.out.up hb);replace CO:=Aside0.mk (CO.out.up hb);replace CL:=Aside0.mk (CL.out.up hb);replace LE:=Aside0.mk (LE.out.up hb);replace MO:=Aside0.mk (MO.out.up hb);replace HP:=Aside0.mk (HP.out.up hb);clear hb
    go_wp2_with fail
    go_at_call 15;refine (cKS HA.out _ FI.out WA.out).mono ?_;rintro e v2 ⟨rfl,hb⟩;replace HB:=Aside0.mk (HB.out.up hb);replace R1:=Aside0.mk (R1.out.up hb);replace BD:=Aside0.mk (BD.out.up hb);replace AL:=Aside0.mk (AL.out.up hb);replace RI:=Aside0.mk (RI.out.up hb);replace FI:=Aside0.mk (FI.out.up hb);replace WA:=Aside0.mk (WA.out.up hb);replace CO:=Aside0.mk (CO.out.up hb);replace CL:=Aside0.mk (CL.out.up hb);replace LE:=Aside0.mk (LE.out.up hb);replace MO:=Aside0.mk (MO.out.up hb);replace HP:=Aside0.mk (HP.out.up hb);clear hb
    clear y17gb0 y17gb1 y17gb2;have y20gb0:v2.cell? ⟨gb,0,none⟩=some (.int .i64 r):=(blk_cell BD.out.box 0).trans rfl;have y20gb1:v2.cell? ⟨gb,1,none⟩=some (.int .i64 c):=(blk_cell BD.out.box 1).trans rfl;have y20gb2:v2.cell? ⟨gb,2,none⟩=some (.slice A l.length cp):=(blk_cell BD.out.box 2).trans rfl
    clear y18gl0 y18gl1;have y21gl0:v2.cell? ⟨gl,0,none⟩=some (.slice A2 f0.length c2):=(blk_cell LE.out.box 0).trans rfl;have y21gl1:v2.cell? ⟨gl,1,none⟩=some (.slice A3 f1.length c3):=(blk_cell LE.out.box 1).trans rfl
    clear y19gm0 y19gm1;have y22gm0:v2.cell? ⟨gm,0,none⟩=some (.slice A4 f0.length c4):=(blk_cell MO.out.box 0).trans rfl;have y22gm1:v2.cell? ⟨gm,1,none⟩=some (.slice A5 f1.length c5):=(blk_cell MO.out.box 1).trans rfl
    go_wp2_with fail
    go_at_call 16;refine (cKL HA.out _ LE.out.a LE.out.b MO.out.a MO.out.b).mono ?_;rintro e v3 ⟨rfl,hb⟩;replace HB:=Aside0.mk (HB.out.up hb);replace R1:=Aside0.mk (R1.out.up hb);replace BD:=Aside0.mk (BD.out.up hb);replace AL:=Aside0.mk (AL.out.up hb);replace RI:=Aside0.mk (RI.out.up hb);replace FI:=Aside0.mk (FI.out.up hb);replace WA:=Aside0.mk (WA.out.up hb);replace CO:=Aside0.mk (CO.out.up hb);replace CL:=Aside0.mk (CL.out.up hb);replace LE:=Aside0.mk (LE.out.up hb);replace MO:=Aside0.mk (MO.out.up hb);replace HP:=Aside0.mk (HP.out.up hb);clear hb
    clear y20gb0 y20gb1 y20gb2;have y23gb0:v3.cell? ⟨gb,0,none⟩=some (.int .i64 r):=(blk_cell BD.out.box 0).trans rfl;have y23gb1:v3.cell? ⟨gb,1,none⟩=some (.int .i64 c):=(blk_cell BD.out.box 1).trans rfl;have y23gb2:v3.cell? ⟨gb,2,none⟩=some (.slice A l.length cp):=(blk_cell BD.out.box 2).trans rfl
    go_wp2_with fail
    go_at_call 17;refine (cIB HA.out _ BD.out.rd).mono ?_;rintro e v4 ⟨rfl,hb⟩;replace HB:=Aside0.mk (HB.out.up hb);replace R1:=Aside0.mk (R1.out.up hb);replace BD:=Aside0.mk (BD.out.up hb);replace AL:=Aside0.mk (AL.out.up hb);replace RI:=Aside0.mk (RI.out.up hb);replace FI:=Aside0.mk (FI.out.up hb);replace WA:=Aside0.mk (WA.out.up hb);replace CO:=Aside0.mk (CO.out.up hb);replace CL:=Aside0.mk (CL.out.up hb);replace LE:=Aside0.mk (LE.out.up hb);replace MO:=Aside0.mk (MO.out.up hb);replace HP:=Aside0.mk (HP.out.up hb);clear hb
    go_wp2_with fail
    go_meet
    case rel=>exact ⟨by first|rfl|(simp;done)|(simp [*];done),HP⟩
 case rest =>
  as_aux_lemma =>
   clear y9gb0 y9gb1 y9gb2
   obtain ⟨rfl,HQ⟩:=hcut
   clear HP HB R1 BD AL RI FI WA CO CL LE MO;have HP:=HQ;clear HQ
   go_upto_if 159 with fail
   go_cut [] (fun wc=>Aside0 (Keep P wc))
   case first =>
    as_aux_lemma =>
     rcases Bool.eq_false_or_eq_true one with h1|h1
     rotate_left
     ·
      subst h1;go_wp2;go_meet;case rel=>exact HP
     subst h1
     go_wp2_with fail
     go_at_call 18;refine (cCR HA.out _ rfl (FG.out _ HP.out.now).fi).mono ?_;rintro e v1 ⟨rfl,hb⟩;replace HP:=Aside0.mk (HP.out.up hb);clear hb
     have y24gb0:v1.cell? ⟨gb,0,none⟩=some (.int .i64 r):=(blk_cell (FG.out _ HP.out.now).b.box 0).trans rfl;have y24gb1:v1.cell? ⟨gb,1,none⟩=some (.int .i64 c):=(blk_cell (FG.out _ HP.out.now).b.box 1).trans rfl;have y24gb2:v1.cell? ⟨gb,2,none⟩=some (.slice A l.length cp):=(blk_cell (FG.out _ HP.out.now).b.box 2).trans rfl
     go_wp2_with fail
     go_at_call 19;refine (cMR HA.out _ (FG.out _ HP.out.now).b.rd rfl).mono ?_;rintro e v2 ⟨rfl,hb⟩;replace HP:=Aside0.mk (HP.out.up hb);clear hb
     clear y24gb0 y24gb1 y24gb2;have y25gb0:v2.cell? ⟨gb,0,none⟩=some (.int .i64 r):=(blk_cell (FG.out _ HP.out.now).b.box 0).trans rfl;have y25gb1:v2.cell? ⟨gb,1,none⟩=some (.int .i64 c):=(blk_cell (FG.out _ HP.out.now).b.box 1).trans rfl;have y25gb2:v2.cell? ⟨gb,2,none⟩=some (.slice A l.length cp):=(blk_cell (FG.out _ HP.out.now).b.box 2).trans rfl
     go_wp2_with fail
     go_at_call 20;refine (cIP HA.out _ (FG.out _ HP.out.now).b.rd rfl (FG.out _ HP.out.now).fi).mono ?_;rintro e v3 ⟨rfl,hb⟩;replace HP:=Aside0.mk (HP.out.up hb);clear hb
     go_upto_region 18 with fail
     obtain ⟨ad,A6,c6,A7,c7,x0,x1,eA,g0,g1,G0,G1,HX,ex0,ex1⟩:=at_lines (FG.out _ HP.out.now).co 0 (by omega) (by have:=(HA.out.c0 rfl).1;omega)
     rw [ex0.trans (HA.out.c0 rfl).2.1] at g0 G0
     rw [ex1.trans (HA.out.c0 rfl).2.2] at g1 G1
     rw [show ((0:Int)).toNat * 2=0 from rfl,Addr.add_zero'] at g0 g1
     subst eA
     have hq0:=(HA.out.c0 rfl).1
     have q0:((0:Int) < (cs.length:Int))=True:=eq_true (by omega);have q1:(0 < cs.length)=True:=eq_true hq0;have q2:((cs.length:Int) == 0)=false:=beq_eq_false_iff_ne.mpr (by omega);have q3:((cs.length:Int) != 0)=true:=bne_iff_ne.mpr (by omega);have q4:¬ (cs=[]):=fun h_=>by rw [h_] at hq0;exact absurd hq0 (by simp)
     have qm:((most:Int) != (most:Int))=false:=bne_self_eq_false _
     replace G0:=Aside0.mk G0;replace G1:=Aside0.mk G1;clear HX ex0 ex1 hq0
     have hb:Below v3.heap.size v3 v3.drew:=below_drew1 (Below.refl _ _)
     refine start_ (n:=32) (S:=fun w'=>w'.cell? ⟨gl,0,none⟩=some (.slice A2 f0.length c2)∧w'.cell? ⟨gl,1,none⟩=some (.slice A3 f1.length c3)∧w'.cell? ad=some (.slice A6 f0.length c6)∧w'.cell? ⟨ad.block,ad.off + 1,none⟩=some (.slice A7 f1.length c7)) (ds:=[]) #[false,false,false,false,false,false,false,false,false,false,false,false,false,false,false,false,false,false,false,false,false,false,false,false,false,false,false,false,false,false,false,false] (by kernel_rfl) rfl rfl ⟨(blk_cell (FG.out _ HP.out.now).le.box 0).trans rfl,(blk_cell (FG.out _ HP.out.now).le.box 1).trans rfl,g0,g1⟩ (fun hHeld=>?_);refine with_tabW laws_FnLargestHaveCovers.tab18 laws_FnLargestHaveCovers.bits18 (fun HT_ HW_=>?_)
     replace HP:=Aside0.mk (HP.out.up hb);replace G0:=Aside0.mk (G0.out.up hb);replace G1:=Aside0.mk (G1.out.up hb)
     clear hb
     generalize v3.drew=vd at HP G0 G1 hHeld ⊢
     refine pure_ (i:=0) (N:=some 176) (v:=?_) (a':=?_) #[true,false,false,false,false,false,false,false,false,false,false,false,false,false,false,false,false,false,false,false,false,false,false,false,false,false,false,false,false,false,false,false] rfl rfl (any_of HT_.out (by kernel_rfl)) (fun _ _ _ h=>h) (Or.inl ⟨by rfl,?_⟩) ?_ ?_
     rotate_left
     ·
      intro w'
      go_simp
      with_reducible rfl
     rotate_left
     ·
      simp only [Act.put,List.setIfInBounds_toArray,List.set_cons_zero,List.set_cons_succ,i64_w,i32_w]
      rfl
     refine pure_ (i:=1) (N:=some 177) (v:=?_) (a':=?_) #[true,true,false,false,false,false,false,false,false,false,false,false,false,false,false,false,false,false,false,false,false,false,false,false,false,false,false,false,false,false,false,false] rfl rfl (any_of HT_.out (by kernel_rfl)) (fun _ _ _ h=>h) (Or.inl ⟨by rfl,?_⟩) ?_ ?_
     rotate_left
     ·
      intro w'
      go_simp
      with_reducible rfl
     rotate_left
     ·
      simp only [Act.put,List.setIfInBounds_toArray,List.set_cons_zero,List.set_cons_succ,i64_w,i32_w]
      rfl
     refine pure_ (i:=2) (N:=some 178) (v:=?_) (a':=?_) #[true,true,true,false,false,false,false,false,false,false,false,false,false,false,false,false,false,false,false,false,false,false,false,false,false,false,false,false,false,false,false,false] rfl rfl (any_of HT_.out (by kernel_rfl)) (fun _ _ _ h=>h) (Or.inl ⟨by rfl,?_⟩) ?_ ?_
     rotate_left
     ·
      intro w'
      go_simp
      with_reducible rfl
     rotate_left
     ·
      simp only [Act.put,List.setIfInBounds_toArray,List.set_cons_zero,List.set_cons_succ,i64_w,i32_w]
      rfl
     refine pure_ (i:=3) (N:=some 179) (v:=?_) (a':=?_) #[true,true,true,true,false,false,false,false,false,false,false,false,false,false,false,false,false,false,false,false,false,false,false,false,false,false,false,false,false,false,false,false] rfl rfl (any_of HT_.out (by kernel_rfl)) (fun _ _ _ h=>h) (Or.inl ⟨by rfl,?_⟩) ?_ ?_
     rotate_left
     ·
      intro w'
      go_simp
      with_reducible rfl
     rotate_left
     ·
      simp only [Act.put,List.setIfInBounds_toArray,List.set_cons_zero,List.set_cons_succ,i64_w,i32_w]
      rfl
     refine pure_ (i:=4) (N:=some 180) (v:=?_) (a':=?_) #[true,true,true,true,true,false,false,false,false,false,false,false,false,false,false,false,false,false,false,false,false,false,false,false,false,false,false,false,false,false,false,false] rfl rfl (any_of HT_.out (by kernel_rfl)) (fun _ _ _ h=>h) (Or.inl ⟨by rfl,?_⟩) ?_ ?_
     rotate_left
     ·
      intro w'
      go_simp
      with_reducible rfl
     rotate_left
     ·
      simp only [Act.put,List.setIfInBounds_toArray,List.set_cons_zero,List.set_cons_succ,i64_w,i32_w]
      rfl
     refine pure_ (i:=5) (N:=some 181) (v:=?_) (a':=?_) #[true,true,true,true,true,true,false,false,false,false,false,false,false,false,false,false,false,false,false,false,false,false,false,false,false,false,false,false,false,false,false,false] rfl rfl (any_of HT_.out (by kernel_rfl)) (fun _ _ _ h=>h) (Or.inl ⟨by rfl,?_⟩) ?_ ?_
     rotate_left
     ·
      intro w'
      go_simp
      with_reducible rfl
     rotate_left
     ·
      simp only [Act.put,List.setIfInBounds_toArray,List.set_cons_zero,List.set_cons_succ,i64_w,i32_w]
      rfl
     refine pure_ (i:=6) (N:=some 182) (v:=?_) (a':=?_) #[true,true,true,true,true,true,true,false,false,false,false,false,false,false,false,false,false,false,false,false,false,false,false,false,false,false,false,false,false,false,false,false] rfl rfl (any_of HT_.out (by kernel_rfl)) (fun _ _ _ h=>h) (Or.inl ⟨by rfl,?_⟩) ?_ ?_
     rotate_left
     ·
      intro w'
      go_simp
      with_reducible rfl
     rotate_left
     ·
      simp only [Act.put,List.setIfInBounds_toArray,List.set_cons_zero,List.set_cons_succ,i64_w,i32_w]
      rfl
     refine pure_ (i:=7) (N:=some 183) (v:=?_) (a':=?_) #[true,true,true,true,true,true,true,true,false,false,false,false,false,false,false,false,false,false,false,false,false,false,false,false,false,false,false,false,false,false,false,false] rfl rfl (any_of HT_.out (by kernel_rfl)) (fun _ _ _ h=>h) (Or.inl ⟨by rfl,?_⟩) ?_ ?_
     rotate_left
     ·
      intro w'
      go_simp
      with_reducible rfl
     rotate_left
     ·
      simp only [Act.put,List.setIfInBounds_toArray,List.set_cons_zero,List.set_cons_succ,i64_w,i32_w]
      rfl
     refine pure_ (i:=8) (N:=some 184) (v:=?_) (a':=?_) #[true,true,true,true,true,true,true,true,true,false,false,false,false,false,false,false,false,false,false,false,false,false,false,false,false,false,false,false,false,false,false,false] rfl rfl (any_of HT_.out (by kernel_rfl)) (fun _ _ _ h=>h) (Or.inl ⟨by rfl,?_⟩) ?_ ?_
     rotate_left
     ·
      intro w'
      go_simp
      with_reducible rfl
     rotate_left
     ·
      simp only [Act.put,List.setIfInBounds_toArray,List.set_cons_zero,List.set_cons_succ,i64_w,i32_w]
      rfl
     refine pure_ (i:=9) (N:=some 185) (v:=?_) (a':=?_) #[true,true,true,true,true,true,true,true,true,true,false,false,false,false,false,false,false,false,false,false,false,false,false,false,false,false,false,false,false,false,false,false] rfl rfl (any_of HT_.out (by kernel_rfl)) (fun _ _ _ h=>h) (Or.inl ⟨by rfl,?_⟩) ?_ ?_
     rotate_left
     ·
      intro w'
      go_simp
      with_reducible rfl
     rotate_left
     ·
      simp only [Act.put,List.setIfInBounds_toArray,List.set_cons_zero,List.set_cons_succ,i64_w,i32_w]
      rfl
     refine pure_ (i:=10) (N:=some 186) (v:=?_) (a':=?_) #[true,true,true,true,true,true,true,true,true,true,true,false,false,false,false,false,false,false,false,false,false,false,false,false,false,false,false,false,false,false,false,false] rfl rfl (any_of HT_.out (by kernel_rfl)) (fun _ _ _ h=>h) (Or.inl ⟨by rfl,?_⟩) ?_ ?_
     rotate_left
     ·
      intro w'
      go_simp
      with_reducible rfl
     rotate_left
     ·
      simp only [Act.put,List.setIfInBounds_toArray,List.set_cons_zero,List.set_cons_succ,i64_w,i32_w]
      rfl
     refine pure_ (i:=11) (N:=some 187) (v:=?_) (a':=?_) #[true,true,true,true,true,true,true,true,true,true,true,true,false,false,false,false,false,false,false,false,false,false,false,false,false,false,false,false,false,false,false,false] rfl rfl (any_of HT_.out (by kernel_rfl)) (fun _ _ _ h=>h) (Or.inl ⟨by rfl,?_⟩) ?_ ?_
     rotate_left
     ·
      intro w'
      go_simp
      with_reducible rfl
     rotate_left
     ·
      simp only [Act.put,List.setIfInBounds_toArray,List.set_cons_zero,List.set_cons_succ,i64_w,i32_w]
      rfl
     refine pure_ (i:=12) (N:=some 188) (v:=?_) (a':=?_) #[true,true,true,true,true,true,true,true,true,true,true,true,true,false,false,false,false,false,false,false,false,false,false,false,false,false,false,false,false,false,false,false] rfl rfl (any_of HT_.out (by kernel_rfl)) (fun _ _ _ h=>h) (Or.inl ⟨by rfl,?_⟩) ?_ ?_
     rotate_left
     ·
      intro w'
      go_simp
      with_reducible rfl
     rotate_left
     ·
      simp only [Act.put,List.setIfInBounds_toArray,List.set_cons_zero,List.set_cons_succ,i64_w,i32_w]
      rfl
     refine pure_ (i:=13) (N:=some 189) (v:=?_) (a':=?_) #[true,true,true,true,true,true,true,true,true,true,true,true,true,true,false,false,false,false,false,false,false,false,false,false,false,false,false,false,false,false,false,false] rfl rfl (any_of HT_.out (by kernel_rfl)) (fun _ _ _ h=>h) (Or.inl ⟨by rfl,?_⟩) ?_ ?_
     rotate_left
     ·
      intro w'
      go_simp
      with_reducible rfl
     rotate_left
     ·
      simp only [Act.put,List.setIfInBounds_toArray,List.set_cons_zero,List.set_cons_succ,i64_w,i32_w]
      rfl
     refine pure_ (i:=14) (N:=some 190) (v:=?_) (a':=?_) #[true,true,true,true,true,true,true,true,true,true,true,true,true,true,true,false,false,false,false,false,false,false,false,false,false,false,false,false,false,false,false,false] rfl rfl (any_of HT_.out (by kernel_rfl)) (fun _ _ _ h=>h) (Or.inl ⟨by rfl,?_⟩) ?_ ?_
     rotate_left
     ·
      intro w'
      go_simp
      with_reducible rfl
     rotate_left
     ·
      simp only [Act.put,List.setIfInBounds_toArray,List.set_cons_zero,List.set_cons_succ,i64_w,i32_w]
      rfl
     refine pure_ (i:=15) (N:=some 191) (v:=?_) (a':=?_) #[true,true,true,true,true,true,true,true,true,true,true,true,true,true,true,true,false,false,false,false,false,false,false,false,false,false,false,false,false,false,false,false] rfl rfl (any_of HT_.out (by kernel_rfl)) (fun _ _ _ h=>h) (Or.inl ⟨by rfl,?_⟩) ?_ ?_
     rotate_left
     ·
      intro w'
      go_simp
      with_reducible rfl
     rotate_left
     ·
      simp only [Act.put,List.setIfInBounds_toArray,List.set_cons_zero,List.set_cons_succ,i64_w,i32_w]
      rfl
     refine pure_ (i:=16) (N:=some 192) (v:=?_) (a':=?_) #[true,true,true,true,true,true,true,true,true,true,true,true,true,true,true,true,true,false,false,false,false,false,false,false,false,false,false,false,false,false,false,false] rfl rfl (any_of HT_.out (by kernel_rfl)) (fun _ _ _ h=>h) (Or.inl ⟨by rfl,?_⟩) ?_ ?_
     rotate_left
     ·
      intro w'
      go_simp
      with_reducible rfl
     rotate_left
     ·
      simp only [Act.put,List.setIfInBounds_toArray,List.set_cons_zero,List.set_cons_succ,i64_w,i32_w]
      rfl
     refine pure_ (i:=17) (N:=some 193) (v:=?_) (a':=?_) #[true,true,true,true,true,true,true,true,true,true,true,true,true,true,true,true,true,true,false,false,false,false,false,false,false,false,false,false,false,false,false,false] rfl rfl (any_of HT_.out (by kernel_rfl)) (fun _ _ _ h=>h) (Or.inl ⟨by rfl,?_⟩) ?_ ?_
     rotate_left
     ·
      intro w'
      go_simp
      with_reducible rfl
     rotate_left
     ·
      simp only [Act.put,List.setIfInBounds_toArray,List.set_cons_zero,List.set_cons_succ,i64_w,i32_w]
      rfl
     refine pure_ (i:=18) (N:=some 194) (v:=?_) (a':=?_) #[true,true,true,true,true,true,true,true,true,true,true,true,true,true,true,true,true,true,true,false,false,false,false,false,false,false,false,false,false,false,false,false] rfl rfl (any_of HT_.out (by kernel_rfl)) (fun _ _ _ h=>h) (Or.inl ⟨by rfl,?_⟩) ?_ ?_
     rotate_left
     ·
      intro w'
      go_simp
      with_reducible rfl
     rotate_left
     ·
      simp only [Act.put,List.setIfInBounds_toArray,List.set_cons_zero,List.set_cons_succ,i64_w,i32_w]
      rfl
     refine pure_ (i:=19) (N:=some 195) (v:=?_) (a':=?_) #[true,true,true,true,true,true,true,true,true,true,true,true,true,true,true,true,true,true,true,true,false,false,false,false,false,false,false,false,false,false,false,false] rfl rfl (any_of HT_.out (by kernel_rfl)) (fun _ _ _ h=>h) (Or.inl ⟨by rfl,?_⟩) ?_ ?_
     rotate_left
     ·
      intro w'
      go_simp
      with_reducible rfl
     rotate_left
     ·
      simp only [Act.put,List.setIfInBounds_toArray,List.set_cons_zero,List.set_cons_succ,i64_w,i32_w]
      rfl
     refine pure_ (i:=20) (N:=some 196) (v:=?_) (a':=?_) #[true,true,true,true,true,true,true,true,true,true,true,true,true,true,true,true,true,true,true,true,true,false,false,false,false,false,false,false,false,false,false,false] rfl rfl (any_of HT_.out (by kernel_rfl)) (fun _ _ _ h=>h) (Or.inl ⟨by rfl,?_⟩) ?_ ?_
     rotate_left
     ·
      intro w'
      go_simp
      with_reducible rfl
     rotate_left
     ·
      simp only [Act.put,List.setIfInBounds_toArray,List.set_cons_zero,List.set_cons_succ,i64_w,i32_w]
      rfl
     refine pure_ (i:=21) (N:=some 197) (v:=?_) (a':=?_) #[true,true,true,true,true,true,true,true,true,true,true,true,true,true,true,true,true,true,true,true,true,true,false,false,false,false,false,false,false,false,false,false] rfl rfl (any_of HT_.out (by kernel_rfl)) (fun _ _ _ h=>h) (Or.inl ⟨by rfl,?_⟩) ?_ ?_
     rotate_left
     ·
      intro w'
      go_simp
      with_reducible rfl
     rotate_left
     ·
      simp only [Act.put,List.setIfInBounds_toArray,List.set_cons_zero,List.set_cons_succ,i64_w,i32_w]
      rfl
     refine pure_ (i:=22) (N:=some 198) (v:=?_) (a':=?_) #[true,true,true,true,true,true,true,true,true,true,true,true,true,true,true,true,true,true,true,true,true,true,true,false,false,false,false,false,false,false,false,false] rfl rfl (any_of HT_.out (by kernel_rfl)) (fun _ _ _ h=>h) (Or.inl ⟨by rfl,?_⟩) ?_ ?_
     rotate_left
     ·
      intro w'
      go_simp
      with_reducible rfl
     rotate_left
     ·
      simp only [Act.put,List.setIfInBounds_toArray,List.set_cons_zero,List.set_cons_succ,i64_w,i32_w]
      rfl
     refine pure_ (i:=23) (N:=some 199) (v:=?_) (a':=?_) #[true,true,true,true,true,true,true,true,true,true,true,true,true,true,true,true,true,true,true,true,true,true,true,true,false,false,false,false,false,false,false,false] rfl rfl (any_of HT_.out (by kernel_rfl)) (fun _ _ _ h=>h) (Or.inl ⟨by rfl,?_⟩) ?_ ?_
     rotate_left
     ·
      intro w'
      go_simp
      with_reducible rfl
     rotate_left
     ·
      simp only [Act.put,List.setIfInBounds_toArray,List.set_cons_zero,List.set_cons_succ,i64_w,i32_w]
      rfl
     refine pure_ (i:=24) (N:=some 200) (v:=?_) (a':=?_) #[true,true,true,true,true,true,true,true,true,true,true,true,true,true,true,true,true,true,true,true,true,true,true,true,true,false,false,false,false,false,false,false] rfl rfl (any_of HT_.out (by kernel_rfl)) (fun _ _ _ h=>h) (Or.inl ⟨by rfl,?_⟩) ?_ ?_
     rotate_left
     ·
      intro w'
      go_simp
      with_reducible rfl
     rotate_left
     ·
      simp only [Act.put,List.setIfInBounds_toArray,List.set_cons_zero,List.set_cons_succ,i64_w,i32_w]
      rfl
     refine pure_ (i:=25) (N:=some 201) (v:=?_) (a':=?_) #[true,true,true,true,true,true,true,true,true,true,true,true,true,true,true,true,true,true,true,true,true,true,true,true,true,true,false,false,false,false,false,false] rfl rfl (any_of HT_.out (by kernel_rfl)) (fun _ _ _ h=>h) (Or.inl ⟨by rfl,?_⟩) ?_ ?_
     rotate_left
     ·
      intro w'
      go_simp
      with_reducible rfl
     rotate_left
     ·
      simp only [Act.put,List.setIfInBounds_toArray,List.set_cons_zero,List.set_cons_succ,i64_w,i32_w]
      rfl
     refine pure_ (i:=26) (N:=some 202) (v:=?_) (a':=?_) #[true,true,true,true,true,true,true,true,true,true,true,true,true,true,true,true,true,true,true,true,true,true,true,true,true,true,true,false,false,false,false,false] rfl rfl (any_of HT_.out (by kernel_rfl)) (fun _ _ _ h=>h) (Or.inl ⟨by rfl,?_⟩) ?_ ?_
     rotate_left
     ·
      intro w'
      go_simp
      with_reducible rfl
     rotate_left
     ·
      simp only [Act.put,List.setIfInBounds_toArray,List.set_cons_zero,List.set_cons_succ,i64_w,i32_w]
      rfl
     refine take_ (i:=27) (N:=some 203) (v:=?_) (a':=?_) #[true,true,true,true,true,true,true,true,true,true,true,true,true,true,true,true,true,true,true,true,true,true,true,true,true,true,true,true,false,false,false,false] rfl rfl (take_ofW HT_.out HW_.out (by kernel_rfl)) (fun _ _ _ h=>h) (Or.inl ⟨by rfl,?_⟩) hHeld ?_ ?_
     rotate_left
     ·
      rintro w' ⟨s0,s1,s2,s3⟩
      go_simp
      with_reducible rfl
     rotate_left
     ·
      simp only [Act.put,List.setIfInBounds_toArray,List.set_cons_zero,List.set_cons_succ,i64_w,i32_w]
      rfl
     refine take_ (i:=28) (N:=some 204) (v:=?_) (a':=?_) #[true,true,true,true,true,true,true,true,true,true,true,true,true,true,true,true,true,true,true,true,true,true,true,true,true,true,true,true,true,false,false,false] rfl rfl (take_ofW HT_.out HW_.out (by kernel_rfl)) (fun _ _ _ h=>h) (Or.inl ⟨by rfl,?_⟩) hHeld ?_ ?_
     rotate_left
     ·
      rintro w' ⟨s0,s1,s2,s3⟩
      go_simp
      with_reducible rfl
     rotate_left
     ·
      simp only [Act.put,List.setIfInBounds_toArray,List.set_cons_zero,List.set_cons_succ,i64_w,i32_w]
      rfl
     refine one_ (i:=29) (N:=some 205) #[true,true,true,true,true,true,true,true,true,true,true,true,true,true,true,true,true,true,true,true,true,true,true,true,true,true,true,true,true,true,false,false] rfl rfl (one_of HT_.out (by kernel_rfl)) (by decide) (fun K hK=>?_)
     refine goes_ Tryz.func16 (by kernel_rfl) rfl #[.agg #[.slice A6 f0.length c6,.slice A7 f1.length c7],.agg #[.slice A2 f0.length c2,.slice A3 f1.length c3]] (by rfl) rfl rfl (by (try simp only [List.map_toArray,List.map_cons,List.map_nil]);first|done|rfl) ?_
     refine (cKL HA.out _ G0.out G1.out (FG.out _ HP.out.now).le.a (FG.out _ HP.out.now).le.b).mono ?_;rintro e vk ⟨rfl,hb⟩
     have HS2_:=(hb.cell (World.block_lt_of_cell? _ _ (hHeld.2.2.1))).trans (hHeld.2.2.1)
     have HS3_:=(hb.cell (World.block_lt_of_cell? _ _ (hHeld.2.2.2))).trans (hHeld.2.2.2)
     refine ⟨_,rfl,?_⟩;replace HP:=Aside0.mk (HP.out.up hb);replace G0:=Aside0.mk (G0.out.up hb);replace G1:=Aside0.mk (G1.out.up hb)
     refine hK.out _ _ ⟨(blk_cell (FG.out _ HP.out.now).le.box 0).trans rfl,(blk_cell (FG.out _ HP.out.now).le.box 1).trans rfl,HS2_,HS3_⟩ (fun hHeld=>?_)
     clear hK K hb
     refine norm_ (a':=?_) ?_ ?_
     rotate_left
     ·
      show Act.put _ (some 205) _=_
      simp only [Act.put,List.setIfInBounds_toArray,List.set_cons_zero,List.set_cons_succ,i64_w,i32_w]
      rfl
     refine pure_ (i:=30) (N:=some 206) (v:=?_) (a':=?_) #[true,true,true,true,true,true,true,true,true,true,true,true,true,true,true,true,true,true,true,true,true,true,true,true,true,true,true,true,true,true,true,false] rfl rfl (any_of HT_.out (by kernel_rfl)) (fun _ _ _ h=>h) (Or.inl ⟨by rfl,?_⟩) ?_ ?_
     rotate_left
     ·
      intro w'
      go_simp
      with_reducible rfl
     rotate_left
     ·
      simp only [Act.put,List.setIfInBounds_toArray,List.set_cons_zero,List.set_cons_succ,i64_w,i32_w]
      rfl
     refine pure_ (i:=31) (N:=some 207) (v:=?_) (a':=?_) #[true,true,true,true,true,true,true,true,true,true,true,true,true,true,true,true,true,true,true,true,true,true,true,true,true,true,true,true,true,true,true,true] rfl rfl (any_of HT_.out (by kernel_rfl)) (fun _ _ _ h=>h) (Or.inl ⟨by rfl,?_⟩) ?_ ?_
     rotate_left
     ·
      intro w'
      go_simp
      with_reducible rfl
     rotate_left
     ·
      simp only [Act.put,List.setIfInBounds_toArray,List.set_cons_zero,List.set_cons_succ,i64_w,i32_w]
      rfl
     refine done_ (done_of HT_.out (by kernel_rfl)) ?_
     clear g0 g1 G0 G1 hHeld HS2_ HS3_ q2 q3 q4 q0 q1
     go_wp2
     go_loopg [210] cs.length (fun kq v210 w'=>∃ x:Int,v210=.int .i64 x∧Aside0 (∃ i:Nat,x=i∧i + kq=cs.length)∧Aside0 (Keep P w'))
     case atStart=>exact ⟨0,rfl,⟨0,rfl,by omega⟩,HP⟩
     case round =>
      as_aux_lemma =>
       obtain ⟨x,rfl,HI,HQ⟩:=hrel;clear HP;have HP:=HQ;clear HQ
       by_cases c3:x < (cs.length:Int)
       ·
        have c3b0:decide (x < (cs.length:Int))=true:=decide_eq_true c3
        cases gk with
       |zero=>exact absurd HI.out (by rintro ⟨i,h1,h2⟩;omega)
       |succ k1 =>
         have p0:0≤x:=by obtain ⟨i,h1,h2⟩:=HI.out;omega
         have HN:=Aside0.mk (show ∃ i:Nat,wrap64 (x + 1)=i∧i + k1=cs.length from by obtain ⟨i,h1,h2⟩:=HI.out;have:=HA.out.csl;exact ⟨i + 1,by rw [w64 (by omega) (by omega)];omega,by omega⟩)
         obtain ⟨ak,A6,c6,A7,c7,x0,x1,eA,g0,g1,G0,G1,HX,ex0,ex1⟩:=at_lines (FG.out _ HP.out.now).co x p0 c3
         replace eA:=Option.some.inj eA;subst eA;replace G0:=Aside0.mk G0;replace G1:=Aside0.mk G1;replace HX:=Aside0.mk HX;have qs:=cs_sum HA.out rfl HX.out
         have EX:=Aside0.mk (And.intro ex0 ex1);clear ex0 ex1 HI
         have p1:=eq_true p0;have q1:=eq_true c3;clear p0 c3
         go_upto_region 23 with fail
         obtain ⟨gi,hgi⟩:∃ g:Nat,g=wr.heap.size:=⟨_,rfl⟩
         obtain ⟨v1,hv1⟩:∃ W:World,W=wr.alloc (Obj.cells #[.slice A6 x0.length c6,.slice A7 x1.length c7] 37):=⟨_,rfl⟩
         rw [← hv1,← hgi]
         have hb:Below wr.heap.size wr v1:=by rw [hv1];exact alloc_up _ _
         have hx:v1.heap[gi]?=some (.cells #[.slice A6 x0.length c6,.slice A7 x1.length c7] 37 (0,0)):=by rw [hv1,hgi];exact boxed _ _ _
         replace HP:=Aside0.mk (HP.out.up hb);replace G0:=Aside0.mk (G0.out.up hb);replace G1:=Aside0.mk (G1.out.up hb)
         have LI:=Aside0.mk (Ln.mk hx G0.out G1.out);clear G0 G1 g0 g1
         clear hb hx hgi hv1
         have y26gb0:v1.cell? ⟨gb,0,none⟩=some (.int .i64 r):=(blk_cell (FG.out _ HP.out.now).b.box 0).trans rfl;have y26gb1:v1.cell? ⟨gb,1,none⟩=some (.int .i64 c):=(blk_cell (FG.out _ HP.out.now).b.box 1).trans rfl;have y26gb2:v1.cell? ⟨gb,2,none⟩=some (.slice A l.length cp):=(blk_cell (FG.out _ HP.out.now).b.box 2).trans rfl;have y27gi0:v1.cell? ⟨gi,0,none⟩=some (.slice A6 x0.length c6):=(blk_cell LI.out.box 0).trans rfl;have y27gi1:v1.cell? ⟨gi,1,none⟩=some (.slice A7 x1.length c7):=(blk_cell LI.out.box 1).trans rfl
         go_wp2_with fail
         go_at_call 21;refine (cIC HA.out _ (FG.out _ HP.out.now).b.rd rfl HX.out LI.out.a LI.out.b).mono ?_;rintro e v2 ⟨rfl,hb⟩;replace HP:=Aside0.mk (HP.out.up hb);replace LI:=Aside0.mk (LI.out.up hb);clear hb
         clear y26gb0 y26gb1 y26gb2 y27gi0 y27gi1
         go_upto_region 24 with fail
         obtain ⟨ae,A8,c8,A9,c9,z0,z1,eB,g0,g1,G0,G1,HZ,ez0,ez1⟩:=at_lines (FG.out _ HP.out.now).li x (of_eq_true p1) (of_eq_true q1)
         rw [ez0.trans EX.out.1.symm] at g0 G0;rw [ez1.trans EX.out.2.symm] at g1 G1;subst eB;clear HZ ez0 ez1 EX;replace G0:=Aside0.mk G0;replace G1:=Aside0.mk G1
         have hb:Below v2.heap.size v2 v2.drew:=below_drew1 (Below.refl _ _)
         refine start_ (n:=26) (S:=fun w'=>w'.cell? ⟨gi,0,none⟩=some (.slice A6 x0.length c6)∧w'.cell? ⟨gi,1,none⟩=some (.slice A7 x1.length c7)∧w'.cell? (ae.add (x.toNat * 2))=some (.slice A8 x0.length c8)∧w'.cell? ⟨(ae.add (x.toNat * 2)).block,(ae.add (x.toNat * 2)).off + 1,none⟩=some (.slice A9 x1.length c9)) (ds:=[]) #[false,false,false,false,false,false,false,false,false,false,false,false,false,false,false,false,false,false,false,false,false,false,false,false,false,false] (by kernel_rfl) rfl rfl ⟨(blk_cell LI.out.box 0).trans rfl,(blk_cell LI.out.box 1).trans rfl,g0,g1⟩ (fun hHeld=>?_);refine with_tabW laws_FnLargestHaveCovers.tab24 laws_FnLargestHaveCovers.bits24 (fun HT_ HW_=>?_)
         replace HP:=Aside0.mk (HP.out.up hb);replace LI:=Aside0.mk (LI.out.up hb);replace G0:=Aside0.mk (G0.out.up hb);replace G1:=Aside0.mk (G1.out.up hb)
         clear hb
         generalize v2.drew=vd at HP LI G0 G1 hHeld ⊢
         refine pure_ (i:=1) (N:=some 222) (v:=?_) (a':=?_) #[false,true,false,false,false,false,false,false,false,false,false,false,false,false,false,false,false,false,false,false,false,false,false,false,false,false] rfl rfl (any_of HT_.out (by kernel_rfl)) (fun _ _ _ h=>h) (Or.inl ⟨by rfl,?_⟩) ?_ ?_
         rotate_left
         ·
          intro w'
          go_simp
          with_reducible rfl
         rotate_left
         ·
          simp only [Act.put,List.setIfInBounds_toArray,List.set_cons_zero,List.set_cons_succ,i64_w,i32_w]
          rfl
         refine pure_ (i:=2) (N:=some 223) (v:=?_) (a':=?_) #[false,true,true,false,false,false,false,false,false,false,false,false,false,false,false,false,false,false,false,false,false,false,false,false,false,false] rfl rfl (any_of HT_.out (by kernel_rfl)) (fun _ _ _ h=>h) (Or.inl ⟨by rfl,?_⟩) ?_ ?_
         rotate_left
         ·
          intro w'
          go_simp
          with_reducible rfl
         rotate_left
         ·
          simp only [Act.put,List.setIfInBounds_toArray,List.set_cons_zero,List.set_cons_succ,i64_w,i32_w]
          rfl
         refine pure_ (i:=3) (N:=some 224) (v:=?_) (a':=?_) #[false,true,true,true,false,false,false,false,false,false,false,false,false,false,false,false,false,false,false,false,false,false,false,false,false,false] rfl rfl (any_of HT_.out (by kernel_rfl)) (fun _ _ _ h=>h) (Or.inl ⟨by rfl,?_⟩) ?_ ?_
         rotate_left
         ·
          intro w'
          go_simp
          with_reducible rfl
         rotate_left
         ·
          simp only [Act.put,List.setIfInBounds_toArray,List.set_cons_zero,List.set_cons_succ,i64_w,i32_w]
          rfl
         refine take_ (i:=0) (N:=some 221) (v:=?_) (a':=?_) #[true,true,true,true,false,false,false,false,false,false,false,false,false,false,false,false,false,false,false,false,false,false,false,false,false,false] rfl rfl (take_ofW HT_.out HW_.out (by kernel_rfl)) (fun _ _ _ h=>h) (Or.inl ⟨by rfl,?_⟩) hHeld ?_ ?_
         rotate_left
         ·
          rintro w' ⟨s0,s1,s2,s3⟩
          go_simp
          with_reducible rfl
         rotate_left
         ·
          simp only [Act.put,List.setIfInBounds_toArray,List.set_cons_zero,List.set_cons_succ,i64_w,i32_w]
          rfl
         refine take_ (i:=4) (N:=some 225) (v:=?_) (a':=?_) #[true,true,true,true,true,false,false,false,false,false,false,false,false,false,false,false,false,false,false,false,false,false,false,false,false,false] rfl rfl (take_ofW HT_.out HW_.out (by kernel_rfl)) (fun _ _ _ h=>h) (Or.inl ⟨by rfl,?_⟩) hHeld ?_ ?_
         rotate_left
         ·
          rintro w' ⟨s0,s1,s2,s3⟩
          go_simp
          with_reducible rfl
         rotate_left
         ·
          simp only [Act.put,List.setIfInBounds_toArray,List.set_cons_zero,List.set_cons_succ,i64_w,i32_w]
          rfl
         refine one_ (i:=5) (N:=some 226) #[true,true,true,true,true,true,false,false,false,false,false,false,false,false,false,false,false,false,false,false,false,false,false,false,false,false] rfl rfl (one_of HT_.out (by kernel_rfl)) (by decide) (fun K hK=>?_)
         refine goes_ Tryz.func16 (by kernel_rfl) rfl #[.agg #[.slice A6 x0.length c6,.slice A7 x1.length c7],.agg #[.slice A8 x0.length c8,.slice A9 x1.length c9]] (by rfl) rfl rfl (by (try simp only [List.map_toArray,List.map_cons,List.map_nil]);first|done|rfl) ?_
         refine (cKLi HA.out _ rfl HX.out LI.out.a LI.out.b G0.out G1.out).mono ?_;rintro e vk ⟨rfl,hb⟩
         have HS2_:=(hb.cell (World.block_lt_of_cell? _ _ (hHeld.2.2.1))).trans (hHeld.2.2.1)
         have HS3_:=(hb.cell (World.block_lt_of_cell? _ _ (hHeld.2.2.2))).trans (hHeld.2.2.2)
         refine ⟨_,rfl,?_⟩;replace HP:=Aside0.mk (HP.out.up hb);replace LI:=Aside0.mk (LI.out.up hb);replace G0:=Aside0.mk (G0.out.up hb);replace G1:=Aside0.mk (G1.out.up hb)
         refine hK.out _ _ ⟨(blk_cell LI.out.box 0).trans rfl,(blk_cell LI.out.box 1).trans rfl,HS2_,HS3_⟩ (fun hHeld=>?_)
         clear hK K hb
         refine norm_ (a':=?_) ?_ ?_
         rotate_left
         ·
          show Act.put _ (some 226) _=_
          simp only [Act.put,List.setIfInBounds_toArray,List.set_cons_zero,List.set_cons_succ,i64_w,i32_w]
          rfl
         refine pure_ (i:=6) (N:=some 227) (v:=?_) (a':=?_) #[true,true,true,true,true,true,true,false,false,false,false,false,false,false,false,false,false,false,false,false,false,false,false,false,false,false] rfl rfl (any_of HT_.out (by kernel_rfl)) (fun _ _ _ h=>h) (Or.inl ⟨by rfl,?_⟩) ?_ ?_
         rotate_left
         ·
          intro w'
          go_simp
          with_reducible rfl
         rotate_left
         ·
          simp only [Act.put,List.setIfInBounds_toArray,List.set_cons_zero,List.set_cons_succ,i64_w,i32_w]
          rfl
         refine pure_ (i:=7) (N:=some 228) (v:=?_) (a':=?_) #[true,true,true,true,true,true,true,true,false,false,false,false,false,false,false,false,false,false,false,false,false,false,false,false,false,false] rfl rfl (any_of HT_.out (by kernel_rfl)) (fun _ _ _ h=>h) (Or.inl ⟨by rfl,?_⟩) ?_ ?_
         rotate_left
         ·
          intro w'
          go_simp
          with_reducible rfl
         rotate_left
         ·
          simp only [Act.put,List.setIfInBounds_toArray,List.set_cons_zero,List.set_cons_succ,i64_w,i32_w]
          rfl
         refine pure_ (i:=8) (N:=some 229) (v:=?_) (a':=?_) #[true,true,true,true,true,true,true,true,true,false,false,false,false,false,false,false,false,false,false,false,false,false,false,false,false,false] rfl rfl (any_of HT_.out (by kernel_rfl)) (fun _ _ _ h=>h) (Or.inl ⟨by rfl,?_⟩) ?_ ?_
         rotate_left
         ·
          intro w'
          go_simp
          with_reducible rfl
         rotate_left
         ·
          simp only [Act.put,List.setIfInBounds_toArray,List.set_cons_zero,List.set_cons_succ,i64_w,i32_w]
          rfl
         refine pure_ (i:=9) (N:=some 230) (v:=?_) (a':=?_) #[true,true,true,true,true,true,true,true,true,true,false,false,false,false,false,false,false,false,false,false,false,false,false,false,false,false] rfl rfl (any_of HT_.out (by kernel_rfl)) (fun _ _ _ h=>h) (Or.inl ⟨by rfl,?_⟩) ?_ ?_
         rotate_left
         ·
          intro w'
          go_simp
          with_reducible rfl
         rotate_left
         ·
          simp only [Act.put,List.setIfInBounds_toArray,List.set_cons_zero,List.set_cons_succ,i64_w,i32_w]
          rfl
         refine pure_ (i:=10) (N:=some 231) (v:=?_) (a':=?_) #[true,true,true,true,true,true,true,true,true,true,true,false,false,false,false,false,false,false,false,false,false,false,false,false,false,false] rfl rfl (any_of HT_.out (by kernel_rfl)) (fun _ _ _ h=>h) (Or.inl ⟨by rfl,?_⟩) ?_ ?_
         rotate_left
         ·
          intro w'
          go_simp
          with_reducible rfl
         rotate_left
         ·
          simp only [Act.put,List.setIfInBounds_toArray,List.set_cons_zero,List.set_cons_succ,i64_w,i32_w]
          rfl
         refine pure_ (i:=11) (N:=some 232) (v:=?_) (a':=?_) #[true,true,true,true,true,true,true,true,true,true,true,true,false,false,false,false,false,false,false,false,false,false,false,false,false,false] rfl rfl (any_of HT_.out (by kernel_rfl)) (fun _ _ _ h=>h) (Or.inl ⟨by rfl,?_⟩) ?_ ?_
         rotate_left
         ·
          intro w'
          go_simp
          with_reducible rfl
         rotate_left
         ·
          simp only [Act.put,List.setIfInBounds_toArray,List.set_cons_zero,List.set_cons_succ,i64_w,i32_w]
          rfl
         refine pure_ (i:=12) (N:=some 233) (v:=?_) (a':=?_) #[true,true,true,true,true,true,true,true,true,true,true,true,true,false,false,false,false,false,false,false,false,false,false,false,false,false] rfl rfl (any_of HT_.out (by kernel_rfl)) (fun _ _ _ h=>h) (Or.inl ⟨by rfl,?_⟩) ?_ ?_
         rotate_left
         ·
          intro w'
          go_simp
          with_reducible rfl
         rotate_left
         ·
          simp only [Act.put,List.setIfInBounds_toArray,List.set_cons_zero,List.set_cons_succ,i64_w,i32_w]
          rfl
         refine pure_ (i:=13) (N:=some 234) (v:=?_) (a':=?_) #[true,true,true,true,true,true,true,true,true,true,true,true,true,true,false,false,false,false,false,false,false,false,false,false,false,false] rfl rfl (any_of HT_.out (by kernel_rfl)) (fun _ _ _ h=>h) (Or.inl ⟨by rfl,?_⟩) ?_ ?_
         rotate_left
         ·
          intro w'
          go_simp
          with_reducible rfl
         rotate_left
         ·
          simp only [Act.put,List.setIfInBounds_toArray,List.set_cons_zero,List.set_cons_succ,i64_w,i32_w]
          rfl
         refine pure_ (i:=14) (N:=some 235) (v:=?_) (a':=?_) #[true,true,true,true,true,true,true,true,true,true,true,true,true,true,true,false,false,false,false,false,false,false,false,false,false,false] rfl rfl (any_of HT_.out (by kernel_rfl)) (fun _ _ _ h=>h) (Or.inl ⟨by rfl,?_⟩) ?_ ?_
         rotate_left
         ·
          intro w'
          go_simp
          with_reducible rfl
         rotate_left
         ·
          simp only [Act.put,List.setIfInBounds_toArray,List.set_cons_zero,List.set_cons_succ,i64_w,i32_w]
          rfl
         refine pure_ (i:=15) (N:=some 236) (v:=?_) (a':=?_) #[true,true,true,true,true,true,true,true,true,true,true,true,true,true,true,true,false,false,false,false,false,false,false,false,false,false] rfl rfl (any_of HT_.out (by kernel_rfl)) (fun _ _ _ h=>h) (Or.inl ⟨by rfl,?_⟩) ?_ ?_
         rotate_left
         ·
          intro w'
          go_simp
          with_reducible rfl
         rotate_left
         ·
          simp only [Act.put,List.setIfInBounds_toArray,List.set_cons_zero,List.set_cons_succ,i64_w,i32_w]
          rfl
         refine pure_ (i:=16) (N:=some 237) (v:=?_) (a':=?_) #[true,true,true,true,true,true,true,true,true,true,true,true,true,true,true,true,true,false,false,false,false,false,false,false,false,false] rfl rfl (any_of HT_.out (by kernel_rfl)) (fun _ _ _ h=>h) (Or.inl ⟨by rfl,?_⟩) ?_ ?_
         rotate_left
         ·
          intro w'
          go_simp
          with_reducible rfl
         rotate_left
         ·
          simp only [Act.put,List.setIfInBounds_toArray,List.set_cons_zero,List.set_cons_succ,i64_w,i32_w]
          rfl
         refine pure_ (i:=19) (N:=some 240) (v:=?_) (a':=?_) #[true,true,true,true,true,true,true,true,true,true,true,true,true,true,true,true,true,false,false,true,false,false,false,false,false,false] rfl rfl (any_of HT_.out (by kernel_rfl)) (fun _ _ _ h=>h) (Or.inl ⟨by rfl,?_⟩) ?_ ?_
         rotate_left
         ·
          intro w'
          go_simp
          with_reducible rfl
         rotate_left
         ·
          simp only [Act.put,List.setIfInBounds_toArray,List.set_cons_zero,List.set_cons_succ,i64_w,i32_w]
          rfl
         refine pure_ (i:=23) (N:=some 244) (v:=?_) (a':=?_) #[true,true,true,true,true,true,true,true,true,true,true,true,true,true,true,true,true,false,false,true,false,false,false,true,false,false] rfl rfl (any_of HT_.out (by kernel_rfl)) (fun _ _ _ h=>h) (Or.inl ⟨by rfl,?_⟩) ?_ ?_
         rotate_left
         ·
          intro w'
          go_simp
          with_reducible rfl
         rotate_left
         ·
          simp only [Act.put,List.setIfInBounds_toArray,List.set_cons_zero,List.set_cons_succ,i64_w,i32_w]
          rfl
         refine take_ (i:=17) (N:=some 238) (v:=?_) (a':=?_) #[true,true,true,true,true,true,true,true,true,true,true,true,true,true,true,true,true,true,false,true,false,false,false,true,false,false] rfl rfl (take_ofW HT_.out HW_.out (by kernel_rfl)) (fun _ _ _ h=>h) (Or.inl ⟨by rfl,?_⟩) hHeld ?_ ?_
         rotate_left
         ·
          rintro w' ⟨s0,s1,s2,s3⟩
          go_simp
          with_reducible rfl
         rotate_left
         ·
          simp only [Act.put,List.setIfInBounds_toArray,List.set_cons_zero,List.set_cons_succ,i64_w,i32_w]
          rfl
         refine pure_ (i:=18) (N:=some 239) (v:=?_) (a':=?_) #[true,true,true,true,true,true,true,true,true,true,true,true,true,true,true,true,true,true,true,true,false,false,false,true,false,false] rfl rfl (any_of HT_.out (by kernel_rfl)) (fun _ _ _ h=>h) (Or.inl ⟨by rfl,?_⟩) ?_ ?_
         rotate_left
         ·
          intro w'
          go_simp
          with_reducible rfl
         rotate_left
         ·
          simp only [Act.put,List.setIfInBounds_toArray,List.set_cons_zero,List.set_cons_succ,i64_w,i32_w]
          rfl
         refine take_ (i:=20) (N:=some 241) (v:=?_) (a':=?_) #[true,true,true,true,true,true,true,true,true,true,true,true,true,true,true,true,true,true,true,true,true,false,false,true,false,false] rfl rfl (take_ofW HT_.out HW_.out (by kernel_rfl)) (fun _ _ _ h=>h) (Or.inl ⟨by rfl,?_⟩) hHeld ?_ ?_
         rotate_left
         ·
          rintro w' ⟨s0,s1,s2,s3⟩
          go_simp
          with_reducible rfl
         rotate_left
         ·
          simp only [Act.put,List.setIfInBounds_toArray,List.set_cons_zero,List.set_cons_succ,i64_w,i32_w]
          rfl
         refine pure_ (i:=21) (N:=some 242) (v:=?_) (a':=?_) #[true,true,true,true,true,true,true,true,true,true,true,true,true,true,true,true,true,true,true,true,true,true,false,true,false,false] rfl rfl (any_of HT_.out (by kernel_rfl)) (fun _ _ _ h=>h) (Or.inl ⟨by rfl,?_⟩) ?_ ?_
         rotate_left
         ·
          intro w'
          go_simp
          with_reducible rfl
         rotate_left
         ·
          simp only [Act.put,List.setIfInBounds_toArray,List.set_cons_zero,List.set_cons_succ,i64_w,i32_w]
          rfl
         refine pure_ (i:=22) (N:=some 243) (v:=?_) (a':=?_) #[true,true,true,true,true,true,true,true,true,true,true,true,true,true,true,true,true,true,true,true,true,true,true,true,false,false] rfl rfl (any_of HT_.out (by kernel_rfl)) (fun _ _ _ h=>h) (Or.inl ⟨by rfl,?_⟩) ?_ ?_
         rotate_left
         ·
          intro w'
          go_simp
          with_reducible rfl
         rotate_left
         ·
          simp only [Act.put,List.setIfInBounds_toArray,List.set_cons_zero,List.set_cons_succ,i64_w,i32_w]
          rfl
         refine pure_ (i:=24) (N:=some 245) (v:=?_) (a':=?_) #[true,true,true,true,true,true,true,true,true,true,true,true,true,true,true,true,true,true,true,true,true,true,true,true,true,false] rfl rfl (any_of HT_.out (by kernel_rfl)) (fun _ _ _ h=>h) (Or.inl ⟨by rfl,?_⟩) ?_ ?_
         rotate_left
         ·
          intro w'
          go_simp
          with_reducible rfl
         rotate_left
         ·
          simp only [Act.put,List.setIfInBounds_toArray,List.set_cons_zero,List.set_cons_succ,i64_w,i32_w]
          rfl
         refine pure_ (i:=25) (N:=some 246) (v:=?_) (a':=?_) #[true,true,true,true,true,true,true,true,true,true,true,true,true,true,true,true,true,true,true,true,true,true,true,true,true,true] rfl rfl (any_of HT_.out (by kernel_rfl)) (fun _ _ _ h=>h) (Or.inl ⟨by rfl,?_⟩) ?_ ?_
         rotate_left
         ·
          intro w'
          go_simp
          with_reducible rfl
         rotate_left
         ·
          simp only [Act.put,List.setIfInBounds_toArray,List.set_cons_zero,List.set_cons_succ,i64_w,i32_w]
          rfl
         refine done_ (done_of HT_.out (by kernel_rfl)) ?_
         go_wp2
         go_roundg k1
         case measure=>omega
         case rel=>exact ⟨wrap64 (x + 1),(by first|rfl|(simp;done)|(simp [*];done)),HN,HP⟩
       ·
        have c3b0:decide (x < (cs.length:Int))=false:=decide_eq_false c3
        clear c3 HI;go_wp2;go_meet;case rel=>exact HP
   case rest =>
    as_aux_lemma =>
     have HQ:=hcut;clear HP hcut;have HP:=HQ;clear HQ
     go_upto_if 248 with fail
     go_cut [] (fun wc=>Aside0 (Keep P wc))
     case first =>
      as_aux_lemma =>
       rcases Bool.eq_false_or_eq_true ok with h1|h1
       rotate_left
       ·
        subst h1;go_wp2;go_meet;case rel=>exact HP
       have h2:=HA.out.okOne h1;subst h1 h2
       have y28gb0:wc.cell? ⟨gb,0,none⟩=some (.int .i64 r):=(blk_cell (FG.out _ HP.out.now).b.box 0).trans rfl;have y28gb1:wc.cell? ⟨gb,1,none⟩=some (.int .i64 c):=(blk_cell (FG.out _ HP.out.now).b.box 1).trans rfl;have y28gb2:wc.cell? ⟨gb,2,none⟩=some (.slice A l.length cp):=(blk_cell (FG.out _ HP.out.now).b.box 2).trans rfl
       go_wp2_with fail
       go_at_call 19;refine (cMR HA.out _ (FG.out _ HP.out.now).b.rd rfl).mono ?_;rintro e v1 ⟨rfl,hb⟩;replace HP:=Aside0.mk (HP.out.up hb);clear hb
       clear y28gb0 y28gb1 y28gb2
       obtain ⟨ad,A6,c6,y0,eA,g0,G0,HX,ey⟩:=at_row (FG.out _ HP.out.now).al 0 (by omega) (by have:=(HA.out.r0 rfl).1;omega)
       rw [ey.trans (HA.out.r0 rfl).2] at g0 G0
       rw [show ((0:Int)).toNat=0 from rfl,Addr.add_zero'] at g0
       subst eA;have hq0:=(HA.out.r0 rfl).1;clear HX ey
       have q0:((0:Int) < (rows.length:Int))=True:=eq_true (by omega);have q1:(0 < rows.length)=True:=eq_true hq0;have q2:((rows.length:Int) == 0)=false:=beq_eq_false_iff_ne.mpr (by omega);have q3:((rows.length:Int) != 0)=true:=bne_iff_ne.mpr (by omega);have q4:¬ (rows=[]):=fun h_=>by rw [h_] at hq0;exact absurd hq0 (by simp)
       clear hq0;replace G0:=Aside0.mk G0
       go_wp2_with fail
       go_at_call 15;refine (cKS HA.out _ G0.out (FG.out _ HP.out.now).fi).mono ?_;rintro e v2 ⟨rfl,hb⟩;replace HP:=Aside0.mk (HP.out.up hb);clear G0 g0;clear hb
       go_wp2_with fail
       clear q0 q1 q2 q3 q4
       have qm:((most:Int) != (most:Int))=false:=bne_self_eq_false _
       go_loopg [271] rows.length (fun kq v271 w'=>∃ x:Int,v271=.int .i64 x∧Aside0 (∃ i:Nat,x=i∧i + kq=rows.length)∧Aside0 (Keep P w'))
       case atStart=>exact ⟨0,rfl,⟨0,rfl,by omega⟩,HP⟩
       case round =>
        obtain ⟨x,rfl,HI,HQ⟩:=hrel;clear HP;have HP:=HQ;clear HQ
        by_cases c3:x < (rows.length:Int)
        ·
         have c3b0:decide (x < (rows.length:Int))=true:=decide_eq_true c3
         cases gk with
        |zero=>exact absurd HI.out (by rintro ⟨i,h1,h2⟩;omega)
        |succ k1 =>
          have p0:0≤x:=by obtain ⟨i,h1,h2⟩:=HI.out;omega
          have HN:=Aside0.mk (show ∃ i:Nat,wrap64 (x + 1)=i∧i + k1=rows.length from by obtain ⟨i,h1,h2⟩:=HI.out;have:=HA.out.rl;exact ⟨i + 1,by rw [w64 (by omega) (by omega)];omega,by omega⟩)
          obtain ⟨ae,A6,c6,y0,eA,g0,G0,HX,ey⟩:=at_row (FG.out _ HP.out.now).al x p0 c3
          replace eA:=Option.some.inj eA;subst eA;replace G0:=Aside0.mk G0;replace HX:=Aside0.mk HX;replace ey:=Aside0.mk ey
          have p1:=eq_true p0;have q1:=eq_true c3
          have y29gb0:wr.cell? ⟨gb,0,none⟩=some (.int .i64 r):=(blk_cell (FG.out _ HP.out.now).b.box 0).trans rfl;have y29gb1:wr.cell? ⟨gb,1,none⟩=some (.int .i64 c):=(blk_cell (FG.out _ HP.out.now).b.box 1).trans rfl;have y29gb2:wr.cell? ⟨gb,2,none⟩=some (.slice A l.length cp):=(blk_cell (FG.out _ HP.out.now).b.box 2).trans rfl
          go_wp2_with fail
          go_at_call 20;refine (cIPi HA.out _ (FG.out _ HP.out.now).b.rd rfl HX.out G0.out).mono ?_;rintro e v1 ⟨rfl,hb⟩;replace HP:=Aside0.mk (HP.out.up hb);replace G0:=Aside0.mk (G0.out.up hb);clear hb
          go_wp2_with fail
          go_at_call 18;refine (cCRi HA.out _ rfl HX.out G0.out).mono ?_;rintro e v2 ⟨rfl,hb⟩;replace HP:=Aside0.mk (HP.out.up hb);replace G0:=Aside0.mk (G0.out.up hb);clear hb
          clear g0 y29gb0 y29gb1 y29gb2
          by_cases c5:0 < x
          ·
           have c5b0:decide (0 < x)=true:=decide_eq_true c5
           have hz:wrap64 (x - 1)=x - 1:=w64 (by omega) (by have:=HA.out.rl;omega)
           obtain ⟨af,A7,c7,y1,eB,g1,G1,HY,ez⟩:=at_row (FG.out _ HP.out.now).al (wrap64 (x - 1)) (by omega) (by omega)
           replace eB:=Option.some.inj eB;subst eB;replace G1:=Aside0.mk G1
           have HR:=Aside0.mk (show RowsAt rows y1 y0 from ⟨x.toNat,(x - 1).toNat,by omega,by omega,by rw [ez,hz,Int.toNat_of_nonneg (by omega)],by rw [ey.out,Int.toNat_of_nonneg (by omega)]⟩)
           have p2:(0≤wrap64 (x - 1))=True:=eq_true (by omega);have q2:(wrap64 (x - 1) < (rows.length:Int))=True:=eq_true (by omega);clear hz ez HY p0 c3 c5
           go_wp2_with fail
           go_at_call 15;refine (cKN HA.out _ rfl HR.out G1.out G0.out).mono ?_;rintro e v3 ⟨rfl,hb⟩;replace HP:=Aside0.mk (HP.out.up hb);clear hb
           clear g1;go_wp2
           go_roundg k1
           case measure=>omega
           case rel=>exact ⟨wrap64 (x + 1),(by first|rfl|(simp;done)|(simp [*];done)),HN,HP⟩
          ·
           have c5b0:decide (0 < x)=false:=decide_eq_false c5
           clear p0 c3 c5;go_wp2
           go_roundg k1
           case measure=>omega
           case rel=>exact ⟨wrap64 (x + 1),(by first|rfl|(simp;done)|(simp [*];done)),HN,HP⟩
        ·
         have c3b0:decide (x < (rows.length:Int))=false:=decide_eq_false c3
         clear c3 HI;go_wp2;go_meet;case rel=>exact HP
     case rest =>
      as_aux_lemma =>
       have HQ:=hcut;clear HP hcut;have HP:=HQ;clear HQ
       go_wp2_with fail
       go_at_call 22;refine (cDL DL.out _ (FG.out _ HP.out.now).m).mono ?_;rintro e v1 ⟨r2,k2,l2,x2,y2,A8,c8,A9,c9,B0,e0,hln,rfl,E2,E3,E4,hb⟩;replace HP:=Aside0.mk (HP.out.up hb);obtain ⟨is,fine,hI,hS,hM⟩:=lines r2 k2 l2 x2 y2 (by omega) (by omega) (by omega);replace hI:=Lib.hid hI;replace hS:=Lib.hid hS;replace hM:=Lib.hid hM;replace hln:=Aside0.mk hln;replace E2:=Aside0.mk E2;replace E3:=Aside0.mk E3;replace E4:=Aside0.mk E4;clear hb
       go_upto_region 40 with fail
       obtain ⟨gc,hgc⟩:∃ g:Nat,g=v1.heap.size:=⟨_,rfl⟩
       obtain ⟨gd,hgd⟩:∃ g:Nat,g=v1.heap.size + 1:=⟨_,rfl⟩
       obtain ⟨v2,hv2⟩:∃ W:World,W=(v1.alloc (Obj.cells #[.int .i64 r2,.int .i64 k2,.slice A8 l2.length c8] 26)).alloc (Obj.cells #[.slice A9 x2.length c9,.slice B0 y2.length e0] 37):=⟨_,rfl⟩
       rw [← hv2,← hgd,← hgc]
       have hb:Below v1.heap.size v1 v2:=by rw [hv2];exact below_alloc (alloc_up _ _) _
       have hx:v2.heap[gc]?=some (.cells #[.int .i64 r2,.int .i64 k2,.slice A8 l2.length c8] 26 (0,0)):=by rw [hv2,hgc];exact blk_below (boxed _ _ _) (alloc_up _ _)
       have hy:v2.heap[gd]?=some (.cells #[.slice A9 x2.length c9,.slice B0 y2.length e0] 37 (0,0)):=by rw [hv2,hgd];exact boxed2 _ _ _ _
       replace HP:=Aside0.mk (HP.out.up hb);replace E2:=Aside0.mk (E2.out.up hb);replace E3:=Aside0.mk (E3.out.up hb);replace E4:=Aside0.mk (E4.out.up hb)
       have BC:=Aside0.mk (Bd.mk hx E2.out);have LD:=Aside0.mk (Ln.mk hy E3.out E4.out);clear E2 E3 E4 hb hx hy hgc hgd hv2
       have y30gc0:v2.cell? ⟨gc,0,none⟩=some (.int .i64 r2):=(blk_cell BC.out.box 0).trans rfl;have y30gc1:v2.cell? ⟨gc,1,none⟩=some (.int .i64 k2):=(blk_cell BC.out.box 1).trans rfl;have y30gc2:v2.cell? ⟨gc,2,none⟩=some (.slice A8 l2.length c8):=(blk_cell BC.out.box 2).trans rfl;have y31gd0:v2.cell? ⟨gd,0,none⟩=some (.slice A9 x2.length c9):=(blk_cell LD.out.box 0).trans rfl;have y31gd1:v2.cell? ⟨gd,1,none⟩=some (.slice B0 y2.length e0):=(blk_cell LD.out.box 1).trans rfl
       have bf:=bne_ fine;have bi:=bne_ is
       go_wp2_with fail
       go_at_call 21;refine (cI2 hI.out _ BC.out.rd LD.out.a LD.out.b).mono ?_;rintro e v3 ⟨rfl,hb⟩;replace HP:=Aside0.mk (HP.out.up hb);replace BC:=Aside0.mk (BC.out.up hb);replace LD:=Aside0.mk (LD.out.up hb);clear hb
       clear y30gc0 y30gc1 y30gc2;have y32gc0:v3.cell? ⟨gc,0,none⟩=some (.int .i64 r2):=(blk_cell BC.out.box 0).trans rfl;have y32gc1:v3.cell? ⟨gc,1,none⟩=some (.int .i64 k2):=(blk_cell BC.out.box 1).trans rfl;have y32gc2:v3.cell? ⟨gc,2,none⟩=some (.slice A8 l2.length c8):=(blk_cell BC.out.box 2).trans rfl
       clear y31gd0 y31gd1;have y33gd0:v3.cell? ⟨gd,0,none⟩=some (.slice A9 x2.length c9):=(blk_cell LD.out.box 0).trans rfl;have y33gd1:v3.cell? ⟨gd,1,none⟩=some (.slice B0 y2.length e0):=(blk_cell LD.out.box 1).trans rfl
       go_wp2_with fail
       go_at_call 23;refine (cS2 hS.out _ BC.out.rd LD.out.a LD.out.b).mono ?_;rintro e v4 ⟨rfl,hb⟩;replace HP:=Aside0.mk (HP.out.up hb);replace BC:=Aside0.mk (BC.out.up hb);replace LD:=Aside0.mk (LD.out.up hb);clear hb
       clear y32gc0 y32gc1 y32gc2;have y34gc0:v4.cell? ⟨gc,0,none⟩=some (.int .i64 r2):=(blk_cell BC.out.box 0).trans rfl;have y34gc1:v4.cell? ⟨gc,1,none⟩=some (.int .i64 k2):=(blk_cell BC.out.box 1).trans rfl;have y34gc2:v4.cell? ⟨gc,2,none⟩=some (.slice A8 l2.length c8):=(blk_cell BC.out.box 2).trans rfl
       go_upto_if 341 with fail
       rcases Bool.eq_false_or_eq_true is with h1|h1
       rotate_left
       ·
        subst h1;go_wp2;go_ret;exact ⟨by first|rfl|(simp;done)|(simp [*];done),(FG.out _ HP.out.now).B.b⟩
       subst h1
       obtain ⟨m2,hm2,hle⟩:=hM.out rfl
       have hq:decide ((m2:Int)≤wrap64 ((x2.length:Int) + (y2.length:Int)))=true:=decide_eq_true (by have:=hln.out;rw [w64 (by omega) (by omega)];omega)
       have hq2:((m2:Int)≤wrap64 ((x2.length:Int) + (y2.length:Int)))=True:=eq_true (of_decide_eq_true hq)
       replace hm2:=Lib.hid hm2;clear hle hM
       go_wp2_with fail
       go_at_call 19;refine (cM2 hm2.out _ BC.out.rd).mono ?_;rintro e v5 ⟨rfl,hb⟩;replace HP:=Aside0.mk (HP.out.up hb);replace BC:=Aside0.mk (BC.out.up hb);replace LD:=Aside0.mk (LD.out.up hb);clear hb
       clear y33gd0 y33gd1;have y35gd0:v5.cell? ⟨gd,0,none⟩=some (.slice A9 x2.length c9):=(blk_cell LD.out.box 0).trans rfl;have y35gd1:v5.cell? ⟨gd,1,none⟩=some (.slice B0 y2.length e0):=(blk_cell LD.out.box 1).trans rfl
       go_wp2_with fail
       go_ret
       exact ⟨by first|rfl|(simp;done)|(simp [*];done),(FG.out _ HP.out.now).B.b⟩
end Go.Proofs.YtpjjeeabpaojnaaGreat.Q
end
