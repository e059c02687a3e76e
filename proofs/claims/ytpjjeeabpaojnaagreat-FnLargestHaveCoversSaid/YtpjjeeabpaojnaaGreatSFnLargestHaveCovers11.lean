/- Texts of this claim put together (11): words, what the functions compute, and plain facts. No conditions. -/
import Derived.Test.YtpjjeeabpaojnaaGreatSFnLargestHaveCovers10
import Derived.Deep.DeepCutAuto
import Derived.Deep.CutBlock
import Derived.Outline
import Derived.Test.YtpjjeeabpaojnaaGreatSFnLargestHaveCovers4
import Derived.Test.YtpjjeeabpaojnaaGreatSFnLargestHaveCovers0
section
namespace Go.Proofs.YtpjjeeabpaojnaaGreat.CovD
set_option linter.unusedVariables false
set_option linter.unusedSimpArgs false
open Go.RowKit Go.Proofs.YtpjjeeabpaojnaaGreat.Q Go.Proofs.YtpjjeeabpaojnaaGreatW.PrintWords Go.Proofs.YtpjjeeabpaojnaaGreatW.PrintLast Go.Proofs.YtpjjeeabpaojnaaGreatW.PrintMore
open Go.Proofs.YtpjjeeabpaojnaaGreatL Go.Proofs.YtpjjeeabpaojnaaGreat.LawK Go.Proofs.YtpjjeeabpaojnaaGreat.BoardK Go.Proofs.YtpjjeeabpaojnaaGreat.DrawK
def spec_l1Cur_boardOf.T5:Bool × List (List Nat × List Nat):=(true,[([],[]),([0],[0]),([],[]),([],[]),([],[]),([4],[4]),([3,5],[3,5]),([1,2,0,1,2,3,4,5,6],[1,2]),([7,6,6,0,1,2,3,4,5,6],[6,7])])
def spec_l1Cur_boardOf.B5:List Nat:=[0,1,0,0,0,16,56,127,255]
theorem spec_l1Cur_boardOf.tab5:rtab .any (opsOf Tryz.f87 5)=spec_l1Cur_boardOf.T5:=by kernel_rfl
theorem spec_l1Cur_boardOf.bits5:waitsOk spec_l1Cur_boardOf.T5.2 spec_l1Cur_boardOf.B5=true:=by kernel_rfl
def spec_l1Cur_boardOf.T7:Bool × List (List Nat × List Nat):=(true,[([],[]),([0],[0]),([],[]),([],[]),([],[]),([4],[4]),([3,5],[3,5]),([6],[6]),([7],[7]),([1,2,0,1,2,3,4,5,6,7,8],[1,2]),([9,8,6,0,1,2,3,4,5,6,7,8],[8,9])])
def spec_l1Cur_boardOf.B7:List Nat:=[0,1,0,0,0,16,56,120,248,511,1023]
theorem spec_l1Cur_boardOf.tab7:rtab .any (opsOf Tryz.f87 7)=spec_l1Cur_boardOf.T7:=by kernel_rfl
theorem spec_l1Cur_boardOf.bits7:waitsOk spec_l1Cur_boardOf.T7.2 spec_l1Cur_boardOf.B7=true:=by kernel_rfl
def spec_l1Cur_board.T8:Bool × List (List Nat × List Nat):=(true,[([],[]),([0],[0]),([],[]),([],[]),([3],[3]),([4],[4]),([2,5],[2,5]),([],[]),([],[]),([7,8,6],[7,8]),([1,6,0,1,2,3,4,5,6,7,8,9],[1,6]),([10,9,9,0,1,2,3,4,5,6,7,8,9],[9,10])])
def spec_l1Cur_board.B8:List Nat:=[0,1,0,0,8,24,60,0,0,508,1023,2047]
theorem spec_l1Cur_board.tab8:rtab .any (opsOf Tryz.f69 8)=spec_l1Cur_board.T8:=by kernel_rfl
theorem spec_l1Cur_board.bits8:waitsOk spec_l1Cur_board.T8.2 spec_l1Cur_board.B8=true:=by kernel_rfl
def spec_l1Cur_sparse.T10:Bool × List (List Nat × List Nat):=(true,[([],[]),([0],[0]),([],[]),([1,2],[1,2]),([3],[3]),([],[]),([],[]),([6],[6]),([5,7],[5,7]),([8],[8]),([4,9],[4,9]),([1,2,0,1,2,3,4,5,6,7,8,9,10],[1,2]),([11,10,8,0,1,2,3,4,5,6,7,8,9,10],[10,11])])
def spec_l1Cur_sparse.B10:List Nat:=[0,1,0,7,15,0,0,64,224,480,1023,2047,4095]
theorem spec_l1Cur_sparse.tab10:rtab .any (opsOf Tryz.f42 10)=spec_l1Cur_sparse.T10:=by kernel_rfl
theorem spec_l1Cur_sparse.bits10:waitsOk spec_l1Cur_sparse.T10.2 spec_l1Cur_sparse.B10=true:=by kernel_rfl
theorem put2 {W:World} {g t:Nat} {a b x y:Value} (h:W.heap[g]?=some (.cells #[a,b] t (0,0))):((W.setCell ⟨g,0,none⟩ x).setCell ⟨g,1,none⟩ y).heap[g]?=some (.cells #[x,y] t (0,0)):=blk_put (cs:=#[x,b]) (blk_put (cs:=#[a,b]) h 0 x rfl) 1 y rfl
theorem put3 {W:World} {g t:Nat} {a b c x y z:Value} (h:W.heap[g]?=some (.cells #[a,b,c] t (0,0))):(((W.setCell ⟨g,0,none⟩ x).setCell ⟨g,1,none⟩ y).setCell ⟨g,2,none⟩ z).heap[g]?=some (.cells #[x,y,z] t (0,0)):=blk_put (cs:=#[x,y,c]) (blk_put (cs:=#[x,b,c]) (blk_put (cs:=#[a,b,c]) h 0 x rfl) 1 y rfl) 2 z rfl
theorem keep1 (W:World) (g:Nat) (j:Nat) (x:Value):KeepBut W (W.setCell ⟨g,j,none⟩ x) g none:=KeepBut.set_ (KeepBut.refl _ _ _) j x
theorem keep2 (W:World) (g:Nat) (x y:Value):KeepBut W ((W.setCell ⟨g,0,none⟩ x).setCell ⟨g,1,none⟩ y) g none:=KeepBut.set_ (keep1 W g 0 x) 1 y
theorem keep3 (W:World) (g:Nat) (x y z:Value):KeepBut W (((W.setCell ⟨g,0,none⟩ x).setCell ⟨g,1,none⟩ y).setCell ⟨g,2,none⟩ z) g none:=KeepBut.set_ (keep2 W g x y) 2 z
theorem keepN {W0 W W':World} {g b:Nat} (h:KeepBut W0 W g none) (k:KeepBut W W' b none) (hb:W0.heap.size≤b):KeepBut W0 W' g none :=
 ⟨Nat.le_trans h.1 k.1,fun i hi hg hr=>(k.2 i (Nat.lt_of_lt_of_le hi h.1) (by omega) hr).trans (h.2 i hi hg hr)⟩
theorem keepB {W0 W W':World} {g:Nat} (h:KeepBut W0 W g none) (hb:Below W.heap.size W W'):KeepBut W0 W' g none:=h.trans (KeepBut.of_below hb g none) (.inl rfl)
theorem Dr.keep3 {w W:World} {g:Nat} {code:List Int} {M b:Nat} (h:Dr w W g code M) (hg:g ≠ b) (hw:w.heap.size≤b) (x y z:Value):Dr w (((W.setCell ⟨b,0,none⟩ x).setCell ⟨b,1,none⟩ y).setCell ⟨b,2,none⟩ z) g code M:=((h.set hg hw 0 x).set hg hw 1 y).set hg hw 2 z
structure BQ (W0 W:World) (g g6 g7 go n cp:Nat) (r c:Int) (l:List Int):Prop where
 K:KeepBut W0 W g none
 b6:W.heap[g6]?=some (.cells #[.int .i64 0,.int .i64 0,.slice none 0 0] 26 (0,0))
 b7:W.heap[g7]?=some (.cells #[.int .i64 r,.int .i64 c,.slice (some ⟨go,0,none⟩) n cp] 26 (0,0))
 R:Kd.R (Kd.int .i64) 3 W W0.heap.size (fun k=>g6 < k∧k < g7) (.slice (some ⟨go,0,none⟩) n cp) l
 N:g < W0.heap.size∧W0.heap.size≤g6∧g6 < go∧go < g7∧l.length=n
section
variable {W0 W W' : World} {g g6 g7 go n cp : Nat} {r c : Int} {l : List Int} (h : BQ W0 W g g6 g7 go n cp r c l)
include h
theorem BQ.up (hb:Below W.heap.size W W'):BQ W0 W' g g6 g7 go n cp r c l:=⟨keepB h.K hb,blk_below h.b6 hb,blk_below h.b7 hb,Kd.R_below h.R hb,h.N⟩
theorem BQ.keep (hk:KeepBut W W' g none):BQ W0 W' g g6 g7 go n cp r c l:=by
 have hn:=h.N
 exact ⟨h.K.trans hk (.inl rfl),KeepBut.blk hk h.b6 (by omega) (by simp),KeepBut.blk hk h.b7 (by omega) (by simp),Kd.R_keep h.R hk (fun k hk=>by omega),hn⟩
theorem BQ.put (x:Int) (v:Int):BQ W0 (W.setCell ⟨go,x.toNat,none⟩ (.int .i64 v)) g g6 g7 go n cp r c (l.set x.toNat v):=by
 have hn:=h.N
 exact ⟨keepN h.K (keep1 W go x.toNat (.int .i64 v)) (by omega),KeepBut.blk (keep1 W go x.toNat (.int .i64 v)) h.b6 (by omega) (by simp),KeepBut.blk (keep1 W go x.toNat (.int .i64 v)) h.b7 (by omega) (by simp),Kd.R_putn h.R x v,hn.1,hn.2.1,hn.2.2.1,hn.2.2.2.1,by rw [List.length_set];exact hn.2.2.2.2⟩
end
theorem empty_f {r c:Int} (hr:1≤r∧r≤6):spec_boEmpty.f r c=some (r,c,List.replicate r.toNat 0):=by unfold spec_boEmpty.f;rw [if_pos (by omega),if_pos (by omega)]
set_option maxHeartbeats 8000000 in
set_option maxRecDepth 100000 in
theorem boardOf_c {code:List Int} (hc:Bytes code) {w W:World} {g M:Nat} (h:Dr w W g code M) (hm:M + 36≤1000000) {r c:Int} (hr:1≤r∧r≤6) (hcc:1≤c∧c≤6):Calls Tryz.prog 87 #[.pointer (some ⟨g,0,none⟩),.int .i64 r,.int .i64 c] W fun e w'=>∃ (l:List Int) (A:Option Addr) (cp:Nat),e=.returned (.agg #[.int .i64 r,.int .i64 c,.slice A l.length cp])∧(1≤l.length∧l.length≤6)∧Kd.R (Kd.int .i64) 3 w' W.heap.size (fun _=>True) (.slice A l.length cp) l∧Dr w w' g code (M + 36)∧KeepBut W w' g none:=by
 have hu26:=Tryz.underlying26
 replace hc:=Aside0.mk hc
 have HD:=Aside0.mk h
 replace hm:=Aside0.mk hm;replace hr:=Aside0.mk hr;have HC:=Aside0.mk hcc
 have HG:=Aside0.mk h.lt;have HW:=Aside0.mk h.B.size
 clear h hcc
 go_enter Tryz.func87,Tryz.ntmps87
 go_upto_region 1 with fail
 obtain ⟨w1,hw1⟩:∃ X:World,X=W.alloc (Obj.cells #[.int .i64 0,.int .i64 0,.slice none 0 0] 26):=⟨_,rfl⟩
 obtain ⟨g6,hg6⟩:∃ n:Nat,n=W.heap.size:=⟨_,rfl⟩
 have hb:Below W.heap.size W w1:=by rw [hw1];exact alloc_up _ _
 have b6:w1.heap[g6]?=some (.cells #[.int .i64 0,.int .i64 0,.slice none 0 0] 26 (0,0)):=by rw [hw1,hg6];exact boxed _ _ _
 have hs1:w1.heap.size=g6 + 1:=by rw [hw1,hg6];exact size_alloc _ _
 rw [← hw1,← hg6]
 have HK:=Aside0.mk (KeepBut.of_below hb g none);replace HD:=Aside0.mk (HD.out.up hb);replace b6:=Aside0.mk b6;replace hs1:=Aside0.mk hs1;replace hg6:=Aside0.mk hg6;clear hb hw1
 go_wp2_with fail
 go_at_call 70;refine (spec_boEmpty.calls r c r c _ w1 (empty_f hr.out)).mono ?_;rintro e w2 ⟨v2,rfl,hR,hb⟩
 obtain ⟨go,cp,rfl,hgo,hgl,_⟩:=Kd.R_form hR (by have:=hr.out;rw [List.length_replicate];omega)
 have hrl:(List.replicate r.toNat (0:Int)).length=r.toNat:=List.length_replicate
 generalize List.replicate r.toNat (0:Int)=l at hR hrl ⊢
 obtain ⟨n,hn⟩:∃ n:Nat,n=l.length:=⟨_,rfl⟩
 rw [← hn] at hR ⊢
 have HN:=Aside0.mk (show 1≤n∧n≤6 by have:=hr.out;omega)
 replace HD:=Aside0.mk (HD.out.up hb);replace b6:=Aside0.mk (blk_below b6.out hb);replace HK:=Aside0.mk (keepB HK.out hb)
 have HX:=Aside0.mk (show g6 < go∧go < w2.heap.size∧l.length=n by have:=hs1.out;omega)
 have RL:=Aside0.mk (Kd.R_lower (Kd.R_mono (ok':=fun k=>g6 < k∧k < w2.heap.size) (Kd.R_bound hR) (fun k hk=>by have:=hk.2.1;have:=hk.2.2.1;have:=hs1.out;omega)) (show W.heap.size≤w1.heap.size by have:=hs1.out;have:=hg6.out;omega))
 clear hR hb hrl hn hgo hgl
 go_upto_region 2 with fail
 obtain ⟨w3,hw3⟩:∃ X:World,X=w2.alloc (Obj.cells #[.int .i64 r,.int .i64 c,.slice (some ⟨go,0,none⟩) n cp] 26):=⟨_,rfl⟩
 obtain ⟨g7,hg7⟩:∃ n:Nat,n=w2.heap.size:=⟨_,rfl⟩
 have hb:Below w2.heap.size w2 w3:=by rw [hw3];exact alloc_up _ _
 have b7:w3.heap[g7]?=some (.cells #[.int .i64 r,.int .i64 c,.slice (some ⟨go,0,none⟩) n cp] 26 (0,0)):=by rw [hw3,hg7];exact boxed _ _ _
 rw [← hw3,← hg7];rw [← hg7] at RL HX
 have HQ:=Aside0.mk (show BQ W w3 g g6 g7 go n cp r c l from ⟨keepB HK.out hb,blk_below b6.out hb,b7,Kd.R_below RL.out hb,by have:=HG.out;have:=hg6.out;have:=HX.out;omega⟩)
 replace HD:=Aside0.mk (HD.out.up hb);clear hb b7 b6 RL HK HX hw3 hg7 hs1 hg6
 have y0:w3.cell? ⟨g7,0,none⟩=some (.int .i64 r):=(blk_cell HQ.out.b7 0).trans rfl;have y1:w3.cell? ⟨g7,1,none⟩=some (.int .i64 c):=(blk_cell HQ.out.b7 1).trans rfl;have y2:w3.cell? ⟨g7,2,none⟩=some (.slice (some ⟨go,0,none⟩) n cp):=(blk_cell HQ.out.b7 2).trans rfl
 go_wp2_with fail
 clear y0 y1 y2
 go_loopg [15] n (fun kq v15 w'=>∃ (x:Int) (l':List Int),v15=.int .i64 x∧Aside0 (∃ i:Nat,x=i∧i + kq=n∧Dr w w' g code (M + 6 * i))∧Aside0 (BQ W w' g g6 g7 go n cp r c l'))
 case atStart=>exact ⟨0,l,rfl,⟨0,rfl,by omega,HD.out⟩,HQ⟩
 case round =>
  clear HD HQ
  obtain ⟨x,l',rfl,HI,HQ⟩:=hrel
  by_cases c3:x < (n:Int)
  rotate_left
  ·
   have c3b0:decide (x < (n:Int))=false:=decide_eq_false c3
   have HD:=Aside0.mk (show Dr w wr g code (M + 36) from by obtain ⟨i,h1,h2,h3⟩:=HI.out;exact h3.le (by have:=HN.out;omega) hm.out)
   have n67:g6 ≠ g7:=(by have:=HQ.out.N;omega);have n76:g7 ≠ g6:=(by have:=HQ.out.N;omega)
   clear c3 HI;have z0:wr.cell? ⟨g6,0,none⟩=some (.int .i64 0):=(blk_cell HQ.out.b6 0).trans rfl;have f0:=blk_frozen HQ.out.b6 0;have z1:wr.cell? ⟨g6,1,none⟩=some (.int .i64 0):=(blk_cell HQ.out.b6 1).trans rfl;have f1:=blk_frozen HQ.out.b6 1;have z2:wr.cell? ⟨g6,2,none⟩=some (.slice none 0 0):=(blk_cell HQ.out.b6 2).trans rfl;have f2:=blk_frozen HQ.out.b6 2;have y0:wr.cell? ⟨g7,0,none⟩=some (.int .i64 r):=(blk_cell HQ.out.b7 0).trans rfl;have y1:wr.cell? ⟨g7,1,none⟩=some (.int .i64 c):=(blk_cell HQ.out.b7 1).trans rfl;have y2:wr.cell? ⟨g7,2,none⟩=some (.slice (some ⟨go,0,none⟩) n cp):=(blk_cell HQ.out.b7 2).trans rfl
   go_wp2
   refine bodyPost_ret (results_cell_row rfl _ _ g6 26 #[.int .i64 r,.int .i64 c,.slice (some ⟨go,0,none⟩) n cp] (0,0) _ rfl (put3 HQ.out.b6) hu26 rfl (by kernel_rfl)) rfl ?_
   have hn:=HQ.out.N;have hw:=HW.out
   have k6:=keep3 wr g6 (.int .i64 r) (.int .i64 c) (.slice (some ⟨go,0,none⟩) n cp)
   exact ⟨l',_,cp,by rw [hn.2.2.2.2],by have:=HN.out;omega,by rw [hn.2.2.2.2];exact Kd.R_mono (Kd.R_keep HQ.out.R k6 (fun k hk=>by omega)) (fun _ _=>trivial),HD.out.keep3 (by omega) (by omega) _ _ _,keepN HQ.out.K k6 (by omega)⟩
  have c3b0:decide (x < (n:Int))=true:=decide_eq_true c3
  cases gk with
 |zero=>exact absurd HI.out (by rintro ⟨i,h1,h2,h3⟩;omega)
 |succ k1 =>
   obtain ⟨i,hx,hi,hd⟩:=HI.out
   have HD:=Aside0.mk hd
   have p0:0≤x:=by omega
   have HI2:=Aside0.mk (And.intro hx hi)
   have HY:=Aside0.mk (show M + 6 * i + 6≤1000000 by have:=hm.out;have:=HN.out;omega)
   have HZ:=Aside0.mk (show wrap64 (x + 1)=((i + 1:Nat):Int) from by rw [w64 (by omega) (by have:=HN.out;omega)];omega)
   have p1:=eq_true p0;have q1:=eq_true c3;clear HI hd hx hi
   have cz:=eq_true (show 0≤c by have:=HC.out;omega);have czb:decide (0≤c)=true:=decide_eq_true (by have:=HC.out;omega)
   obtain ⟨ji,hji⟩:∃ j_:Int,(shl .i64 1 c)=j_:=⟨_,rfl⟩
   have hji_:(IntKind.i64.wrap (1 * 2 ^ min c.toNat 64))=ji:=hji;have hjiz:c≤64→(IntKind.i64.wrap (1 * 2 ^ c.toNat))=ji:=shl_small hji;have hjiu:(IntKind.i64.wrap (2 ^ min c.toNat 64))=ji:=by { have h_:=hji_;rw [Int.one_mul] at h_;exact h_ }
   have hjiv:c≤64→(IntKind.i64.wrap (2 ^ c.toNat))=ji:=fun hle_=>by { have h_:=hjiz hle_;rw [Int.one_mul] at h_;exact h_ }
   have hjiy:(wrap64 (1 * 2 ^ min c.toNat 64))=ji:=(i64_w _).symm.trans hji_;have hjix:c≤64→(wrap64 (1 * 2 ^ c.toNat))=ji:=fun h_=>(i64_w _).symm.trans (hjiz h_)
   go_upto_region 5 with fail
   have hb:Below wr.heap.size wr wr.drew:=below_drew1 (Below.refl _ _)
   refine start_ (n:=9) (S:=fun w'=>w'.cell? ⟨g7,0,none⟩=some (.int .i64 r)∧w'.cell? ⟨g7,1,none⟩=some (.int .i64 c)∧w'.cell? ⟨g7,2,none⟩=some (.slice (some ⟨go,0,none⟩) n cp)) (ds:=[8]) #[false,false,false,false,false,false,false,false,false] (by kernel_rfl) rfl rfl ⟨(blk_cell HQ.out.b7 0).trans rfl,(blk_cell HQ.out.b7 1).trans rfl,(blk_cell HQ.out.b7 2).trans rfl⟩ (fun hHeld=>?_);refine with_tabW spec_l1Cur_boardOf.tab5 spec_l1Cur_boardOf.bits5 (fun HT_ HW_=>?_)
   replace HD:=Aside0.mk (HD.out.up hb);replace HQ:=Aside0.mk (HQ.out.up hb);clear hb
   generalize wr.drew=wd at HD HQ hHeld ⊢
   refine pure_ (i:=0) (N:=some 18) (v:=?_) (a':=?_) #[true,false,false,false,false,false,false,false,false] rfl rfl (any_of HT_.out (by kernel_rfl)) (fun _ _ _ h=>h) (Or.inl ⟨by rfl,?_⟩) ?_ ?_
   rotate_left
   ·
    intro w'
    go_simp
    with_reducible rfl
   rotate_left
   ·
    simp only [Act.put,List.setIfInBounds_toArray,List.set_cons_zero,List.set_cons_succ,i64_w,i32_w]
    rfl
   refine pure_ (i:=2) (N:=some 20) (v:=?_) (a':=?_) #[true,false,true,false,false,false,false,false,false] rfl rfl (any_of HT_.out (by kernel_rfl)) (fun _ _ _ h=>h) (Or.inl ⟨by rfl,?_⟩) ?_ ?_
   rotate_left
   ·
    intro w'
    go_simp
    with_reducible rfl
   rotate_left
   ·
    simp only [Act.put,List.setIfInBounds_toArray,List.set_cons_zero,List.set_cons_succ,i64_w,i32_w]
    rfl
   refine pure_ (i:=3) (N:=some 21) (v:=?_) (a':=?_) #[true,false,true,true,false,false,false,false,false] rfl rfl (any_of HT_.out (by kernel_rfl)) (fun _ _ _ h=>h) (Or.inl ⟨by rfl,?_⟩) ?_ ?_
   rotate_left
   ·
    intro w'
    go_simp
    with_reducible rfl
   rotate_left
   ·
    simp only [Act.put,List.setIfInBounds_toArray,List.set_cons_zero,List.set_cons_succ,i64_w,i32_w]
    rfl
   refine pure_ (i:=4) (N:=some 22) (v:=?_) (a':=?_) #[true,false,true,true,true,false,false,false,false] rfl rfl (any_of HT_.out (by kernel_rfl)) (fun _ _ _ h=>h) (Or.inl ⟨by rfl,?_⟩) ?_ ?_
   rotate_left
   ·
    intro w'
    go_simp
    with_reducible rfl
   rotate_left
   ·
    simp only [Act.put,List.setIfInBounds_toArray,List.set_cons_zero,List.set_cons_succ,i64_w,i32_w]
    rfl
   refine pure_ (i:=5) (N:=some 23) (v:=?_) (a':=?_) #[true,false,true,true,true,true,false,false,false] rfl rfl (any_of HT_.out (by kernel_rfl)) (fun _ _ _ h=>h) (Or.inl ⟨by rfl,?_⟩) ?_ ?_
   rotate_left
   ·
    intro w'
    go_simp
    with_reducible rfl
   rotate_left
   ·
    simp only [Act.put,List.setIfInBounds_toArray,List.set_cons_zero,List.set_cons_succ,i64_w,i32_w]
    rfl
   refine take_ (i:=1) (N:=some 19) (v:=?_) (a':=?_) #[true,true,true,true,true,true,false,false,false] rfl rfl (take_ofW HT_.out HW_.out (by kernel_rfl)) (fun _ _ _ h=>h) (Or.inl ⟨by rfl,?_⟩) hHeld ?_ ?_
   rotate_left
   ·
    rintro w' ⟨s0,s1,s2⟩
    go_simp
    with_reducible rfl
   rotate_left
   ·
    simp only [Act.put,List.setIfInBounds_toArray,List.set_cons_zero,List.set_cons_succ,i64_w,i32_w]
    rfl
   refine one_ (i:=6) (N:=some 24) #[true,true,true,true,true,true,true,false,false] rfl rfl (one_of HT_.out (by kernel_rfl)) (by decide) (fun K hK=>?_)
   refine goes_ Tryz.func43 (by kernel_rfl) rfl #[.pointer (some ⟨g,0,none⟩),.int .i64 ji] (by rfl) rfl rfl (by (try simp only [List.map_toArray,List.map_cons,List.map_nil]);first|done|(simp only [hji];rfl)|rfl) ?_
   refine (pick_c hc.out HD.out (by have:=HY.out;omega) ji).mono ?_;rintro e wa ⟨v,rfl,hv,hd,hk⟩
   refine ⟨_,rfl,?_⟩;replace HD:=Aside0.mk hd;replace HQ:=Aside0.mk (HQ.out.keep hk);clear hd hk hv
   refine hK.out _ _ ⟨(blk_cell HQ.out.b7 0).trans rfl,(blk_cell HQ.out.b7 1).trans rfl,(blk_cell HQ.out.b7 2).trans rfl⟩ (fun hHeld=>?_)
   clear hK K
   refine norm_ (a':=?_) ?_ ?_
   rotate_left
   ·
    show Act.put _ (some 24) _=_
    simp only [Act.put,List.setIfInBounds_toArray,List.set_cons_zero,List.set_cons_succ,i64_w,i32_w]
    rfl
   refine pure_ (i:=7) (N:=some 25) (v:=?_) (a':=?_) #[true,true,true,true,true,true,true,true,false] rfl rfl (any_of HT_.out (by kernel_rfl)) (fun _ _ _ h=>h) (Or.inl ⟨by rfl,?_⟩) ?_ ?_
   rotate_left
   ·
    intro w'
    go_simp
    with_reducible rfl
   rotate_left
   ·
    simp only [Act.put,List.setIfInBounds_toArray,List.set_cons_zero,List.set_cons_succ,i64_w,i32_w]
    rfl
   refine last_ (i:=8) (N:=none) #[true,true,true,true,true,true,true,true,true] rfl rfl (one_of HT_.out (by kernel_rfl)) (by decide) (fun K hK=>?_)
   obtain ⟨hs8,hf8⟩:=Kd.R_celln 0 HQ.out.R x p0 (by have:=HQ.out.N;omega)
   refine skip_ (w1:=?_) (by rfl) rfl ?_ ?_
   rotate_left
   ·
    go_simp;rfl
   refine hK.out _ _ ?_;clear hK K hs8 hf8
   refine done_ (done_of HT_.out (by kernel_rfl)) ?_
   clear hji_ hjiz hjiu hjiv hjiy hjix hji
   have hgn:g ≠ go∧w.heap.size≤go:=by have:=HQ.out.N;have:=HW.out;omega
   replace HQ:=Aside0.mk (HQ.out.put x v);replace HD:=Aside0.mk (HD.out.set hgn.1 hgn.2 x.toNat (.int .i64 v));clear hgn hHeld
   generalize wa.setCell ⟨go,x.toNat,none⟩ (.int .i64 v)=wb at HD HQ ⊢;generalize l'.set x.toNat v=l2 at HQ
   go_wp2_with fail
   go_at_call 68;refine (one_c hc.out HD.out (by have:=HY.out;omega) 3).mono ?_;rintro e wp ⟨b,rfl,hd,hk⟩
   replace HD:=Aside0.mk hd;replace HQ:=Aside0.mk (HQ.out.keep hk);clear hd hk
   cases b with
  |false =>
    clear c3 p0;go_wp2
    go_roundg k1
    case measure=>omega
    case rel=>exact ⟨wrap64 (x + 1),l2,(by first|rfl|(simp;done)|(simp [*];done)),⟨i + 1,HZ.out,by have:=HI2.out;omega,HD.out.le (by omega) (by have:=HY.out;omega)⟩,HQ⟩
  |true =>
    go_upto_region 7 with fail
    have hb:Below wp.heap.size wp wp.drew:=below_drew1 (Below.refl _ _)
    refine start_ (n:=11) (S:=fun w'=>w'.cell? ⟨g7,0,none⟩=some (.int .i64 r)∧w'.cell? ⟨g7,1,none⟩=some (.int .i64 c)∧w'.cell? ⟨g7,2,none⟩=some (.slice (some ⟨go,0,none⟩) n cp)) (ds:=[10]) #[false,false,false,false,false,false,false,false,false,false,false] (by kernel_rfl) rfl rfl ⟨(blk_cell HQ.out.b7 0).trans rfl,(blk_cell HQ.out.b7 1).trans rfl,(blk_cell HQ.out.b7 2).trans rfl⟩ (fun hHeld=>?_);refine with_tabW spec_l1Cur_boardOf.tab7 spec_l1Cur_boardOf.bits7 (fun HT_ HW_=>?_)
    replace HD:=Aside0.mk (HD.out.up hb);replace HQ:=Aside0.mk (HQ.out.up hb);clear hb
    generalize wp.drew=we at HD HQ hHeld ⊢
    refine pure_ (i:=0) (N:=some 28) (v:=?_) (a':=?_) #[true,false,false,false,false,false,false,false,false,false,false] rfl rfl (any_of HT_.out (by kernel_rfl)) (fun _ _ _ h=>h) (Or.inl ⟨by rfl,?_⟩) ?_ ?_
    rotate_left
    ·
     intro w'
     go_simp
     with_reducible rfl
    rotate_left
    ·
     simp only [Act.put,List.setIfInBounds_toArray,List.set_cons_zero,List.set_cons_succ,i64_w,i32_w]
     rfl
    refine pure_ (i:=2) (N:=some 30) (v:=?_) (a':=?_) #[true,false,true,false,false,false,false,false,false,false,false] rfl rfl (any_of HT_.out (by kernel_rfl)) (fun _ _ _ h=>h) (Or.inl ⟨by rfl,?_⟩) ?_ ?_
    rotate_left
    ·
     intro w'
     go_simp
     with_reducible rfl
    rotate_left
    ·
     simp only [Act.put,List.setIfInBounds_toArray,List.set_cons_zero,List.set_cons_succ,i64_w,i32_w]
     rfl
    refine pure_ (i:=3) (N:=some 31) (v:=?_) (a':=?_) #[true,false,true,true,false,false,false,false,false,false,false] rfl rfl (any_of HT_.out (by kernel_rfl)) (fun _ _ _ h=>h) (Or.inl ⟨by rfl,?_⟩) ?_ ?_
    rotate_left
    ·
     intro w'
     go_simp
     with_reducible rfl
    rotate_left
    ·
     simp only [Act.put,List.setIfInBounds_toArray,List.set_cons_zero,List.set_cons_succ,i64_w,i32_w]
     rfl
    refine pure_ (i:=4) (N:=some 32) (v:=?_) (a':=?_) #[true,false,true,true,true,false,false,false,false,false,false] rfl rfl (any_of HT_.out (by kernel_rfl)) (fun _ _ _ h=>h) (Or.inl ⟨by rfl,?_⟩) ?_ ?_
    rotate_left
    ·
     intro w'
     go_simp
     with_reducible rfl
    rotate_left
    ·
     simp only [Act.put,List.setIfInBounds_toArray,List.set_cons_zero,List.set_cons_succ,i64_w,i32_w]
     rfl
    refine pure_ (i:=5) (N:=some 33) (v:=?_) (a':=?_) #[true,false,true,true,true,true,false,false,false,false,false] rfl rfl (any_of HT_.out (by kernel_rfl)) (fun _ _ _ h=>h) (Or.inl ⟨by rfl,?_⟩) ?_ ?_
    rotate_left
    ·
     intro w'
     go_simp
     with_reducible rfl
    rotate_left
    ·
     simp only [Act.put,List.setIfInBounds_toArray,List.set_cons_zero,List.set_cons_succ,i64_w,i32_w]
     rfl
    refine take_ (i:=1) (N:=some 29) (v:=?_) (a':=?_) #[true,true,true,true,true,true,false,false,false,false,false] rfl rfl (take_ofW HT_.out HW_.out (by kernel_rfl)) (fun _ _ _ h=>h) (Or.inl ⟨by rfl,?_⟩) hHeld ?_ ?_
    rotate_left
    ·
     rintro w' ⟨s0,s1,s2⟩
     go_simp
     with_reducible rfl
    rotate_left
    ·
     simp only [Act.put,List.setIfInBounds_toArray,List.set_cons_zero,List.set_cons_succ,i64_w,i32_w]
     rfl
    refine one_ (i:=6) (N:=some 34) #[true,true,true,true,true,true,true,false,false,false,false] rfl rfl (one_of HT_.out (by kernel_rfl)) (by decide) (fun K hK=>?_)
    refine goes_ Tryz.func43 (by kernel_rfl) rfl #[.pointer (some ⟨g,0,none⟩),.int .i64 (wrap64 (c + 1))] (by rfl) rfl rfl (by (try simp only [List.map_toArray,List.map_cons,List.map_nil]);first|done|rfl) ?_
    refine (pick_c hc.out HD.out (by have:=HY.out;omega) (wrap64 (c + 1))).mono ?_;rintro e wf ⟨u,rfl,hu,hd,hk⟩
    refine ⟨_,rfl,?_⟩
    replace HD:=Aside0.mk hd;replace HQ:=Aside0.mk (HQ.out.keep hk);have hu0:=hu.1;clear hd hk hu
    refine hK.out _ _ ⟨(blk_cell HQ.out.b7 0).trans rfl,(blk_cell HQ.out.b7 1).trans rfl,(blk_cell HQ.out.b7 2).trans rfl⟩ (fun hHeld=>?_)
    clear hK K
    refine norm_ (a':=?_) ?_ ?_
    rotate_left
    ·
     show Act.put _ (some 34) _=_
     simp only [Act.put,List.setIfInBounds_toArray,List.set_cons_zero,List.set_cons_succ,i64_w,i32_w]
     rfl
    have uz:=eq_true hu0;have uzb:decide (0≤u)=true:=decide_eq_true hu0;clear hu0
    obtain ⟨jk,hjk⟩:∃ j_:Int,(shl .i64 1 u)=j_:=⟨_,rfl⟩
    have hjk_:(IntKind.i64.wrap (1 * 2 ^ min u.toNat 64))=jk:=hjk;have hjkz:u≤64→(IntKind.i64.wrap (1 * 2 ^ u.toNat))=jk:=shl_small hjk;have hjku:(IntKind.i64.wrap (2 ^ min u.toNat 64))=jk:=by { have h_:=hjk_;rw [Int.one_mul] at h_;exact h_ }
    have hjkv:u≤64→(IntKind.i64.wrap (2 ^ u.toNat))=jk:=fun hle_=>by { have h_:=hjkz hle_;rw [Int.one_mul] at h_;exact h_ }
    have hjky:(wrap64 (1 * 2 ^ min u.toNat 64))=jk:=(i64_w _).symm.trans hjk_;have hjkx:u≤64→(wrap64 (1 * 2 ^ u.toNat))=jk:=fun h_=>(i64_w _).symm.trans (hjkz h_)
    refine pure_ (i:=7) (N:=some 35) (v:=?_) (a':=?_) #[true,true,true,true,true,true,true,true,false,false,false] rfl rfl (any_of HT_.out (by kernel_rfl)) (fun _ _ _ h=>h) (Or.inl ⟨by rfl,?_⟩) ?_ ?_
    rotate_left
    ·
     intro w'
     go_simp
     with_reducible rfl
    rotate_left
    ·
     simp only [Act.put,List.setIfInBounds_toArray,List.set_cons_zero,List.set_cons_succ,i64_w,i32_w]
     rfl
    refine pure_ (i:=8) (N:=some 36) (v:=?_) (a':=?_) #[true,true,true,true,true,true,true,true,true,false,false] rfl rfl (any_of HT_.out (by kernel_rfl)) (fun _ _ _ h=>h) (Or.inl ⟨by rfl,?_⟩) ?_ ?_
    rotate_left
    ·
     intro w'
     go_simp
     with_reducible rfl
    rotate_left
    ·
     simp only [Act.put,List.setIfInBounds_toArray,List.set_cons_zero,List.set_cons_succ,i64_w,i32_w]
     rfl
    refine pure_ (i:=9) (N:=some 37) (v:=?_) (a':=?_) #[true,true,true,true,true,true,true,true,true,true,false] rfl rfl (any_of HT_.out (by kernel_rfl)) (fun _ _ _ h=>h) (Or.inl ⟨by rfl,?_⟩) ?_ ?_
    rotate_left
    ·
     intro w'
     go_simp
     with_reducible rfl
    rotate_left
    ·
     simp only [Act.put,List.setIfInBounds_toArray,List.set_cons_zero,List.set_cons_succ,i64_w,i32_w]
     rfl
    refine last_ (i:=10) (N:=none) #[true,true,true,true,true,true,true,true,true,true,true] rfl rfl (one_of HT_.out (by kernel_rfl)) (by decide) (fun K hK=>?_)
    obtain ⟨hs8,hf8⟩:=Kd.R_celln 0 HQ.out.R x p0 (by have:=HQ.out.N;omega)
    refine skip_ (w1:=?_) (by rfl) rfl ?_ ?_
    rotate_left
    ·
     go_simp;rfl
    refine hK.out _ _ ?_;clear hK K hs8 hf8
    refine done_ (done_of HT_.out (by kernel_rfl)) ?_
    have hgn:g ≠ go∧w.heap.size≤go:=by have:=HQ.out.N;have:=HW.out;omega
    replace HQ:=Aside0.mk (HQ.out.put x (wrap64 (jk - 1)));replace HD:=Aside0.mk (HD.out.set hgn.1 hgn.2 x.toNat (.int .i64 (wrap64 (jk - 1))));clear hgn hHeld
    generalize wf.setCell ⟨go,x.toNat,none⟩ (.int .i64 (wrap64 (jk - 1)))=wg at HD HQ ⊢;generalize l2.set x.toNat (wrap64 (jk - 1))=l3 at HQ
    clear hjk_ hjkz hjku hjkv hjky hjkx hjk c3 p0 uz uzb;go_wp2
    go_roundg k1
    case measure=>omega
    case rel=>exact ⟨wrap64 (x + 1),l3,(by first|rfl|(simp;done)|(simp [*];done)),⟨i + 1,HZ.out,by have:=HI2.out;omega,HD.out.le (by omega) (by have:=HY.out;omega)⟩,HQ⟩
structure FQ (W0 W:World) (g g6 g7:Nat) (r c:Int) (l:List Int) (A:Option Addr) (cp:Nat):Prop where
 K:KeepBut W0 W g none
 b6:W.heap[g6]?=some (.cells #[.int .i64 0,.int .i64 0,.slice none 0 0] 26 (0,0))
 b7:W.heap[g7]?=some (.cells #[.int .i64 r,.int .i64 c,.slice A l.length cp] 26 (0,0))
 R:Kd.R (Kd.int .i64) 3 W W0.heap.size (fun k=>g6 < k∧k ≠ g7) (.slice A l.length cp) l
 N:g < W0.heap.size∧W0.heap.size≤g6∧g6 < g7∧l.length≤7
theorem BQ.fq {W0 W:World} {g g6 g7 go n cp:Nat} {r c:Int} {l:List Int} (h:BQ W0 W g g6 g7 go n cp r c l) (hn:n≤7):FQ W0 W g g6 g7 r c l (some ⟨go,0,none⟩) cp:=by
 have hN:=h.N
 obtain rfl:n=l.length:=hN.2.2.2.2.symm
 exact ⟨h.K,h.b6,h.b7,Kd.R_mono h.R (fun k hk=>by omega),hN.1,hN.2.1,by omega,hn⟩
section
variable {W0 W : World} {g g6 g7 : Nat} {r c : Int} {l : List Int} {A : Option Addr} {cp : Nat} (h : FQ W0 W g g6 g7 r c l A cp)
include h
theorem FQ.set0 (x:Int):FQ W0 (W.setCell ⟨g7,0,none⟩ (.int .i64 x)) g g6 g7 x c l A cp:=by
 have hN:=h.N
 have k:=keep1 W g7 0 (.int .i64 x)
 exact ⟨keepN h.K k (by omega),KeepBut.blk k h.b6 (by omega) (by simp),blk_put h.b7 0 _ rfl,Kd.R_keep h.R k (fun _ hk=>hk.2),hN⟩
theorem FQ.set1 (x:Int):FQ W0 (W.setCell ⟨g7,1,none⟩ (.int .i64 x)) g g6 g7 r x l A cp:=by
 have hN:=h.N
 have k:=keep1 W g7 1 (.int .i64 x)
 exact ⟨keepN h.K k (by omega),KeepBut.blk k h.b6 (by omega) (by simp),blk_put h.b7 1 _ rfl,Kd.R_keep h.R k (fun _ hk=>hk.2),hN⟩
end
set_option maxHeartbeats 8000000 in
set_option maxRecDepth 100000 in
theorem board_c {code:List Int} (hc:Bytes code) {w W:World} {g M:Nat} (h:Dr w W g code M) (hm:M + 60≤1000000):Calls Tryz.prog 69 #[.pointer (some ⟨g,0,none⟩)] W fun e w'=>∃ (r c:Int) (l:List Int) (A:Option Addr) (cp:Nat),e=.returned (.agg #[.int .i64 r,.int .i64 c,.slice A l.length cp])∧l.length≤7∧Kd.R (Kd.int .i64) 3 w' W.heap.size (fun _=>True) (.slice A l.length cp) l∧Dr w w' g code (M + 60)∧KeepBut W w' g none:=by
 have hu26:=Tryz.underlying26
 replace hc:=Aside0.mk hc
 have HD:=Aside0.mk h
 replace hm:=Aside0.mk hm
 have HG:=Aside0.mk h.lt;have HW:=Aside0.mk h.B.size
 clear h
 go_enter Tryz.func69,Tryz.ntmps69
 go_upto_region 1 with fail
 obtain ⟨w1,hw1⟩:∃ X:World,X=W.alloc (Obj.cells #[.int .i64 0,.int .i64 0,.slice none 0 0] 26):=⟨_,rfl⟩
 obtain ⟨g6,hg6⟩:∃ n:Nat,n=W.heap.size:=⟨_,rfl⟩
 have hb:Below W.heap.size W w1:=by rw [hw1];exact alloc_up _ _
 have b6:w1.heap[g6]?=some (.cells #[.int .i64 0,.int .i64 0,.slice none 0 0] 26 (0,0)):=by rw [hw1,hg6];exact boxed _ _ _
 rw [← hw1,← hg6]
 have HK:=Aside0.mk (KeepBut.of_below hb g none);replace HD:=Aside0.mk (HD.out.up hb);replace b6:=Aside0.mk b6;replace hg6:=Aside0.mk hg6;clear hb hw1
 have h61:=Aside0.mk (blk_lt b6.out)
 go_wp2_with fail
 go_at_call 88;refine (sides_c hc.out HD.out (by have:=hm.out;omega)).mono ?_;rintro e w2 ⟨r,rfl,hr,hd,hk⟩
 replace hr:=Aside0.mk hr;have h62:=Aside0.mk (blk_lt (KeepBut.blk hk b6.out (by have:=hg6.out;have:=HG.out;omega) (by simp)));replace HD:=Aside0.mk hd;replace b6:=Aside0.mk (KeepBut.blk hk b6.out (by have:=hg6.out;have:=HG.out;omega) (by simp));replace HK:=Aside0.mk (HK.out.trans hk (.inl rfl));clear hd hk
 go_wp2_with fail
 go_at_call 88;refine (sides_c hc.out HD.out (by have:=hm.out;omega)).mono ?_;rintro e w3 ⟨c,rfl,hcol,hd,hk⟩
 replace hcol:=Aside0.mk hcol;have h63:=Aside0.mk (blk_lt (KeepBut.blk hk b6.out (by have:=hg6.out;have:=HG.out;omega) (by simp)));replace HD:=Aside0.mk hd;replace b6:=Aside0.mk (KeepBut.blk hk b6.out (by have:=hg6.out;have:=HG.out;omega) (by simp));replace HK:=Aside0.mk (HK.out.trans hk (.inl rfl));clear hd hk
 go_wp2_with fail
 go_at_call 87;refine (boardOf_c hc.out HD.out (by have:=hm.out;omega) hr.out hcol.out).mono ?_;rintro e w4 ⟨l,A,cp,rfl,hl,hR,hd,hk⟩
 replace HD:=Aside0.mk hd;replace b6:=Aside0.mk (KeepBut.blk hk b6.out (by have:=hg6.out;have:=HG.out;omega) (by simp));replace HK:=Aside0.mk (HK.out.trans hk (.inl rfl));clear hd hk
 obtain ⟨go,cq,ego,hgo,hgl,_⟩:=Kd.R_form hR (by omega);cases ego
 obtain ⟨n,hn⟩:∃ n:Nat,n=l.length:=⟨_,rfl⟩
 rw [← hn] at hR ⊢
 have HN:=Aside0.mk (show 1≤n∧n≤6 by omega)
 have HX:=Aside0.mk (show g6 < go∧go < w4.heap.size∧l.length=n by have:=h63.out;omega)
 have RL:=Aside0.mk (Kd.R_lower (Kd.R_mono (ok':=fun k=>g6 < k∧k < w4.heap.size) (Kd.R_bound hR) (fun k hk=>by have:=hk.2.1;have:=hk.2.2.1;have:=h63.out;omega)) (show W.heap.size≤w3.heap.size by have:=h63.out;have:=hg6.out;omega))
 clear hR hn hgo hgl hl hr hcol h61 h62 h63
 go_upto_region 2 with fail
 obtain ⟨wq,hwq⟩:∃ X:World,X=w4.alloc (Obj.cells #[.int .i64 r,.int .i64 c,.slice (some ⟨go,0,none⟩) n cp] 26):=⟨_,rfl⟩
 obtain ⟨g7,hg7⟩:∃ n:Nat,n=w4.heap.size:=⟨_,rfl⟩
 have hb:Below w4.heap.size w4 wq:=by rw [hwq];exact alloc_up _ _
 have b7:wq.heap[g7]?=some (.cells #[.int .i64 r,.int .i64 c,.slice (some ⟨go,0,none⟩) n cp] 26 (0,0)):=by rw [hwq,hg7];exact boxed _ _ _
 rw [← hwq,← hg7];rw [← hg7] at RL HX
 have HQ:=Aside0.mk (show BQ W wq g g6 g7 go n cp r c l from ⟨keepB HK.out hb,blk_below b6.out hb,b7,Kd.R_below RL.out hb,by have:=HG.out;have:=hg6.out;have:=HX.out;omega⟩)
 replace HD:=Aside0.mk (HD.out.up hb);clear hb b7 b6 RL HK HX hwq hg7 hg6
 go_wp2_with fail
 go_at_call 43;refine (pick_c hc.out HD.out (by have:=hm.out;omega) _).mono ?_;rintro e wp ⟨u,rfl,hu,hd,hk⟩
 replace HD:=Aside0.mk hd;replace HQ:=Aside0.mk (HQ.out.keep hk);clear hd hk hu
 go_upto_block 0 with fail
 obtain ⟨P,HP⟩:∃ P:World→Prop,P=(fun X=>∃ (r' c':Int) (l':List Int) (A':Option Addr) (cp':Nat),FQ W X g g6 g7 r' c' l' A' cp'∧Dr w X g code (M + 60)):=⟨_,rfl⟩
 have HF:=Aside0.mk (HQ.out.fq (by have:=HN.out;omega))
 have hgn:=Aside0.mk (show g ≠ g7∧w.heap.size≤g7 by have:=HQ.out.N;have:=HW.out;omega)
 go_cut [] (fun wz=>Aside0 (P wz))
 case first =>
  have MEET:Aside0 (P wp):=⟨by rw [HP];exact ⟨_,_,_,_,_,HF.out,HD.out.le (by omega) hm.out⟩⟩
  by_cases u0:u=0
  ·
   have u0b:(u == 0)=true:=beq_iff_eq.mpr u0
   clear u0 MEET
   have y0:wp.cell? ⟨g7,0,none⟩=some (.int .i64 r):=(blk_cell HQ.out.b7 0).trans rfl;have f0:=blk_frozen HQ.out.b7 0;have y1:wp.cell? ⟨g7,1,none⟩=some (.int .i64 c):=(blk_cell HQ.out.b7 1).trans rfl;have f1:=blk_frozen HQ.out.b7 1;have y2:wp.cell? ⟨g7,2,none⟩=some (.slice (some ⟨go,0,none⟩) n cp):=(blk_cell HQ.out.b7 2).trans rfl;have f2:=blk_frozen HQ.out.b7 2
   go_wp2_with ((with_reducible refine gate_dst (N:=18) rfl ?_);refine Kd.R_lit (Kd.int .i64) _ 3 ?hg (N:=18) ?hd (xs:=([(-1),0,(wrap64 (r + 1)),7]:List Int)) (inner:=[.int .i64 (-1),.int .i64 0,.int .i64 (wrap64 (r + 1)),.int .i64 7]) (ok:=fun _=>True) (okp:=fun _=>True) ?hr ?hp (fun _ hk=>hk) trivial (Below.refl _ _) (Nat.le_refl _) (by simp) ?_;(case hd=>rfl);(case hg=>rfl);(case hr=>first|(go_simp;done)|(go_simp;rfl));(case hp=>exact (Reps.one (show Kd.M (Kd.int .i64) _ _ _ (-1) [.int .i64 (-1)] from rfl) (Reps.one (show Kd.M (Kd.int .i64) _ _ _ (0) [.int .i64 (0)] from rfl) (Reps.one (show Kd.M (Kd.int .i64) _ _ _ (wrap64 (r + 1)) [.int .i64 (wrap64 (r + 1))] from rfl) (Reps.one (show Kd.M (Kd.int .i64) _ _ _ (7) [.int .i64 (7)] from rfl) (Reps.none _ _))))));intro vl wl ho hb hg_ hnew_;clear hg_ hnew_;replace HD:=Aside0.mk (HD.out.up hb);replace HQ:=Aside0.mk (HQ.out.up hb);replace HF:=Aside0.mk (HQ.out.fq (by have:=HN.out;omega));have HL:=Aside0.mk ho;obtain ⟨Bl,dl,el⟩:=Kd.R_slice HL.out;subst el;clear ho hb)
   go_at_call 46;refine (among_c hc.out HD.out (by have:=hm.out;omega) (by simp) (Kd.R_reads' HL.out).2.2 (Kd.R_reads' HL.out).2.1 (far_slice (by obtain ⟨a_,s_,hI_,_⟩:=HD.out.I;exact IsS68.own_ne hI_ HL.out (by decide)))).mono ?_;rintro e wa ⟨v,rfl,hd,hk⟩
   replace HD:=Aside0.mk hd;replace HQ:=Aside0.mk (HQ.out.keep hk);replace HF:=Aside0.mk (HQ.out.fq (by have:=HN.out;omega));clear hd hk HL;clear y0 f0 y1 f1 y2 f2;have y0:wa.cell? ⟨g7,0,none⟩=some (.int .i64 r):=(blk_cell HQ.out.b7 0).trans rfl;have f0:=blk_frozen HQ.out.b7 0;have y1:wa.cell? ⟨g7,1,none⟩=some (.int .i64 c):=(blk_cell HQ.out.b7 1).trans rfl;have f1:=blk_frozen HQ.out.b7 1;have y2:wa.cell? ⟨g7,2,none⟩=some (.slice (some ⟨go,0,none⟩) n cp):=(blk_cell HQ.out.b7 2).trans rfl;have f2:=blk_frozen HQ.out.b7 2
   go_wp2;go_meet
   case rel=>exact ⟨by rw [HP];exact ⟨_,_,_,_,_,HF.out.set0 v,(HD.out.set hgn.out.1 hgn.out.2 0 _).le (by omega) hm.out⟩⟩
  have u0b:(u == 0)=false:=beq_eq_false_iff_ne.mpr u0
  by_cases u1:u=1
  ·
   have u1b:(u == 1)=true:=beq_iff_eq.mpr u1
   clear u0 u1 MEET
   have y0:wp.cell? ⟨g7,0,none⟩=some (.int .i64 r):=(blk_cell HQ.out.b7 0).trans rfl;have f0:=blk_frozen HQ.out.b7 0;have y1:wp.cell? ⟨g7,1,none⟩=some (.int .i64 c):=(blk_cell HQ.out.b7 1).trans rfl;have f1:=blk_frozen HQ.out.b7 1;have y2:wp.cell? ⟨g7,2,none⟩=some (.slice (some ⟨go,0,none⟩) n cp):=(blk_cell HQ.out.b7 2).trans rfl;have f2:=blk_frozen HQ.out.b7 2
   go_wp2_with ((with_reducible refine gate_dst (N:=24) rfl ?_);refine Kd.R_lit (Kd.int .i64) _ 3 ?hg (N:=24) ?hd (xs:=([(-1),0,7,4611686018427387904]:List Int)) (inner:=[.int .i64 (-1),.int .i64 0,.int .i64 7,.int .i64 4611686018427387904]) (ok:=fun _=>True) (okp:=fun _=>True) ?hr ?hp (fun _ hk=>hk) trivial (Below.refl _ _) (Nat.le_refl _) (by simp) ?_;(case hd=>rfl);(case hg=>rfl);(case hr=>first|(go_simp;done)|(go_simp;rfl));(case hp=>exact (Reps.one (show Kd.M (Kd.int .i64) _ _ _ (-1) [.int .i64 (-1)] from rfl) (Reps.one (show Kd.M (Kd.int .i64) _ _ _ (0) [.int .i64 (0)] from rfl) (Reps.one (show Kd.M (Kd.int .i64) _ _ _ (7) [.int .i64 (7)] from rfl) (Reps.one (show Kd.M (Kd.int .i64) _ _ _ (4611686018427387904) [.int .i64 (4611686018427387904)] from rfl) (Reps.none _ _))))));intro vl wl ho hb hg_ hnew_;clear hg_ hnew_;replace HD:=Aside0.mk (HD.out.up hb);replace HQ:=Aside0.mk (HQ.out.up hb);replace HF:=Aside0.mk (HQ.out.fq (by have:=HN.out;omega));have HL:=Aside0.mk ho;obtain ⟨Bl,dl,el⟩:=Kd.R_slice HL.out;subst el;clear ho hb)
   go_at_call 46;refine (among_c hc.out HD.out (by have:=hm.out;omega) (by simp) (Kd.R_reads' HL.out).2.2 (Kd.R_reads' HL.out).2.1 (far_slice (by obtain ⟨a_,s_,hI_,_⟩:=HD.out.I;exact IsS68.own_ne hI_ HL.out (by decide)))).mono ?_;rintro e wa ⟨v,rfl,hd,hk⟩
   replace HD:=Aside0.mk hd;replace HQ:=Aside0.mk (HQ.out.keep hk);replace HF:=Aside0.mk (HQ.out.fq (by have:=HN.out;omega));clear hd hk HL;clear y0 f0 y1 f1 y2 f2;have y0:wa.cell? ⟨g7,0,none⟩=some (.int .i64 r):=(blk_cell HQ.out.b7 0).trans rfl;have f0:=blk_frozen HQ.out.b7 0;have y1:wa.cell? ⟨g7,1,none⟩=some (.int .i64 c):=(blk_cell HQ.out.b7 1).trans rfl;have f1:=blk_frozen HQ.out.b7 1;have y2:wa.cell? ⟨g7,2,none⟩=some (.slice (some ⟨go,0,none⟩) n cp):=(blk_cell HQ.out.b7 2).trans rfl;have f2:=blk_frozen HQ.out.b7 2
   go_wp2;go_meet
   case rel=>exact ⟨by rw [HP];exact ⟨_,_,_,_,_,HF.out.set1 v,(HD.out.set hgn.out.1 hgn.out.2 1 _).le (by omega) hm.out⟩⟩
  have u1b:(u == 1)=false:=beq_eq_false_iff_ne.mpr u1
  by_cases u2:u=2
  ·
   have u2b:(u == 2)=true:=beq_iff_eq.mpr u2
   clear u0 u1 u2 MEET
   go_upto_region 8 with fail
   have hb:Below wp.heap.size wp wp.drew:=below_drew1 (Below.refl _ _)
   refine start_ (n:=12) (S:=fun w'=>w'.cell? ⟨g7,0,none⟩=some (.int .i64 r)∧w'.cell? ⟨g7,1,none⟩=some (.int .i64 c)∧w'.cell? ⟨g7,2,none⟩=some (.slice (some ⟨go,0,none⟩) n cp)) (ds:=[11]) #[false,false,false,false,false,false,false,false,false,false,false,false] (by kernel_rfl) rfl rfl ⟨(blk_cell HQ.out.b7 0).trans rfl,(blk_cell HQ.out.b7 1).trans rfl,(blk_cell HQ.out.b7 2).trans rfl⟩ (fun hHeld=>?_);refine with_tabW spec_l1Cur_board.tab8 spec_l1Cur_board.bits8 (fun HT_ HW_=>?_)
   clear HF
   replace HD:=Aside0.mk (HD.out.up hb);replace HQ:=Aside0.mk (HQ.out.up hb);clear hb
   generalize wp.drew=wd at HD HQ hHeld ⊢
   refine pure_ (i:=0) (N:=some 29) (v:=?_) (a':=?_) #[true,false,false,false,false,false,false,false,false,false,false,false] rfl rfl (any_of HT_.out (by kernel_rfl)) (fun _ _ _ h=>h) (Or.inl ⟨by rfl,?_⟩) ?_ ?_
   rotate_left
   ·
    intro w'
    go_simp
    with_reducible rfl
   rotate_left
   ·
    simp only [Act.put,List.setIfInBounds_toArray,List.set_cons_zero,List.set_cons_succ,i64_w,i32_w]
    rfl
   refine pure_ (i:=2) (N:=some 31) (v:=?_) (a':=?_) #[true,false,true,false,false,false,false,false,false,false,false,false] rfl rfl (any_of HT_.out (by kernel_rfl)) (fun _ _ _ h=>h) (Or.inl ⟨by rfl,?_⟩) ?_ ?_
   rotate_left
   ·
    intro w'
    go_simp
    with_reducible rfl
   rotate_left
   ·
    simp only [Act.put,List.setIfInBounds_toArray,List.set_cons_zero,List.set_cons_succ,i64_w,i32_w]
    rfl
   refine pure_ (i:=3) (N:=some 32) (v:=?_) (a':=?_) #[true,false,true,true,false,false,false,false,false,false,false,false] rfl rfl (any_of HT_.out (by kernel_rfl)) (fun _ _ _ h=>h) (Or.inl ⟨by rfl,?_⟩) ?_ ?_
   rotate_left
   ·
    intro w'
    go_simp
    with_reducible rfl
   rotate_left
   ·
    simp only [Act.put,List.setIfInBounds_toArray,List.set_cons_zero,List.set_cons_succ,i64_w,i32_w]
    rfl
   refine pure_ (i:=7) (N:=some 36) (v:=?_) (a':=?_) #[true,false,true,true,false,false,false,true,false,false,false,false] rfl rfl (any_of HT_.out (by kernel_rfl)) (fun _ _ _ h=>h) (Or.inl ⟨by rfl,?_⟩) ?_ ?_
   rotate_left
   ·
    intro w'
    go_simp
    with_reducible rfl
   rotate_left
   ·
    simp only [Act.put,List.setIfInBounds_toArray,List.set_cons_zero,List.set_cons_succ,i64_w,i32_w]
    rfl
   refine take_ (i:=1) (N:=some 30) (v:=?_) (a':=?_) #[true,true,true,true,false,false,false,true,false,false,false,false] rfl rfl (take_ofW HT_.out HW_.out (by kernel_rfl)) (fun _ _ _ h=>h) (Or.inl ⟨by rfl,?_⟩) hHeld ?_ ?_
   rotate_left
   ·
    rintro w' ⟨s0,s1,s2⟩
    go_simp
    with_reducible rfl
   rotate_left
   ·
    simp only [Act.put,List.setIfInBounds_toArray,List.set_cons_zero,List.set_cons_succ,i64_w,i32_w]
    rfl
   refine take_ (i:=4) (N:=some 33) (v:=?_) (a':=?_) #[true,true,true,true,true,false,false,true,false,false,false,false] rfl rfl (take_ofW HT_.out HW_.out (by kernel_rfl)) (fun _ _ _ h=>h) (Or.inl ⟨by rfl,?_⟩) hHeld ?_ ?_
   rotate_left
   ·
    rintro w' ⟨s0,s1,s2⟩
    go_simp
    with_reducible rfl
   rotate_left
   ·
    simp only [Act.put,List.setIfInBounds_toArray,List.set_cons_zero,List.set_cons_succ,i64_w,i32_w]
    rfl
   refine pure_ (i:=5) (N:=some 34) (v:=?_) (a':=?_) #[true,true,true,true,true,true,false,true,false,false,false,false] rfl rfl (any_of HT_.out (by kernel_rfl)) (fun _ _ _ h=>h) (Or.inl ⟨by rfl,?_⟩) ?_ ?_
   rotate_left
   ·
    intro w'
    go_simp
    with_reducible rfl
   rotate_left
   ·
    simp only [Act.put,List.setIfInBounds_toArray,List.set_cons_zero,List.set_cons_succ,i64_w,i32_w]
    rfl
   refine join_ (σ:=Int × Value) 3 #[true,true,true,true,true,true,true,true,true,false,false,false] (fun s_=>[(35,.int .i64 s_.1),(37,s_.2)]) (fun s_ w'=>(w'.cell? ⟨g7,0,none⟩=some (.int .i64 r)∧w'.cell? ⟨g7,1,none⟩=some (.int .i64 c)∧w'.cell? ⟨g7,2,none⟩=some (.slice (some ⟨go,0,none⟩) n cp))∧(0≤s_.1∧s_.1 < (n:Int))∧BQ W w' g g6 g7 go n cp r c l∧Dr w w' g code (M + 48)∧Kd.R (Kd.int .i64) 3 w' g6 (fun k=>k ≠ g) s_.2 ([(-1),64,4611686018427387904]:List Int)) ?_ ?_
   rotate_left
   ·
    intro hCont
    refine two_ (i:=6) (j:=8) (Ni:=some 35) (Nj:=some 37) #[true,true,true,true,true,true,true,true,false,false,false,false] #[true,true,true,true,true,true,false,true,true,false,false,false] rfl rfl rfl rfl (two_of HT_.out (by kernel_rfl)) (by decide) (by decide) (fun K hK=>?_) (fun K hK=>?_)
    ·
     skip
     refine goes_ Tryz.func43 (by kernel_rfl) rfl #[.pointer (some ⟨g,0,none⟩),.int .i64 (n:Int)] (by rfl) rfl rfl (by (try simp only [List.map_toArray,List.map_cons,List.map_nil]);first|done|rfl) ?_
     refine (pick_c hc.out HD.out (by have:=hm.out;omega) (n:Int)).mono ?_;rintro e wa ⟨v,rfl,hv,hd,hk⟩
     refine ⟨_,rfl,?_⟩
     replace HD:=Aside0.mk hd;replace HQ:=Aside0.mk (HQ.out.keep hk);have hv2:=Aside0.mk (show 0≤v∧v < (n:Int) by have:=HN.out;omega);clear hd hk hv
     refine hK.out _ _ ⟨(blk_cell HQ.out.b7 0).trans rfl,(blk_cell HQ.out.b7 1).trans rfl,(blk_cell HQ.out.b7 2).trans rfl⟩ (fun hHeld=>?_)
     clear hK K
     refine norm_ (a':=?_) ?_ ?_
     rotate_left
     ·
      show Act.put _ (some 35) _=_
      simp only [Act.put,List.setIfInBounds_toArray,List.set_cons_zero,List.set_cons_succ,i64_w,i32_w]
      rfl
     refine one_ (i:=8) (N:=some 37) #[true,true,true,true,true,true,true,true,true,false,false,false] rfl rfl (one_of HT_.out (by kernel_rfl)) (by decide) (fun K hK=>?_)
     refine Kd.R_lit_step (Kd.int .i64) _ 3 ?hg (N:=37) ?hd (xs:=([(-1),64,4611686018427387904]:List Int)) (inner:=[.int .i64 (-1),.int .i64 64,.int .i64 4611686018427387904]) (ok:=fun _=>True) (okp:=fun _=>True) ?hr ?hp (fun _ hk=>hk) trivial (Below.refl _ _) (Nat.le_refl _) (by simp) ?_;(case hd=>rfl);(case hg=>rfl);(case hr=>first|(go_simp;done)|(go_simp;rfl));(case hp=>exact (Reps.one (show Kd.M (Kd.int .i64) _ _ _ (-1) [.int .i64 (-1)] from rfl) (Reps.one (show Kd.M (Kd.int .i64) _ _ _ (64) [.int .i64 (64)] from rfl) (Reps.one (show Kd.M (Kd.int .i64) _ _ _ (4611686018427387904) [.int .i64 (4611686018427387904)] from rfl) (Reps.none _ _)))))
     intro vl wl ho hb hg_ hnew_;clear hg_ hnew_
     have HL:=Aside0.mk (show Kd.R (Kd.int .i64) 3 wl g6 (fun k=>k ≠ g) vl ([(-1),64,4611686018427387904]:List Int) from Kd.R_mono (Kd.R_bound (Kd.R_lower ho (show g6≤wa.heap.size from Nat.le_of_lt (blk_lt HQ.out.b6)))) (fun k h=>by have:=HQ.out.N;have:=h.2.1;omega))
     replace HD:=Aside0.mk (HD.out.up hb);replace HQ:=Aside0.mk (HQ.out.up hb);clear ho hb
     refine hK.out _ _ ⟨(blk_cell HQ.out.b7 0).trans rfl,(blk_cell HQ.out.b7 1).trans rfl,(blk_cell HQ.out.b7 2).trans rfl⟩ (fun hHeld=>?_)
     clear hK K
     refine norm_ (a':=?_) ?_ ?_
     rotate_left
     ·
      show Act.put _ (some 37) _=_
      simp only [Act.put,List.setIfInBounds_toArray,List.set_cons_zero,List.set_cons_succ,i64_w,i32_w]
      rfl
     exact norm_ (by simp only [putAll,Act.put,List.setIfInBounds_toArray,List.set_cons_zero,List.set_cons_succ]) (hCont (v,vl) _ ⟨hHeld,hv2.out,HQ.out,HD.out.le (by omega) (by have:=hm.out;omega),HL.out⟩)
    ·
     skip
     refine Kd.R_lit_step (Kd.int .i64) _ 3 ?hg (N:=37) ?hd (xs:=([(-1),64,4611686018427387904]:List Int)) (inner:=[.int .i64 (-1),.int .i64 64,.int .i64 4611686018427387904]) (ok:=fun _=>True) (okp:=fun _=>True) ?hr ?hp (fun _ hk=>hk) trivial (Below.refl _ _) (Nat.le_refl _) (by simp) ?_;(case hd=>rfl);(case hg=>rfl);(case hr=>first|(go_simp;done)|(go_simp;rfl));(case hp=>exact (Reps.one (show Kd.M (Kd.int .i64) _ _ _ (-1) [.int .i64 (-1)] from rfl) (Reps.one (show Kd.M (Kd.int .i64) _ _ _ (64) [.int .i64 (64)] from rfl) (Reps.one (show Kd.M (Kd.int .i64) _ _ _ (4611686018427387904) [.int .i64 (4611686018427387904)] from rfl) (Reps.none _ _)))))
     intro vl wl ho hb hg_ hnew_;clear hg_ hnew_
     have HL:=Aside0.mk (show Kd.R (Kd.int .i64) 3 wl g6 (fun k=>k ≠ g) vl ([(-1),64,4611686018427387904]:List Int) from Kd.R_mono (Kd.R_bound (Kd.R_lower ho (show g6≤wd.heap.size from Nat.le_of_lt (blk_lt HQ.out.b6)))) (fun k h=>by have:=HQ.out.N;have:=h.2.1;omega))
     replace HD:=Aside0.mk (HD.out.up hb);replace HQ:=Aside0.mk (HQ.out.up hb);clear ho hb
     refine hK.out _ _ ⟨(blk_cell HQ.out.b7 0).trans rfl,(blk_cell HQ.out.b7 1).trans rfl,(blk_cell HQ.out.b7 2).trans rfl⟩ (fun hHeld=>?_)
     clear hK K
     refine norm_ (a':=?_) ?_ ?_
     rotate_left
     ·
      show Act.put _ (some 37) _=_
      simp only [Act.put,List.setIfInBounds_toArray,List.set_cons_zero,List.set_cons_succ,i64_w,i32_w]
      rfl
     refine one_ (i:=6) (N:=some 35) #[true,true,true,true,true,true,true,true,true,false,false,false] rfl rfl (one_of HT_.out (by kernel_rfl)) (by decide) (fun K hK=>?_)
     refine goes_ Tryz.func43 (by kernel_rfl) rfl #[.pointer (some ⟨g,0,none⟩),.int .i64 (n:Int)] (by rfl) rfl rfl (by (try simp only [List.map_toArray,List.map_cons,List.map_nil]);first|done|rfl) ?_
     refine (pick_c hc.out HD.out (by have:=hm.out;omega) (n:Int)).mono ?_;rintro e wa ⟨v,rfl,hv,hd,hk⟩
     refine ⟨_,rfl,?_⟩
     replace HD:=Aside0.mk hd;replace HQ:=Aside0.mk (HQ.out.keep hk);replace HL:=Aside0.mk (Kd.R_keep HL.out hk (fun _ h=>h));have hv2:=Aside0.mk (show 0≤v∧v < (n:Int) by have:=HN.out;omega);clear hd hk hv
     refine hK.out _ _ ⟨(blk_cell HQ.out.b7 0).trans rfl,(blk_cell HQ.out.b7 1).trans rfl,(blk_cell HQ.out.b7 2).trans rfl⟩ (fun hHeld=>?_)
     clear hK K
     refine norm_ (a':=?_) ?_ ?_
     rotate_left
     ·
      show Act.put _ (some 35) _=_
      simp only [Act.put,List.setIfInBounds_toArray,List.set_cons_zero,List.set_cons_succ,i64_w,i32_w]
      rfl
     exact norm_ (by simp only [putAll,Act.put,List.setIfInBounds_toArray,List.set_cons_zero,List.set_cons_succ]) (hCont (v,vl) _ ⟨hHeld,hv2.out,HQ.out,HD.out.le (by omega) (by have:=hm.out;omega),HL.out⟩)
   rintro ⟨v,vl⟩ wm ⟨hHeld,hv,hq,hd,hl⟩
   clear HQ HD;have HQ:=Aside0.mk hq;have HD:=Aside0.mk hd;have HL:=Aside0.mk hl;clear hq hd hl
   obtain ⟨Bl,dl,rfl⟩:=Kd.R_slice HL.out
   refine norm_ (a':=?_) ?_ ?_
   rotate_left
   ·
    simp only [putAll,Act.put,List.setIfInBounds_toArray,List.set_cons_zero,List.set_cons_succ]
    rfl
   refine one_ (i:=9) (N:=some 38) #[true,true,true,true,true,true,true,true,true,true,false,false] rfl rfl (one_of HT_.out (by kernel_rfl)) (by decide) (fun K hK=>?_)
   refine goes_ Tryz.func46 (by kernel_rfl) rfl #[.pointer (some ⟨g,0,none⟩),.slice Bl ([(-1),64,4611686018427387904]:List Int).length dl] (by rfl) rfl rfl (by (try simp only [List.map_toArray,List.map_cons,List.map_nil]);first|done|rfl) ?_
   refine (among_c hc.out HD.out (by have:=hm.out;omega) (by simp) (Kd.R_reads' HL.out).2.2 (Kd.R_reads' HL.out).2.1 (far_slice (fun e=>absurd rfl (HL.out.1 g e.symm)))).mono ?_;rintro e wa ⟨u',rfl,hd,hk⟩
   refine ⟨_,rfl,?_⟩
   replace HD:=Aside0.mk hd;replace HQ:=Aside0.mk (HQ.out.keep hk);clear hd hk HL
   have p0:0≤v:=hv.1;have q0:v < (n:Int):=hv.2;have p1:=eq_true p0;have q1:=eq_true q0
   refine hK.out _ _ ⟨(blk_cell HQ.out.b7 0).trans rfl,(blk_cell HQ.out.b7 1).trans rfl,(blk_cell HQ.out.b7 2).trans rfl⟩ (fun hHeld=>?_)
   clear hK K
   refine norm_ (a':=?_) ?_ ?_
   rotate_left
   ·
    show Act.put _ (some 38) _=_
    simp only [Act.put,List.setIfInBounds_toArray,List.set_cons_zero,List.set_cons_succ,i64_w,i32_w]
    rfl
   refine pure_ (i:=10) (N:=some 39) (v:=?_) (a':=?_) #[true,true,true,true,true,true,true,true,true,true,true,false] rfl rfl (any_of HT_.out (by kernel_rfl)) (fun _ _ _ h=>h) (Or.inl ⟨by rfl,?_⟩) ?_ ?_
   rotate_left
   ·
    intro w'
    go_simp
    with_reducible rfl
   rotate_left
   ·
    simp only [Act.put,List.setIfInBounds_toArray,List.set_cons_zero,List.set_cons_succ,i64_w,i32_w]
    rfl
   refine last_ (i:=11) (N:=none) #[true,true,true,true,true,true,true,true,true,true,true,true] rfl rfl (one_of HT_.out (by kernel_rfl)) (by decide) (fun K hK=>?_)
   obtain ⟨hs8,hf8⟩:=Kd.R_celln 0 HQ.out.R v p0 q0
   refine skip_ (w1:=?_) (by rfl) rfl ?_ ?_
   rotate_left
   ·
    go_simp;rfl
   refine hK.out _ _ ?_;clear hK K hs8 hf8
   refine done_ (done_of HT_.out (by kernel_rfl)) ?_
   have hgo:=Aside0.mk (show g ≠ go∧w.heap.size≤go by have:=HQ.out.N;have:=HW.out;omega)
   clear p0 q0 hv;go_wp2;go_meet
   case rel=>exact ⟨by rw [HP];exact ⟨_,_,_,_,_,(HQ.out.put v u').fq (by have:=HN.out;omega),(HD.out.set hgo.out.1 hgo.out.2 v.toNat _).le (by omega) hm.out⟩⟩
  have u2b:(u == 2)=false:=beq_eq_false_iff_ne.mpr u2
  by_cases u3:u=3
  rotate_left
  ·
   have u3b:(u == 3)=false:=beq_eq_false_iff_ne.mpr u3
   clear u0 u1 u2 u3;go_wp2;go_meet;case rel=>exact MEET
  have u3b:(u == 3)=true:=beq_iff_eq.mpr u3
  clear u0 u1 u2 u3 MEET HF
  have y0:wp.cell? ⟨g7,0,none⟩=some (.int .i64 r):=(blk_cell HQ.out.b7 0).trans rfl;have y1:wp.cell? ⟨g7,1,none⟩=some (.int .i64 c):=(blk_cell HQ.out.b7 1).trans rfl;have y2:wp.cell? ⟨g7,2,none⟩=some (.slice (some ⟨go,0,none⟩) n cp):=(blk_cell HQ.out.b7 2).trans rfl
  go_wp2_with ((with_reducible refine gate_builtin (b:=.append) (xs:=#[.tmp 43,.tmp 44]) rfl ?_);at_builtin;refine Kd.R_append (Kd.int .i64) W.heap.size rfl (.tmp 43) (.tmp 44) 24 3 (.int .i64 0) 8 rfl Tryz.underlying24 info3 rfl (by decide) (by omega) (.slice (some ⟨go,0,none⟩) n cp) l 0 [.int .i64 0] (fun k=>g6 < k∧k ≠ g7) (fun _=>False) rfl rfl ?aP (fun _ hk=>hk.elim) ?aF ?aO (Below.refl _ _) ?aS ?aL ?_;(case aP=>exact rfl);(case aF=>exact (fun k hk=>by have:=blk_lt HQ.out.b7;have:=HQ.out.N;omega));(case aO=>exact Kd.R_mono HQ.out.R (fun k hk=>by omega));(case aS=>exact HQ.out.K.1);(case aL=>have:=HQ.out.N;have:=HN.out;omega);intro vn wn ho hb hg hat;obtain ⟨l',hl'⟩:∃ z,z=l ++ [0]:=⟨_,rfl⟩;rw [← hl'] at ho;have HLn:=Aside0.mk (show l'.length=n + 1 by rw [hl',List.length_append,List.length_singleton,HQ.out.N.2.2.2.2]);clear hl';obtain ⟨An,cn,evn⟩:=Kd.R_slice ho;subst evn;have HO:=Aside0.mk ho;have HB:=Aside0.mk hb;have HGr:=Aside0.mk hg;have b7:=blk_grown HQ.out.b7 hg (fun e=>by have:=HQ.out.R.1 _ e.symm;omega);have z2:wn.cell? ⟨g7,2,none⟩=some (.slice (some ⟨go,0,none⟩) n cp):=(blk_cell b7 2).trans rfl;have f2:=blk_frozen b7 2;have BX:=Aside0.mk b7;clear b7 ho hb hg hat)
  go_meet
  case rel =>
   have hn:=HQ.out.N;have hw:=HW.out
   have hrow:=HQ.out.R.1
   have k7:=keep1 wn g7 2 (.slice An l'.length cn)
   have hA:=HD.out;have qA:=HQ.out
   have hd:=(hA.grown (hA.B.trans (HB.out.mono HW.out)) HGr.out (fun e=>by have:=hrow _ e.symm;omega)).set hgn.out.1 hgn.out.2 2 (.slice An l'.length cn)
   have hk:KeepBut W wn g none:=⟨Nat.le_trans qA.K.1 HGr.out.size,fun i hi hg _=>(HGr.out.block i (Nat.lt_of_lt_of_le hi qA.K.1) (fun e=>by have:=hrow _ e.symm;omega)).trans (qA.K.2 i hi hg (by simp))⟩
   exact ⟨by rw [HP];exact ⟨_,_,l',An,cn,⟨keepN hk k7 (by omega),KeepBut.blk k7 (blk_grown qA.b6 HGr.out (fun e=>by have:=hrow _ e.symm;omega)) (by omega) (by simp),blk_put (cs:=#[.int .i64 r,.int .i64 c,.slice (some ⟨go,0,none⟩) n cp]) BX.out 2 _ rfl,Kd.R_keep HO.out k7 (fun _ h=>h.2),hn.1,hn.2.1,by omega,by have:=HLn.out;have:=HN.out;omega⟩,hd.le (by omega) hm.out⟩⟩
 case rest =>
  have HZ:=hcut.out;rw [HP] at HZ
  obtain ⟨r',c',l',A',cp',hf,hd⟩:=HZ
  clear hcut HP HQ HD HF;have HF:=Aside0.mk hf;have HD:=Aside0.mk hd;clear hf hd
  have n67:g6 ≠ g7:=(by have:=HF.out.N;omega);have n76:g7 ≠ g6:=(by have:=HF.out.N;omega)
  have z0:wc.cell? ⟨g6,0,none⟩=some (.int .i64 0):=(blk_cell HF.out.b6 0).trans rfl;have f0:=blk_frozen HF.out.b6 0;have z1:wc.cell? ⟨g6,1,none⟩=some (.int .i64 0):=(blk_cell HF.out.b6 1).trans rfl;have f1:=blk_frozen HF.out.b6 1;have z2:wc.cell? ⟨g6,2,none⟩=some (.slice none 0 0):=(blk_cell HF.out.b6 2).trans rfl;have f2:=blk_frozen HF.out.b6 2;have y0:wc.cell? ⟨g7,0,none⟩=some (.int .i64 r'):=(blk_cell HF.out.b7 0).trans rfl;have y1:wc.cell? ⟨g7,1,none⟩=some (.int .i64 c'):=(blk_cell HF.out.b7 1).trans rfl;have y2:wc.cell? ⟨g7,2,none⟩=some (.slice A' l'.length cp'):=(blk_cell HF.out.b7 2).trans rfl
  go_wp2
  refine bodyPost_ret (results_cell_row rfl _ _ g6 26 #[.int .i64 r',.int .i64 c',.slice A' l'.length cp'] (0,0) _ rfl (put3 HF.out.b6) hu26 rfl (by kernel_rfl)) rfl ?_
  have hn:=HF.out.N;have hw:=HW.out
  have k6:=keep3 wc g6 (.int .i64 r') (.int .i64 c') (.slice A' l'.length cp')
  exact ⟨r',c',l',A',cp',rfl,hn.2.2.2,Kd.R_mono (Kd.R_keep HF.out.R k6 (fun k hk=>by omega)) (fun _ _=>trivial),HD.out.keep3 (by omega) (by omega) _ _ _,keepN HF.out.K k6 (by omega)⟩
set_option maxHeartbeats 8000000 in
set_option maxRecDepth 100000 in
theorem sparse_c {code:List Int} (hc:Bytes code) {w W:World} {g M:Nat} (h:Dr w W g code M) (hm:M + 200≤1000000):Calls Tryz.prog 42 #[.pointer (some ⟨g,0,none⟩)] W fun e w'=>∃ (r c:Int) (l:List Int) (A:Option Addr) (cp:Nat),e=.returned (.agg #[.int .i64 r,.int .i64 c,.slice A l.length cp])∧l.length≤7∧Kd.R (Kd.int .i64) 3 w' W.heap.size (fun _=>True) (.slice A l.length cp) l∧Dr w w' g code (M + 200)∧KeepBut W w' g none:=by
 have hu26:=Tryz.underlying26
 replace hc:=Aside0.mk hc
 have HD:=Aside0.mk h
 replace hm:=Aside0.mk hm
 have HG:=Aside0.mk h.lt;have HW:=Aside0.mk h.B.size
 clear h
 go_enter Tryz.func42,Tryz.ntmps42
 go_upto_region 1 with fail
 obtain ⟨w1,hw1⟩:∃ X:World,X=W.alloc (Obj.cells #[.int .i64 0,.int .i64 0,.slice none 0 0] 26):=⟨_,rfl⟩
 obtain ⟨g6,hg6⟩:∃ n:Nat,n=W.heap.size:=⟨_,rfl⟩
 have hb:Below W.heap.size W w1:=by rw [hw1];exact alloc_up _ _
 have b6:w1.heap[g6]?=some (.cells #[.int .i64 0,.int .i64 0,.slice none 0 0] 26 (0,0)):=by rw [hw1,hg6];exact boxed _ _ _
 rw [← hw1,← hg6]
 have HK:=Aside0.mk (KeepBut.of_below hb g none);replace HD:=Aside0.mk (HD.out.up hb);replace b6:=Aside0.mk b6;replace hg6:=Aside0.mk hg6;clear hb hw1
 go_wp2_with fail
 go_at_call 68;refine (one_c hc.out HD.out (by have:=hm.out;omega) 5).mono ?_;rintro e w2 ⟨b,rfl,hd,hk⟩
 replace HD:=Aside0.mk hd;replace b6:=Aside0.mk (KeepBut.blk hk b6.out (by have:=hg6.out;have:=HG.out;omega) (by simp));replace HK:=Aside0.mk (HK.out.trans hk (.inl rfl));clear hd hk
 have h62:=Aside0.mk (blk_lt b6.out)
 cases b with
|true =>
  go_wp2_with fail
  go_at_call 69;refine (board_c hc.out HD.out (by have:=hm.out;omega)).mono ?_;rintro e w3 ⟨r,c,l,A,cp,rfl,hl,hR,hd,hk⟩
  replace HD:=Aside0.mk hd;replace b6:=Aside0.mk (KeepBut.blk hk b6.out (by have:=hg6.out;have:=HG.out;omega) (by simp));replace HK:=Aside0.mk (HK.out.trans hk (.inl rfl));clear hd hk;replace hl:=Aside0.mk hl;have RL:=Aside0.mk (Kd.R_lower (Kd.R_mono (ok':=fun k=>g6 < k) (Kd.R_bound hR) (fun k h=>by have:=h.2.1;have:=h62.out;omega)) (show W.heap.size≤w2.heap.size by have:=hg6.out;have:=h62.out;omega));clear hR
  have z0:w3.cell? ⟨g6,0,none⟩=some (.int .i64 0):=(blk_cell b6.out 0).trans rfl;have f0:=blk_frozen b6.out 0;have z1:w3.cell? ⟨g6,1,none⟩=some (.int .i64 0):=(blk_cell b6.out 1).trans rfl;have f1:=blk_frozen b6.out 1;have z2:w3.cell? ⟨g6,2,none⟩=some (.slice none 0 0):=(blk_cell b6.out 2).trans rfl;have f2:=blk_frozen b6.out 2
  go_wp2
  refine bodyPost_ret (results_cell_row rfl _ _ g6 26 #[.int .i64 r,.int .i64 c,.slice A l.length cp] (0,0) _ rfl (put3 b6.out) hu26 rfl (by kernel_rfl)) rfl ?_
  have hw:=HW.out;have hg:=HG.out;have h6:=hg6.out
  have k6:=keep3 w3 g6 (.int .i64 r) (.int .i64 c) (.slice A l.length cp)
  exact ⟨r,c,l,A,cp,rfl,hl.out,Kd.R_mono (Kd.R_keep RL.out k6 (fun k hk=>by omega)) (fun _ _=>trivial),(HD.out.keep3 (by omega) (by omega) _ _ _).le (by omega) hm.out,keepN HK.out k6 (by omega)⟩
|false =>
  go_wp2_with fail
  go_at_call 43;refine (pick_c hc.out HD.out (by have:=hm.out;omega) 5).mono ?_;rintro e w3 ⟨u,rfl,hu,hd,hk⟩
  replace hu:=Aside0.mk hu;have h63:=Aside0.mk (blk_lt (KeepBut.blk hk b6.out (by have:=hg6.out;have:=HG.out;omega) (by simp)));replace HD:=Aside0.mk hd;replace b6:=Aside0.mk (KeepBut.blk hk b6.out (by have:=hg6.out;have:=HG.out;omega) (by simp));replace HK:=Aside0.mk (HK.out.trans hk (.inl rfl));clear hd hk
  go_wp2_with fail
  go_at_call 43;refine (pick_c hc.out HD.out (by have:=hm.out;omega) 5).mono ?_;rintro e w4 ⟨v,rfl,hv,hd,hk⟩
  replace hv:=Aside0.mk hv;have h64:=Aside0.mk (blk_lt (KeepBut.blk hk b6.out (by have:=hg6.out;have:=HG.out;omega) (by simp)));replace HD:=Aside0.mk hd;replace b6:=Aside0.mk (KeepBut.blk hk b6.out (by have:=hg6.out;have:=HG.out;omega) (by simp));replace HK:=Aside0.mk (HK.out.trans hk (.inl rfl));clear hd hk
  obtain ⟨r,hr0⟩:∃ r:Int,r=wrap64 (1 + u):=⟨_,rfl⟩
  obtain ⟨c,hc0⟩:∃ c:Int,c=wrap64 (1 + v):=⟨_,rfl⟩
  have HR:=Aside0.mk (show (1≤r∧r≤6)∧(1≤c∧c≤6) by have:=hu.out;have:=hv.out;rw [hr0,hc0,w64 (by omega) (by omega),w64 (by omega) (by omega)];omega)
  clear hu hv
  go_wp2_with fail
  rw [← hr0,← hc0];clear hr0 hc0
  go_at_call 70;refine (spec_boEmpty.calls r c r c _ w4 (empty_f HR.out.1)).mono ?_;rintro e w5 ⟨v2,rfl,hR,hb⟩
  obtain ⟨go,cp,rfl,hgo,hgl,_⟩:=Kd.R_form hR (by have:=HR.out;rw [List.length_replicate];omega)
  have hrl:(List.replicate r.toNat (0:Int)).length=r.toNat:=List.length_replicate
  generalize List.replicate r.toNat (0:Int)=l at hR hrl ⊢
  obtain ⟨n,hn⟩:∃ n:Nat,n=l.length:=⟨_,rfl⟩
  rw [← hn] at hR ⊢
  have HN:=Aside0.mk (show 1≤n∧n≤6 by have:=HR.out;omega)
  replace HD:=Aside0.mk (HD.out.up hb);replace b6:=Aside0.mk (blk_below b6.out hb);replace HK:=Aside0.mk (keepB HK.out hb)
  have HX:=Aside0.mk (show g6 < go∧go < w5.heap.size∧l.length=n by have:=h64.out;omega)
  have RL:=Aside0.mk (Kd.R_lower (Kd.R_mono (ok':=fun k=>g6 < k∧k < w5.heap.size) (Kd.R_bound hR) (fun k hk=>by have:=hk.2.1;have:=hk.2.2.1;have:=h64.out;omega)) (show W.heap.size≤w4.heap.size by have:=h64.out;have:=hg6.out;omega))
  clear hR hb hrl hn hgo hgl h62 h63 h64
  go_upto_region 4 with fail
  obtain ⟨wq,hwq⟩:∃ X:World,X=w5.alloc (Obj.cells #[.int .i64 r,.int .i64 c,.slice (some ⟨go,0,none⟩) n cp] 26):=⟨_,rfl⟩
  obtain ⟨g7,hg7⟩:∃ n:Nat,n=w5.heap.size:=⟨_,rfl⟩
  have hb:Below w5.heap.size w5 wq:=by rw [hwq];exact alloc_up _ _
  have b7:wq.heap[g7]?=some (.cells #[.int .i64 r,.int .i64 c,.slice (some ⟨go,0,none⟩) n cp] 26 (0,0)):=by rw [hwq,hg7];exact boxed _ _ _
  rw [← hwq,← hg7];rw [← hg7] at RL HX
  have HQ:=Aside0.mk (show BQ W wq g g6 g7 go n cp r c l from ⟨keepB HK.out hb,blk_below b6.out hb,b7,Kd.R_below RL.out hb,by have:=HG.out;have:=hg6.out;have:=HX.out;omega⟩)
  replace HD:=Aside0.mk (HD.out.up hb);clear hb b7 b6 RL HK HX hwq hg7 hg6
  have y0:wq.cell? ⟨g7,0,none⟩=some (.int .i64 r):=(blk_cell HQ.out.b7 0).trans rfl;have y1:wq.cell? ⟨g7,1,none⟩=some (.int .i64 c):=(blk_cell HQ.out.b7 1).trans rfl;have y2:wq.cell? ⟨g7,2,none⟩=some (.slice (some ⟨go,0,none⟩) n cp):=(blk_cell HQ.out.b7 2).trans rfl
  go_wp2_with fail
  clear y0 y1 y2
  go_loopg [20] n (fun kq v20 w'=>∃ (x:Int) (l':List Int),v20=.int .i64 x∧Aside0 (∃ i:Nat,x=i∧i + kq=n∧Dr w w' g code (M + 20 + 10 * i))∧Aside0 (BQ W w' g g6 g7 go n cp r c l'))
  case atStart=>exact ⟨0,l,rfl,⟨0,rfl,by omega,HD.out.le (by omega) (by have:=hm.out;omega)⟩,HQ⟩
  case round =>
   clear HD HQ
   obtain ⟨x,l',rfl,HI,HQ⟩:=hrel
   by_cases c3:x < (n:Int)
   rotate_left
   ·
    have c3b0:decide (x < (n:Int))=false:=decide_eq_false c3
    have HD:=Aside0.mk (show Dr w wr g code (M + 200) from by obtain ⟨i,h1,h2,h3⟩:=HI.out;exact h3.le (by have:=HN.out;omega) hm.out)
    have HF:=Aside0.mk (HQ.out.fq (by have:=HN.out;omega));clear c3 HI;have hn0:=HQ.out.N.2.2.2.2;subst hn0;clear HQ
    have n67:g6 ≠ g7:=(by have:=HF.out.N;omega);have n76:g7 ≠ g6:=(by have:=HF.out.N;omega)
    have z0:wr.cell? ⟨g6,0,none⟩=some (.int .i64 0):=(blk_cell HF.out.b6 0).trans rfl;have f0:=blk_frozen HF.out.b6 0;have z1:wr.cell? ⟨g6,1,none⟩=some (.int .i64 0):=(blk_cell HF.out.b6 1).trans rfl;have f1:=blk_frozen HF.out.b6 1;have z2:wr.cell? ⟨g6,2,none⟩=some (.slice none 0 0):=(blk_cell HF.out.b6 2).trans rfl;have f2:=blk_frozen HF.out.b6 2;have y0:wr.cell? ⟨g7,0,none⟩=some (.int .i64 r):=(blk_cell HF.out.b7 0).trans rfl;have y1:wr.cell? ⟨g7,1,none⟩=some (.int .i64 c):=(blk_cell HF.out.b7 1).trans rfl;have y2:wr.cell? ⟨g7,2,none⟩=some (.slice (some ⟨go,0,none⟩) l'.length cp):=(blk_cell HF.out.b7 2).trans rfl
    go_wp2
    refine bodyPost_ret (results_cell_row rfl _ _ g6 26 #[.int .i64 r,.int .i64 c,.slice (some ⟨go,0,none⟩) l'.length cp] (0,0) _ rfl (put3 HF.out.b6) hu26 rfl (by kernel_rfl)) rfl ?_
    have hn:=HF.out.N;have hw:=HW.out
    have k6:=keep3 wr g6 (.int .i64 r) (.int .i64 c) (.slice (some ⟨go,0,none⟩) l'.length cp)
    exact ⟨r,c,l',(some ⟨go,0,none⟩),cp,rfl,hn.2.2.2,Kd.R_mono (Kd.R_keep HF.out.R k6 (fun k hk=>by omega)) (fun _ _=>trivial),HD.out.keep3 (by omega) (by omega) _ _ _,keepN HF.out.K k6 (by omega)⟩
   have c3b0:decide (x < (n:Int))=true:=decide_eq_true c3
   cases gk with
  |zero=>exact absurd HI.out (by rintro ⟨i,h1,h2,h3⟩;omega)
  |succ k1 =>
    obtain ⟨i,hx,hi,hd⟩:=HI.out
    have HD:=Aside0.mk hd
    have p0:0≤x:=by omega
    have HI2:=Aside0.mk (And.intro hx hi)
    have HY:=Aside0.mk (show M + 20 + 10 * i + 20≤1000000 by have:=hm.out;have:=HN.out;omega)
    have HZ:=Aside0.mk (show wrap64 (x + 1)=((i + 1:Nat):Int) from by rw [w64 (by omega) (by have:=HN.out;omega)];omega)
    have HP:=Aside0.mk (And.intro p0 c3);have p1:=eq_true p0;have q1:=eq_true c3;clear HI hd hx hi p0 c3
    go_wp2_with fail
    go_at_call 43;refine (pick_c hc.out HD.out (by have:=HY.out;omega) 4).mono ?_;rintro e wa ⟨y,rfl,hy,hd,hk⟩
    replace HD:=Aside0.mk hd;replace HQ:=Aside0.mk (HQ.out.keep hk);replace hy:=Aside0.mk hy;clear hd hk
    go_wp2_with fail
    go_loopg [5] 4 (fun kq v5 w'=>∃ (y:Int) (l':List Int),v5=.int .i64 y∧Aside0 (∃ m:Nat,y=m∧m≤3∧m < kq∧Dr w w' g code (M + 22 + 10 * i + 2 * (3 - m)))∧Aside0 (BQ W w' g g6 g7 go n cp r c l'))
    case atStart=>exact ⟨y,l',rfl,⟨y.toNat,by have:=hy.out;omega,by have:=hy.out;omega,by have:=hy.out;omega,HD.out.le (by omega) (by have:=HY.out;omega)⟩,HQ⟩
    case round =>
     clear HD HQ hy
     obtain ⟨y,l2,rfl,HI,HQ⟩:=hrel
     by_cases c5:0 < y
     rotate_left
     ·
      have c5b0:decide (0 < y)=false:=decide_eq_false c5
      have HD:=Aside0.mk (show Dr w wr g code (M + 20 + 10 * (i + 1)) from by obtain ⟨m,h1,h2,h3,h4⟩:=HI.out;exact h4.le (by omega) (by have:=HY.out;omega))
      clear c5 HI;go_wp2
      go_roundg k1
      case measure=>omega
      case rel=>exact ⟨wrap64 (x + 1),l2,(by first|rfl|(simp;done)|(simp [*];done)),⟨i + 1,HZ.out,by have:=HI2.out;omega,HD.out⟩,HQ⟩
     have c5b0:decide (0 < y)=true:=decide_eq_true c5
     cases gk with
    |zero=>exact absurd HI.out (by rintro ⟨m,h1,h2,h3,h4⟩;omega)
    |succ k2 =>
      obtain ⟨m,hy,hm3,hmk,hd⟩:=HI.out
      have HD:=Aside0.mk hd
      have HM:=Aside0.mk (show wrap64 (y - 1)=((m - 1:Nat):Int)∧1≤m∧m≤3∧m < k2 + 1 from ⟨by rw [w64 (by omega) (by omega)];omega,by omega,hm3,hmk⟩)
      clear HI hd hy hm3 hmk c5
      obtain ⟨hs8,hf8⟩:=Kd.R_celln 0 HQ.out.R x HP.out.1 HP.out.2
      generalize rdOf 0 l2 x=zx at hs8;clear hf8
      go_upto_region 10 with fail
      have hb:Below wr.heap.size wr wr.drew:=below_drew1 (Below.refl _ _)
      refine start_ (n:=13) (S:=fun w'=>w'.cell? ⟨g7,0,none⟩=some (.int .i64 r)∧w'.cell? ⟨g7,1,none⟩=some (.int .i64 c)∧w'.cell? ⟨g7,2,none⟩=some (.slice (some ⟨go,0,none⟩) n cp)∧w'.cell? ⟨go,x.toNat,none⟩=some (.int .i64 zx)) (ds:=[12]) #[false,false,false,false,false,false,false,false,false,false,false,false,false] (by kernel_rfl) rfl rfl ⟨(blk_cell HQ.out.b7 0).trans rfl,(blk_cell HQ.out.b7 1).trans rfl,(blk_cell HQ.out.b7 2).trans rfl,hs8⟩ (fun hHeld=>?_);refine with_tabW spec_l1Cur_sparse.tab10 spec_l1Cur_sparse.bits10 (fun HT_ HW_=>?_)
      replace HD:=Aside0.mk (HD.out.up hb);replace HQ:=Aside0.mk (HQ.out.up hb);clear hb
      generalize wr.drew=wd at HD HQ hHeld ⊢
      refine pure_ (i:=0) (N:=some 29) (v:=?_) (a':=?_) #[true,false,false,false,false,false,false,false,false,false,false,false,false] rfl rfl (any_of HT_.out (by kernel_rfl)) (fun _ _ _ h=>h) (Or.inl ⟨by rfl,?_⟩) ?_ ?_
      rotate_left
      ·
       intro w'
       go_simp
       with_reducible rfl
      rotate_left
      ·
       simp only [Act.put,List.setIfInBounds_toArray,List.set_cons_zero,List.set_cons_succ,i64_w,i32_w]
       rfl
      refine pure_ (i:=2) (N:=some 31) (v:=?_) (a':=?_) #[true,false,true,false,false,false,false,false,false,false,false,false,false] rfl rfl (any_of HT_.out (by kernel_rfl)) (fun _ _ _ h=>h) (Or.inl ⟨by rfl,?_⟩) ?_ ?_
      rotate_left
      ·
       intro w'
       go_simp
       with_reducible rfl
      rotate_left
      ·
       simp only [Act.put,List.setIfInBounds_toArray,List.set_cons_zero,List.set_cons_succ,i64_w,i32_w]
       rfl
      refine pure_ (i:=5) (N:=some 34) (v:=?_) (a':=?_) #[true,false,true,false,false,true,false,false,false,false,false,false,false] rfl rfl (any_of HT_.out (by kernel_rfl)) (fun _ _ _ h=>h) (Or.inl ⟨by rfl,?_⟩) ?_ ?_
      rotate_left
      ·
       intro w'
       go_simp
       with_reducible rfl
      rotate_left
      ·
       simp only [Act.put,List.setIfInBounds_toArray,List.set_cons_zero,List.set_cons_succ,i64_w,i32_w]
       rfl
      refine pure_ (i:=6) (N:=some 35) (v:=?_) (a':=?_) #[true,false,true,false,false,true,true,false,false,false,false,false,false] rfl rfl (any_of HT_.out (by kernel_rfl)) (fun _ _ _ h=>h) (Or.inl ⟨by rfl,?_⟩) ?_ ?_
      rotate_left
      ·
       intro w'
       go_simp
       with_reducible rfl
      rotate_left
      ·
       simp only [Act.put,List.setIfInBounds_toArray,List.set_cons_zero,List.set_cons_succ,i64_w,i32_w]
       rfl
      refine take_ (i:=1) (N:=some 30) (v:=?_) (a':=?_) #[true,true,true,false,false,true,true,false,false,false,false,false,false] rfl rfl (take_ofW HT_.out HW_.out (by kernel_rfl)) (fun _ _ _ h=>h) (Or.inl ⟨by rfl,?_⟩) hHeld ?_ ?_
      rotate_left
      ·
       rintro w' ⟨s0,s1,s2,s3⟩
       go_simp
       with_reducible rfl
      rotate_left
      ·
       simp only [Act.put,List.setIfInBounds_toArray,List.set_cons_zero,List.set_cons_succ,i64_w,i32_w]
       rfl
      refine pure_ (i:=3) (N:=some 32) (v:=?_) (a':=?_) #[true,true,true,true,false,true,true,false,false,false,false,false,false] rfl rfl (any_of HT_.out (by kernel_rfl)) (fun _ _ _ h=>h) (Or.inl ⟨by rfl,?_⟩) ?_ ?_
      rotate_left
      ·
       intro w'
       go_simp
       with_reducible rfl
      rotate_left
      ·
       simp only [Act.put,List.setIfInBounds_toArray,List.set_cons_zero,List.set_cons_succ,i64_w,i32_w]
       rfl
      refine take_ (i:=4) (N:=some 33) (v:=?_) (a':=?_) #[true,true,true,true,true,true,true,false,false,false,false,false,false] rfl rfl (take_ofW HT_.out HW_.out (by kernel_rfl)) (fun _ _ _ h=>h) (Or.inl ⟨by rfl,?_⟩) hHeld ?_ ?_
      rotate_left
      ·
       rintro w' ⟨s0,s1,s2,s3⟩
       go_simp
       with_reducible rfl
      rotate_left
      ·
       simp only [Act.put,List.setIfInBounds_toArray,List.set_cons_zero,List.set_cons_succ,i64_w,i32_w]
       rfl
      refine take_ (i:=7) (N:=some 36) (v:=?_) (a':=?_) #[true,true,true,true,true,true,true,true,false,false,false,false,false] rfl rfl (take_ofW HT_.out HW_.out (by kernel_rfl)) (fun _ _ _ h=>h) (Or.inl ⟨by rfl,?_⟩) hHeld ?_ ?_
      rotate_left
      ·
       rintro w' ⟨s0,s1,s2,s3⟩
       go_simp
       with_reducible rfl
      rotate_left
      ·
       simp only [Act.put,List.setIfInBounds_toArray,List.set_cons_zero,List.set_cons_succ,i64_w,i32_w]
       rfl
      refine one_ (i:=8) (N:=some 37) #[true,true,true,true,true,true,true,true,true,false,false,false,false] rfl rfl (one_of HT_.out (by kernel_rfl)) (by decide) (fun K hK=>?_)
      refine goes_ Tryz.func43 (by kernel_rfl) rfl #[.pointer (some ⟨g,0,none⟩),.int .i64 c] (by rfl) rfl rfl (by (try simp only [List.map_toArray,List.map_cons,List.map_nil]);first|done|rfl) ?_
      refine (pick_c hc.out HD.out (by have:=HY.out;have:=HM.out;omega) c).mono ?_;rintro e wa ⟨vv,rfl,hv,hd,hk⟩
      refine ⟨_,rfl,?_⟩
      replace HD:=Aside0.mk hd;replace HQ:=Aside0.mk (HQ.out.keep hk);have hv0:=hv.1
      skip
      have HS3_:wa.cell? ⟨go,x.toNat,none⟩=some (.int .i64 zx):=keep_cell hk hHeld.2.2.2 (show go ≠ g by have:=HQ.out.N;omega)
      clear hd hk hv
      refine hK.out _ _ ⟨(blk_cell HQ.out.b7 0).trans rfl,(blk_cell HQ.out.b7 1).trans rfl,(blk_cell HQ.out.b7 2).trans rfl,HS3_⟩ (fun hHeld=>?_)
      clear hK K
      refine norm_ (a':=?_) ?_ ?_
      rotate_left
      ·
       show Act.put _ (some 37) _=_
       simp only [Act.put,List.setIfInBounds_toArray,List.set_cons_zero,List.set_cons_succ,i64_w,i32_w]
       rfl
      have uz:=eq_true hv0;have uzb:decide (0≤vv)=true:=decide_eq_true hv0;clear hv0
      obtain ⟨jk,hjk⟩:∃ j_:Int,(shl .i64 1 vv)=j_:=⟨_,rfl⟩
      have hjk_:(IntKind.i64.wrap (1 * 2 ^ min vv.toNat 64))=jk:=hjk;have hjkz:vv≤64→(IntKind.i64.wrap (1 * 2 ^ vv.toNat))=jk:=shl_small hjk;have hjku:(IntKind.i64.wrap (2 ^ min vv.toNat 64))=jk:=by { have h_:=hjk_;rw [Int.one_mul] at h_;exact h_ }
      have hjkv:vv≤64→(IntKind.i64.wrap (2 ^ vv.toNat))=jk:=fun hle_=>by { have h_:=hjkz hle_;rw [Int.one_mul] at h_;exact h_ }
      have hjky:(wrap64 (1 * 2 ^ min vv.toNat 64))=jk:=(i64_w _).symm.trans hjk_;have hjkx:vv≤64→(wrap64 (1 * 2 ^ vv.toNat))=jk:=fun h_=>(i64_w _).symm.trans (hjkz h_)
      refine pure_ (i:=9) (N:=some 38) (v:=?_) (a':=?_) #[true,true,true,true,true,true,true,true,true,true,false,false,false] rfl rfl (any_of HT_.out (by kernel_rfl)) (fun _ _ _ h=>h) (Or.inl ⟨by rfl,?_⟩) ?_ ?_
      rotate_left
      ·
       intro w'
       go_simp
       with_reducible rfl
      rotate_left
      ·
       simp only [Act.put,List.setIfInBounds_toArray,List.set_cons_zero,List.set_cons_succ,i64_w,i32_w]
       rfl
      refine pure_ (i:=10) (N:=some 39) (v:=?_) (a':=?_) #[true,true,true,true,true,true,true,true,true,true,true,false,false] rfl rfl (any_of HT_.out (by kernel_rfl)) (fun _ _ _ h=>h) (Or.inl ⟨by rfl,?_⟩) ?_ ?_
      rotate_left
      ·
       intro w'
       go_simp
       with_reducible rfl
      rotate_left
      ·
       simp only [Act.put,List.setIfInBounds_toArray,List.set_cons_zero,List.set_cons_succ,i64_w,i32_w]
       rfl
      refine pure_ (i:=11) (N:=some 40) (v:=?_) (a':=?_) #[true,true,true,true,true,true,true,true,true,true,true,true,false] rfl rfl (any_of HT_.out (by kernel_rfl)) (fun _ _ _ h=>h) (Or.inl ⟨by rfl,?_⟩) ?_ ?_
      rotate_left
      ·
       intro w'
       go_simp
       with_reducible rfl
      rotate_left
      ·
       simp only [Act.put,List.setIfInBounds_toArray,List.set_cons_zero,List.set_cons_succ,i64_w,i32_w]
       rfl
      refine last_ (i:=12) (N:=none) #[true,true,true,true,true,true,true,true,true,true,true,true,true] rfl rfl (one_of HT_.out (by kernel_rfl)) (by decide) (fun K hK=>?_)
      have hf8:=(Kd.R_celln 0 HQ.out.R x HP.out.1 HP.out.2).2
      refine skip_ (w1:=?_) (by rfl) rfl ?_ ?_
      rotate_left
      ·
       go_simp;rfl
      refine hK.out _ _ ?_;clear hK K hf8
      refine done_ (done_of HT_.out (by kernel_rfl)) ?_
      have hgn:g ≠ go∧w.heap.size≤go:=by have:=HQ.out.N;have:=HW.out;omega
      replace HQ:=Aside0.mk (HQ.out.put x (Go.bits .or .i64 zx jk));replace HD:=Aside0.mk (HD.out.set hgn.1 hgn.2 x.toNat (.int .i64 (Go.bits .or .i64 zx jk)));clear hgn hHeld HS3_
      generalize wa.setCell ⟨go,x.toNat,none⟩ (.int .i64 (Go.bits .or .i64 zx jk))=wg at HD HQ ⊢;generalize l2.set x.toNat (Go.bits .or .i64 zx jk)=l3 at HQ
      clear hjk_ hjkz hjku hjkv hjky hjkx hjk uz uzb;go_wp2
      go_roundg k2
      case measure=>omega
      case rel=>exact ⟨wrap64 (y - 1),l3,(by first|rfl|(simp;done)|(simp [*];done)),⟨m - 1,HM.out.1,by have:=HM.out;omega,by have:=HM.out;omega,HD.out.le (by have:=HM.out;omega) (by have:=HY.out;have:=HM.out;omega)⟩,HQ⟩
set_option maxHeartbeats 8000000 in
set_option maxRecDepth 100000 in
theorem drawn_place {code:List Int} (hc:Bytes code) (w:World) (A0:Option Addr) (c0:Nat) (hr:Kd.C (Kd.int .u8) w A0 code.length code):Calls Tryz.prog 24 #[.slice A0 code.length c0] w fun e w'=>∃ (r c:Int) (l:List Int) (A:Option Addr) (cp:Nat),e=.returned (.agg #[.int .i64 r,.int .i64 c,.slice A l.length cp])∧l.length≤7∧Kd.R (Kd.int .i64) 3 w' w.heap.size (fun _=>True) (.slice A l.length cp) l∧Below w.heap.size w w':=by
 have hu26:=Tryz.underlying26
 replace hc:=Aside0.mk hc;replace hr:=Aside0.mk hr
 go_enter Tryz.func24,Tryz.ntmps24
 go_upto_region 2 with fail
 obtain ⟨w1,hw1⟩:∃ X:World,X=(w.alloc (Obj.cells #[.int .i64 0,.int .i64 0,.slice none 0 0] 26)).alloc (Obj.cells #[.slice A0 code.length c0,.int .i64 0,.int .u64 0] 68):=⟨_,rfl⟩
 have b6:w1.heap[w.heap.size]?=some (.cells #[.int .i64 0,.int .i64 0,.slice none 0 0] 26 (0,0)):=by rw [hw1];exact blk_below (boxed _ _ _) (alloc_up _ _)
 have hs1:w1.heap.size=w.heap.size + 1 + 1:=by rw [hw1,size_alloc,size_alloc]
 have HD:Dr w w1 (w.heap.size + 1) code 0:=by
  have hB:=below_alloc (Below.refl w.heap.size w) (Obj.cells #[.int .i64 0,.int .i64 0,.slice none 0 0] 26)
  have hI:=IsS68.new w _ A0 c0 code 0 0 hB hr.out
  rw [size_alloc] at hI
  rw [hw1]
  exact ⟨below_alloc hB _,0,0,hI,⟨by omega,by omega,by omega⟩⟩
 rw [← hw1]
 obtain ⟨g6,hg6⟩:∃ g:Nat,g=w.heap.size:=⟨_,rfl⟩;obtain ⟨g,hg⟩:∃ g:Nat,g=w.heap.size + 1:=⟨_,rfl⟩
 rw [← hg] at HD ⊢;rw [← hg6] at b6 ⊢
 have HN:=Aside0.mk (show w.heap.size=g6∧g=g6 + 1∧w1.heap.size=g6 + 2 from by omega);replace HD:=Aside0.mk HD;replace b6:=Aside0.mk b6;clear hg hg6 hs1 hw1
 go_wp2_with fail
 go_at_call 42;refine (sparse_c hc.out HD.out (by omega)).mono ?_;rintro e w2 ⟨r,c,l,A,cp,rfl,hl,hR,hd,hk⟩
 replace HD:=Aside0.mk hd;replace b6:=Aside0.mk (KeepBut.blk hk b6.out (by have:=HN.out;omega) (by simp));have RL:=Aside0.mk (Kd.R_lower (Kd.R_mono (ok':=fun k=>g6 < k) (Kd.R_bound hR) (fun k h=>by have:=h.2.1;have:=HN.out;omega)) (show w.heap.size≤w1.heap.size by have:=HN.out;omega));have HB:=Aside0.mk hd.B;replace hl:=Aside0.mk hl;clear hd hk hR
 have z0:w2.cell? ⟨g6,0,none⟩=some (.int .i64 0):=(blk_cell b6.out 0).trans rfl;have f0:=blk_frozen b6.out 0;have z1:w2.cell? ⟨g6,1,none⟩=some (.int .i64 0):=(blk_cell b6.out 1).trans rfl;have f1:=blk_frozen b6.out 1;have z2:w2.cell? ⟨g6,2,none⟩=some (.slice none 0 0):=(blk_cell b6.out 2).trans rfl;have f2:=blk_frozen b6.out 2
 go_wp2
 refine bodyPost_ret (results_cell_row rfl _ _ g6 26 #[.int .i64 r,.int .i64 c,.slice A l.length cp] (0,0) _ rfl (put3 b6.out) hu26 rfl (by kernel_rfl)) rfl ?_
 have hw:w.heap.size≤g6:=by have:=HN.out;omega
 have k6:=keep3 w2 g6 (.int .i64 r) (.int .i64 c) (.slice A l.length cp)
 exact ⟨r,c,l,A,cp,rfl,hl.out,Kd.R_mono (Kd.R_keep RL.out k6 (fun k hk=>by omega)) (fun _ _=>trivial),below_set (below_set (below_set HB.out hw) hw) hw⟩
set_option maxHeartbeats 8000000 in
set_option maxRecDepth 100000 in
theorem drawn_board {code:List Int} (hc:Bytes code) (w:World) (A0:Option Addr) (c0:Nat) (hr:Kd.C (Kd.int .u8) w A0 code.length code):Calls Tryz.prog 5 #[.slice A0 code.length c0] w fun e w'=>∃ (r c:Int) (l:List Int) (A:Option Addr) (cp:Nat),e=.returned (.agg #[.int .i64 r,.int .i64 c,.slice A l.length cp])∧l.length≤7∧Kd.R (Kd.int .i64) 3 w' w.heap.size (fun _=>True) (.slice A l.length cp) l∧Below w.heap.size w w':=by
 have hu26:=Tryz.underlying26
 replace hc:=Aside0.mk hc;replace hr:=Aside0.mk hr
 go_enter Tryz.func5,Tryz.ntmps5
 go_upto_region 1 with fail
 obtain ⟨w1,hw1⟩:∃ X:World,X=w.alloc (Obj.cells #[.int .i64 0,.int .i64 0,.slice none 0 0] 26):=⟨_,rfl⟩
 obtain ⟨g6,hg6⟩:∃ g:Nat,g=w.heap.size:=⟨_,rfl⟩
 have hb:Below w.heap.size w w1:=by rw [hw1];exact alloc_up _ _
 have b6:w1.heap[g6]?=some (.cells #[.int .i64 0,.int .i64 0,.slice none 0 0] 26 (0,0)):=by rw [hw1,hg6];exact boxed _ _ _
 have hs1:w1.heap.size=g6 + 1:=by rw [hw1,hg6];exact size_alloc _ _
 rw [← hw1,← hg6]
 replace hr:=Aside0.mk (Kd.C_below hr.out hb);have HN:=Aside0.mk (show w.heap.size=g6∧w1.heap.size=g6 + 1 from ⟨hg6.symm,hs1⟩);have HB:=Aside0.mk hb;replace b6:=Aside0.mk b6;clear hb hw1 hs1 hg6
 go_wp2_with fail
 go_at_call 24;refine (drawn_place hc.out w1 A0 c0 hr.out).mono ?_;rintro e w2 ⟨r,c,l,A,cp,rfl,hl,hR,hb⟩
 replace b6:=Aside0.mk (blk_below b6.out hb);have RL:=Aside0.mk (Kd.R_lower (Kd.R_mono (ok':=fun k=>g6 < k) (Kd.R_bound hR) (fun k h=>by have:=h.2.1;have:=HN.out;omega)) (show w.heap.size≤w1.heap.size by have:=HN.out;omega));replace HB:=Aside0.mk (HB.out.trans (hb.mono HB.out.size));replace hl:=Aside0.mk hl;clear hb hR
 have z0:w2.cell? ⟨g6,0,none⟩=some (.int .i64 0):=(blk_cell b6.out 0).trans rfl;have f0:=blk_frozen b6.out 0;have z1:w2.cell? ⟨g6,1,none⟩=some (.int .i64 0):=(blk_cell b6.out 1).trans rfl;have f1:=blk_frozen b6.out 1;have z2:w2.cell? ⟨g6,2,none⟩=some (.slice none 0 0):=(blk_cell b6.out 2).trans rfl;have f2:=blk_frozen b6.out 2
 go_wp2
 refine bodyPost_ret (results_cell_row rfl _ _ g6 26 #[.int .i64 r,.int .i64 c,.slice A l.length cp] (0,0) _ rfl (put3 b6.out) hu26 rfl (by kernel_rfl)) rfl ?_
 have hw:w.heap.size≤g6:=by have:=HN.out;omega
 have k6:=keep3 w2 g6 (.int .i64 r) (.int .i64 c) (.slice A l.length cp)
 exact ⟨r,c,l,A,cp,rfl,hl.out,Kd.R_mono (Kd.R_keep RL.out k6 (fun k hk=>by omega)) (fun _ _=>trivial),below_set (below_set (below_set HB.out hw) hw) hw⟩
end Go.Proofs.YtpjjeeabpaojnaaGreat.CovD
end
section
namespace Go.Proofs.YtpjjeeabpaojnaaGreat.Q
open Go.RowKit Go.Proofs.YtpjjeeabpaojnaaGreatW.PrintWords Go.Proofs.YtpjjeeabpaojnaaGreatW.PrintLast Go.Proofs.YtpjjeeabpaojnaaGreatW.PrintMore
attribute [local go_sem] max2_int min2_int max_two min_two max_three min_three max_four min_four   -- for this text's walks alone
set_option linter.unusedVariables false
set_option linter.unusedSimpArgs false
def spec_l1Put.l0:Nat→List Int→Int→Int→Option (List Int)
|0,_,_,_=>none
|k + 1,x0,x1,x5=>if x5 < (x0.length:Int) then (if 0≤x5 then (if (rd x0 x5) < x1 then (spec_l1Put.l0 k x0 x1 (wrap64 (x5 + 1))) else (if (rd x0 x5)=x1 then (some x0) else ((some (([]:List Int):List Int)).bind fun y103=>(if x5≤(x0.length:Int) then ((some (x0.take (x5:Int).toNat:List Int)).bind fun y106=>(if y103.length + y106.length < 17592186044416 then ((some (y103 ++ y106:List Int)).bind fun y110=>(if y110.length < 17592186044416 then ((some (y110 ++ [x1]:List Int)).bind fun y113=>((some (x0.drop (x5:Int).toNat:List Int)).bind fun y116=>(if y113.length + y116.length < 17592186044416 then (some (y113 ++ y116)) else (none)))) else (none))) else (none))) else (none))))) else (none)) else ((some (([]:List Int):List Int)).bind fun y123=>(if 0≤x5 then (if x5≤(x0.length:Int) then ((some (x0.take (x5:Int).toNat:List Int)).bind fun y126=>(if y123.length + y126.length < 17592186044416 then ((some (y123 ++ y126:List Int)).bind fun y130=>(if y130.length < 17592186044416 then ((some (y130 ++ [x1]:List Int)).bind fun y133=>((some (x0.drop (x5:Int).toNat:List Int)).bind fun y136=>(if y133.length + y136.length < 17592186044416 then (some (y133 ++ y136)) else (none)))) else (none))) else (none))) else (none)) else (none)))
def spec_l1Put.f (k:Nat) (l0:List Int) (a1:Int):Option (List Int):=spec_l1Put.l0 k l0 a1 0
set_option maxHeartbeats 8000000 in
set_option maxRecDepth 100000 in
theorem spec_l1Put.calls (k:Nat) (P0_:Nat→Prop) (u9000_:Value) (l0:List Int) (a1:Int) (r:List Int) (w0 w:World) (hB:Below w0.heap.size w0 w) (ho0:Kd.R (Kd.int .i64) 3 w w0.heap.size P0_ u9000_ l0) (h:spec_l1Put.f k l0 a1=some r) :
  Calls Tryz.prog 45 #[u9000_,.int .i64 a1] w fun e w'=>∃ v0_:Value,e=.returned (v0_)∧Kd.R (Kd.int .i64) 3 w' w0.heap.size (fun k_=>(P0_ k_ ∨ w.heap.size≤k_)) v0_ r∧Below w0.heap.size w0 w'∧Kept w w' (fun k_=>P0_ k_):=by
 have HO0:=za (show Kd.R (Kd.int .i64) 3 w w0.heap.size (fun k_=>(P0_ k_ ∨ w.heap.size≤k_)) u9000_ l0 from Kd.R_mono ho0 (fun k_ hk=>(.inl hk)));have HK:=za (Kept.refl w (fun k_=>P0_ k_));have HW0:=za hB.size;have HB:=za hB;clear hB;have H:(spec_l1Put.l0 k l0 a1 0)=some r:=h;clear h;have H':=za H;clear H;(go_enter Tryz.func45,Tryz.ntmps45);(go_wp2);(go_loopg [5] k (fun kq v5 w'=>∃ (x5_1:Int),v5=.int .i64 x5_1∧Aside0 (spec_l1Put.l0 kq l0 a1 x5_1=some r)∧Aside0 (kq≤k)∧Aside0 (Kd.R (Kd.int .i64) 3 w' w0.heap.size (fun k_=>(P0_ k_ ∨ w.heap.size≤k_)) u9000_ l0)∧Aside0 (Kept w w' (fun k_=>P0_ k_))∧Aside0 (Below w0.heap.size w0 w')));case atStart=>exact ⟨(0),(by first|rfl|(simp;done)|(simp [*];done)),H',⟨Nat.le_refl _⟩,⟨by apply_rules only [HO0.out,zs,zt,zr]⟩,⟨by apply_rules only [HK.out,Kept.alloc,Kept.drewN,Kept.drew]⟩,⟨by apply_rules only [HB.out,zc,zd,zb]⟩⟩
 case round =>
  clear H';(try clear p2);obtain ⟨x5_1,rfl,HA,HK1,HO_0,HK,HB⟩:=hrel
  cases gk with
 |zero=>exact absurd HA.out (by simp [spec_l1Put.l0])
 |succ k1 =>
   have H:=HA.out;clear HA;simp only [spec_l1Put.l0] at H;by_cases c3:x5_1 < (l0.length:Int)
   ·
    rw [if_pos c3] at H;have c3b0:decide (x5_1 < (l0.length:Int))=true:=decide_eq_true c3;clear c3;by_cases c4:0≤x5_1
    ·
     rw [if_pos c4] at H;have c4b0:decide (0≤x5_1)=true:=decide_eq_true c4;clear c4;by_cases c5:(rd l0 x5_1) < a1
     · rw [if_pos c5] at H;have c5b0:decide ((rd l0 x5_1) < a1)=true:=decide_eq_true c5;clear c5;have H':=za H;clear H;obtain ⟨Ao6,co6,eo6⟩:=Kd.R_slice HO_0.out;subst eo6;have p101:0≤(x5_1:Int):=of_decide_eq_true ‹_›;have q101:x5_1 < (l0.length:Int):=of_decide_eq_true ‹_›;obtain ⟨ad101,e101,hx101_0⟩:=zx (Kd.R_reads' HO_0.out).2.2 x5_1 p101 q101;cases e101;replace p101:=eq_true p101;replace q101:=eq_true q101;(go_wp2);(go_roundg k1);(case measure=>have:=HK1.out;omega);case rel=>exact ⟨(wrap64 (x5_1 + 1)),(by first|rfl|(simp;done)|(simp [*];done)),H',⟨by have:=HK1.out;omega⟩,⟨by apply_rules only [HO_0.out,zs,zt,zr]⟩,⟨by apply_rules only [HK.out,Kept.alloc,Kept.drewN,Kept.drew]⟩,⟨by apply_rules only [HB.out,zc,zd,zb]⟩⟩
     ·
      rw [if_neg c5] at H;have c5b0:decide ((rd l0 x5_1) < a1)=false:=decide_eq_false c5;clear c5;by_cases c7:(rd l0 x5_1)=a1
      · rw [if_pos c7] at H;have c7b0:((rd l0 x5_1) == a1)=true:=beq_iff_eq.mpr c7;have c7b1:((rd l0 x5_1) != a1)=false:=bne_eq_false_iff_eq.mpr c7;clear c7;obtain rfl:=Option.some.inj H;obtain ⟨Ao8,co8,eo8⟩:=Kd.R_slice HO_0.out;subst eo8;have p101:0≤(x5_1:Int):=of_decide_eq_true ‹_›;have q101:x5_1 < (l0.length:Int):=of_decide_eq_true ‹_›;obtain ⟨ad101,e101,hx101_0⟩:=zx (Kd.R_reads' HO_0.out).2.2 x5_1 p101 q101;cases e101;replace p101:=eq_true p101;replace q101:=eq_true q101;have p102:0≤(x5_1:Int):=of_decide_eq_true ‹_›;have q102:x5_1 < (l0.length:Int):=of_decide_eq_true ‹_›;obtain ⟨ad102,e102,hx102_0⟩:=zx (Kd.R_reads' HO_0.out).2.2 x5_1 p102 q102;obtain rfl:ad101=ad102:=(by injection e102);replace p102:=eq_true p102;replace q102:=eq_true q102;(go_wp2);(go_ret);exact ⟨_,by first|rfl|simp [*,errW_none,errW_some] <;> rfl,by (with_reducible repeat (first|apply zs|apply zt|apply zr));exact HO_0.out,by repeat (first|(with_reducible first|exact HB.out|apply zc|apply zd|apply zb)|exact HB.out),by repeat (first|(with_reducible first|exact HK.out|apply Kept.alloc|apply Kept.drewN|apply Kept.drew)|exact HK.out)⟩
      ·
       rw [if_neg c7] at H;have c7b0:((rd l0 x5_1) == a1)=false:=beq_eq_false_iff_ne.mpr c7;have c7b1:((rd l0 x5_1) != a1)=true:=bne_iff_ne.mpr c7;obtain ⟨y103,hy103⟩:∃ y_:List Int,y_=(([]:List Int)):=⟨_,rfl⟩;(replace H:(if x5_1≤(l0.length:Int) then ((some (l0.take (x5_1:Int).toNat:List Int)).bind fun y106=>(if y103.length + y106.length < 17592186044416 then ((some (y103 ++ y106:List Int)).bind fun y110=>(if y110.length < 17592186044416 then ((some (y110 ++ [a1]:List Int)).bind fun y113=>((some (l0.drop (x5_1:Int).toNat:List Int)).bind fun y116=>(if y113.length + y116.length < 17592186044416 then (some (y113 ++ y116)) else (none)))) else (none))) else (none))) else (none))=some r:=by first|(rw [hy103];with_reducible exact H)|(have H2_:=(Option.bind_some _ _).symm.trans H;rw [hy103];with_reducible exact H2_)|(have H2_:=(Option.bind_some _ _).symm.trans H;with_reducible exact H2_)|with_reducible exact H|(rw [hy103];exact H)|exact H);have Ny103:=za hy103;clear hy103;have c9b0:=eq_true (of_decide_eq_true ‹_›:0≤x5_1);by_cases c10:x5_1≤(l0.length:Int)
       ·
        rw [if_pos c10] at H;have c10b0:=eq_true c10;have c10b1:decide (x5_1≤(l0.length:Int))=true:=decide_eq_true c10;clear c10;obtain ⟨y106,hy106⟩:∃ y_:List Int,y_=(l0.take (x5_1:Int).toNat):=⟨_,rfl⟩;(replace H:(if y103.length + y106.length < 17592186044416 then ((some (y103 ++ y106:List Int)).bind fun y110=>(if y110.length < 17592186044416 then ((some (y110 ++ [a1]:List Int)).bind fun y113=>((some (l0.drop (x5_1:Int).toNat:List Int)).bind fun y116=>(if y113.length + y116.length < 17592186044416 then (some (y113 ++ y116)) else (none)))) else (none))) else (none))=some r:=by first|(rw [hy106];with_reducible exact H)|(have H2_:=(Option.bind_some _ _).symm.trans H;rw [hy106];with_reducible exact H2_)|(have H2_:=(Option.bind_some _ _).symm.trans H;with_reducible exact H2_)|with_reducible exact H|(rw [hy106];exact H)|exact H);have Ny106:=za hy106;clear hy106;by_cases c11:y103.length + y106.length < 17592186044416
        ·
         rw [if_pos c11] at H;have LMc11:=za c11;clear c11;obtain ⟨y110,hy110⟩:∃ y_:List Int,y_=(y103 ++ y106):=⟨_,rfl⟩;(replace H:(if y110.length < 17592186044416 then ((some (y110 ++ [a1]:List Int)).bind fun y113=>((some (l0.drop (x5_1:Int).toNat:List Int)).bind fun y116=>(if y113.length + y116.length < 17592186044416 then (some (y113 ++ y116)) else (none)))) else (none))=some r:=by first|(rw [hy110];with_reducible exact H)|(have H2_:=(Option.bind_some _ _).symm.trans H;rw [hy110];with_reducible exact H2_)|(have H2_:=(Option.bind_some _ _).symm.trans H;with_reducible exact H2_)|with_reducible exact H|(rw [hy110];exact H)|exact H);have Ny110:=za hy110;clear hy110;by_cases c12:y110.length < 17592186044416
         ·
          rw [if_pos c12] at H;have LMc12:=za c12;clear c12;obtain ⟨y113,hy113⟩:∃ y_:List Int,y_=(y110 ++ [a1]):=⟨_,rfl⟩;(replace H:((some (l0.drop (x5_1:Int).toNat:List Int)).bind fun y116=>(if y113.length + y116.length < 17592186044416 then (some (y113 ++ y116)) else (none)))=some r:=by first|(rw [hy113];with_reducible exact H)|(have H2_:=(Option.bind_some _ _).symm.trans H;rw [hy113];with_reducible exact H2_)|(have H2_:=(Option.bind_some _ _).symm.trans H;with_reducible exact H2_)|with_reducible exact H|(rw [hy113];exact H)|exact H);have Ny113:=za hy113;clear hy113;have c13b0:=eq_true (of_decide_eq_true ‹_›:0≤x5_1);have c14b0:=eq_true (of_decide_eq_true ‹_›:x5_1≤(l0.length:Int));obtain ⟨y116,hy116⟩:∃ y_:List Int,y_=(l0.drop (x5_1:Int).toNat):=⟨_,rfl⟩;(replace H:(if y113.length + y116.length < 17592186044416 then (some (y113 ++ y116)) else (none))=some r:=by first|(rw [hy116];with_reducible exact H)|(have H2_:=(Option.bind_some _ _).symm.trans H;rw [hy116];with_reducible exact H2_)|(have H2_:=(Option.bind_some _ _).symm.trans H;with_reducible exact H2_)|with_reducible exact H|(rw [hy116];exact H)|exact H);have Ny116:=za hy116;clear hy116;by_cases c15:y113.length + y116.length < 17592186044416
          · rw [if_pos c15] at H;have LMc15:=za c15;clear c15;obtain ⟨y120,hy120⟩:∃ y_:List Int,y_=(y113 ++ y116):=⟨_,rfl⟩;(replace H:(some y120)=some r:=by first|(rw [hy120];with_reducible exact H)|(have H2_:=(Option.bind_some _ _).symm.trans H;rw [hy120];with_reducible exact H2_)|(have H2_:=(Option.bind_some _ _).symm.trans H;with_reducible exact H2_)|with_reducible exact H|(rw [hy120];exact H)|exact H);have Ny120:=za hy120;clear hy120;obtain rfl:=Option.some.inj H;obtain ⟨Ao16,co16,eo16⟩:=Kd.R_slice HO_0.out;subst eo16;have p101:0≤(x5_1:Int):=of_decide_eq_true ‹_›;have q101:x5_1 < (l0.length:Int):=of_decide_eq_true ‹_›;obtain ⟨ad101,e101,hx101_0⟩:=zx (Kd.R_reads' HO_0.out).2.2 x5_1 p101 q101;cases e101;replace p101:=eq_true p101;replace q101:=eq_true q101;have p102:0≤(x5_1:Int):=of_decide_eq_true ‹_›;have q102:x5_1 < (l0.length:Int):=of_decide_eq_true ‹_›;obtain ⟨ad102,e102,hx102_0⟩:=zx (Kd.R_reads' HO_0.out).2.2 x5_1 p102 q102;obtain rfl:ad101=ad102:=(by injection e102);replace p102:=eq_true p102;replace q102:=eq_true q102;(go_wp2_with (first|((with_reducible refine zv (N:=34) rfl ?_);refine Kd.R_lit (Kd.int .i64) _ 3 ?hg (N:=34) ?hd (xs:=([]:List Int)) (inner:=[]) (ok:=fun _=>True) (okp:=fun _=>True) ?hr ?hp (fun _ hk=>hk) trivial (Below.refl _ _) (Nat.le_refl _) (by simp) ?_;(case hd=>rfl);(case hg=>rfl);(case hr=>first|(go_simp;done)|(go_simp;rfl));(case hp=>exact (Reps.none _ _));intro v104 w17 ho18 hb hg_ hnew_;clear hg_ hnew_;(first|rw [← Ny103.out] at ho18|(simp only [Int.reduceToNat] at ho18;rw [← Ny103.out] at ho18));have HO105:=za (Kd.R_lower (Kd.R_new' (Kd.R_newM (M:=fun k_=>(P0_ k_ ∨ w.heap.size≤k_)) ho18 (by first|exact HK.out.1|exact (show Kept w _ (fun k_=>P0_ k_) from by apply_rules only [HK.out,Kept.alloc,Kept.drewN,Kept.drew]).1) (fun k_ h_=>.inr h_)) (Kd.R_lt (by apply_rules only [HO_0.out,zs,zt,zr]))) (zi (by apply_rules only [HB.out,zc,zd,zb])));replace HO_0:=za (Kd.R_elder' (by apply_rules only [HO_0.out,zs,zt,zr]) (Kd.R_base ho18) hb);replace HK:=za (Kept.below (S:=(fun k_=>P0_ k_)) (by apply_rules only [HK.out,Kept.alloc,Kept.drewN,Kept.drew]) hb);replace HB:=za (zl (by apply_rules only [HB.out,zc,zd,zb]) hb);clear hb ho18;have q19:(x5_1:Int)≤((l0.length:Int):Int):=of_decide_eq_true ‹_›;obtain ⟨i019,hi019,_,hsz19,_⟩:=info_parts info3;have hroom19:l0.length≤co16:=(Kd.R_reads' HO_0.out).2.1;have hC19:Kd.C (Kd.int .i64) _ (some ad101) l0.length l0:=(Kd.R_reads' HO_0.out).2.2;have hcut19:=cut_to (P:=Tryz.prog) 24 3 .i64 Tryz.underlying24 hi019 (some ad101) l0.length co16 x5_1 (of_decide_eq_true ‹_›) q19 hroom19;have hr19:=Kd.C_take (m:=(x5_1:Int).toNat) hC19 (by omega);have hy19:y106.length=(x5_1:Int).toNat:=(by rw [Ny106.out,List.length_take];omega);rw [← Ny106.out] at hr19;rw [← hy19] at hcut19;have HR109:=za hr19;have HC109:=za (show y106.length≤co16 from by omega);clear hr19 hC19 hroom19 hi019 hsz19;have KY19:=za hy19;clear hy19;have KL19:=za (show (x5_1:Int).toNat≤l0.length from by omega);replace q19:=eq_true q19)|((with_reducible refine gate_builtin (b:=.append) (xs:=#[.tmp 34,.tmp 37]) rfl ?_);at_builtin;refine Kd.R_append_rows (Kd.int .i64) (w0:=w0) w0.heap.size rfl (.tmp 34) (.tmp 37) 24 3 (.int .i64 0) 8 rfl Tryz.underlying24 info3 rfl (by decide) (by omega) v104 y103 y106 _ _ _ (fun k_=>(P0_ k_ ∨ w.heap.size≤k_)∧some k_ ≠ (.slice (some ad101) l0.length co16:Value).ownBlock) (fun _=>False) rfl rfl ?aO ?aR (fun _ _ h=>h) (fun _ h=>h.elim) ?aF ?aB ?aS ?aL ?_;(case aR=>apply_rules only [HR109.out,zm,zn,zo]);(case aB=>exact (by apply_rules only [HB.out,zc,zd,zb]));(case aF=>exact (fun k_ hk=>⟨(.inr (Nat.le_trans (by first|exact HK.out.1|exact (show Kept w _ (fun k_=>P0_ k_) from by apply_rules only [HK.out,Kept.alloc,Kept.drewN,Kept.drew]).1) hk)),Kd.fresh' (Kd.R_lt (by apply_rules only [HO_0.out,zs,zt,zr])) k_ hk⟩));(case aO=>exact (by (with_reducible repeat (first|apply zs|apply zt|apply zr));exact Kd.R_mono HO105.out (fun _ hk=>⟨hk.1.1,hk.2⟩)));(case aS=>exact (zi (by apply_rules only [HB.out,zc,zd,zb])));(case aL=>have:=LMc11.out;omega);intro v111 w20 ho hb hg hat;rw [← Ny110.out] at ho;replace HB:=za (hb);replace HK:=za (Kept.of_grown (S:=(fun k_=>P0_ k_)) hg (by apply_rules only [HK.out,Kept.alloc,Kept.drewN,Kept.drew]) (fun k_ e_=>(HO105.out.1 k_ e_).1.1));replace HR109:=za ((show Kd.C (Kd.int .i64) w20 (some ad101) y106.length y106 from by rw [Ny106.out];exact Kd.C_take (m:=(x5_1:Int).toNat) ((Kd.R_reads' (Kd.R_after (ok:=(fun k_=>(P0_ k_ ∨ w.heap.size≤k_))) (by apply_rules only [HO_0.out,zs,zt,zr]) hg hat)).2.2) KL19.out));replace HO_0:=za (Kd.R_after (ok:=(fun k_=>(P0_ k_ ∨ w.heap.size≤k_))) (by apply_rules only [HO_0.out,zs,zt,zr]) hg hat);have HO112:=za (ho);clear HO105;clear ho hb hg hat)|((with_reducible refine gate_builtin (b:=.append) (xs:=#[.tmp 39,.tmp 41]) rfl ?_);at_builtin;refine Kd.R_append (Kd.int .i64) (w0:=w0) w0.heap.size rfl (.tmp 39) (.tmp 41) 24 3 (.int .i64 0) 8 rfl Tryz.underlying24 info3 rfl (by decide) (by omega) v111 y110 a1 [.int .i64 a1] (fun k_=>(P0_ k_ ∨ w.heap.size≤k_)∧some k_ ≠ (.slice (some ad101) l0.length co16:Value).ownBlock) (fun _=>False) rfl rfl ?aP (fun _ hk=>hk.elim) ?aF ?aO ?aB ?aS ?aL ?_;(case aP=>exact rfl);(case aB=>exact (by apply_rules only [HB.out,zc,zd,zb]));(case aF=>exact (fun k_ hk=>⟨(.inr (Nat.le_trans (by first|exact HK.out.1|exact (show Kept w _ (fun k_=>P0_ k_) from by apply_rules only [HK.out,Kept.alloc,Kept.drewN,Kept.drew]).1) hk)),Kd.fresh' (Kd.R_lt (by apply_rules only [HO_0.out,zs,zt,zr])) k_ hk⟩));(case aO=>exact (by apply_rules only [HO112.out,zs,zt,zr]));(case aS=>exact (zi (by apply_rules only [HB.out,zc,zd,zb])));(case aL=>have:=LMc12.out;omega);intro v114 w21 ho hb hg hat;rw [← Ny113.out] at ho;replace HB:=za (hb);replace HK:=za (Kept.of_grown (S:=(fun k_=>P0_ k_)) hg (by apply_rules only [HK.out,Kept.alloc,Kept.drewN,Kept.drew]) (fun k_ e_=>(HO112.out.1 k_ e_).1));replace HR109:=za ((show Kd.C (Kd.int .i64) w21 (some ad101) y106.length y106 from by rw [Ny106.out];exact Kd.C_take (m:=(x5_1:Int).toNat) ((Kd.R_reads' (Kd.R_after (ok:=(fun k_=>(P0_ k_ ∨ w.heap.size≤k_))) (by apply_rules only [HO_0.out,zs,zt,zr]) hg hat)).2.2) KL19.out));replace HO_0:=za (Kd.R_after (ok:=(fun k_=>(P0_ k_ ∨ w.heap.size≤k_))) (by apply_rules only [HO_0.out,zs,zt,zr]) hg hat);have HO115:=za (ho);clear HO112;clear ho hb hg hat;have q22:(x5_1:Int)≤((l0.length:Int):Int):=of_decide_eq_true ‹_›;obtain ⟨i022,hi022,_,hsz22,_⟩:=info_parts info3;have hroom22:l0.length≤co16:=(Kd.R_reads' HO_0.out).2.1;have hC22:Kd.C (Kd.int .i64) _ (some ad101) l0.length l0:=(Kd.R_reads' HO_0.out).2.2;have q022:(0:Int)≤(x5_1:Int):=of_decide_eq_true ‹_›;have hcut22:=cut_from (P:=Tryz.prog) 24 3 .i64 Tryz.underlying24 hi022 1 hsz22 (some ad101) l0.length co16 x5_1 q022 q22;have hr22:=Kd.C_drop (m:=(x5_1:Int).toNat) (c:=co16) hC22 (by omega) hroom22;obtain ⟨A22,hA22⟩:∃ A1,A1=(if co16=(x5_1:Int).toNat then (some ad101) else ((some ad101):Option Addr).map (·.add ((x5_1:Int).toNat * 1))):=⟨_,rfl⟩;obtain ⟨c22,hc22⟩:∃ c1,c1=co16 - (x5_1:Int).toNat:=⟨_,rfl⟩;have hy22:y116.length=l0.length - (x5_1:Int).toNat:=(by rw [Ny116.out,List.length_drop] <;> omega);rw [show (l0).drop (x5_1:Int).toNat=y116 from Ny116.out.symm] at hr22;replace hr22:Kd.C (Kd.int .i64) _ A22 y116.length y116:=(by rw [hA22];exact hr22);rw [← hy22,← hA22,← hc22] at hcut22;have HR119:=za hr22;have HC119:=za (show y116.length≤c22 from by rw [hy22,hc22];exact Nat.sub_le_sub_right hroom22 _);clear hr22 hC22 hroom22 hi022 hsz22 hc22;have KY22:=za hy22;have KA22:=za hA22;clear hy22 hA22;have KL22:=za (show (x5_1:Int).toNat≤l0.length from by omega);replace q22:=eq_true q22)|((with_reducible refine gate_builtin (b:=.append) (xs:=#[.tmp 43,.tmp 46]) rfl ?_);at_builtin;refine Kd.R_append_rows (Kd.int .i64) (w0:=w0) w0.heap.size rfl (.tmp 43) (.tmp 46) 24 3 (.int .i64 0) 8 rfl Tryz.underlying24 info3 rfl (by decide) (by omega) v114 y113 y116 _ _ _ (fun k_=>(P0_ k_ ∨ w.heap.size≤k_)∧some k_ ≠ (.slice (some ad101) l0.length co16:Value).ownBlock) (fun _=>False) rfl rfl ?aO ?aR (fun _ _ h=>h) (fun _ h=>h.elim) ?aF ?aB ?aS ?aL ?_;(case aR=>apply_rules only [HR119.out,zm,zn,zo]);(case aB=>exact (by apply_rules only [HB.out,zc,zd,zb]));(case aF=>exact (fun k_ hk=>⟨(.inr (Nat.le_trans (by first|exact HK.out.1|exact (show Kept w _ (fun k_=>P0_ k_) from by apply_rules only [HK.out,Kept.alloc,Kept.drewN,Kept.drew]).1) hk)),Kd.fresh' (Kd.R_lt (by apply_rules only [HO_0.out,zs,zt,zr])) k_ hk⟩));(case aO=>exact (by apply_rules only [HO115.out,zs,zt,zr]));(case aS=>exact (zi (by apply_rules only [HB.out,zc,zd,zb])));(case aL=>have:=LMc15.out;omega);intro v121 w23 ho hb hg hat;rw [← Ny120.out] at ho;replace HB:=za (hb);replace HK:=za (Kept.of_grown (S:=(fun k_=>P0_ k_)) hg (by apply_rules only [HK.out,Kept.alloc,Kept.drewN,Kept.drew]) (fun k_ e_=>(HO115.out.1 k_ e_).1));replace HR109:=za ((show Kd.C (Kd.int .i64) w23 (some ad101) y106.length y106 from by rw [Ny106.out];exact Kd.C_take (m:=(x5_1:Int).toNat) ((Kd.R_reads' (Kd.R_after (ok:=(fun k_=>(P0_ k_ ∨ w.heap.size≤k_))) (by apply_rules only [HO_0.out,zs,zt,zr]) hg hat)).2.2) KL19.out));replace HR119:=za ((show Kd.C (Kd.int .i64) w23 A22 y116.length y116 from by rw [Ny116.out,KA22.out];exact Kd.C_drop (m:=(x5_1:Int).toNat) (c:=co16) ((Kd.R_reads' (Kd.R_after (ok:=(fun k_=>(P0_ k_ ∨ w.heap.size≤k_))) (by apply_rules only [HO_0.out,zs,zt,zr]) hg hat)).2.2) KL22.out ((Kd.R_reads' (Kd.R_after (ok:=(fun k_=>(P0_ k_ ∨ w.heap.size≤k_))) (by apply_rules only [HO_0.out,zs,zt,zr]) hg hat)).2.1)));replace HO_0:=za (Kd.R_after (ok:=(fun k_=>(P0_ k_ ∨ w.heap.size≤k_))) (by apply_rules only [HO_0.out,zs,zt,zr]) hg hat);have HO122:=za (ho);clear HO115;clear ho hb hg hat)));(go_ret);exact ⟨_,by first|rfl|simp [*,errW_none,errW_some] <;> rfl,by (with_reducible repeat (first|apply zs|apply zt|apply zr));exact Kd.R_mono HO122.out (fun _ hk=>hk.1),by repeat (first|(with_reducible first|exact HB.out|apply zc|apply zd|apply zb)|exact HB.out),by repeat (first|(with_reducible first|exact HK.out|apply Kept.alloc|apply Kept.drewN|apply Kept.drew)|exact HK.out)⟩
          · rw [if_neg c15] at H;exact absurd H (by simp)
         · rw [if_neg c12] at H;exact absurd H (by simp)
        · rw [if_neg c11] at H;exact absurd H (by simp)
       · rw [if_neg c10] at H;exact absurd H (by simp)
    · rw [if_neg c4] at H;exact absurd H (by simp)
   ·
    rw [if_neg c3] at H;have c3b0:decide (x5_1 < (l0.length:Int))=false:=decide_eq_false c3;clear c3;obtain ⟨y123,hy123⟩:∃ y_:List Int,y_=(([]:List Int)):=⟨_,rfl⟩;(replace H:(if 0≤x5_1 then (if x5_1≤(l0.length:Int) then ((some (l0.take (x5_1:Int).toNat:List Int)).bind fun y126=>(if y123.length + y126.length < 17592186044416 then ((some (y123 ++ y126:List Int)).bind fun y130=>(if y130.length < 17592186044416 then ((some (y130 ++ [a1]:List Int)).bind fun y133=>((some (l0.drop (x5_1:Int).toNat:List Int)).bind fun y136=>(if y133.length + y136.length < 17592186044416 then (some (y133 ++ y136)) else (none)))) else (none))) else (none))) else (none)) else (none))=some r:=by first|(rw [hy123];with_reducible exact H)|(have H2_:=(Option.bind_some _ _).symm.trans H;rw [hy123];with_reducible exact H2_)|(have H2_:=(Option.bind_some _ _).symm.trans H;with_reducible exact H2_)|with_reducible exact H|(rw [hy123];exact H)|exact H);have Ny123:=za hy123;clear hy123;by_cases c24:0≤x5_1
    ·
     rw [if_pos c24] at H;have c24b0:=eq_true c24;have c24b1:decide (0≤x5_1)=true:=decide_eq_true c24;clear c24;by_cases c25:x5_1≤(l0.length:Int)
     ·
      rw [if_pos c25] at H;have c25b0:=eq_true c25;have c25b1:decide (x5_1≤(l0.length:Int))=true:=decide_eq_true c25;clear c25;obtain ⟨y126,hy126⟩:∃ y_:List Int,y_=(l0.take (x5_1:Int).toNat):=⟨_,rfl⟩;(replace H:(if y123.length + y126.length < 17592186044416 then ((some (y123 ++ y126:List Int)).bind fun y130=>(if y130.length < 17592186044416 then ((some (y130 ++ [a1]:List Int)).bind fun y133=>((some (l0.drop (x5_1:Int).toNat:List Int)).bind fun y136=>(if y133.length + y136.length < 17592186044416 then (some (y133 ++ y136)) else (none)))) else (none))) else (none))=some r:=by first|(rw [hy126];with_reducible exact H)|(have H2_:=(Option.bind_some _ _).symm.trans H;rw [hy126];with_reducible exact H2_)|(have H2_:=(Option.bind_some _ _).symm.trans H;with_reducible exact H2_)|with_reducible exact H|(rw [hy126];exact H)|exact H);have Ny126:=za hy126;clear hy126;by_cases c26:y123.length + y126.length < 17592186044416
      ·
       rw [if_pos c26] at H;have LMc26:=za c26;clear c26;obtain ⟨y130,hy130⟩:∃ y_:List Int,y_=(y123 ++ y126):=⟨_,rfl⟩;(replace H:(if y130.length < 17592186044416 then ((some (y130 ++ [a1]:List Int)).bind fun y133=>((some (l0.drop (x5_1:Int).toNat:List Int)).bind fun y136=>(if y133.length + y136.length < 17592186044416 then (some (y133 ++ y136)) else (none)))) else (none))=some r:=by first|(rw [hy130];with_reducible exact H)|(have H2_:=(Option.bind_some _ _).symm.trans H;rw [hy130];with_reducible exact H2_)|(have H2_:=(Option.bind_some _ _).symm.trans H;with_reducible exact H2_)|with_reducible exact H|(rw [hy130];exact H)|exact H);have Ny130:=za hy130;clear hy130;by_cases c27:y130.length < 17592186044416
       ·
        rw [if_pos c27] at H;have LMc27:=za c27;clear c27;obtain ⟨y133,hy133⟩:∃ y_:List Int,y_=(y130 ++ [a1]):=⟨_,rfl⟩;(replace H:((some (l0.drop (x5_1:Int).toNat:List Int)).bind fun y136=>(if y133.length + y136.length < 17592186044416 then (some (y133 ++ y136)) else (none)))=some r:=by first|(rw [hy133];with_reducible exact H)|(have H2_:=(Option.bind_some _ _).symm.trans H;rw [hy133];with_reducible exact H2_)|(have H2_:=(Option.bind_some _ _).symm.trans H;with_reducible exact H2_)|with_reducible exact H|(rw [hy133];exact H)|exact H);have Ny133:=za hy133;clear hy133;have c28b0:=eq_true (of_decide_eq_true ‹_›:0≤x5_1);have c29b0:=eq_true (of_decide_eq_true ‹_›:x5_1≤(l0.length:Int));obtain ⟨y136,hy136⟩:∃ y_:List Int,y_=(l0.drop (x5_1:Int).toNat):=⟨_,rfl⟩;(replace H:(if y133.length + y136.length < 17592186044416 then (some (y133 ++ y136)) else (none))=some r:=by first|(rw [hy136];with_reducible exact H)|(have H2_:=(Option.bind_some _ _).symm.trans H;rw [hy136];with_reducible exact H2_)|(have H2_:=(Option.bind_some _ _).symm.trans H;with_reducible exact H2_)|with_reducible exact H|(rw [hy136];exact H)|exact H);have Ny136:=za hy136;clear hy136;by_cases c30:y133.length + y136.length < 17592186044416
        · rw [if_pos c30] at H;have LMc30:=za c30;clear c30;obtain ⟨y140,hy140⟩:∃ y_:List Int,y_=(y133 ++ y136):=⟨_,rfl⟩;(replace H:(some y140)=some r:=by first|(rw [hy140];with_reducible exact H)|(have H2_:=(Option.bind_some _ _).symm.trans H;rw [hy140];with_reducible exact H2_)|(have H2_:=(Option.bind_some _ _).symm.trans H;with_reducible exact H2_)|with_reducible exact H|(rw [hy140];exact H)|exact H);have Ny140:=za hy140;clear hy140;obtain rfl:=Option.some.inj H;obtain ⟨Ao31,co31,eo31⟩:=Kd.R_slice HO_0.out;subst eo31;(go_wp2_with (first|((with_reducible refine zv (N:=34) rfl ?_);refine Kd.R_lit (Kd.int .i64) _ 3 ?hg (N:=34) ?hd (xs:=([]:List Int)) (inner:=[]) (ok:=fun _=>True) (okp:=fun _=>True) ?hr ?hp (fun _ hk=>hk) trivial (Below.refl _ _) (Nat.le_refl _) (by simp) ?_;(case hd=>rfl);(case hg=>rfl);(case hr=>first|(go_simp;done)|(go_simp;rfl));(case hp=>exact (Reps.none _ _));intro v124 w32 ho33 hb hg_ hnew_;clear hg_ hnew_;(first|rw [← Ny123.out] at ho33|(simp only [Int.reduceToNat] at ho33;rw [← Ny123.out] at ho33));have HO125:=za (Kd.R_lower (Kd.R_new' (Kd.R_newM (M:=fun k_=>(P0_ k_ ∨ w.heap.size≤k_)) ho33 (by first|exact HK.out.1|exact (show Kept w _ (fun k_=>P0_ k_) from by apply_rules only [HK.out,Kept.alloc,Kept.drewN,Kept.drew]).1) (fun k_ h_=>.inr h_)) (Kd.R_lt (by apply_rules only [HO_0.out,zs,zt,zr]))) (zi (by apply_rules only [HB.out,zc,zd,zb])));replace HO_0:=za (Kd.R_elder' (by apply_rules only [HO_0.out,zs,zt,zr]) (Kd.R_base ho33) hb);replace HK:=za (Kept.below (S:=(fun k_=>P0_ k_)) (by apply_rules only [HK.out,Kept.alloc,Kept.drewN,Kept.drew]) hb);replace HB:=za (zl (by apply_rules only [HB.out,zc,zd,zb]) hb);clear hb ho33;have q34:(x5_1:Int)≤((l0.length:Int):Int):=of_decide_eq_true ‹_›;obtain ⟨i034,hi034,_,hsz34,_⟩:=info_parts info3;have hroom34:l0.length≤co31:=(Kd.R_reads' HO_0.out).2.1;have hC34:Kd.C (Kd.int .i64) _ Ao31 l0.length l0:=(Kd.R_reads' HO_0.out).2.2;have hcut34:=cut_to (P:=Tryz.prog) 24 3 .i64 Tryz.underlying24 hi034 Ao31 l0.length co31 x5_1 (of_decide_eq_true ‹_›) q34 hroom34;have hr34:=Kd.C_take (m:=(x5_1:Int).toNat) hC34 (by omega);have hy34:y126.length=(x5_1:Int).toNat:=(by rw [Ny126.out,List.length_take];omega);rw [← Ny126.out] at hr34;rw [← hy34] at hcut34;have HR129:=za hr34;have HC129:=za (show y126.length≤co31 from by omega);clear hr34 hC34 hroom34 hi034 hsz34;have KY34:=za hy34;clear hy34;have KL34:=za (show (x5_1:Int).toNat≤l0.length from by omega);replace q34:=eq_true q34)|((with_reducible refine gate_builtin (b:=.append) (xs:=#[.tmp 34,.tmp 37]) rfl ?_);at_builtin;refine Kd.R_append_rows (Kd.int .i64) (w0:=w0) w0.heap.size rfl (.tmp 34) (.tmp 37) 24 3 (.int .i64 0) 8 rfl Tryz.underlying24 info3 rfl (by decide) (by omega) v124 y123 y126 _ _ _ (fun k_=>(P0_ k_ ∨ w.heap.size≤k_)∧some k_ ≠ (.slice Ao31 l0.length co31:Value).ownBlock) (fun _=>False) rfl rfl ?aO ?aR (fun _ _ h=>h) (fun _ h=>h.elim) ?aF ?aB ?aS ?aL ?_;(case aR=>apply_rules only [HR129.out,zm,zn,zo]);(case aB=>exact (by apply_rules only [HB.out,zc,zd,zb]));(case aF=>exact (fun k_ hk=>⟨(.inr (Nat.le_trans (by first|exact HK.out.1|exact (show Kept w _ (fun k_=>P0_ k_) from by apply_rules only [HK.out,Kept.alloc,Kept.drewN,Kept.drew]).1) hk)),Kd.fresh' (Kd.R_lt (by apply_rules only [HO_0.out,zs,zt,zr])) k_ hk⟩));(case aO=>exact (by (with_reducible repeat (first|apply zs|apply zt|apply zr));exact Kd.R_mono HO125.out (fun _ hk=>⟨hk.1.1,hk.2⟩)));(case aS=>exact (zi (by apply_rules only [HB.out,zc,zd,zb])));(case aL=>have:=LMc26.out;omega);intro v131 w35 ho hb hg hat;rw [← Ny130.out] at ho;replace HB:=za (hb);replace HK:=za (Kept.of_grown (S:=(fun k_=>P0_ k_)) hg (by apply_rules only [HK.out,Kept.alloc,Kept.drewN,Kept.drew]) (fun k_ e_=>(HO125.out.1 k_ e_).1.1));replace HR129:=za ((show Kd.C (Kd.int .i64) w35 Ao31 y126.length y126 from by rw [Ny126.out];exact Kd.C_take (m:=(x5_1:Int).toNat) ((Kd.R_reads' (Kd.R_after (ok:=(fun k_=>(P0_ k_ ∨ w.heap.size≤k_))) (by apply_rules only [HO_0.out,zs,zt,zr]) hg hat)).2.2) KL34.out));replace HO_0:=za (Kd.R_after (ok:=(fun k_=>(P0_ k_ ∨ w.heap.size≤k_))) (by apply_rules only [HO_0.out,zs,zt,zr]) hg hat);have HO132:=za (ho);clear HO125;clear ho hb hg hat)|((with_reducible refine gate_builtin (b:=.append) (xs:=#[.tmp 39,.tmp 41]) rfl ?_);at_builtin;refine Kd.R_append (Kd.int .i64) (w0:=w0) w0.heap.size rfl (.tmp 39) (.tmp 41) 24 3 (.int .i64 0) 8 rfl Tryz.underlying24 info3 rfl (by decide) (by omega) v131 y130 a1 [.int .i64 a1] (fun k_=>(P0_ k_ ∨ w.heap.size≤k_)∧some k_ ≠ (.slice Ao31 l0.length co31:Value).ownBlock) (fun _=>False) rfl rfl ?aP (fun _ hk=>hk.elim) ?aF ?aO ?aB ?aS ?aL ?_;(case aP=>exact rfl);(case aB=>exact (by apply_rules only [HB.out,zc,zd,zb]));(case aF=>exact (fun k_ hk=>⟨(.inr (Nat.le_trans (by first|exact HK.out.1|exact (show Kept w _ (fun k_=>P0_ k_) from by apply_rules only [HK.out,Kept.alloc,Kept.drewN,Kept.drew]).1) hk)),Kd.fresh' (Kd.R_lt (by apply_rules only [HO_0.out,zs,zt,zr])) k_ hk⟩));(case aO=>exact (by apply_rules only [HO132.out,zs,zt,zr]));(case aS=>exact (zi (by apply_rules only [HB.out,zc,zd,zb])));(case aL=>have:=LMc27.out;omega);intro v134 w36 ho hb hg hat;rw [← Ny133.out] at ho;replace HB:=za (hb);replace HK:=za (Kept.of_grown (S:=(fun k_=>P0_ k_)) hg (by apply_rules only [HK.out,Kept.alloc,Kept.drewN,Kept.drew]) (fun k_ e_=>(HO132.out.1 k_ e_).1));replace HR129:=za ((show Kd.C (Kd.int .i64) w36 Ao31 y126.length y126 from by rw [Ny126.out];exact Kd.C_take (m:=(x5_1:Int).toNat) ((Kd.R_reads' (Kd.R_after (ok:=(fun k_=>(P0_ k_ ∨ w.heap.size≤k_))) (by apply_rules only [HO_0.out,zs,zt,zr]) hg hat)).2.2) KL34.out));replace HO_0:=za (Kd.R_after (ok:=(fun k_=>(P0_ k_ ∨ w.heap.size≤k_))) (by apply_rules only [HO_0.out,zs,zt,zr]) hg hat);have HO135:=za (ho);clear HO132;clear ho hb hg hat;have q37:(x5_1:Int)≤((l0.length:Int):Int):=of_decide_eq_true ‹_›;obtain ⟨i037,hi037,_,hsz37,_⟩:=info_parts info3;have hroom37:l0.length≤co31:=(Kd.R_reads' HO_0.out).2.1;have hC37:Kd.C (Kd.int .i64) _ Ao31 l0.length l0:=(Kd.R_reads' HO_0.out).2.2;have q037:(0:Int)≤(x5_1:Int):=of_decide_eq_true ‹_›;have hcut37:=cut_from (P:=Tryz.prog) 24 3 .i64 Tryz.underlying24 hi037 1 hsz37 Ao31 l0.length co31 x5_1 q037 q37;have hr37:=Kd.C_drop (m:=(x5_1:Int).toNat) (c:=co31) hC37 (by omega) hroom37;obtain ⟨A37,hA37⟩:∃ A1,A1=(if co31=(x5_1:Int).toNat then Ao31 else (Ao31:Option Addr).map (·.add ((x5_1:Int).toNat * 1))):=⟨_,rfl⟩;obtain ⟨c37,hc37⟩:∃ c1,c1=co31 - (x5_1:Int).toNat:=⟨_,rfl⟩;have hy37:y136.length=l0.length - (x5_1:Int).toNat:=(by rw [Ny136.out,List.length_drop] <;> omega);rw [show (l0).drop (x5_1:Int).toNat=y136 from Ny136.out.symm] at hr37;replace hr37:Kd.C (Kd.int .i64) _ A37 y136.length y136:=(by rw [hA37];exact hr37);rw [← hy37,← hA37,← hc37] at hcut37;have HR139:=za hr37;have HC139:=za (show y136.length≤c37 from by rw [hy37,hc37];exact Nat.sub_le_sub_right hroom37 _);clear hr37 hC37 hroom37 hi037 hsz37 hc37;have KY37:=za hy37;have KA37:=za hA37;clear hy37 hA37;have KL37:=za (show (x5_1:Int).toNat≤l0.length from by omega);replace q37:=eq_true q37)|((with_reducible refine gate_builtin (b:=.append) (xs:=#[.tmp 43,.tmp 46]) rfl ?_);at_builtin;refine Kd.R_append_rows (Kd.int .i64) (w0:=w0) w0.heap.size rfl (.tmp 43) (.tmp 46) 24 3 (.int .i64 0) 8 rfl Tryz.underlying24 info3 rfl (by decide) (by omega) v134 y133 y136 _ _ _ (fun k_=>(P0_ k_ ∨ w.heap.size≤k_)∧some k_ ≠ (.slice Ao31 l0.length co31:Value).ownBlock) (fun _=>False) rfl rfl ?aO ?aR (fun _ _ h=>h) (fun _ h=>h.elim) ?aF ?aB ?aS ?aL ?_;(case aR=>apply_rules only [HR139.out,zm,zn,zo]);(case aB=>exact (by apply_rules only [HB.out,zc,zd,zb]));(case aF=>exact (fun k_ hk=>⟨(.inr (Nat.le_trans (by first|exact HK.out.1|exact (show Kept w _ (fun k_=>P0_ k_) from by apply_rules only [HK.out,Kept.alloc,Kept.drewN,Kept.drew]).1) hk)),Kd.fresh' (Kd.R_lt (by apply_rules only [HO_0.out,zs,zt,zr])) k_ hk⟩));(case aO=>exact (by apply_rules only [HO135.out,zs,zt,zr]));(case aS=>exact (zi (by apply_rules only [HB.out,zc,zd,zb])));(case aL=>have:=LMc30.out;omega);intro v141 w38 ho hb hg hat;rw [← Ny140.out] at ho;replace HB:=za (hb);replace HK:=za (Kept.of_grown (S:=(fun k_=>P0_ k_)) hg (by apply_rules only [HK.out,Kept.alloc,Kept.drewN,Kept.drew]) (fun k_ e_=>(HO135.out.1 k_ e_).1));replace HR129:=za ((show Kd.C (Kd.int .i64) w38 Ao31 y126.length y126 from by rw [Ny126.out];exact Kd.C_take (m:=(x5_1:Int).toNat) ((Kd.R_reads' (Kd.R_after (ok:=(fun k_=>(P0_ k_ ∨ w.heap.size≤k_))) (by apply_rules only [HO_0.out,zs,zt,zr]) hg hat)).2.2) KL34.out));replace HR139:=za ((show Kd.C (Kd.int .i64) w38 A37 y136.length y136 from by rw [Ny136.out,KA37.out];exact Kd.C_drop (m:=(x5_1:Int).toNat) (c:=co31) ((Kd.R_reads' (Kd.R_after (ok:=(fun k_=>(P0_ k_ ∨ w.heap.size≤k_))) (by apply_rules only [HO_0.out,zs,zt,zr]) hg hat)).2.2) KL37.out ((Kd.R_reads' (Kd.R_after (ok:=(fun k_=>(P0_ k_ ∨ w.heap.size≤k_))) (by apply_rules only [HO_0.out,zs,zt,zr]) hg hat)).2.1)));replace HO_0:=za (Kd.R_after (ok:=(fun k_=>(P0_ k_ ∨ w.heap.size≤k_))) (by apply_rules only [HO_0.out,zs,zt,zr]) hg hat);have HO142:=za (ho);clear HO135;clear ho hb hg hat)));(go_ret);exact ⟨_,by first|rfl|simp [*,errW_none,errW_some] <;> rfl,by (with_reducible repeat (first|apply zs|apply zt|apply zr));exact Kd.R_mono HO142.out (fun _ hk=>hk.1),by repeat (first|(with_reducible first|exact HB.out|apply zc|apply zd|apply zb)|exact HB.out),by repeat (first|(with_reducible first|exact HK.out|apply Kept.alloc|apply Kept.drewN|apply Kept.drew)|exact HK.out)⟩
        · rw [if_neg c30] at H;exact absurd H (by simp)
       · rw [if_neg c27] at H;exact absurd H (by simp)
      · rw [if_neg c26] at H;exact absurd H (by simp)
     · rw [if_neg c25] at H;exact absurd H (by simp)
    · rw [if_neg c24] at H;exact absurd H (by simp)
end Go.Proofs.YtpjjeeabpaojnaaGreat.Q
end
